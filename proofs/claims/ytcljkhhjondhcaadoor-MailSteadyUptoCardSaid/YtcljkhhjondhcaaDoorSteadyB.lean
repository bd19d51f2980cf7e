/- What mail.marked and mail.Clean answer, for subjects of at most 4194304 bytes: the plain 'markedP' and 'cleanP'; and mail.Mask the plain 'maskT'. -/
import Derived.Test.YtcljkhhjondhcaaDoorCl
import Derived.Test.YtcljkhhjondhcaaDoorSteadyP
namespace Go.Proofs.YtcljkhhjondhcaaDoor.SteadyB
open Go.RowKit Go.Proofs.YtcljkhhjondhcaaDoorW.PrintWords Go.Proofs.YtcljkhhjondhcaaDoor.Ext Go.Proofs.YtcljkhhjondhcaaDoor.Im Go.Proofs.YtcljkhhjondhcaaDoor.Pl Go.Proofs.YtcljkhhjondhcaaDoor.KindP Go.Proofs.YtcljkhhjondhcaaDoor.SteadyP
theorem up {i : Nat} (h : i ≤ 4611686018427387904) : wrap64 ((i : Int) + 1) = ((i + 1 : Nat) : Int) := by rw [w64 (by omega) (by omega)]; omega
theorem dig_f (b : UInt8) : mail_digit.f (b.toNat : Int) = some (isD b) := by
  unfold mail_digit.f isD
  by_cases h : 48 ≤ b.toNat
  · rw [if_pos (by omega), decide_eq_true h, Bool.true_and]
    congr 1
    exact decide_eq_decide.2 (by omega)
  · rw [if_neg (by omega), decide_eq_false h, Bool.false_and]
theorem hasPrefix_f (a p : ByteArray) : strings_HasPrefix.f a p = some ((bl p).isPrefixOf (bl a)) := by
  unfold strings_HasPrefix.f stringslite_HasPrefix.f
  have ha := bl_size a
  have hp := bl_size p
  by_cases h : (bl p).length ≤ (bl a).length
  · rw [if_pos (by omega), if_pos (by omega), if_pos (by omega), toList_bl, toList_bl, bl_take, ← pre_take _ _ h]
    simp only [Option.bind_some]
    congr 3
  · rw [if_neg (by omega), pre_short _ _ h]; rfl
theorem bt_head {a : ByteArray} {c : UInt8} {u : Ln} (h : bl a = c :: u) : bt a 0 = (c.toNat : Int) := bt_nat (i := 0) (by rw [h]; rfl)
theorem num_eq {c : UInt8} {n : Nat} (hn : n < 256) : ((c.toNat : Int) = (n : Int)) ↔ c = UInt8.ofNat n := by
  constructor
  · intro h
    apply UInt8.toNat_inj.1
    rw [ofNat_toNat hn]; omega
  · rintro rfl
    rw [ofNat_toNat hn]
/-! ### a word's mark -/
theorem nd_step (rest : Ln) (n : Nat) (h1 : 1 ≤ n) (h : n < nd rest) : ∃ b, rest[n]? = some b ∧ isD b = true := by
  unfold nd at h
  cases rest with
  | nil => simp at h; omega
  | cons c u =>
    obtain ⟨m, rfl⟩ : ∃ m, n = m + 1 := ⟨n - 1, by omega⟩
    rw [List.drop_succ_cons, List.drop_zero] at h
    have hm : m < (u.takeWhile isD).length := by omega
    have hu : u = u.takeWhile isD ++ u.dropWhile isD := List.takeWhile_append_dropWhile.symm
    refine ⟨(u.takeWhile isD)[m], ?_, mem_tw u _ (List.getElem_mem hm)⟩
    have h2 := List.getElem?_append_left (l₁ := u.takeWhile isD) (l₂ := u.dropWhile isD) hm
    rw [← hu] at h2
    rw [List.getElem?_cons_succ, h2]
    exact List.getElem?_eq_getElem hm
theorem nd_stop (rest : Ln) (b : UInt8) (h : rest[nd rest]? = some b) : isD b = false := by
  unfold nd at h
  cases rest with
  | nil => simp at h
  | cons c u =>
    rw [List.drop_succ_cons, List.drop_zero, Nat.add_comm, List.getElem?_cons_succ] at h
    have hu : u = u.takeWhile isD ++ u.dropWhile isD := List.takeWhile_append_dropWhile.symm
    have h2 : (u.dropWhile isD).head? = some b := by
      generalize hA : u.takeWhile isD = A at hu h
      rw [hu, List.getElem?_append_right (Nat.le_refl _), Nat.sub_self] at h
      rw [List.head?_eq_getElem?]; exact h
    exact dw_head isD u b h2
theorem nd_le (rest : Ln) (h : rest ≠ []) : nd rest ≤ rest.length := by
  unfold nd
  cases rest with
  | nil => exact absurd rfl h
  | cons c u =>
    rw [List.drop_succ_cons, List.drop_zero, List.length_cons]
    have := (List.takeWhile_sublist isD (l := u)).length_le
    omega
section
variable (t : ByteArray) (ht : t.size ≤ 4194304) (ws : List ByteArray) (hws : ws.length ≤ 100)
include ht hws
theorem word_end (w : ByteArray) (hw : w.size ≤ 100) (hlt : w.size < t.size) (i : Nat) (hi : i < ws.length) (R : Int)
    (hno : (¬ ((bl (t.extract w.size t.size)).headD 0 = 91 ∧ 2 ≤ nd (bl (t.extract w.size t.size)) ∧ nd (bl (t.extract w.size t.size)) ≤ 4 ∧ [93, 58].isPrefixOf ((bl (t.extract w.size t.size)).drop (nd (bl (t.extract w.size t.size)))) = true)) → Ev (fun k => mail_marked.l0 k t ws (ws.length : Int) ((i + 1 : Nat) : Int)) R)
    (hyes : ((bl (t.extract w.size t.size)).headD 0 = 91 ∧ 2 ≤ nd (bl (t.extract w.size t.size)) ∧ nd (bl (t.extract w.size t.size)) ≤ 4 ∧ [93, 58].isPrefixOf ((bl (t.extract w.size t.size)).drop (nd (bl (t.extract w.size t.size)))) = true) → ((w.size + nd (bl (t.extract w.size t.size)) + 2 : Nat) : Int) = R) : ∀ (d n : Nat), n + d = nd (bl (t.extract w.size t.size)) → 1 ≤ n →
    Ev (fun k => mail_marked.l1 k t w (t.extract w.size t.size) (n : Int) ws (ws.length : Int) (i : Int)) R := by
  have hrs : (t.extract w.size t.size).size = t.size - w.size := by rw [bl_size, bl_drop, List.length_drop, ← bl_size]
  obtain ⟨rest, hrest⟩ : ∃ rest, t.extract w.size t.size = rest := ⟨_, rfl⟩
  rw [hrest] at hno hyes hrs ⊢
  have hbl := bl_size rest
  cases hb : bl rest with
  | nil => rw [hb, List.length_nil] at hbl; omega
  | cons c u =>
  have hne : bl rest ≠ [] := by rw [hb]; simp
  have hle := nd_le (bl rest) hne
  have hc0 := bt_head hb
  have h91 : ((c.toNat : Int) = 91) ↔ (bl rest).headD 0 = 91 := by rw [hb]; exact num_eq (n := 91) (by decide)
  rw [← hb]
  intro d
  induction d with
  | succ d ih =>
    intro n hn h1
    obtain ⟨b, hg, hd⟩ := nd_step (bl rest) n h1 (by omega)
    have hlt' := (List.getElem?_eq_some_iff.1 hg).1
    refine Ev.shift ?_
    simp only [mail_marked.l1]
    rw [bt_nat hg, up (by omega)]
    exact Ev.pos (by omega) (Ev.pos (by omega) (Ev.bindc (dig_f b) (Ev.pos hd (ih (n + 1) (by omega) (by omega)))))
  | zero =>
    intro n hn h1
    obtain rfl : n = nd (bl rest) := by omega
    have hpre : strings_HasPrefix.f (rest.extract (((nd (bl rest) : Nat) : Int)).toNat rest.size) (⟨#[93, 58]⟩ : ByteArray) = some ([93, 58].isPrefixOf ((bl rest).drop (nd (bl rest)))) := by
      rw [hasPrefix_f, Int.toNat_natCast, bl_drop]
    have e2 : wrap64 (wrap64 ((w.size : Int) + ((nd (bl rest) : Nat) : Int)) + 2) = ((w.size + nd (bl rest) + 2 : Nat) : Int) := by
      rw [w64 (x := (w.size : Int) + _) (by omega) (by omega), w64 (by omega) (by omega)]; omega
    refine Ev.shift ?_
    simp only [mail_marked.l1]
    rw [hc0, up (i := i) (by omega), e2]
    by_cases hend : nd (bl rest) < (bl rest).length
    · obtain ⟨b, hg⟩ : ∃ b, (bl rest)[nd (bl rest)]? = some b := ⟨_, List.getElem?_eq_getElem hend⟩
      have hnd := nd_stop (bl rest) b hg
      rw [bt_nat hg]
      refine Ev.pos (by omega) (Ev.pos (by omega) (Ev.bindc (dig_f b) (Ev.neg (by simp [hnd]) (Ev.pos (by omega) ?_))))
      by_cases c1 : (c.toNat : Int) = 91
      · refine Ev.pos c1 ?_
        by_cases c2 : 2 ≤ nd (bl rest)
        · refine Ev.pos (by omega) ?_
          by_cases c3 : nd (bl rest) ≤ 4
          · refine Ev.pos (by omega) (Ev.pos (by omega) (Ev.bindc hpre ?_))
            by_cases c4 : [93, 58].isPrefixOf ((bl rest).drop (nd (bl rest))) = true
            · exact Ev.pos c4 (Ev.cst (by rw [hyes ⟨h91.1 c1, c2, c3, c4⟩]))
            · exact Ev.neg c4 (hno (fun h => c4 h.2.2.2))
          · exact Ev.neg (by omega) (hno (fun h => c3 h.2.2.1))
        · exact Ev.neg (by omega) (hno (fun h => c2 h.2.1))
      · exact Ev.neg c1 (hno (fun h => c1 (h91.2 h.1)))
    · refine Ev.neg (by omega) (Ev.pos (by omega) ?_)
      by_cases c1 : (c.toNat : Int) = 91
      · refine Ev.pos c1 ?_
        by_cases c2 : 2 ≤ nd (bl rest)
        · refine Ev.pos (by omega) ?_
          by_cases c3 : nd (bl rest) ≤ 4
          · refine Ev.pos (by omega) (Ev.pos (by omega) (Ev.pos (by omega) (Ev.bindc hpre ?_)))
            by_cases c4 : [93, 58].isPrefixOf ((bl rest).drop (nd (bl rest))) = true
            · exact Ev.pos c4 (Ev.cst (by rw [hyes ⟨h91.1 c1, c2, c3, c4⟩]))
            · exact Ev.neg c4 (hno (fun h => c4 h.2.2.2))
          · exact Ev.neg (by omega) (hno (fun h => c3 h.2.2.1))
        · exact Ev.neg (by omega) (hno (fun h => c2 h.2.1))
      · exact Ev.neg c1 (hno (fun h => c1 (h91.2 h.1)))
theorem word_step (i : Nat) (hi : i < ws.length) (hsz : ws[i].size ≤ 100) (R : Int)
    (hyes : ∀ m, wordAt (bl ws[i]) (bl t) = some m → (m : Int) = R)
    (hno : wordAt (bl ws[i]) (bl t) = none → Ev (fun k => mail_marked.l0 k t ws (ws.length : Int) ((i + 1 : Nat) : Int)) R) :
    Ev (fun k => mail_marked.l0 k t ws (ws.length : Int) (i : Int)) R := by
  have hat : rdOf ByteArray.empty ws (i : Int) = ws[i] := by unfold rdOf; rw [Int.toNat_natCast, List.getD_eq_getElem?_getD, List.getElem?_eq_getElem hi]; rfl
  obtain ⟨w, hw⟩ : ∃ w, ws[i] = w := ⟨_, rfl⟩
  rw [hw] at hat hsz hyes hno
  have hwl := bl_size w
  have htl := bl_size t
  have next : wordAt (bl w) (bl t) = none → Ev (fun k => mail_marked.j1 k t w ws (ws.length : Int) (i : Int) true) R := by
    intro hn
    refine Ev.shift ?_
    simp only [mail_marked.j1]
    rw [up (by omega)]
    exact Ev.pos trivial (hno hn)
  refine Ev.shift ?_
  simp only [mail_marked.l0]
  rw [hat]
  refine Ev.pos (by omega) (Ev.pos (by omega) (Ev.pos (by omega) ?_))
  by_cases hlen : w.size < t.size
  · refine Ev.neg (by omega) (Ev.pos (by omega) (Ev.pos (by omega) ?_))
    have hlow : mail_lower.f (t.extract 0 w.size) = some (ba (((bl t).take (bl w).length).map lowB)) := by
      show lowerF _ = _
      unfold lowerF
      have hs : (t.extract 0 w.size).size ≤ 140737488355328 := by rw [bl_size, bl_take, List.length_take]; omega
      rw [if_pos hs]
      have e : (t.extract 0 w.size).data.toList = (bl t).take (bl w).length := by rw [← hwl]; exact bl_take t w.size
      rw [e]; rfl
    refine Ev.bindc hlow ?_
    rw [toList_bl, toList_bl, bl_ba]
    by_cases hm : ((bl t).take (bl w).length).map lowB = bl w
    · have e1 : ((((bl t).take (bl w).length).map lowB) != bl w) = false := bne_eq_false_iff_eq.2 hm
      rw [e1]
      have hrs : (t.extract w.size t.size).size = t.size - w.size := by rw [bl_size, bl_drop, List.length_drop, ← bl_size]
      have hrb : bl (t.extract w.size t.size) = (bl t).drop (bl w).length := by rw [bl_drop, ← hwl]
      cases hb : (bl t).drop (bl w).length with
      | nil => have := congrArg List.length hb; rw [List.length_drop] at this; simp at this; omega
      | cons c u =>
        have hc0 := bt_head (hrb.trans hb)
        have hcond : (bl w).length < (bl t).length ∧ ((bl t).take (bl w).length).map lowB = bl w := ⟨by omega, hm⟩
        refine Ev.shift ?_
        simp only [mail_marked.j1]
        rw [hc0, up (by omega)]
        refine Ev.neg (by simp) (Ev.pos (by omega) (Ev.pos (by omega) (Ev.pos (by omega) ?_)))
        have h58 : ((c.toNat : Int) = 58) ↔ ((bl t).drop (bl w).length).headD 0 = 58 := by rw [hb]; exact num_eq (n := 58) (by decide)
        by_cases c58 : (c.toNat : Int) = 58
        · refine Ev.pos c58 (Ev.cst ?_)
          rw [up (i := w.size) (by omega), ← hyes (w.size + 1) (by unfold wordAt; rw [if_pos hcond, if_pos (h58.1 c58), hwl])]
        · have n58 : ¬ ((bl t).drop (bl w).length).headD 0 = 58 := fun h => c58 (h58.2 h)
          refine Ev.neg c58 ?_
          refine word_end t ht ws hws w hsz hlen i hi R (fun h => hno ?_) (fun h => ?_) (nd (bl (t.extract w.size t.size)) - 1) 1 (by unfold nd; omega) (Nat.le_refl _)
          · rw [hrb] at h
            unfold wordAt
            rw [if_pos hcond, if_neg n58, if_neg h]
          · rw [hrb] at h ⊢
            exact hyes _ (by unfold wordAt; rw [if_pos hcond, if_neg n58, if_pos h, hwl])
    · have e1 : ((((bl t).take (bl w).length).map lowB) != bl w) = true := bne_iff_ne.2 hm
      rw [e1]
      exact next (by unfold wordAt; rw [if_neg (fun h => hm h.2)])
  · exact Ev.pos (by omega) (next (by unfold wordAt; rw [if_neg (fun h => hlen (by omega))]))
end
/-! ### the bracket -/
theorem any_br : ∀ l : Ln, Lib.indexAny l [91, 93] = if l.dropWhile (fun b => !isBr b) = [] then -1 else ((l.takeWhile (fun b => !isBr b)).length : Int)
  | [] => rfl
  | b :: l => by
    have hc : ([91, 93] : Ln).contains b = isBr b := by
      unfold isBr
      simp [List.contains, List.elem]
      cases h : b == 91 <;> cases h' : b == 93 <;> simp_all
    rw [Lib.indexAny, hc]
    cases hb : isBr b with
    | true => rw [List.dropWhile_cons_of_neg (by simp [hb]), List.takeWhile_cons_of_neg (by simp [hb])]; simp
    | false =>
      rw [List.dropWhile_cons_of_pos (by simp [hb]), List.takeWhile_cons_of_pos (by simp [hb]), any_br l]
      by_cases hd : l.dropWhile (fun b => !isBr b) = []
      · simp [hd]
      · rw [if_neg hd, if_neg (by simp), if_neg hd, if_neg (by first | (simp; done) | (simp; omega))]; simp
theorem bracket_f (t : ByteArray) (ht : t.size ≤ 4194304) : Ev (fun k => if t.toList = ([] : List UInt8) then (mail_marked.j3 k t false) else (if 0 < (t.size : Int) then (mail_marked.j3 k t ((bt t 0) == 91)) else (none))) ((bracket (bl t) : Nat) : Int) := by
  have hs := bl_size t
  have no : bracket (bl t) = 0 → Ev (fun k => mail_marked.j3 k t false) ((bracket (bl t) : Nat) : Int) := by
    intro h
    rw [h]
    refine Ev.shift ?_
    simp only [mail_marked.j3]
    exact Ev.neg (by simp) (Ev.cst rfl)
  rw [toList_bl]
  cases hb : bl t with
  | nil =>
    refine Ev.pos rfl ?_
    rw [← hb]
    exact no (by rw [hb]; rfl)
  | cons c u =>
    have hc0 := bt_head hb
    rw [hb, List.length_cons] at hs
    refine Ev.neg (by simp) (Ev.pos (by omega) ?_)
    rw [hc0]
    by_cases h91 : c = 91
    · subst h91
      have e1 : (((91 : UInt8).toNat : Int) == 91) = true := rfl
      rw [e1]
      have hex : bl (t.extract 1 t.size) = u := by rw [bl_drop, hb]; rfl
      have hany : strings_IndexAny.f (t.extract 1 t.size) (⟨#[91, 93]⟩ : ByteArray) = some (Lib.indexAny u [91, 93]) := by
        show indexAnyF _ _ = _
        unfold indexAnyF
        have hsz : (t.extract 1 t.size).size < 4294967281 := by rw [bl_size, hex]; omega
        rw [if_pos hsz, if_pos (by decide), if_pos (by decide), if_pos (by decide)]
        have e2 : (t.extract 1 t.size).data.toList = u := hex
        rw [e2]
      have htw := congrArg List.length (List.takeWhile_append_dropWhile (p := fun b => !isBr b) (l := u))
      rw [List.length_append] at htw
      refine Ev.shift ?_
      simp only [mail_marked.j3]
      refine Ev.pos trivial (Ev.pos (by omega) (Ev.bindc hany ?_))
      rw [any_br]
      by_cases hd : u.dropWhile (fun b => !isBr b) = []
      · have hR : bracket (91 :: u) = 0 := by
          unfold bracket
          rw [List.drop_succ_cons, List.drop_zero, hd, if_neg (fun h => absurd h.2 (by decide))]
        rw [if_pos hd, hR]
        exact Ev.neg (by omega) (Ev.cst rfl)
      · rw [if_neg hd]
        have hpos := List.length_pos_iff.2 hd
        have e3 : wrap64 (1 + ((u.takeWhile (fun b => !isBr b)).length : Int)) = (((u.takeWhile (fun b => !isBr b)).length + 1 : Nat) : Int) := by rw [w64 (by omega) (by omega)]; omega
        have e4 : wrap64 (((u.takeWhile (fun b => !isBr b)).length : Int) + 2) = (((u.takeWhile (fun b => !isBr b)).length + 2 : Nat) : Int) := by rw [w64 (by omega) (by omega)]; omega
        rw [e3, e4]
        cases hdw : u.dropWhile (fun b => !isBr b) with
        | nil => exact absurd hdw hd
        | cons d v =>
          have hg : (bl t)[(u.takeWhile (fun b => !isBr b)).length + 1]? = some d := by
            rw [hb, List.getElem?_cons_succ]
            have hu : u = u.takeWhile (fun b => !isBr b) ++ (d :: v) := by rw [← hdw]; exact List.takeWhile_append_dropWhile.symm
            generalize u.takeWhile (fun b => !isBr b) = A at hu
            rw [hu, List.getElem?_append_right (Nat.le_refl _), Nat.sub_self]; rfl
          rw [bt_nat hg]
          refine Ev.pos (by omega) (Ev.pos (by omega) (Ev.pos (by omega) ?_))
          by_cases h93 : d = 93
          · have hR : bracket (91 :: u) = (u.takeWhile (fun b => !isBr b)).length + 2 := by
              unfold bracket
              rw [List.drop_succ_cons, List.drop_zero, hdw, h93, if_pos ⟨rfl, rfl⟩]
            rw [hR]
            exact Ev.pos ((num_eq (n := 93) (by decide)).2 h93) (Ev.cst rfl)
          · have hR : bracket (91 :: u) = 0 := by
              unfold bracket
              rw [List.drop_succ_cons, List.drop_zero, hdw, if_neg (fun h => h93 h.2)]
            rw [hR]
            exact Ev.neg (fun h => h93 ((num_eq (n := 93) (by decide)).1 h)) (Ev.cst rfl)
    · have e1 : ((c.toNat : Int) == 91) = false := beq_eq_false_iff_ne.2 (fun h => h91 ((num_eq (n := 91) (by decide)).1 h))
      rw [e1, ← hb]
      refine no ?_
      rw [hb]
      unfold bracket
      rw [if_neg (fun h => h91 h.1)]
theorem marked_l0 (t : ByteArray) (ht : t.size ≤ 4194304) (ws : List ByteArray) (hws : ws.length ≤ 100) (hsz : ∀ w ∈ ws, w.size ≤ 100) : ∀ d i, i + d = ws.length → Ev (fun k => mail_marked.l0 k t ws (ws.length : Int) (i : Int)) ((markW ((ws.drop i).map bl) (bl t) : Nat) : Int) := by
  intro d
  induction d with
  | zero =>
    intro i hi
    rw [List.drop_of_length_le (by omega)]
    refine Ev.shift ?_
    simp only [mail_marked.l0]
    exact Ev.neg (by omega) (bracket_f t ht)
  | succ d ih =>
    intro i hi
    have hlt : i < ws.length := by omega
    have hrec := ih (i + 1) (by omega)
    rw [List.drop_eq_getElem_cons hlt, List.map_cons]
    refine word_step t ht ws hws i hlt (hsz _ (List.getElem_mem hlt)) _ (fun m hm => ?_) (fun hn => ?_)
    · unfold markW; rw [hm]
    · unfold markW; rw [hn]; exact hrec
theorem marked_f (t : ByteArray) (ht : t.size ≤ 4194304) : Ev (fun k => mail_marked.f k t) ((markedP (bl t) : Nat) : Int) := by
  unfold mail_marked.f
  simp only [Option.bind_some]
  exact marked_l0 t ht _ (by decide) (by decide) 4 0 rfl
/-! ### clean -/
open Go.Proofs.YtcljkhhjondhcaaDoor.Cl in
theorem cleanS_ev : ∀ (n : Nat) (x : ByteArray), x.size < n → x.size ≤ 4194304 → Ev (fun k => cleanS k x) (ba (fixP n (bl x)))
  | 0, x, h, _ => absurd h (Nat.not_lt_zero _)
  | n + 1, x, h, hx => by
    have hxl := bl_size x
    have htl := (tm_sub (bl x)).length_le
    have htr : trimF x (⟨#[32, 9]⟩ : ByteArray) = some (ba (tm (bl x))) := by
      unfold trimF trimG
      rw [if_pos (by omega), if_pos (by decide), if_pos (by decide)]; rfl
    have hts := ba_size (tm (bl x))
    have hmk := marked_f (ba (tm (bl x))) (by omega)
    rw [bl_ba] at hmk
    have hml := markW_le words (tm (bl x))
    have hml' : markedP (tm (bl x)) ≤ (tm (bl x)).length := hml
    have hnx : bl ((ba (tm (bl x))).extract (((markedP (tm (bl x)) : Nat) : Int)).toNat (ba (tm (bl x))).size) = next (bl x) := by rw [Int.toNat_natCast, bl_drop, bl_ba]; rfl
    have hnl := next_len (bl x)
    refine Ev.shift ?_
    simp only [cleanS]
    refine Ev.bindc htr (Ev.bind hmk (Ev.pos (by omega) (Ev.pos (by omega) ?_)))
    rw [toList_bl, toList_bl, hnx]
    unfold fixP
    by_cases hs : next (bl x) = bl x
    · rw [if_pos hs]
      exact Ev.pos hs (Ev.cst (by rw [ba_bl]))
    · rw [if_neg hs]
      refine Ev.neg hs ?_
      have hlt : (next (bl x)).length ≠ (bl x).length := fun he => hs (next_same he).2.2
      have := cleanS_ev n ((ba (tm (bl x))).extract (((markedP (tm (bl x)) : Nat) : Int)).toNat (ba (tm (bl x))).size) (by rw [bl_size, hnx]; omega) (by rw [bl_size, hnx]; omega)
      rw [hnx] at this
      exact this
theorem getD_app (A : Ln) (b : UInt8) (t : Ln) : (A ++ b :: t).getD A.length 0 = b := by simp [List.getD_eq_getElem?_getD]
/-- was the last byte a blank? -/
def lastB (A : Ln) : Bool := match A.getLast? with
  | some b => bk b
  | none => false
open Go.Proofs.YtcljkhhjondhcaaDoor.Cl in
theorem sqTo_sqR (l : Ln) (h0 : SteadyP.bk (l.getD 0 0) = false ∨ l = []) : ∀ (t A : Ln), l = A ++ t → sqTo l A.length ++ sqR (lastB A) t = sqTo l l.length
  | [], A, h => by
    rw [List.append_nil] at h
    subst h
    cases lastB l <;> simp [sqR]
  | b :: t, A, h => by
    have hrec := sqTo_sqR l h0 t (A ++ [b]) (by rw [h]; simp)
    have hlb : lastB (A ++ [b]) = SteadyP.bk b := by unfold lastB; rw [List.getLast?_append]; rfl
    have hg : l.getD A.length 0 = b := by rw [h]; exact getD_app A b t
    rw [List.length_append, List.length_singleton, sqTo_succ, hlb, List.append_assoc] at hrec
    rw [← hrec]
    congr 1
    have hbk : Cl.bk b = SteadyP.bk b := rfl
    unfold piece
    rw [hg, hbk]
    cases hb : SteadyP.bk b with
    | false => rw [sqR_non hb]; simp
    | true =>
      rcases List.eq_nil_or_concat A with hA | ⟨A', z, hA⟩
      · subst hA
        exfalso
        rcases h0 with h0 | h0
        · rw [h] at h0
          have : (([] : Ln) ++ b :: t).getD 0 0 = b := rfl
          rw [this, hb] at h0; cases h0
        · rw [h0] at h; cases h
      · rw [List.concat_eq_append] at hA
        have hz : l.getD (A.length - 1) 0 = z := by
          have : l = A' ++ z :: (b :: t) := by rw [h, hA]; simp
          rw [this, hA, List.length_append, List.length_singleton, Nat.add_sub_cancel]
          exact getD_app A' z (b :: t)
        have hlz : lastB A = SteadyP.bk z := by unfold lastB; rw [hA, List.getLast?_append]; rfl
        have hbz : Cl.bk z = SteadyP.bk z := rfl
        rw [hz, hlz, hbz]
        cases hzb : SteadyP.bk z with
        | true => rw [sqR]; simp [hb]
        | false => rw [sqR]; simp [hb]
open Go.Proofs.YtcljkhhjondhcaaDoor.Cl in
theorem cleanK_ev (x : ByteArray) (hx : x.size ≤ 4194304) : Ev (fun k => cleanK k x) (ba (cleanP (bl x))) := by
  have hxl := bl_size x
  have h1 := cleanS_ev ((bl x).length + 1) x (by omega) hx
  have hd := fixP_done ((bl x).length + 1) (bl x) (Nat.lt_succ_self _)
  have hl := fixP_len ((bl x).length + 1) (bl x)
  unfold cleanK
  refine Ev.bind h1 ?_
  have hys := ba_size (fixP ((bl x).length + 1) (bl x))
  refine Ev.pos (by omega) ?_
  rw [bl_ba]
  unfold cleanP
  generalize fixP ((bl x).length + 1) (bl x) = y at hd hl hys ⊢
  have h0 : SteadyP.bk (y.getD 0 0) = false ∨ y = [] := by
    cases y with
    | nil => exact .inr rfl
    | cons b t => exact .inl (hd.1.1 b rfl)
  refine Ev.pos ?_ (Ev.cst ?_)
  · rcases h0 with h0 | h0
    · exact .inr h0
    · exact .inl (by rw [hys, h0]; rfl)
  · have := sqTo_sqR y h0 y [] rfl
    rw [hys, ← this]; rfl
def cleanT (a : ByteArray) : Option ByteArray := if a.size ≤ 4194304 then some (ba (cleanP (bl a))) else none
open Go.Proofs.YtcljkhhjondhcaaDoor.Cl in
theorem cleanT_calls (a0 r : ByteArray) (w : World) (h : cleanT a0 = some r) :
    Calls Tryd.prog 18 #[.string a0] w fun e w' => e = .returned (.string r) ∧ Below w.heap.size w w' := by
  unfold cleanT at h
  by_cases h0 : a0.size ≤ 4194304
  · rw [if_pos h0] at h
    obtain rfl := Option.some.inj h
    obtain ⟨k, hk⟩ := (cleanK_ev a0 h0).rounds
    exact clean_calls k a0 _ w hk
  · rw [if_neg h0] at h; cases h
end Go.Proofs.YtcljkhhjondhcaaDoor.SteadyB
