/- The pure statement of TicketValueReads: for every form, field and string (of at most 2^45 bytes) the printed law answers true. -/
import Derived.Test.YtijajimooldhiaaDoorTrB
import Derived.Test.YtijajimooldhiaaDoorTrP
namespace Go.Proofs.YtijajimooldhiaaDoor.TrC
open Go.RowKit Go.Proofs.YtijajimooldhiaaDoorW.PrintWords Go.Proofs.YtijajimooldhiaaDoor.Ext Go.Proofs.YtijajimooldhiaaDoor.ExtV Go.Proofs.YtijajimooldhiaaDoor.Kr Go.Proofs.YtijajimooldhiaaDoor.Pl Go.Proofs.YtijajimooldhiaaDoor.TrA Go.Proofs.YtijajimooldhiaaDoor.TrB Go.Proofs.YtijajimooldhiaaDoor.TrP
abbrev nb : ByteArray := (⟨#[]⟩ : ByteArray)
theorem nb_bl : bl nb = [] := rfl
/-! ### natural, whole -/
theorem pow18 {i a : Nat} (h : a < 10 ^ i) (hi : i ≤ 17) : a < 100000000000000000 := by
  have : 10 ^ i ≤ 10 ^ 17 := Nat.pow_le_pow_right (by decide) hi
  omega
theorem nat_l0 (L : List UInt8) (hL : L.length ≤ 18) : ∀ (d i a : Nat), i + d = L.length → a < 10 ^ i →
    Ev (fun k => portref1_natural.l0 k (ba L) (a : Int) (i : Int)) (if (L.drop i).all isD = true then (dval (a : Int) (L.drop i), true) else (0, false)) := by
  intro d
  induction d with
  | zero =>
    intro i a hi ha
    have hz := ba_size L
    have e4 : L.drop i = [] := List.drop_eq_nil_of_le (by omega)
    refine Ev.shift ?_
    simp only [portref1_natural.l0]
    refine Ev.neg (by omega) ?_
    rw [e4]
    rw [if_pos (by rfl)]
    exact Ev.cst rfl
  | succ d ih =>
    intro i a hi ha
    have hlt : i < L.length := by omega
    have hz := ba_size L
    have hbt : bt (ba L) (i : Int) = ((L[i]'hlt).toNat : Int) := bt_nat (by rw [bl_ba]; exact List.getElem?_eq_getElem hlt)
    have ha' := pow18 ha (by omega)
    refine Ev.shift ?_
    simp only [portref1_natural.l0]
    refine Ev.pos (by omega) ?_
    refine Ev.pos (by omega) ?_
    rw [hbt]
    rw [isDigit_f]
    rw [List.drop_eq_getElem_cons hlt]
    simp only [Option.bind_some]
    by_cases hd : isD L[i] = true
    · obtain ⟨c0, c1⟩ := (TrP.isD_iff _).1 hd
      have e : ((L[i].toNat : Int) - 48) % 256 = (L[i].toNat : Int) - 48 := by omega
      refine Ev.pos hd ?_
      rw [e]
      rw [w64 (x := 10 * (a : Int)) (by omega) (by omega)]
      rw [w64 (by omega) (by omega)]
      rw [w64 (by omega) (by omega)]
      have := ih (i + 1) (10 * a + (L[i].toNat - 48)) (by omega) (by rw [Nat.pow_succ]; omega)
      have ec : ((10 * a + (L[i].toNat - 48) : Nat) : Int) = 10 * (a : Int) + ((L[i].toNat : Int) - 48) := by omega
      rw [ec] at this
      simp only [List.all_cons, hd, Bool.true_and, dval]
      exact this
    · refine Ev.neg hd ?_
      rw [Bool.not_eq_true] at hd
      have e : (L[i] :: L.drop (i + 1)).all isD = false := by rw [List.all_cons, hd, Bool.false_and]
      rw [if_neg (show ¬ ((L[i] :: List.drop (i + 1) L).all isD = true) from by rw [e]; decide)]
      exact Ev.cst rfl
theorem nat_ev (L : List UInt8) (m : Nat) (hm : m ≤ 18) : Ev (fun k => portref1_natural.f k (ba L) (m : Int)) (natS m L) := by
  have hz := ba_size L
  unfold portref1_natural.f natS
  by_cases h1 : L.length < 1
  · refine Ev.pos (by omega) ?_
    rw [if_neg (by omega)]
    refine Ev.shift ?_
    simp only [portref1_natural.j0, if_true]
    exact Ev.cst rfl
  refine Ev.neg (by omega) ?_
  by_cases h2 : L.length > m
  · refine Ev.pos (by omega) ?_
    rw [if_neg (by omega)]
    refine Ev.shift ?_
    simp only [portref1_natural.j0, if_true]
    exact Ev.cst rfl
  refine Ev.neg (by omega) ?_
  have go : ∀ b : Bool, (b = false ↔ (1 < L.length → L.head? ≠ some 48)) → Ev (fun k => portref1_natural.j0 k (ba L) b) (if 1 ≤ L.length ∧ L.length ≤ m ∧ (1 < L.length → L.head? ≠ some 48) ∧ L.all isD = true then (dval 0 L, true) else (0, false)) := by
    intro b hb
    refine Ev.shift ?_
    simp only [portref1_natural.j0]
    cases b with
    | true =>
      refine Ev.pos rfl ?_
      rw [if_neg (show ¬ (_ ∧ _ ∧ _ ∧ _) from fun h => by have := hb.2 h.2.2.1; cases this)]
      exact Ev.cst rfl
    | false =>
      refine Ev.neg (by decide) ?_
      have := nat_l0 L (by omega) L.length 0 0 (by omega) (by decide)
      rw [List.drop_zero] at this
      by_cases ha : L.all isD = true
      · rw [if_pos ha] at this
        rw [if_pos ⟨by omega, by omega, hb.1 rfl, ha⟩]
        exact this
      · rw [if_neg ha] at this
        rw [if_neg (show ¬ (_ ∧ _ ∧ _ ∧ _) from fun h => ha h.2.2.2)]
        exact this
  by_cases h3 : L.length > 1
  · refine Ev.pos (by omega) ?_
    refine Ev.pos (by omega) ?_
    refine go _ ?_
    have hbt : bt (ba L) ((0 : Nat) : Int) = ((L[0]'(by omega)).toNat : Int) := bt_nat (by rw [bl_ba]; exact List.getElem?_eq_getElem (by omega))
    have hbt' : bt (ba L) 0 = ((L[0]'(by omega)).toNat : Int) := hbt
    rw [hbt', beq_eq_false_iff_ne]
    have hh : L.head? = some (L[0]'(by omega)) := by rw [List.head?_eq_getElem?, List.getElem?_eq_getElem]
    rw [hh]
    constructor
    · intro h _ e
      injection e with e
      rw [e] at h
      exact h rfl
    · intro h e
      refine h (by omega) ?_
      congr 1
      apply UInt8.toNat_inj.1
      have : (48 : UInt8).toNat = 48 := rfl
      omega
  · refine Ev.neg (by omega) ?_
    exact go _ ⟨fun _ h => absurd h (by omega), fun _ => rfl⟩
theorem nat_f (s : ByteArray) : Ev (fun k => portref1_natural.f k s 10) (natS 10 (bl s)) := by
  have := nat_ev (bl s) 10 (by decide)
  rw [ba_bl] at this
  exact this
theorem hasP_f (a p : ByteArray) : stringslite_HasPrefix.f a p = some ((bl p).isPrefixOf (bl a)) := by
  unfold stringslite_HasPrefix.f
  have ha := bl_size a
  have hp := bl_size p
  by_cases h : (bl p).length ≤ (bl a).length
  · rw [if_pos (by omega), if_pos (by omega), if_pos (by omega), toList_bl, toList_bl, bl_take, ← pre_take _ _ h]
    congr 3
  · rw [if_neg (by omega), pre_short _ _ h]
theorem cut_f (s : ByteArray) (c : UInt8) : strings_CutPrefix.f s (⟨#[c]⟩ : ByteArray) = some (if (bl s).head? = some c then (ba (bl s).tail, true) else (s, false)) := by
  unfold strings_CutPrefix.f stringslite_CutPrefix.f
  rw [hasP_f]
  have hs := bl_size s
  simp only [Option.bind_some]
  have hc : bl (⟨#[c]⟩ : ByteArray) = [c] := rfl
  have h1 : (⟨#[c]⟩ : ByteArray).size = 1 := rfl
  rw [hc]
  cases hb : bl s with
  | nil => rfl
  | cons b r =>
    by_cases e : b = c
    · subst e
      rw [if_pos (by simp [List.isPrefixOf]), if_pos (by omega), if_pos (by rw [hs, hb, h1, List.length_cons]; omega)]
      simp only [Option.bind_some]
      rw [if_pos (show (b :: r).head? = some b from rfl)]
      congr 2
      refine eq_ba ?_
      rw [h1]
      show bl (s.extract 1 s.size) = r
      rw [bl_drop, hb]; rfl
    · have : ([c].isPrefixOf (b :: r)) = false := by simp [List.isPrefixOf, Ne.symm e]
      rw [this, if_neg (by decide), if_neg (by simp [e])]; rfl
def whS (l : List UInt8) : Int × Bool := if l.head? = some 45 then (wrap64 (-(natS 10 l.tail).1), (natS 10 l.tail).2 && decide ((natS 10 l.tail).1 > 0)) else natS 10 l
theorem whole_ev (s : ByteArray) : Ev (fun k => portref1_whole.f k s 10) (whS (bl s)) := by
  unfold portref1_whole.f whS
  refine Ev.bindc (cut_f s 45) ?_
  by_cases h : (bl s).head? = some 45
  · simp only [if_pos h]
    refine Ev.pos trivial (Ev.bind (nat_f _) ?_)
    rw [bl_ba]
    cases hn : natS 10 (bl s).tail with
    | mk a b =>
      cases b with
      | true => exact Ev.pos rfl (Ev.cst (by rw [Bool.true_and]))
      | false => exact Ev.neg (by simp) (Ev.cst rfl)
  · simp only [if_neg h]
    exact Ev.neg (by simp) (Ev.bind (nat_f _) (Ev.cst rfl))
/-- What is read whole is written so. -/
theorem whS_ok {l : List UInt8} {v : Int} (h : whS l = (v, true)) : l = Lib.itoa v ∧ -100000000000 ≤ v ∧ v ≤ 100000000000 := by
  unfold whS at h
  by_cases c : l.head? = some 45
  · rw [if_pos c] at h
    obtain ⟨h1, h2⟩ := Prod.mk.inj h
    rw [Bool.and_eq_true, decide_eq_true_iff] at h2
    obtain ⟨m, e1, e2, e3⟩ := natS_ok (l := l.tail) (v := (natS 10 l.tail).1) (by rw [← h2.1])
    have hb := dec_bound (m := m) (by rw [← e2]; exact e3)
    rw [e1, w64 (by omega) (by omega)] at h1
    subst h1
    refine ⟨?_, by omega, by omega⟩
    rw [Lib.itoa_neg m (by omega)]
    cases l with
    | nil => cases c
    | cons b r =>
      obtain rfl : b = 45 := by simpa using c
      exact congrArg (45 :: ·) e2
  · rw [if_neg c] at h
    obtain ⟨m, rfl, e2, e3⟩ := natS_ok h
    have hb := dec_bound (m := m) (by rw [← e2]; exact e3)
    exact ⟨by rw [Lib.itoa_nonneg]; exact e2, by omega, by omega⟩
theorem whS_itoa (v : Int) (h0 : -1000000000 ≤ v) (h1 : v ≤ 1000000000) : whS (Lib.itoa v) = (v, true) := by
  unfold whS
  by_cases h : v < 0
  · obtain ⟨m, rfl⟩ : ∃ m : Nat, v = -(m : Int) := ⟨v.natAbs, by omega⟩
    rw [Lib.itoa_neg m (by omega), if_pos (show (45 :: Lib.decDigits m).head? = some 45 from rfl)]
    show (wrap64 (-(natS 10 (dec m)).1), (natS 10 (dec m)).2 && decide ((natS 10 (dec m)).1 > 0)) = _
    rw [natS_dec m (by omega), w64 (by omega) (by omega), decide_eq_true (show ((m : Int), true).1 > 0 from by show (m : Int) > 0; omega)]; rfl
  · obtain ⟨m, rfl⟩ : ∃ m : Nat, v = (m : Int) := ⟨v.toNat, by omega⟩
    obtain ⟨b, r, e, hb⟩ := dec_cons m
    have hb2 := (TrP.isD_iff b).1 hb
    rw [Lib.itoa_nonneg]
    show (if (dec m).head? = some 45 then _ else natS 10 (dec m)) = _
    rw [if_neg (by rw [e]; intro q; obtain rfl : b = 45 := by simpa using q
                   exact absurd hb2.1 (by decide)), natS_dec m (by omega)]
/-! ### index -/
theorem both_l0 (l : List ByteArray) (s : ByteArray) (hl : l.length ≤ 9223372036854775807) : ∀ d i : Nat, i + d = l.length → ∃ n : Int, Ev (fun k => slices_Index_string_string.l0 k l s (l.length : Int) (i : Int)) n ∧ Ev (fun k => portref1_index.l0 k s l (l.length : Int) (i : Int)) n ∧ (n = -1 ∨ 0 ≤ n ∧ n < l.length ∧ bl (l.getD n.toNat ByteArray.empty) = bl s) := by
  intro d
  induction d with
  | zero =>
    intro i hi
    refine ⟨-1, Ev.shift ?_, Ev.shift ?_, .inl rfl⟩
    · simp only [slices_Index_string_string.l0]
      refine Ev.neg (by omega) (Ev.cst rfl)
    · simp only [portref1_index.l0]
      refine Ev.neg (by omega) (Ev.cst rfl)
  | succ d ih =>
    intro i hi
    have hlt : i < l.length := by omega
    by_cases h : bl l[i] = bl s
    · refine ⟨(i : Int), Ev.shift ?_, Ev.shift ?_, .inr ⟨by omega, by omega, ?_⟩⟩
      · simp only [slices_Index_string_string.l0]
        refine Ev.pos (by omega) (Ev.pos (by omega) (Ev.pos (by omega) ?_))
        rw [at_get l hlt, toList_bl, toList_bl]
        exact Ev.pos h.symm (Ev.cst rfl)
      · simp only [portref1_index.l0]
        refine Ev.pos (by omega) (Ev.pos (by omega) (Ev.pos (by omega) ?_))
        rw [at_get l hlt, toList_bl, toList_bl]
        exact Ev.pos h (Ev.cst rfl)
      · rw [Int.toNat_natCast, List.getD_eq_getElem?_getD, List.getElem?_eq_getElem hlt]; exact h
    · obtain ⟨n, h1, h2, h3⟩ := ih (i + 1) (by omega)
      refine ⟨n, Ev.shift ?_, Ev.shift ?_, h3⟩
      · simp only [slices_Index_string_string.l0]
        refine Ev.pos (by omega) (Ev.pos (by omega) (Ev.pos (by omega) ?_))
        rw [at_get l hlt, toList_bl, toList_bl, up (by omega)]
        exact Ev.neg (fun e => h e.symm) h1
      · simp only [portref1_index.l0]
        refine Ev.pos (by omega) (Ev.pos (by omega) (Ev.pos (by omega) ?_))
        rw [at_get l hlt, toList_bl, toList_bl, up (by omega)]
        exact Ev.neg h h2
/-! ### unquoted -/
def resU (acc : List UInt8) : Option (List UInt8) → ByteArray × Bool
  | some t => (ba (acc ++ t), true)
  | none => (nb, false)
theorem resU_map (acc : List UInt8) (b : UInt8) (o : Option (List UInt8)) : resU acc (o.map (b :: ·)) = resU (acc ++ [b]) o := by
  cases o <;> simp [resU]
theorem refU_l0 (s : ByteArray) (hy : s.size ≤ 35184372088832) (h2 : 2 ≤ s.size) : ∀ (d n : Nat) (acc : List UInt8), n + d = s.size - 1 → 1 ≤ n → acc.length ≤ n →
    Ev (fun k => portref1_unquoted.l0 k s (ba acc) (n : Int)) (resU acc (rq (rem (bl s) n))) := by
  have hs := bl_size s
  have hj : wrap64 ((s.size : Int) - 1) = ((s.size - 1 : Nat) : Int) := by rw [w64 (by omega) (by omega)]; omega
  intro d
  induction d using Nat.strongRecOn with
  | _ d ih =>
    intro n acc hd hn hc
    refine Ev.shift ?_
    simp only [portref1_unquoted.l0]
    rw [hj]
    by_cases hlt : n < s.size - 1
    · have hln : n < (bl s).length := by omega
      refine Ev.pos (by omega) (Ev.pos (by omega) (Ev.pos (by omega) ?_))
      rw [bt_get s hln, rem_cons (bl s) (n := n) (by omega) (List.getElem?_eq_getElem hln), up (i := n) (by omega)]
      generalize hb : (bl s)[n] = b
      by_cases e34 : b = 34
      · subst e34
        rw [rq_34]
        exact Ev.pos rfl (Ev.cst rfl)
      refine Ev.neg (fun q => e34 (UInt8.toNat_inj.1 (by show b.toNat = 34; omega))) ?_
      by_cases e92 : b = 92
      · subst e92
        refine Ev.pos rfl ?_
        by_cases hend : n + 1 = s.size - 1
        · rw [rem_end (bl s) (n := n + 1) (by omega), rq_92]
          exact Ev.pos (by omega) (Ev.cst rfl)
        · refine Ev.neg (by omega) (Ev.pos (by omega) (Ev.pos (by omega) ?_))
          have hln1 : n + 1 < (bl s).length := by omega
          rw [bt_get s hln1, rem_cons (bl s) (n := n + 1) (by omega) (List.getElem?_eq_getElem hln1), up (i := n + 1) (by omega), rq_esc]
          simp only [Int.toNat_natCast]
          have hcut : s.extract (n + 1) (n + 1 + 1) = ba [(bl s)[n + 1]] := by
            refine eq_ba ?_
            rw [bl_cut, show n + 1 + 1 - (n + 1) = 1 by omega, List.drop_eq_getElem_cons hln1]; rfl
          rw [hcut]
          generalize hcc : (bl s)[n + 1] = c
          have hz : (ba [c]).size = 1 := ba_size _
          have hza := ba_size acc
          have happ : ba acc ++ ba [c] = ba (acc ++ [c]) := eq_ba (by rw [bl_app, bl_ba, bl_ba])
          have rec_ := ih (d - 2) (by omega) (n + 1 + 1) (acc ++ [c]) (by omega) (by omega) (by rw [List.length_append, List.length_singleton]; omega)
          by_cases c34 : c = 34
          · rw [if_pos (.inl c34), resU_map, happ]
            exact Ev.pos (by rw [c34]; rfl) (Ev.pos (by omega) (Ev.pos (by omega) (Ev.pos (by omega) rec_)))
          · refine Ev.neg (fun q => c34 (UInt8.toNat_inj.1 (by show c.toNat = 34; omega))) ?_
            by_cases c92 : c = 92
            · rw [if_pos (.inr c92), resU_map, happ]
              exact Ev.pos (by rw [c92]; rfl) (Ev.pos (by omega) (Ev.pos (by omega) (Ev.pos (by omega) rec_)))
            · rw [if_neg (fun q => q.elim c34 c92)]
              exact Ev.neg (fun q => c92 (UInt8.toNat_inj.1 (by show c.toNat = 92; omega))) (Ev.cst rfl)
      · refine Ev.neg (fun q => e92 (UInt8.toNat_inj.1 (by show b.toNat = 92; omega))) ?_
        rw [rq_cons b _ (fun q => q.elim e34 e92), resU_map]
        simp only [Int.toNat_natCast]
        have hcut : s.extract n (n + 1) = ba [b] := by
          refine eq_ba ?_
          rw [bl_cut, show n + 1 - n = 1 by omega, List.drop_eq_getElem_cons hln, hb]; rfl
        rw [hcut]
        have hz : (ba [b]).size = 1 := ba_size _
        have hza := ba_size acc
        have happ : ba acc ++ ba [b] = ba (acc ++ [b]) := eq_ba (by rw [bl_app, bl_ba, bl_ba])
        rw [happ]
        exact Ev.pos (by omega) (Ev.pos (by omega) (Ev.pos (by omega) (ih (d - 1) (by omega) (n + 1) (acc ++ [b]) (by omega) (by omega) (by rw [List.length_append, List.length_singleton]; omega))))
    · refine Ev.neg (by omega) ?_
      rw [rem_end (bl s) (by omega)]
      refine Ev.cst ?_
      show some (ba acc, true) = some (ba (acc ++ []), true)
      rw [List.append_nil]
def rqS (l : List UInt8) : Option (List UInt8) := if l.length < 2 then none else if l[0]? = some 34 ∧ l[l.length - 1]? = some 34 then rq (rem l 1) else none
theorem refU_ev (s : ByteArray) (hy : s.size ≤ 35184372088832) : Ev (fun k => portref1_unquoted.f k s) (resU [] (rqS (bl s))) := by
  have hs := bl_size s
  unfold portref1_unquoted.f rqS
  have no : Ev (fun k => portref1_unquoted.j0 k s true) (nb, false) := by
    refine Ev.shift ?_
    simp only [portref1_unquoted.j0]
    exact Ev.pos trivial (Ev.cst rfl)
  by_cases h2 : (bl s).length < 2
  · rw [if_pos h2]
    exact Ev.pos (by omega) no
  · rw [if_neg h2]
    have hj : wrap64 ((s.size : Int) - 1) = ((s.size - 1 : Nat) : Int) := by rw [w64 (by omega) (by omega)]; omega
    have h0 : bt s 0 = (((bl s)[0]'(by omega)).toNat : Int) := bt_get s (i := 0) (by omega)
    refine Ev.neg (by omega) (Ev.pos (by omega) ?_)
    have g0 : (bl s)[0]? = some ((bl s)[0]'(by omega)) := List.getElem?_eq_getElem _
    have gz : (bl s)[(bl s).length - 1]? = some ((bl s)[s.size - 1]'(by omega)) := by
      have : (bl s).length - 1 = s.size - 1 := by omega
      rw [this]; exact List.getElem?_eq_getElem _
    rw [hj, h0, bt_get s (i := s.size - 1) (by omega), g0, gz]
    simp only [Option.some.injEq]
    generalize (bl s)[0] = b0
    generalize (bl s)[s.size - 1] = bz
    by_cases e0 : b0 = 34
    · refine Ev.pos (by rw [e0]; rfl) (Ev.pos (by omega) (Ev.pos (by omega) ?_))
      by_cases ez : bz = 34
      · rw [if_pos ⟨e0, ez⟩, show (((bz.toNat : Nat) : Int) != 34) = false by rw [ez]; rfl]
        refine Ev.shift ?_
        simp only [portref1_unquoted.j0]
        exact Ev.neg (by decide) (refU_l0 s hy (by omega) (s.size - 2) 1 [] (by omega) (by omega) (by simp))
      · rw [if_neg (fun q => ez q.2), show (((bz.toNat : Nat) : Int) != 34) = true from bne_iff_ne.2 (fun q => ez (UInt8.toNat_inj.1 (by show bz.toNat = 34; omega)))]
        exact no
    · rw [if_neg (fun q => e0 q.1)]
      exact Ev.neg (fun q => e0 (UInt8.toNat_inj.1 (by show b0.toNat = 34; omega))) no
theorem frame {l : List UInt8} (h2 : ¬ l.length < 2) (h : l[0]? = some 34 ∧ l[l.length - 1]? = some 34) : l = 34 :: rem l 1 ++ [34] := by
  cases l with
  | nil => simp at h2
  | cons b r =>
    obtain rfl : b = 34 := by simpa using h.1
    have hr : r ≠ [] := by rintro rfl; simp at h2
    have e := (List.dropLast_concat_getLast hr).symm
    have hl : r.getLast hr = 34 := by
      have := h.2
      rw [List.length_cons, Nat.add_sub_cancel, List.getElem?_cons, if_neg (by have := List.length_pos_iff.2 hr; omega)] at this
      rw [List.getLast_eq_getElem]
      have h3 := (List.getElem?_eq_some_iff.1 this).2
      exact h3
    rw [hl] at e
    have : rem (34 :: r) 1 = r.dropLast := by
      unfold rem
      rw [List.length_cons, Nat.add_sub_cancel]
      show r.take (r.length - 1) = _
      rw [List.dropLast_eq_take]
    rw [this, List.cons_append, ← e]
theorem rqS_some {l t : List UInt8} (h : rqS l = some t) : l = 34 :: qAll t ++ [34] := by
  unfold rqS at h
  by_cases h2 : l.length < 2
  · rw [if_pos h2] at h; cases h
  · rw [if_neg h2] at h
    by_cases h3 : l[0]? = some 34 ∧ l[l.length - 1]? = some 34
    · rw [if_pos h3] at h
      rw [← rq_some _ _ _ (Nat.le_refl _) h]
      exact frame h2 h3
    · rw [if_neg h3] at h; cases h
theorem rqS_quoted (t : List UInt8) : rqS (34 :: qAll t ++ [34]) = some t := by
  unfold rqS
  rw [if_neg (by simp), if_pos ⟨rfl, by
    have : (34 :: qAll t ++ [34] : List UInt8).length - 1 = (34 :: qAll t).length := by simp
    rw [this, List.getElem?_append_right (Nat.le_refl _)]; simp⟩, rem_quoted, rq_qAll]
end Go.Proofs.YtijajimooldhiaaDoor.TrC
