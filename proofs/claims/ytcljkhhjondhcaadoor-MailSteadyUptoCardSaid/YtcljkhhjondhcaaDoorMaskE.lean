/- What the printed mail.Mask and portref1.MaskedOf answer, for lines of at most 1048576 bytes: the plain 'maskT'. -/
import Derived.Test.YtcljkhhjondhcaaDoorIx4
import Derived.Test.YtcljkhhjondhcaaDoorIx2
import Derived.Test.YtcljkhhjondhcaaDoorMaskP
namespace Go.Proofs.YtcljkhhjondhcaaDoor.MaskE
open Go.RowKit Go.Proofs.YtcljkhhjondhcaaDoorW.PrintWords Go.Proofs.YtcljkhhjondhcaaDoor.Ext Go.Proofs.YtcljkhhjondhcaaDoor.Ix Go.Proofs.YtcljkhhjondhcaaDoor.Pl Go.Proofs.YtcljkhhjondhcaaDoor.MaskP
abbrev Ns (l : List UInt8) : List Int := l.map fun b => (b.toNat : Int)
theorem up {i : Nat} (h : i ≤ 4611686018427387904) : wrap64 ((i : Int) + 1) = ((i + 1 : Nat) : Int) := by rw [w64 (by omega) (by omega)]; omega
theorem rd_ns {l : List UInt8} {i : Nat} {b : UInt8} (h : l[i]? = some b) : rd (Ns l) (i : Int) = (b.toNat : Int) := by
  unfold rd
  rw [Int.toNat_natCast, List.getD_eq_getElem?_getD, List.getElem?_map, h]; rfl
theorem ns_len (l : List UInt8) : (Ns l).length = l.length := List.length_map _
theorem ns_set (l : List UInt8) (p : Nat) : (Ns l).set p 42 = Ns (l.set p 42) := by
  rw [Ns, Ns, List.map_set]; rfl
theorem ns_app (l m : List UInt8) : Ns l ++ Ns m = Ns (l ++ m) := by rw [Ns, Ns, Ns, List.map_append]
theorem str_ns (l : List UInt8) : strOfNums (Ns l) = ba l := by
  unfold strOfNums ba
  congr 2
  rw [List.map_map]
  conv => rhs; rw [← List.map_id l]
  refine List.map_congr_left fun _ _ => ?_
  simp
theorem dig_f (b : UInt8) : mail_digit.f (b.toNat : Int) = some (isD b) := by
  unfold mail_digit.f isD
  by_cases h : 48 ≤ b.toNat
  · rw [if_pos (by omega), decide_eq_true h, Bool.true_and]
    congr 1
    exact decide_eq_decide.2 (by omega)
  · rw [if_neg (by omega), decide_eq_false h, Bool.false_and]
theorem refDig_f (b : UInt8) : portref1_isDigit.f (b.toNat : Int) = some (isD b) := dig_f b
theorem isD_range {b : UInt8} (h : isD b = true) : 48 ≤ b.toNat ∧ b.toNat ≤ 57 := by
  unfold isD at h
  simpa using h
/-! ### the sum -/
theorem dbl_le {b : UInt8} (h : isD b = true) : 0 ≤ dv b ∧ dv b ≤ 9 ∧ 0 ≤ dbl (dv b) ∧ dbl (dv b) ≤ 9 := by
  have := isD_range h
  unfold dbl dv
  split <;> omega
theorem dv_mod {b : UInt8} (h : isD b = true) : ((b.toNat : Int) - 48) % 256 = dv b := by
  have := isD_range h
  unfold dv; omega
theorem rev_get {ds : List UInt8} {i : Nat} (h : i < ds.length) : ∃ b, ds[ds.length - 1 - i]? = some b ∧ ds.reverse.drop i = b :: ds.reverse.drop (i + 1) ∧ b ∈ ds := by
  have hl : ds.length - 1 - i < ds.length := by omega
  have hr : i < ds.reverse.length := by rw [List.length_reverse]; exact h
  refine ⟨ds[ds.length - 1 - i], List.getElem?_eq_getElem hl, ?_, List.getElem_mem hl⟩
  rw [List.drop_eq_getElem_cons hr, List.getElem_reverse]
theorem luhn_l0 (ds : List UInt8) (hl : ds.length ≤ 1000) (hd : ∀ b ∈ ds, isD b = true) : ∀ (d i : Nat) (s : Int), i + d = ds.length → 0 ≤ s → s ≤ 9 * i →
    Ev (fun k => mail_luhn.l0 k (Ns ds) s (ds.length : Int) (i : Int)) (decide ((s + lsum (decide (i % 2 = 1)) (ds.reverse.drop i)) % 10 = 0)) := by
  intro d
  induction d with
  | zero =>
    intro i s hi h0 h9
    refine Ev.shift ?_
    simp only [mail_luhn.l0]
    refine Ev.neg (by omega) (Ev.cst ?_)
    rw [List.drop_of_length_le (by rw [List.length_reverse]; omega)]
    simp only [lsum, Int.add_zero]
    rw [Int.tmod_eq_emod_of_nonneg h0]
    by_cases h : s % 10 = 0 <;> simp [h]
  | succ d ih =>
    intro i s hi h0 h9
    obtain ⟨b, hb, hr, hm⟩ := rev_get (ds := ds) (i := i) (by omega)
    have hdb := hd b hm
    have hdl := dbl_le hdb
    have hmod := dv_mod hdb
    have e1 : wrap64 (wrap64 (((Ns ds).length : Int) - 1) - (i : Int)) = ((ds.length - 1 - i : Nat) : Int) := by
      rw [ns_len, w64 (x := (ds.length : Int) - 1) (by omega) (by omega), w64 (by omega) (by omega)]; omega
    refine Ev.shift ?_
    simp only [mail_luhn.l0]
    rw [e1, rd_ns hb, hmod, up (by omega)]
    have ht : Int.tmod (i : Int) 2 = ((i % 2 : Nat) : Int) := by rw [Int.tmod_eq_emod_of_nonneg (by omega)]; omega
    rw [ht, hr]
    refine Ev.pos (by omega) (Ev.pos (by omega) (Ev.pos (by rw [ns_len]; omega) ?_))
    by_cases ho : i % 2 = 1
    · refine Ev.pos (by omega) ?_
      have hn : (i + 1) % 2 = 0 := by omega
      have hb9 : 9 * ((i + 1 : Nat) : Int) = 9 * i + 9 := by omega
      by_cases h9' : dv b * 2 > 9
      · refine Ev.pos h9' ?_
        have ed : dbl (dv b) = dv b * 2 - 9 := if_pos h9'
        rw [w64 (x := s + _) (by omega) (by omega)]
        have := ih (i + 1) (s + (dv b * 2 - 9)) (by omega) (by omega) (by omega)
        rw [show decide ((i + 1) % 2 = 1) = false from decide_eq_false (by omega)] at this
        rw [show decide (i % 2 = 1) = true from decide_eq_true ho]
        simp only [lsum, if_true, Bool.not_true]
        rw [ed, ← Int.add_assoc]
        exact this
      · refine Ev.neg h9' ?_
        have ed : dbl (dv b) = dv b * 2 := if_neg h9'
        rw [w64 (x := s + _) (by omega) (by omega)]
        have := ih (i + 1) (s + (dv b * 2)) (by omega) (by omega) (by omega)
        rw [show decide ((i + 1) % 2 = 1) = false from decide_eq_false (by omega)] at this
        rw [show decide (i % 2 = 1) = true from decide_eq_true ho]
        simp only [lsum, if_true, Bool.not_true]
        rw [ed, ← Int.add_assoc]
        exact this
    · refine Ev.neg (by omega) ?_
      rw [w64 (x := s + _) (by omega) (by omega)]
      have := ih (i + 1) (s + dv b) (by omega) (by omega) (by omega)
      rw [show decide ((i + 1) % 2 = 1) = true from decide_eq_true (by omega)] at this
      rw [show decide (i % 2 = 1) = false from decide_eq_false ho]
      simp only [lsum, Bool.not_false, Bool.false_eq_true, if_false]
      rw [← Int.add_assoc]
      exact this
theorem luhn_f (ds : List UInt8) (hl : ds.length ≤ 1000) (hd : ∀ b ∈ ds, isD b = true) : Ev (fun k => mail_luhn.f k (Ns ds)) (luhnB ds) := by
  unfold mail_luhn.f
  rw [ns_len]
  have := luhn_l0 ds hl hd ds.length 0 0 (by omega) (by omega) (by omega)
  simpa [luhnB] using this
theorem refLuhn_l0 (ds : List UInt8) (hl : ds.length ≤ 1000) (hd : ∀ b ∈ ds, isD b = true) : ∀ (d i : Nat) (s : Int), i + d = ds.length → 0 ≤ s → s ≤ 9 * i →
    Ev (fun k => portref1_luhn.l0 k (ba ds) s ((ds.length : Int) - 1 - (i : Int))) (decide ((s + lsum (decide (i % 2 = 1)) (ds.reverse.drop i)) % 10 = 0)) := by
  intro d
  induction d with
  | zero =>
    intro i s hi h0 h9
    refine Ev.shift ?_
    simp only [portref1_luhn.l0]
    refine Ev.neg (by omega) (Ev.cst ?_)
    rw [List.drop_of_length_le (by rw [List.length_reverse]; omega)]
    simp only [lsum, Int.add_zero]
    rw [Int.tmod_eq_emod_of_nonneg h0]
    by_cases h : s % 10 = 0 <;> simp [h]
  | succ d ih =>
    intro i s hi h0 h9
    obtain ⟨b, hb, hr, hm⟩ := rev_get (ds := ds) (i := i) (by omega)
    have hdb := hd b hm
    have hdl := dbl_le hdb
    have hmod := dv_mod hdb
    have hbs := ba_size ds
    have e0 : (ds.length : Int) - 1 - (i : Int) = ((ds.length - 1 - i : Nat) : Int) := by omega
    have e1 : wrap64 (wrap64 (((ba ds).size : Int) - 1) - ((ds.length - 1 - i : Nat) : Int)) = (i : Int) := by
      rw [hbs, w64 (x := (ds.length : Int) - 1) (by omega) (by omega), w64 (by omega) (by omega)]; omega
    have e2 : wrap64 (((ds.length - 1 - i : Nat) : Int) - 1) = (ds.length : Int) - 1 - ((i + 1 : Nat) : Int) := by rw [w64 (by omega) (by omega)]; omega
    have e3 : bt (ba ds) ((ds.length - 1 - i : Nat) : Int) = (b.toNat : Int) := bt_nat (by rw [bl_ba]; exact hb)
    refine Ev.shift ?_
    rw [e0]
    simp only [portref1_luhn.l0]
    rw [e1, e3, hmod, e2]
    have ht : Int.tmod (i : Int) 2 = ((i % 2 : Nat) : Int) := by rw [Int.tmod_eq_emod_of_nonneg (by omega)]; omega
    rw [ht, hr]
    refine Ev.pos (by omega) (Ev.pos (by omega) (Ev.pos (by omega) ?_))
    by_cases ho : i % 2 = 1
    · refine Ev.pos (by omega) ?_
      have hb9 : 9 * ((i + 1 : Nat) : Int) = 9 * i + 9 := by omega
      by_cases h9' : dv b * 2 > 9
      · refine Ev.pos h9' ?_
        have ed : dbl (dv b) = dv b * 2 - 9 := if_pos h9'
        rw [w64 (x := s + _) (by omega) (by omega)]
        have := ih (i + 1) (s + (dv b * 2 - 9)) (by omega) (by omega) (by omega)
        rw [show decide ((i + 1) % 2 = 1) = false from decide_eq_false (by omega)] at this
        rw [show decide (i % 2 = 1) = true from decide_eq_true ho]
        simp only [lsum, if_true, Bool.not_true]
        rw [ed, ← Int.add_assoc]
        exact this
      · refine Ev.neg h9' ?_
        have ed : dbl (dv b) = dv b * 2 := if_neg h9'
        rw [w64 (x := s + _) (by omega) (by omega)]
        have := ih (i + 1) (s + (dv b * 2)) (by omega) (by omega) (by omega)
        rw [show decide ((i + 1) % 2 = 1) = false from decide_eq_false (by omega)] at this
        rw [show decide (i % 2 = 1) = true from decide_eq_true ho]
        simp only [lsum, if_true, Bool.not_true]
        rw [ed, ← Int.add_assoc]
        exact this
    · refine Ev.neg (by omega) ?_
      rw [w64 (x := s + _) (by omega) (by omega)]
      have := ih (i + 1) (s + dv b) (by omega) (by omega) (by omega)
      rw [show decide ((i + 1) % 2 = 1) = true from decide_eq_true (by omega)] at this
      rw [show decide (i % 2 = 1) = false from decide_eq_false ho]
      simp only [lsum, Bool.not_false, Bool.false_eq_true, if_false]
      rw [← Int.add_assoc]
      exact this
theorem refLuhn_f (ds : List UInt8) (hl : ds.length ≤ 1000) (hd : ∀ b ∈ ds, isD b = true) : Ev (fun k => portref1_luhn.f k (ba ds)) (luhnB ds) := by
  unfold portref1_luhn.f
  rw [ba_size, w64 (by omega) (by omega)]
  have := refLuhn_l0 ds hl hd ds.length 0 0 (by omega) (by omega) (by omega)
  simpa [luhnB] using this
/-! ### places -/
def plc (k : Nat) : List UInt8 → List Nat
  | [] => []
  | [c] => if isD c then [k] else []
  | c :: d :: u => if isD c then k :: plc (k + 1) (d :: u) else if sepB c then (if isD d then (k + 1) :: plc (k + 2) u else []) else []
abbrev Is (p : List Nat) : List Int := p.map fun (n : Nat) => (n : Int)
theorem plc_stop {t : List UInt8} (h : runL t = 0) (k : Nat) : plc k t = [] := by
  match t with
  | [] => rfl
  | [c] =>
    simp only [runL] at h
    simp only [plc]
    split at h
    · omega
    · rename_i hc; rw [if_neg hc]
  | c :: d :: u =>
    rw [runL] at h
    rw [plc]
    by_cases hc : isD c = true
    · rw [if_pos hc] at h; omega
    · rw [if_neg hc] at h ⊢
      by_cases hs : sepB c = true
      · rw [if_pos hs] at h ⊢
        by_cases hd : isD d = true
        · rw [if_pos hd] at h; omega
        · rw [if_neg hd]
      · rw [if_neg hs]
theorem plc_dig {c : UInt8} {t : List UInt8} (h : isD c = true) (k : Nat) : plc k (c :: t) = k :: plc (k + 1) t := by
  cases t with
  | nil => simp [plc, h]
  | cons d u => rw [plc]; simp [h]
theorem plc_sep {c d : UInt8} {u : List UInt8} (h : sepB c = true) (hd : isD d = true) (k : Nat) : plc k (c :: d :: u) = (k + 1) :: plc (k + 2) u := by rw [plc]; simp [h, hd, sep_not h]
abbrev digs (t : List UInt8) : List UInt8 := (t.take (runL t)).filter isD
theorem digs_stop {t : List UInt8} (h : runL t = 0) : digs t = [] := by rw [digs, h]; rfl
theorem digs_dig {c : UInt8} {t : List UInt8} (h : isD c = true) : digs (c :: t) = c :: digs t := by rw [digs, runL_dig h, List.take_succ_cons, List.filter_cons_of_pos h]
theorem digs_sep {c d : UInt8} {u : List UInt8} (h : sepB c = true) (hd : isD d = true) : digs (c :: d :: u) = d :: digs u := by
  rw [digs, runL_sep h hd]
  simp only [List.take_succ_cons]
  rw [List.filter_cons_of_neg (by simp [sep_not h]), List.filter_cons_of_pos hd]
theorem plc_len (t : List UInt8) : ∀ k, (plc k t).length = (digs t).length := by
  intro k
  rcases run_ways t with h | ⟨c, u, rfl, h⟩ | ⟨c, d, u, rfl, hs, hd⟩
  · rw [plc_stop h, digs_stop h]; rfl
  · rw [plc_dig h, digs_dig h, List.length_cons, List.length_cons, plc_len u]
  · rw [plc_sep hs hd, digs_sep hs hd, List.length_cons, List.length_cons, plc_len u]
termination_by t.length
theorem plc_lt (t : List UInt8) : ∀ k, ∀ p ∈ plc k t, k ≤ p ∧ p < k + runL t := by
  intro k p hp
  rcases run_ways t with h | ⟨c, u, rfl, h⟩ | ⟨c, d, u, rfl, hs, hd⟩
  · rw [plc_stop h] at hp; cases hp
  · rw [plc_dig h] at hp
    rw [runL_dig h]
    rcases List.mem_cons.1 hp with rfl | hp
    · omega
    · have := plc_lt u (k + 1) p hp; omega
  · rw [plc_sep hs hd] at hp
    rw [runL_sep hs hd]
    rcases List.mem_cons.1 hp with rfl | hp
    · omega
    · have := plc_lt u (k + 2) p hp; omega
termination_by t.length
theorem plc_last (t : List UInt8) : ∀ k, runL t ≠ 0 → (plc k t).getLast? = some (k + runL t - 1) := by
  intro k h0
  rcases run_ways t with h | ⟨c, u, rfl, h⟩ | ⟨c, d, u, rfl, hs, hd⟩
  · exact absurd h h0
  · rw [plc_dig h, runL_dig h]
    by_cases hu : runL u = 0
    · rw [plc_stop hu, hu]; simp
    · have := plc_last u (k + 1) hu
      rw [List.getLast?_cons, this]
      simp <;> omega
  · rw [plc_sep hs hd, runL_sep hs hd]
    by_cases hu : runL u = 0
    · rw [plc_stop hu, hu]; simp
    · have := plc_last u (k + 2) hu
      rw [List.getLast?_cons, this]
      simp; omega
termination_by t.length
def setAll (l : List UInt8) : List Nat → List UInt8
  | [] => l
  | p :: ps => setAll (l.set p 42) ps
theorem setAll_len (ps : List Nat) : ∀ l, (setAll l ps).length = l.length := by
  induction ps with
  | nil => intro l; rfl
  | cons p ps ih => intro l; rw [setAll, ih, List.length_set]
theorem setAll_star (v : List UInt8) : ∀ (A : List UInt8) (m : Nat), setAll (A ++ v) ((plc A.length v).take m) = A ++ (star m (v.take (runL v)) ++ v.drop (runL v)) := by
  intro A m
  rcases run_ways v with h | ⟨c, u, rfl, h⟩ | ⟨c, d, u, rfl, hs, hd⟩
  · rw [plc_stop h, h]; simp [setAll, star]
  · rw [plc_dig h, runL_dig h]
    cases m with
    | zero => simp [setAll, star_zero]
    | succ m =>
      have e : (A ++ c :: u).set A.length 42 = (A ++ [42]) ++ u := by rw [List.set_append_right _ _ (Nat.le_refl _), Nat.sub_self]; simp
      have := setAll_star u (A ++ [42]) m
      rw [List.length_append, List.length_singleton] at this
      rw [List.take_succ_cons, setAll, e, this, List.take_succ_cons, star, if_pos h]
      simp
  · rw [plc_sep hs hd, runL_sep hs hd]
    cases m with
    | zero => simp [setAll, star_zero]
    | succ m =>
      have e : (A ++ c :: d :: u).set (A.length + 1) 42 = (A ++ [c, 42]) ++ u := by
        rw [List.set_append_right _ _ (by omega), show A.length + 1 - A.length = 1 by omega]; simp
      have := setAll_star u (A ++ [c, 42]) m
      rw [show (A ++ [c, 42]).length = A.length + 2 by simp] at this
      rw [List.take_succ_cons, setAll, e, this]
      simp [star, sep_not hs, hd]
termination_by v.length
/-! ### a run, gone through -/
theorem sep_val {c : UInt8} (h : sepB c = true) : (c.toNat : Int) = 32 ∨ (c.toNat : Int) = 45 := by
  unfold sepB at h
  rcases Bool.or_eq_true_iff.1 h with h | h <;> (have := beq_iff_eq.1 h; subst this)
  · exact .inl rfl
  · exact .inr rfl
theorem sep_of {c : UInt8} (h : (c.toNat : Int) = 32 ∨ (c.toNat : Int) = 45) : sepB c = true := by
  unfold sepB
  rcases h with h | h
  · have : c = 32 := UInt8.toNat_inj.1 (by show c.toNat = 32; omega)
    subst this; rfl
  · have : c = 45 := UInt8.toNat_inj.1 (by show c.toNat = 45; omega)
    subst this; rfl
theorem not_sep {c : UInt8} (h : sepB c = false) : ¬ (c.toNat : Int) = 32 ∧ ¬ (c.toNat : Int) = 45 := ⟨fun e => (by rw [sep_of (.inl e)] at h; cases h), fun e => (by rw [sep_of (.inr e)] at h; cases h)⟩
theorem drop_get {l : List UInt8} {k : Nat} {c : UInt8} {u : List UInt8} (h : l.drop k = c :: u) : l[k]? = some c ∧ l.drop (k + 1) = u ∧ k < l.length := by
  have h1 : l[k]? = some c := by
    have : (l.drop k)[0]? = some c := by rw [h]; rfl
    rwa [List.getElem?_drop, Nat.add_zero] at this
  refine ⟨h1, ?_, (List.getElem?_eq_some_iff.1 h1).1⟩
  have : (l.drop k).drop 1 = u := by rw [h]; rfl
  rwa [List.drop_drop] at this
theorem is_app (P : List Nat) (k : Nat) : Is P ++ [((k : Nat) : Int)] = Is (P ++ [k]) := by rw [Is, Is, List.map_append]; rfl
theorem mask_l1 (l : List UInt8) (hl : l.length ≤ 1048576) (R : ByteArray) (n : Nat) : ∀ (k : Nat) (P : List Nat) (D : List UInt8), l.length - k ≤ n → k ≤ l.length → P.length ≤ k → D.length ≤ k →
    Ev (fun q => mail_Mask.j3 q (Ns l) (Is (P ++ plc k (l.drop k))) (Ns (D ++ digs (l.drop k)))) R → Ev (fun q => mail_Mask.l1 q (Ns l) (Is P) (Ns D) (k : Int)) R := by
  induction n with
  | zero =>
    intro k P D hn hk hP hD h
    have e : l.drop k = [] := List.drop_of_length_le (by omega)
    rw [e] at h
    simp only [plc, digs, runL, List.take_nil, List.filter_nil, List.append_nil] at h
    refine Ev.shift ?_
    simp only [mail_Mask.l1]
    exact Ev.neg (by rw [ns_len]; omega) h
  | succ n ih =>
    intro k P D hn hk hP hD h
    rcases run_ways (l.drop k) with h0 | ⟨c, u, e, hc⟩ | ⟨c, d, u, e, hs, hd⟩
    · rw [plc_stop h0, digs_stop h0, List.append_nil, List.append_nil] at h
      cases e : l.drop k with
      | nil =>
        have hk' : l.length ≤ k := by simpa using e
        refine Ev.shift ?_
        simp only [mail_Mask.l1]
        exact Ev.neg (by rw [ns_len]; omega) h
      | cons c u =>
        obtain ⟨hg, hu, hlt⟩ := drop_get e
        rw [e] at h0
        have hc : isD c = false := by
          cases hc : isD c with
          | false => rfl
          | true => rw [runL_dig hc] at h0; omega
        have hno : Ev (fun q => mail_Mask.j2 q (Ns l) (Is P) (Ns D) (k : Int) false) R := by
          refine Ev.shift ?_
          simp only [mail_Mask.j2]
          rw [rd_ns hg]
          exact Ev.neg (by simp) (Ev.pos (by omega) (Ev.pos (by rw [ns_len]; omega) (Ev.bindc (dig_f c) (Ev.neg (by simp [hc]) h))))
        refine Ev.shift ?_
        simp only [mail_Mask.l1]
        rw [rd_ns hg, up (by omega)]
        refine Ev.pos (by rw [ns_len]; omega) (Ev.pos (by omega) (Ev.bindc (dig_f c) (Ev.neg (by simp [hc]) ?_)))
        have hy : sepB c = true → Ev (fun q => mail_Mask.j2 q (Ns l) (Is P) (Ns D) (k : Int) (decide (((k + 1 : Nat) : Int) < ((Ns l).length : Int)))) R := by
          intro hs
          by_cases hk1 : k + 1 < l.length
          · rw [decide_eq_true (by rw [ns_len]; omega)]
            cases hu' : u with
            | nil => rw [hu'] at hu; have := congrArg List.length hu; simp at this; omega
            | cons d v =>
              rw [hu'] at hu
              obtain ⟨hg1, _, _⟩ := drop_get hu
              have hd : isD d = false := by
                cases hd : isD d with
                | false => rfl
                | true => rw [hu', runL_sep hs hd] at h0; omega
              refine Ev.shift ?_
              simp only [mail_Mask.j2]
              rw [up (by omega), rd_ns hg1]
              exact Ev.pos trivial (Ev.pos (by omega) (Ev.pos (by rw [ns_len]; omega) (Ev.bindc (dig_f d) (Ev.neg (by simp [hd]) h))))
          · rw [decide_eq_false (by rw [ns_len]; omega)]
            exact hno
        by_cases hs : sepB c = true
        · rcases sep_val hs with hv | hv
          · exact Ev.pos hv (hy hs)
          · exact Ev.neg (by omega) (Ev.pos hv (hy hs))
        · obtain ⟨n1, n2⟩ := not_sep (by simpa using hs)
          exact Ev.neg n1 (Ev.neg n2 hno)
    · obtain ⟨hg, hu, hlt⟩ := drop_get e
      rw [e, plc_dig hc, digs_dig hc, List.append_cons P k, List.append_cons D c, ← hu] at h
      have h1 := ih (k + 1) (P ++ [k]) (D ++ [c]) (by omega) (by omega) (by simp; omega) (by simp; omega) h
      have hyes : Ev (fun q => mail_Mask.j2 q (Ns l) (Is P) (Ns D) (k : Int) false) R := by
        refine Ev.shift ?_
        simp only [mail_Mask.j2, Option.bind_some]
        rw [rd_ns hg, up (by omega), is_app P k]
        have ea : Ns D ++ [(c.toNat : Int)] = Ns (D ++ [c]) := by rw [Ns, Ns, List.map_append]; rfl
        rw [ea]
        exact Ev.neg (by simp) (Ev.pos (by omega) (Ev.pos (by rw [ns_len]; omega) (Ev.bindc (dig_f c) (Ev.pos hc (Ev.pos (by rw [List.length_map, List.length_singleton]; omega) (Ev.pos (by rw [List.length_map, List.length_singleton]; omega) h1))))))
      refine Ev.shift ?_
      simp only [mail_Mask.l1]
      rw [rd_ns hg]
      exact Ev.pos (by rw [ns_len]; omega) (Ev.pos (by omega) (Ev.bindc (dig_f c) (Ev.pos hc hyes)))
    · obtain ⟨hg, hu, hlt⟩ := drop_get e
      obtain ⟨hg1, hu1, hlt1⟩ := drop_get hu
      rw [e, plc_sep hs hd, digs_sep hs hd, List.append_cons P (k + 1), List.append_cons D d, ← hu1] at h
      have h1 := ih (k + 1 + 1) (P ++ [k + 1]) (D ++ [d]) (by omega) (by omega) (by simp; omega) (by simp; omega) h
      have hyes : Ev (fun q => mail_Mask.j2 q (Ns l) (Is P) (Ns D) (k : Int) true) R := by
        refine Ev.shift ?_
        simp only [mail_Mask.j2, Option.bind_some]
        rw [up (by omega), rd_ns hg1, up (by omega), is_app P (k + 1)]
        have ea : Ns D ++ [(d.toNat : Int)] = Ns (D ++ [d]) := by rw [Ns, Ns, List.map_append]; rfl
        rw [ea]
        exact Ev.pos trivial (Ev.pos (by omega) (Ev.pos (by rw [ns_len]; omega) (Ev.bindc (dig_f d) (Ev.pos hd (Ev.pos (by rw [List.length_map, List.length_singleton]; omega) (Ev.pos (by rw [List.length_map, List.length_singleton]; omega) h1))))))
      refine Ev.shift ?_
      simp only [mail_Mask.l1]
      rw [rd_ns hg, up (by omega)]
      refine Ev.pos (by rw [ns_len]; omega) (Ev.pos (by omega) (Ev.bindc (dig_f c) (Ev.neg (by simp [sep_not hs]) ?_)))
      have et : decide (((k + 1 : Nat) : Int) < ((Ns l).length : Int)) = true := decide_eq_true (by rw [ns_len]; omega)
      rw [et]
      rcases sep_val hs with hv | hv
      · exact Ev.pos hv hyes
      · exact Ev.neg (by omega) (Ev.pos hv hyes)
theorem app_len {s t : ByteArray} : (s ++ t).size = s.size + t.size := by rw [bl_size, bl_app, List.length_append, ← bl_size, ← bl_size]
theorem ba_snoc (D : List UInt8) (a : ByteArray) (k : Nat) (d : UInt8) (h : (bl a)[k]? = some d) : ba D ++ a.extract ((k : Int)).toNat (((k + 1 : Nat) : Int)).toNat = ba (D ++ [d]) := by
  refine eq_ba ?_
  rw [bl_app, bl_ba, Int.toNat_natCast, Int.toNat_natCast, bl_cut]
  have hl := (List.getElem?_eq_some_iff.1 h)
  obtain ⟨hl, he⟩ := hl
  rw [List.drop_eq_getElem_cons hl, he, show k + 1 - k = 1 by omega]
  rfl
theorem ref_l1 (a : ByteArray) (K : List Int) (hl : a.size ≤ 1048576) (R : ByteArray) (n : Nat) : ∀ (k : Nat) (P : List Nat) (D : List UInt8), a.size - k ≤ n → k ≤ a.size → P.length ≤ k → D.length ≤ k →
    Ev (fun q => portref1_MaskedOf.j3 q a K (Is (P ++ plc k ((bl a).drop k))) (ba (D ++ digs ((bl a).drop k))) ((k + runL ((bl a).drop k) : Nat) : Int)) R → Ev (fun q => portref1_MaskedOf.l1 q a K (Is P) (ba D) (k : Int)) R := by
  have hsz := bl_size a
  induction n with
  | zero =>
    intro k P D hn hk hP hD h
    have e : (bl a).drop k = [] := List.drop_of_length_le (by omega)
    rw [e] at h
    simp only [plc, digs, runL, List.take_nil, List.filter_nil, List.append_nil, Nat.add_zero] at h
    refine Ev.shift ?_
    simp only [portref1_MaskedOf.l1]
    exact Ev.neg (by omega) h
  | succ n ih =>
    intro k P D hn hk hP hD h
    rcases run_ways ((bl a).drop k) with h0 | ⟨c, u, e, hc⟩ | ⟨c, d, u, e, hs, hd⟩
    · rw [plc_stop h0, digs_stop h0, h0, List.append_nil, List.append_nil, Nat.add_zero] at h
      cases e : (bl a).drop k with
      | nil =>
        have hk' : (bl a).length ≤ k := by simpa using e
        refine Ev.shift ?_
        simp only [portref1_MaskedOf.l1]
        exact Ev.neg (by omega) h
      | cons c u =>
        obtain ⟨hg, hu, hlt⟩ := drop_get e
        have hbt := bt_nat hg
        rw [e] at h0
        have hc : isD c = false := by
          cases hc : isD c with
          | false => rfl
          | true => rw [runL_dig hc] at h0; omega
        refine Ev.shift ?_
        simp only [portref1_MaskedOf.l1]
        rw [hbt]
        refine Ev.pos (by omega) (Ev.pos (by omega) ?_)
        have hy : sepB c = true → Ev (fun q => portref1_MaskedOf.j2 q a K (Is P) (ba D) (k : Int) (k : Int) true) R := by
          intro hs
          refine Ev.shift ?_
          simp only [portref1_MaskedOf.j2]
          rw [up (by omega)]
          refine Ev.pos trivial ?_
          by_cases hk1 : k + 1 < a.size
          · cases hu' : u with
            | nil => rw [hu'] at hu; have := congrArg List.length hu; simp at this; omega
            | cons d v =>
              rw [hu'] at hu
              obtain ⟨hg1, _, _⟩ := drop_get hu
              have hd : isD d = false := by
                cases hd : isD d with
                | false => rfl
                | true => rw [hu', runL_sep hs hd] at h0; omega
              rw [bt_nat hg1]
              exact Ev.neg (by omega) (Ev.pos (by omega) (Ev.pos (by omega) (Ev.bindc (refDig_f d) (Ev.neg (by simp [hd]) h))))
          · exact Ev.pos (by omega) h
        have hno : Ev (fun q => portref1_MaskedOf.j2 q a K (Is P) (ba D) (k : Int) (k : Int) false) R := by
          refine Ev.shift ?_
          simp only [portref1_MaskedOf.j2]
          rw [hbt]
          exact Ev.neg (by simp) (Ev.neg (by omega) (Ev.pos (by omega) (Ev.pos (by omega) (Ev.bindc (refDig_f c) (Ev.neg (by simp [hc]) h)))))
        by_cases hs : sepB c = true
        · rcases sep_val hs with hv | hv
          · exact Ev.pos hv (hy hs)
          · refine Ev.neg (by omega) ?_
            rw [show ((c.toNat : Int) == 45) = true from beq_iff_eq.2 hv]
            exact hy hs
        · obtain ⟨n1, n2⟩ := not_sep (by simpa using hs)
          refine Ev.neg n1 ?_
          rw [show ((c.toNat : Int) == 45) = false from beq_eq_false_iff_ne.2 n2]
          exact hno
    · obtain ⟨hg, hu, hlt⟩ := drop_get e
      have hbt := bt_nat hg
      have hr := isD_range hc
      rw [e, plc_dig hc, digs_dig hc, runL_dig hc, List.append_cons P k, List.append_cons D c, ← hu, show k + (runL ((bl a).drop (k + 1)) + 1) = k + 1 + runL ((bl a).drop (k + 1)) by omega] at h
      have h1 := ih (k + 1) (P ++ [k]) (D ++ [c]) (by omega) (by omega) (by simp; omega) (by simp; omega) h
      refine Ev.shift ?_
      simp only [portref1_MaskedOf.l1]
      rw [hbt, show ((c.toNat : Int) == 45) = false from beq_eq_false_iff_ne.2 (by omega)]
      refine Ev.pos (by omega) (Ev.pos (by omega) (Ev.neg (by omega) (Ev.shift ?_)))
      simp only [portref1_MaskedOf.j2]
      rw [hbt, up (by omega), is_app P k, ba_snoc D a k c hg]
      have hex : (a.extract ((k : Int)).toNat (((k + 1 : Nat) : Int)).toNat).size ≤ 1048576 := by rw [bl_size, Int.toNat_natCast, Int.toNat_natCast, bl_cut, List.length_take, List.length_drop]; omega
      have hds := ba_size D
      exact Ev.neg (by simp) (Ev.neg (by omega) (Ev.pos (by omega) (Ev.pos (by omega) (Ev.bindc (refDig_f c) (Ev.pos hc (Ev.pos (by rw [List.length_map]; omega) (Ev.pos (by omega) (Ev.pos (by omega) (Ev.pos (by omega) h1)))))))))
    · obtain ⟨hg, hu, hlt⟩ := drop_get e
      obtain ⟨hg1, hu1, hlt1⟩ := drop_get hu
      have hbt := bt_nat hg
      rw [e, plc_sep hs hd, digs_sep hs hd, runL_sep hs hd, List.append_cons P (k + 1), List.append_cons D d, ← hu1, show k + (runL ((bl a).drop (k + 1 + 1)) + 2) = k + 1 + 1 + runL ((bl a).drop (k + 1 + 1)) by omega] at h
      have h1 := ih (k + 1 + 1) (P ++ [k + 1]) (D ++ [d]) (by omega) (by omega) (by simp; omega) (by simp; omega) h
      have hyes : Ev (fun q => portref1_MaskedOf.j2 q a K (Is P) (ba D) (k : Int) (k : Int) true) R := by
        refine Ev.shift ?_
        simp only [portref1_MaskedOf.j2]
        rw [up (by omega), bt_nat hg1, up (by omega), is_app P (k + 1), ba_snoc D a (k + 1) d hg1]
        have hex : (a.extract (((k + 1 : Nat) : Int)).toNat (((k + 1 + 1 : Nat) : Int)).toNat).size ≤ 1048576 := by rw [bl_size, Int.toNat_natCast, Int.toNat_natCast, bl_cut, List.length_take, List.length_drop]; omega
        have hds := ba_size D
        exact Ev.pos trivial (Ev.neg (by omega) (Ev.pos (by omega) (Ev.pos (by omega) (Ev.bindc (refDig_f d) (Ev.pos hd (Ev.pos (by rw [List.length_map]; omega) (Ev.pos (by omega) (Ev.pos (by omega) (Ev.pos (by omega) h1)))))))))
      refine Ev.shift ?_
      simp only [portref1_MaskedOf.l1]
      rw [hbt]
      refine Ev.pos (by omega) (Ev.pos (by omega) ?_)
      rcases sep_val hs with hv | hv
      · exact Ev.pos hv hyes
      · refine Ev.neg (by omega) ?_
        rw [show ((c.toNat : Int) == 45) = true from beq_iff_eq.2 hv]
        exact hyes
/-! ### what is hidden -/
theorem is_len (P : List Nat) : (Is P).length = P.length := List.length_map _
theorem rd_is {P : List Nat} {i p : Nat} (h : P[i]? = some p) : rd (Is P) (i : Int) = (p : Int) := by
  unfold rd
  rw [Int.toNat_natCast, List.getD_eq_getElem?_getD, List.getElem?_map, h]; rfl
theorem is_take (P : List Nat) (m : Nat) : (Is P).take m = Is (P.take m) := by rw [Is, Is, List.map_take]
/-- behind a run: on to what stands behind its last place -/
def maskTail (q : Nat) (K P : List Int) : Option ByteArray := if 0 ≤ (wrap64 ((P.length : Int) - 1)) then (if (wrap64 ((P.length : Int) - 1)) < (P.length : Int) then (mail_Mask.l0 q K (wrap64 ((rd P (wrap64 ((P.length : Int) - 1))) + 1))) else (none)) else (none)
theorem mask_l2 (P Y : List Nat) (hY : Y.length ≤ 1000) (R : ByteArray) : ∀ (d m : Nat) (l : List UInt8), m + d = Y.length → (∀ p ∈ Y, p < l.length) → l.length ≤ 1048576 →
    Ev (fun q => maskTail q (Ns (setAll l (Y.drop m))) (Is P)) R → Ev (fun q => mail_Mask.l2 q (Ns l) (Is P) (Is Y) (Y.length : Int) (m : Int)) R := by
  intro d
  induction d with
  | zero =>
    intro m l hm hp hl h
    rw [List.drop_of_length_le (by omega)] at h
    refine Ev.shift ?_
    simp only [mail_Mask.l2]
    exact Ev.neg (by omega) h
  | succ d ih =>
    intro m l hm hp hl h
    have hlt : m < Y.length := by omega
    have hg : Y[m]? = some Y[m] := List.getElem?_eq_getElem hlt
    have hpm := hp _ (List.getElem_mem hlt)
    rw [List.drop_eq_getElem_cons hlt, setAll] at h
    refine Ev.shift ?_
    simp only [mail_Mask.l2]
    rw [rd_is hg, up (by omega), Int.toNat_natCast, ns_set]
    exact Ev.pos (by omega) (Ev.pos (by omega) (Ev.pos (by rw [is_len]; omega) (Ev.pos (by omega) (Ev.pos (by rw [ns_len]; omega) (ih (m + 1) (l.set Y[m] 42) (by omega) (by intro p hp'; rw [List.length_set]; exact hp p hp') (by rw [List.length_set]; exact hl) h)))))
theorem ref_l2 (a : ByteArray) (x7 : Int) (Y : List Nat) (hY : Y.length ≤ 1000) (R : ByteArray) : ∀ (d m : Nat) (l : List UInt8), m + d = Y.length → (∀ p ∈ Y, p < l.length) → l.length ≤ 1048576 →
    Ev (fun q => portref1_MaskedOf.l0 q a (Ns (setAll l (Y.drop m))) x7) R → Ev (fun q => portref1_MaskedOf.l2 q a (Ns l) x7 (Is Y) (Y.length : Int) (m : Int)) R := by
  intro d
  induction d with
  | zero =>
    intro m l hm hp hl h
    rw [List.drop_of_length_le (by omega)] at h
    refine Ev.shift ?_
    simp only [portref1_MaskedOf.l2]
    exact Ev.neg (by omega) h
  | succ d ih =>
    intro m l hm hp hl h
    have hlt : m < Y.length := by omega
    have hg : Y[m]? = some Y[m] := List.getElem?_eq_getElem hlt
    have hpm := hp _ (List.getElem_mem hlt)
    rw [List.drop_eq_getElem_cons hlt, setAll] at h
    refine Ev.shift ?_
    simp only [portref1_MaskedOf.l2]
    rw [rd_is hg, up (by omega), Int.toNat_natCast, ns_set]
    exact Ev.pos (by omega) (Ev.pos (by omega) (Ev.pos (by rw [is_len]; omega) (Ev.pos (by omega) (Ev.pos (by rw [ns_len]; omega) (ih (m + 1) (l.set Y[m] 42) (by omega) (by intro p hp'; rw [List.length_set]; exact hp p hp') (by rw [List.length_set]; exact hl) h)))))
theorem digs_all (t : List UInt8) : ∀ b ∈ digs t, isD b = true := fun _ hb => (List.mem_filter.1 hb).2
theorem runL_fit (l : List UInt8) (i : Nat) : i ≤ l.length → i + runL (l.drop i) ≤ l.length := by
  intro h
  have := runL_le (l.drop i)
  rw [List.length_drop] at this
  omega
/-- a list whose part from i on is v, behind a run there -/
def after (l : List UInt8) (i : Nat) : List UInt8 := l.take i ++ (starSeg ((l.drop i).take (runL (l.drop i))) ++ (l.drop i).drop (runL (l.drop i)))
theorem after_good (l : List UInt8) (i : Nat) (hi : i ≤ l.length) (hg : good (digs (l.drop i)) = true) : setAll l ((plc i (l.drop i)).take ((digs (l.drop i)).length - 4)) = after l i := by
  have h := setAll_star (l.drop i) (l.take i) ((digs (l.drop i)).length - 4)
  rw [List.length_take, Nat.min_eq_left hi, List.take_append_drop] at h
  rw [h]
  unfold after starSeg
  rw [if_pos hg]
theorem after_bad (l : List UInt8) (i : Nat) (hg : ¬ good (digs (l.drop i)) = true) : l = after l i := by
  unfold after starSeg
  rw [if_neg hg, List.take_append_drop, List.take_append_drop]
theorem starSeg_len (s : List UInt8) : (starSeg s).length = s.length := by
  unfold starSeg
  split
  · exact (hid_star _ _).len
  · rfl
theorem after_len (l : List UInt8) (i : Nat) (hi : i ≤ l.length) : (after l i).length = l.length := by
  have := runL_fit l i hi
  unfold after
  simp only [List.length_append, starSeg_len, List.length_take, List.length_drop]
  omega
theorem after_drop (l : List UInt8) (i : Nat) (hi : i ≤ l.length) : (after l i).drop (i + runL (l.drop i)) = l.drop (i + runL (l.drop i)) := by
  have := runL_fit l i hi
  unfold after
  rw [List.drop_append, List.length_take, Nat.min_eq_left hi, List.drop_of_length_le (by rw [List.length_take]; omega), List.nil_append, show i + runL (l.drop i) - i = runL (l.drop i) by omega,
    List.drop_append, starSeg_len, List.length_take, List.length_drop, Nat.min_eq_left (by omega), Nat.sub_self, List.drop_zero, List.drop_of_length_le (by rw [starSeg_len, List.length_take, List.length_drop]; omega), List.nil_append, List.drop_drop]
theorem after_take (l : List UInt8) (i : Nat) (hi : i ≤ l.length) : (after l i).take (i + runL (l.drop i)) = l.take i ++ starSeg ((l.drop i).take (runL (l.drop i))) := by
  have := runL_fit l i hi
  unfold after
  rw [← List.append_assoc, List.take_left' (by rw [List.length_append, starSeg_len, List.length_take, List.length_take, List.length_drop]; omega)]
theorem mask_j3 (l : List UInt8) (i : Nat) (hi : i ≤ l.length) (hl : l.length ≤ 1048576) (hr : runL (l.drop i) ≠ 0) (R : ByteArray) (h : Ev (fun q => mail_Mask.l0 q (Ns (after l i)) ((i + runL (l.drop i) : Nat) : Int)) R) :
    Ev (fun q => mail_Mask.j3 q (Ns l) (Is (plc i (l.drop i))) (Ns (digs (l.drop i)))) R := by
  have hf := runL_fit l i hi
  have hpl := plc_len (l.drop i) i
  have hla := plc_last (l.drop i) i hr
  have hne : 1 ≤ (plc i (l.drop i)).length := by
    cases e : plc i (l.drop i) with
    | nil => rw [e] at hla; cases hla
    | cons x y => simp
  have hdl : (digs (l.drop i)).length ≤ 1048576 := by
    have h1 := List.length_filter_le isD ((l.drop i).take (runL (l.drop i)))
    rw [List.length_take, List.length_drop] at h1
    show (List.filter isD ((l.drop i).take (runL (l.drop i)))).length ≤ 1048576
    omega
  have htail : ∀ m : List UInt8, m = after l i → Ev (fun q => maskTail q (Ns m) (Is (plc i (l.drop i)))) R := by
    intro m hm
    subst hm
    unfold maskTail
    rw [is_len]
    have e1 : wrap64 (((plc i (l.drop i)).length : Int) - 1) = (((plc i (l.drop i)).length - 1 : Nat) : Int) := by rw [w64 (by omega) (by omega)]; omega
    have e2 : rd (Is (plc i (l.drop i))) (((plc i (l.drop i)).length - 1 : Nat) : Int) = ((i + runL (l.drop i) - 1 : Nat) : Int) := rd_is (by rw [← List.getLast?_eq_getElem?]; exact hla)
    have e3 : wrap64 (((i + runL (l.drop i) - 1 : Nat) : Int) + 1) = ((i + runL (l.drop i) : Nat) : Int) := by rw [w64 (by omega) (by omega)]; omega
    rw [e1, e2, e3]
    exact Ev.pos (by omega) (Ev.pos (by omega) h)
  have hno : ¬ good (digs (l.drop i)) = true → Ev (fun q => mail_Mask.j4 q (Ns l) (Is (plc i (l.drop i))) ((digs (l.drop i)).length : Int) false) R := by
    intro hg
    refine Ev.shift ?_
    simp only [mail_Mask.j4]
    exact Ev.neg (by simp) (htail l (after_bad l i hg))
  refine Ev.shift ?_
  simp only [mail_Mask.j3]
  rw [ns_len]
  by_cases h13 : 13 ≤ (digs (l.drop i)).length
  · refine Ev.pos (by omega) ?_
    by_cases h19 : (digs (l.drop i)).length ≤ 19
    · refine Ev.pos (by omega) (Ev.bind (luhn_f _ (by omega) (digs_all _)) ?_)
      have hgl : good (digs (l.drop i)) = luhnB (digs (l.drop i)) := by unfold good; rw [decide_eq_true h13, decide_eq_true h19, Bool.true_and, Bool.true_and]
      by_cases hlu : luhnB (digs (l.drop i)) = true
      · rw [hlu]
        refine Ev.shift ?_
        simp only [mail_Mask.j4, Option.bind_some]
        have e1 : wrap64 (((digs (l.drop i)).length : Int) - 4) = (((digs (l.drop i)).length - 4 : Nat) : Int) := by rw [w64 (by omega) (by omega)]; omega
        rw [e1, Int.toNat_natCast, is_take, is_len, is_len]
        refine Ev.pos trivial (Ev.pos (by omega) (Ev.pos (by omega) ?_))
        have hyl : ((plc i (l.drop i)).take ((digs (l.drop i)).length - 4)).length ≤ 1000 := by rw [List.length_take]; omega
        refine mask_l2 _ _ hyl R _ 0 l (Nat.zero_add _) (fun p hp => ?_) hl ?_
        · have := plc_lt (l.drop i) i p (List.mem_of_mem_take hp); omega
        · rw [List.drop_zero, after_good l i hi (by rw [hgl]; exact hlu)]
          exact htail _ rfl
      · have hlu' : luhnB (digs (l.drop i)) = false := by simpa using hlu
        rw [hlu']
        exact hno (by rw [hgl]; exact hlu)
    · exact Ev.neg (by omega) (hno (by unfold good; rw [decide_eq_false h19]; simp))
  · exact Ev.neg (by omega) (hno (by unfold good; rw [decide_eq_false h13]; simp))
theorem maskT_after (l : List UInt8) (i : Nat) (c : UInt8) (u : List UInt8) (e : l.drop i = c :: u) (hc : isD c = true) : l.take i ++ maskT (l.drop i) = (after l i).take (i + runL (l.drop i)) ++ maskT ((after l i).drop (i + runL (l.drop i))) := by
  have hi : i ≤ l.length := by have := (drop_get e).2.2; omega
  rw [after_take l i hi, after_drop l i hi, ← List.drop_drop, e, maskT_dig hc, runL_dig hc, List.take_succ_cons, List.drop_succ_cons, List.append_assoc]
theorem mask_l0 (n : Nat) : ∀ (i : Nat) (l : List UInt8), l.length - i ≤ n → i ≤ l.length → l.length ≤ 1048576 → Ev (fun q => mail_Mask.l0 q (Ns l) (i : Int)) (ba (l.take i ++ maskT (l.drop i))) := by
  induction n with
  | zero =>
    intro i l hn hi hl
    refine Ev.shift ?_
    simp only [mail_Mask.l0]
    rw [str_ns, List.drop_of_length_le (by omega), maskT_nil, List.append_nil, List.take_of_length_le (by omega)]
    exact Ev.neg (by rw [ns_len]; omega) (Ev.cst rfl)
  | succ n ih =>
    intro i l hn hi hl
    cases e : l.drop i with
    | nil =>
      have hk' : l.length ≤ i := by simpa using e
      refine Ev.shift ?_
      simp only [mail_Mask.l0]
      rw [str_ns, maskT_nil, List.append_nil, List.take_of_length_le (by omega)]
      exact Ev.neg (by rw [ns_len]; omega) (Ev.cst rfl)
    | cons c u =>
      obtain ⟨hg, hu, hlt⟩ := drop_get e
      refine Ev.shift ?_
      simp only [mail_Mask.l0]
      rw [rd_ns hg, up (by omega)]
      refine Ev.pos (by rw [ns_len]; omega) (Ev.pos (by omega) (Ev.bindc (dig_f c) ?_))
      by_cases hc : isD c = true
      · refine Ev.pos hc ?_
        have hrun : runL (l.drop i) ≠ 0 := by rw [e, runL_dig hc]; omega
        have hf := runL_fit l i hi
        rw [← e, maskT_after l i c u e hc]
        have hrec := ih (i + runL (l.drop i)) (after l i) (by rw [after_len l i hi]; omega) (by rw [after_len l i hi]; exact hf) (by rw [after_len l i hi]; exact hl)
        generalize ba ((after l i).take (i + runL (l.drop i)) ++ maskT ((after l i).drop (i + runL (l.drop i)))) = R at hrec ⊢
        have h3 := mask_j3 l i hi hl hrun _ hrec
        rw [e, plc_dig hc, digs_dig hc, ← hu] at h3
        have h1 := mask_l1 l hl _ (l.length - (i + 1)) (i + 1) [i] [c] (Nat.le_refl _) (by omega) (by simp) (by simp) h3
        exact h1
      · have hc' : isD c = false := by simpa using hc
        refine Ev.neg hc ?_
        have hrec := ih (i + 1) l (by omega) (by omega) hl
        rw [maskT_non hc', ← hu]
        have et : l.take (i + 1) = l.take i ++ [c] := by rw [List.take_add_one, hg]; rfl
        rw [et, List.append_assoc] at hrec
        exact hrec
theorem mask_f (a : ByteArray) (h : a.size ≤ 1048576) : Ev (fun k => mail_Mask.f k a) (ba (maskT (bl a))) := by
  unfold mail_Mask.f
  have hs := bl_size a
  exact Ev.pos (by omega) (mask_l0 (bl a).length 0 (bl a) (by omega) (by omega) (by omega))
theorem ref_j3 (a : ByteArray) (l : List UInt8) (i : Nat) (hi : i ≤ l.length) (hl : l.length ≤ 1048576) (R : ByteArray) (x7 : Int) (h : Ev (fun q => portref1_MaskedOf.l0 q a (Ns (after l i)) x7) R) :
    Ev (fun q => portref1_MaskedOf.j3 q a (Ns l) (Is (plc i (l.drop i))) (ba (digs (l.drop i))) x7) R := by
  have hf := runL_fit l i hi
  have hpl := plc_len (l.drop i) i
  have hdl : (digs (l.drop i)).length ≤ 1048576 := by
    have h1 := List.length_filter_le isD ((l.drop i).take (runL (l.drop i)))
    rw [List.length_take, List.length_drop] at h1
    show (List.filter isD ((l.drop i).take (runL (l.drop i)))).length ≤ 1048576
    omega
  have hno : ¬ good (digs (l.drop i)) = true → Ev (fun q => portref1_MaskedOf.j4 q a (Ns l) (Is (plc i (l.drop i))) x7 false) R := by
    intro hg
    refine Ev.shift ?_
    simp only [portref1_MaskedOf.j4]
    rw [← after_bad l i hg] at h
    exact Ev.neg (by simp) h
  refine Ev.shift ?_
  simp only [portref1_MaskedOf.j3]
  rw [is_len]
  by_cases h13 : 13 ≤ (digs (l.drop i)).length
  · refine Ev.pos (by omega) ?_
    by_cases h19 : (digs (l.drop i)).length ≤ 19
    · refine Ev.pos (by omega) (Ev.bind (refLuhn_f _ (by omega) (digs_all _)) ?_)
      have hgl : good (digs (l.drop i)) = luhnB (digs (l.drop i)) := by unfold good; rw [decide_eq_true h13, decide_eq_true h19, Bool.true_and, Bool.true_and]
      by_cases hlu : luhnB (digs (l.drop i)) = true
      · rw [hlu]
        refine Ev.shift ?_
        simp only [portref1_MaskedOf.j4, Option.bind_some]
        have e1 : wrap64 ((((Is (plc i (l.drop i))).length : Nat) : Int) - 4) = (((digs (l.drop i)).length - 4 : Nat) : Int) := by rw [is_len, w64 (by omega) (by omega)]; omega
        rw [e1, Int.toNat_natCast, is_take, is_len, is_len]
        refine Ev.pos trivial (Ev.pos (by omega) (Ev.pos (by omega) ?_))
        have hyl : ((plc i (l.drop i)).take ((digs (l.drop i)).length - 4)).length ≤ 1000 := by rw [List.length_take]; omega
        refine ref_l2 a x7 _ hyl R _ 0 l (Nat.zero_add _) (fun p hp => ?_) hl ?_
        · have := plc_lt (l.drop i) i p (List.mem_of_mem_take hp); omega
        · rw [List.drop_zero, after_good l i hi (by rw [hgl]; exact hlu)]
          exact h
      · have hlu' : luhnB (digs (l.drop i)) = false := by simpa using hlu
        rw [hlu']
        exact hno (by rw [hgl]; exact hlu)
    · exact Ev.neg (by omega) (hno (by unfold good; rw [decide_eq_false h19]; simp))
  · exact Ev.neg (by omega) (hno (by unfold good; rw [decide_eq_false h13]; simp))
theorem ref_l0 (a : ByteArray) (ha : a.size ≤ 1048576) (n : Nat) : ∀ (i : Nat) (l : List UInt8), l.length - i ≤ n → i ≤ l.length → l.length = (bl a).length → l.drop i = (bl a).drop i → Ev (fun q => portref1_MaskedOf.l0 q a (Ns l) (i : Int)) (ba (l.take i ++ maskT (l.drop i))) := by
  have hs := bl_size a
  induction n with
  | zero =>
    intro i l hn hi hl hd
    refine Ev.shift ?_
    simp only [portref1_MaskedOf.l0]
    rw [str_ns, List.drop_of_length_le (by omega), maskT_nil, List.append_nil, List.take_of_length_le (by omega)]
    exact Ev.neg (by omega) (Ev.cst rfl)
  | succ n ih =>
    intro i l hn hi hl hd
    cases e : l.drop i with
    | nil =>
      have hk' : l.length ≤ i := by simpa using e
      refine Ev.shift ?_
      simp only [portref1_MaskedOf.l0]
      rw [str_ns, maskT_nil, List.append_nil, List.take_of_length_le (by omega)]
      exact Ev.neg (by omega) (Ev.cst rfl)
    | cons c u =>
      obtain ⟨hg, hu, hlt⟩ := drop_get e
      have e' := hd.symm.trans e
      obtain ⟨hg', hu', hlt'⟩ := drop_get e'
      refine Ev.shift ?_
      simp only [portref1_MaskedOf.l0]
      rw [bt_nat hg', up (by omega)]
      refine Ev.pos (by omega) (Ev.pos (by omega) (Ev.bindc (refDig_f c) ?_))
      by_cases hc : isD c = true
      · refine Ev.pos hc (Ev.pos (by omega) (Ev.pos (by omega) ?_))
        have hrun : runL (l.drop i) ≠ 0 := by rw [e, runL_dig hc]; omega
        have hf := runL_fit l i hi
        rw [← e, maskT_after l i c u e hc]
        have hrec := ih (i + runL (l.drop i)) (after l i) (by rw [after_len l i hi]; omega) (by rw [after_len l i hi]; exact hf) (by rw [after_len l i hi]; exact hl) (by rw [after_drop l i hi, ← List.drop_drop, ← List.drop_drop, hd])
        generalize ba ((after l i).take (i + runL (l.drop i)) ++ maskT ((after l i).drop (i + runL (l.drop i)))) = R at hrec ⊢
        have h3 := ref_j3 a l i hi (by omega) _ _ hrec
        rw [e, plc_dig hc, digs_dig hc, runL_dig hc, ← hu', show i + (runL ((bl a).drop (i + 1)) + 1) = i + 1 + runL ((bl a).drop (i + 1)) by omega] at h3
        have hsn := ba_snoc [] a i c hg'
        have e0 : ba [] ++ a.extract ((i : Int)).toNat (((i + 1 : Nat) : Int)).toNat = a.extract ((i : Int)).toNat (((i + 1 : Nat) : Int)).toNat := bl_inj (by rw [bl_app, bl_ba, List.nil_append])
        rw [e0, List.nil_append] at hsn
        rw [hsn]
        have h1 := ref_l1 a (Ns l) ha _ (a.size - (i + 1)) (i + 1) [i] [c] (Nat.le_refl _) (by omega) (by simp) (by simp) h3
        exact h1
      · have hc' : isD c = false := by simpa using hc
        refine Ev.neg hc ?_
        have hrec := ih (i + 1) l (by omega) (by omega) hl (by rw [← List.drop_drop, ← List.drop_drop, hd])
        rw [maskT_non hc', ← hu]
        have et : l.take (i + 1) = l.take i ++ [c] := by rw [List.take_add_one, hg]; rfl
        rw [et, List.append_assoc] at hrec
        exact hrec
theorem refMask_f (a : ByteArray) (h : a.size ≤ 1048576) : Ev (fun k => portref1_MaskedOf.f k a) (ba (maskT (bl a))) := by
  unfold portref1_MaskedOf.f
  have hs := bl_size a
  exact Ev.pos (by omega) (ref_l0 a h (bl a).length 0 (bl a) (by omega) (by omega) rfl rfl)
end Go.Proofs.YtcljkhhjondhcaaDoor.MaskE
