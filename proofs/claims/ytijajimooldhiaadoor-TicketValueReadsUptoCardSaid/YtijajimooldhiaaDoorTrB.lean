/- The check of a value in both spellings, and a value's text, the printed functions read as plain ones. -/
import Derived.Test.YtijajimooldhiaaDoorTrA
import Derived.Lib.ItoaMem
import Derived.Lib.ItoaLen
namespace Go.Proofs.YtijajimooldhiaaDoor.TrB
open Go.RowKit Go.Proofs.YtijajimooldhiaaDoorW.PrintWords Go.Proofs.YtijajimooldhiaaDoor.Ext Go.Proofs.YtijajimooldhiaaDoor.Kr Go.Proofs.YtijajimooldhiaaDoor.Pl Go.Proofs.YtijajimooldhiaaDoor.TrA
theorem itoa_f (n : Int) (h0 : -1000000000 ≤ n) (h1 : n ≤ 1000000000) : strconv_Itoa.f n = some (ba (Lib.itoa n)) := by
  show itoaF n = _
  unfold itoaF
  rw [if_pos (by omega), if_pos (by omega)]; rfl
theorem itoa_sz (n : Int) (h0 : -1000000000 ≤ n) (h1 : n ≤ 1000000000) : (ba (Lib.itoa n)).size ≤ 21 := by
  rw [ba_size]; exact Lib.itoa_length_le n (by omega) (by omega)
theorem quoted_f (a : ByteArray) (ha : a.size ≤ 200) : ticket_quoted.f a = some (ba (34 :: qAll (bl a) ++ [34])) := by
  show quotedF a = _
  unfold quotedF
  rw [if_pos (by omega)]
/-! ### a value -/
def low (l : List UInt8) : Bool := l.any fun b => decide (b.toNat < 32)
theorem checkText_l0 (a : ByteArray) (ha : a.size ≤ 200) : ∀ d i : Nat, i + d = (bl a).length → Ev (fun k => ticket_checkText.l0 k a (a.size : Int) (i : Int)) (if low ((bl a).drop i) = true then 9 else 0) := by
  have hs := bl_size a
  intro d
  induction d with
  | zero =>
    intro i hi
    refine Ev.shift ?_
    simp only [ticket_checkText.l0]
    rw [List.drop_eq_nil_of_le (by omega)]
    exact Ev.neg (by omega) (Ev.cst rfl)
  | succ d ih =>
    intro i hi
    have hlt : i < (bl a).length := by omega
    refine Ev.shift ?_
    simp only [ticket_checkText.l0]
    refine Ev.pos (by omega) (Ev.pos (by omega) (Ev.pos (by omega) ?_))
    rw [bt_get a hlt, up (by omega), List.drop_eq_getElem_cons hlt]
    unfold low
    rw [List.any_cons]
    by_cases h : (bl a)[i].toNat < 32
    · rw [decide_eq_true h, Bool.true_or]; exact Ev.pos (by omega) (Ev.cst rfl)
    · rw [decide_eq_false h, Bool.false_or]; exact Ev.neg (by omega) (ih (i + 1) (by omega))
theorem below_l0 (a : ByteArray) (ha : a.size ≤ 200) : ∀ d i : Nat, i + d = (bl a).length → Ev (fun k => portref1_Below.l0 k a false (i : Int)) (low ((bl a).drop i)) := by
  have hs := bl_size a
  intro d
  induction d with
  | zero =>
    intro i hi
    refine Ev.shift ?_
    simp only [portref1_Below.l0]
    rw [List.drop_eq_nil_of_le (by omega)]
    exact Ev.neg (by omega) (Ev.cst rfl)
  | succ d ih =>
    intro i hi
    have hlt : i < (bl a).length := by omega
    refine Ev.shift ?_
    simp only [portref1_Below.l0]
    refine Ev.pos (by omega) (Ev.pos (by omega) ?_)
    rw [bt_get a hlt, up (by omega), List.drop_eq_getElem_cons hlt]
    unfold low
    rw [List.any_cons]
    by_cases h : (bl a)[i].toNat < 32
    · rw [decide_eq_true h, Bool.true_or]; exact Ev.pos (by omega) (Ev.neg (by decide) (Ev.cst rfl))
    · rw [decide_eq_false h, Bool.false_or]; exact Ev.neg (by omega) (ih (i + 1) (by omega))
def txtS (a : ByteArray) : Int := if (a.size : Int) > 200 then 4 else (if low (bl a) = true then 9 else 0)
theorem checkText_ev (a : ByteArray) : Ev (fun k => ticket_checkText.f k a) (txtS a) := by
  have hs := bl_size a
  unfold ticket_checkText.f txtS
  by_cases h : (a.size : Int) > 200
  · rw [if_pos h]; exact Ev.pos h (Ev.cst rfl)
  · rw [if_neg h]
    have := checkText_l0 a (by omega) (bl a).length 0 (by omega)
    rw [List.drop_zero] at this
    exact Ev.neg h this
def cleanS (K I : Int) (T : ByteArray) : Bool := if K = 0 then decide (I = 0) && decide (bl T = []) else if K = 3 then decide (I = 0) else decide (bl T = [])
theorem clean_f (K I : Int) (T : ByteArray) : portref1_clean.f K I T = some (cleanS K I T) := by
  unfold portref1_clean.f cleanS
  rw [toList_bl]
  by_cases h0 : K = 0
  · subst h0
    rw [if_pos rfl, if_pos rfl, if_neg (show ¬ (0 : Int) = 3 by decide)]
    by_cases hi : I = 0
    · rw [if_pos hi, decide_eq_true hi, Bool.true_and]
      by_cases ht : bl T = []
      · rw [if_pos ht, decide_eq_true ht]
      · rw [if_neg ht, decide_eq_false ht]
    · rw [if_neg hi, decide_eq_false hi, Bool.false_and]
  · rw [if_neg h0, if_neg h0]
    by_cases h3 : K = 3
    · rw [if_pos h3, if_pos h3]; rfl
    · rw [if_neg h3, if_neg h3]
      by_cases ht : bl T = []
      · rw [if_pos ht, decide_eq_true ht]
      · rw [if_neg ht, decide_eq_false ht]
theorem unused_f (K I : Int) (T : ByteArray) : ticket_unused.f K I T = some (!cleanS K I T) := by
  unfold ticket_unused.f cleanS
  rw [toList_bl]
  by_cases hi : I = 0
  · rw [if_pos hi, decide_eq_true hi]
    by_cases ht : bl T = []
    · rw [if_pos ht, decide_eq_true ht]; simp
    · rw [if_neg ht, decide_eq_false ht]
      by_cases h0 : K = 0
      · subst h0; rfl
      · rw [if_neg h0]
        by_cases h3 : K = 3
        · subst h3; rfl
        · rw [if_neg h3]; simp [h3]
  · rw [if_neg hi, decide_eq_false hi]
    by_cases h0 : K = 0
    · rw [if_pos h0, if_pos h0]; rfl
    · rw [if_neg h0, if_neg h0]
      by_cases h3 : K = 3
      · rw [if_pos h3, if_pos h3]; rfl
      · rw [if_neg h3, if_neg h3]
        by_cases ht : bl T = []
        · rw [if_pos ht, decide_eq_true ht]; rfl
        · rw [if_neg ht, decide_eq_false ht]; simp [h3]
def rngS (K I n : Int) : Bool := if K = 1 then inS I 0 1 else if K = 4 then inS I 0 (wrap64 (n - 1)) else if K = 5 then inS I 0 3000000 else if K = 6 then inS I 1 40 else if K = 2 then inS I (-1000000000) 1000000000 else true
def valS (f1 n K I : Int) (T : ByteArray) : Int := if cleanS K I T = true then (if (decide (K ≠ 0) && (K != f1)) = true then 10 else (if rngS K I n = true then txtS T else 2)) else 1
theorem tail_ev (r : Bool) (T : ByteArray) (b : Bool) (hb : b = r) : Ev (fun n => if b = true then (ticket_checkText.f n T).bind fun t => some t else some 2) (if r = true then txtS T else 2) := by
  subst hb
  cases b with
  | true => exact Ev.pos rfl (Ev.bind (checkText_ev T) (Ev.cst rfl))
  | false => exact Ev.neg (by decide) (Ev.cst rfl)
theorem check_j0 (f0 : ByteArray) (f1 : Int) (f2 : List ByteArray) (f3 K I : Int) (T : ByteArray) (x : Bool) : Ev (fun k => ticket_checkValue.j0 k x f0 f1 f2 f3 K I T) (if x = true then 10 else (if rngS K I (f2.length : Int) = true then txtS T else 2)) := by
  refine Ev.shift ?_
  simp only [ticket_checkValue.j0]
  cases x with
  | true => exact Ev.pos rfl (Ev.cst rfl)
  | false =>
    refine Ev.neg (by decide) ?_
    rw [if_neg (by decide)]
    unfold rngS
    by_cases h1 : K = 1
    · rw [if_pos h1]; exact Ev.pos h1 (Ev.bindc (within_f _ _ _) (tail_ev _ _ _ rfl))
    rw [if_neg h1]
    refine Ev.neg h1 ?_
    by_cases h4 : K = 4
    · rw [if_pos h4]; exact Ev.pos h4 (Ev.bindc (within_f _ _ _) (tail_ev _ _ _ rfl))
    rw [if_neg h4]
    refine Ev.neg h4 ?_
    by_cases h5 : K = 5
    · rw [if_pos h5]; exact Ev.pos h5 (Ev.bindc (within_f _ _ _) (tail_ev _ _ _ rfl))
    rw [if_neg h5]
    refine Ev.neg h5 ?_
    by_cases h6 : K = 6
    · rw [if_pos h6]; exact Ev.pos h6 (Ev.bindc (within_f _ _ _) (tail_ev _ _ _ rfl))
    rw [if_neg h6]
    refine Ev.neg h6 ?_
    by_cases h2 : K = 2
    · rw [if_pos h2]; exact Ev.pos h2 (Ev.bindc (within_f _ _ _) (tail_ev _ _ _ rfl))
    rw [if_neg h2, if_pos rfl]
    exact Ev.neg h2 (Ev.bind (checkText_ev T) (Ev.cst rfl))
theorem checkValue_ev (f0 : ByteArray) (f1 : Int) (f2 : List ByteArray) (f3 K I : Int) (T : ByteArray) : Ev (fun k => ticket_checkValue.f k f0 f1 f2 f3 K I T) (valS f1 (f2.length : Int) K I T) := by
  unfold ticket_checkValue.f valS
  refine Ev.bindc (unused_f K I T) ?_
  cases hc : cleanS K I T with
  | false => exact Ev.pos rfl (Ev.cst rfl)
  | true =>
    refine Ev.neg (by decide) ?_
    rw [if_pos rfl]
    by_cases h0 : K = 0
    · rw [decide_eq_false (fun q => q h0), Bool.false_and]
      exact Ev.pos h0 (check_j0 _ _ _ _ _ _ _ _)
    · rw [decide_eq_true h0, Bool.true_and]
      exact Ev.neg h0 (check_j0 _ _ _ _ _ _ _ _)
theorem ref_j1 (K I : Int) (T : ByteArray) (b : Bool) : Ev (fun k => portref1_ValueError.j1 k b K I T) (if b = true then txtS T else 2) := by
  have hs := bl_size T
  refine Ev.shift ?_
  simp only [portref1_ValueError.j1]
  cases b with
  | false => exact Ev.neg (by decide) (Ev.cst rfl)
  | true =>
    refine Ev.pos rfl ?_
    rw [if_pos rfl]
    unfold txtS
    by_cases h : (T.size : Int) > 200
    · rw [if_pos h]; exact Ev.pos h (Ev.cst rfl)
    · rw [if_neg h]
      have := below_l0 T (by omega) (bl T).length 0 (by omega)
      rw [List.drop_zero] at this
      refine Ev.neg h (Ev.bind this ?_)
      by_cases hl : low (bl T) = true
      · refine Ev.pos hl ?_
        rw [if_pos hl]; exact Ev.cst rfl
      · refine Ev.neg hl ?_
        rw [if_neg hl]; exact Ev.cst rfl
theorem ref_j0 (f0 : ByteArray) (f1 : Int) (f2 : List ByteArray) (f3 K I : Int) (T : ByteArray) (x : Bool) : Ev (fun k => portref1_ValueError.j0 k x f0 f1 f2 f3 K I T) (if x = true then 10 else (if rngS K I (f2.length : Int) = true then txtS T else 2)) := by
  refine Ev.shift ?_
  simp only [portref1_ValueError.j0]
  cases x with
  | true => exact Ev.pos rfl (Ev.cst rfl)
  | false =>
    refine Ev.neg (by decide) ?_
    rw [if_neg (by decide)]
    unfold rngS
    by_cases h1 : K = 1
    · rw [if_pos h1]; exact Ev.pos h1 (Ev.bindc (inRange_f _ _ _) (ref_j1 _ _ _ _))
    rw [if_neg h1]
    refine Ev.neg h1 ?_
    by_cases h4 : K = 4
    · rw [if_pos h4]; exact Ev.pos h4 (Ev.bindc (inRange_f _ _ _) (ref_j1 _ _ _ _))
    rw [if_neg h4]
    refine Ev.neg h4 ?_
    by_cases h5 : K = 5
    · rw [if_pos h5]; exact Ev.pos h5 (Ev.bindc (inRange_f _ _ _) (ref_j1 _ _ _ _))
    rw [if_neg h5]
    refine Ev.neg h5 ?_
    by_cases h6 : K = 6
    · rw [if_pos h6]; exact Ev.pos h6 (Ev.bindc (inRange_f _ _ _) (ref_j1 _ _ _ _))
    rw [if_neg h6]
    refine Ev.neg h6 ?_
    by_cases h2 : K = 2
    · rw [if_pos h2]; exact Ev.pos h2 (Ev.bindc (inRange_f _ _ _) (ref_j1 _ _ _ _))
    rw [if_neg h2]
    exact Ev.neg h2 (ref_j1 _ _ _ true)
theorem valueError_ev (f0 : ByteArray) (f1 : Int) (f2 : List ByteArray) (f3 K I : Int) (T : ByteArray) : Ev (fun k => portref1_ValueError.f k f0 f1 f2 f3 K I T) (valS f1 (f2.length : Int) K I T) := by
  unfold portref1_ValueError.f valS
  refine Ev.bindc (clean_f K I T) ?_
  cases hc : cleanS K I T with
  | false => exact Ev.neg (by decide) (Ev.cst rfl)
  | true =>
    refine Ev.pos rfl ?_
    rw [if_pos rfl]
    by_cases h0 : K = 0
    · rw [decide_eq_false (fun q => q h0), Bool.false_and]
      exact Ev.pos h0 (ref_j0 _ _ _ _ _ _ _ _)
    · rw [decide_eq_true h0, Bool.true_and]
      exact Ev.neg h0 (ref_j0 _ _ _ _ _ _ _ _)
/-! ### a value as a string -/
theorem inS_iff {a b c : Int} : inS a b c = true ↔ b ≤ a ∧ a ≤ c := by unfold inS; simp
def txtV (f2 : List ByteArray) (K I : Int) (T : ByteArray) : List UInt8 :=
  if K = 0 then [45] else if K = 1 then (if I = 1 then [121, 101, 115] else [110, 111]) else if K = 3 then 34 :: qAll (bl T) ++ [34] else if K = 4 then bl (f2.getD I.toNat ByteArray.empty) else if K = 5 then 64 :: Lib.itoa I else if K = 6 then 35 :: Lib.itoa I else Lib.itoa I
theorem text_f (f0 : ByteArray) (f1 : Int) (f2 : List ByteArray) (f3 K I : Int) (T : ByteArray) (hf : 1 ≤ f1 ∧ f1 ≤ 6) (hn : f2.length ≤ 9223372036854775807) (hv : valS f1 (f2.length : Int) K I T = 0) :
    ticket_valueText.f f0 f1 f2 f3 K I T = some (ba (txtV f2 K I T)) := by
  unfold valS at hv
  by_cases hc : cleanS K I T = true
  · rw [if_pos hc] at hv
    by_cases hk : (decide (K ≠ 0) && (K != f1)) = true
    · rw [if_pos hk] at hv; cases hv
    rw [if_neg hk] at hv
    by_cases hr : rngS K I (f2.length : Int) = true
    · rw [if_pos hr] at hv
      have hsz : T.size ≤ 200 := by
        unfold txtS at hv
        by_cases h : (T.size : Int) > 200
        · rw [if_pos h] at hv; cases hv
        · omega
      have hK : K = 0 ∨ K = f1 := by
        by_cases h : K = 0
        · exact .inl h
        · refine .inr (Classical.byContradiction fun q => hk ?_)
          rw [decide_eq_true h, Bool.true_and]; exact bne_iff_ne.2 q
      unfold ticket_valueText.f txtV
      unfold rngS at hr
      by_cases h0 : K = 0
      · rw [if_pos h0, if_pos h0]; rfl
      rw [if_neg h0, if_neg h0]
      by_cases h1 : K = 1
      · rw [if_pos h1, if_pos h1]
        by_cases hi : I = 1
        · rw [if_pos hi, if_pos hi]; rfl
        · rw [if_neg hi, if_neg hi]; rfl
      rw [if_neg h1] at hr
      rw [if_neg h1, if_neg h1]
      by_cases h3 : K = 3
      · rw [if_pos h3, if_pos h3, quoted_f T hsz]; rfl
      rw [if_neg h3, if_neg h3]
      by_cases h4 : K = 4
      · rw [if_pos h4, inS_iff, w64 (by omega) (by omega)] at hr
        rw [if_pos h4, if_pos h4, if_pos hr.1, if_pos (by omega), ba_bl]; rfl
      rw [if_neg h4] at hr
      rw [if_neg h4, if_neg h4]
      by_cases h5 : K = 5
      · rw [if_pos h5, inS_iff] at hr
        have hz := itoa_sz I (by omega) (by omega)
        rw [if_pos h5, if_pos h5, itoa_f I (by omega) (by omega), Option.bind_some, if_pos (by omega)]
        exact congrArg some (eq_ba (by rw [bl_app, bl_ba]; rfl))
      rw [if_neg h5] at hr
      rw [if_neg h5, if_neg h5]
      by_cases h6 : K = 6
      · rw [if_pos h6, inS_iff] at hr
        have hz := itoa_sz I (by omega) (by omega)
        rw [if_pos h6, if_pos h6, itoa_f I (by omega) (by omega), Option.bind_some, if_pos (by omega)]
        exact congrArg some (eq_ba (by rw [bl_app, bl_ba]; rfl))
      rw [if_neg h6] at hr
      rw [if_neg h6, if_neg h6]
      have h2 : K = 2 := by omega
      rw [if_pos h2, inS_iff] at hr
      rw [itoa_f I (by omega) (by omega)]; rfl
    · rw [if_neg hr] at hv; cases hv
  · rw [if_neg hc] at hv; cases hv
/-! ### the law -/
theorem fieldOf_ev (l : List S32) (hx : ∀ x ∈ l, Fit x) (a1 : Int) : Ev (fun k => ticket_fieldOf.f k l a1)
    (if fmS l = 0 then (if inS a1 0 (wrap64 ((l.length : Int) - 1)) = true then ((rd_T32 l a1).f0, (rd_T32 l a1).f1, (rd_T32 l a1).f2, (rd_T32 l a1).f3, 0) else ((⟨#[]⟩ : ByteArray), 0, ([] : List ByteArray), 0, 7)) else ((⟨#[]⟩ : ByteArray), 0, ([] : List ByteArray), 0, fmS l)) := by
  unfold ticket_fieldOf.f
  refine Ev.bind (checkForm_ev l hx) ?_
  by_cases h : fmS l = 0
  · refine Ev.pos h (Ev.bindc (within_f _ _ _) ?_)
    rw [if_pos h]
    by_cases h2 : inS a1 0 (wrap64 ((l.length : Int) - 1)) = true
    · have hl : l.length ≤ 20 := by
        unfold fmS at h
        by_cases a : (l.length : Int) > 20
        · rw [if_pos a] at h; cases h
        · omega
      have h3 := inS_iff.1 h2
      rw [w64 (by omega) (by omega)] at h3
      refine Ev.pos h2 (Ev.pos h3.1 (Ev.pos (by omega) ?_))
      rw [if_pos h2]; exact Ev.cst rfl
    · refine Ev.neg h2 ?_
      rw [if_neg h2]; exact Ev.cst rfl
  · refine Ev.neg h ?_
    rw [if_neg h]; exact Ev.cst rfl
theorem fault_ev (l : List S32) (hx : ∀ x ∈ l, Fit x) (a1 : Int) : Ev (fun k => portlaw1_fieldFault.f k l a1) (if fmS l = 0 then (if 0 ≤ a1 ∧ a1 < (l.length : Int) then 0 else 7) else fmS l) := by
  unfold portlaw1_fieldFault.f
  refine Ev.bind (formError_ev l hx) ?_
  by_cases h : fmS l = 0
  · refine Ev.pos h ?_
    rw [if_pos h]
    by_cases h1 : a1 < 0
    · rw [if_neg (show ¬ (0 ≤ a1 ∧ a1 < (l.length : Int)) by omega)]; exact Ev.pos h1 (Ev.cst rfl)
    · refine Ev.neg h1 ?_
      by_cases h2 : a1 ≥ (l.length : Int)
      · rw [if_neg (show ¬ (0 ≤ a1 ∧ a1 < (l.length : Int)) by omega)]; exact Ev.pos h2 (Ev.cst rfl)
      · rw [if_pos (show 0 ≤ a1 ∧ a1 < (l.length : Int) by omega)]; exact Ev.neg h2 (Ev.cst rfl)
  · refine Ev.neg h ?_
    rw [if_neg h]; exact Ev.cst rfl
end Go.Proofs.YtijajimooldhiaaDoor.TrB
