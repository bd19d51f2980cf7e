/- The pure statement of TicketValues: for every form, field and value whose strings a machine's int can measure the printed law answers true. -/
import Derived.Test.YtijajimooldhiaaDoorTvA
import Derived.Lib.ItoaMem
import Derived.Lib.ItoaLen
namespace Go.Proofs.YtijajimooldhiaaDoor.TvB
open Go.RowKit Go.Proofs.YtijajimooldhiaaDoorW.PrintWords Go.Proofs.YtijajimooldhiaaDoor.Ext Go.Proofs.YtijajimooldhiaaDoor.Kv Go.Proofs.YtijajimooldhiaaDoor.Pl Go.Proofs.YtijajimooldhiaaDoor.TvA
/-! ### told -/
theorem told_ev (n : Nat) : n ≤ 9223372036854775807 → Ev (fun k => portref1_told.f k (n : Int)) (ba (dec n)) := by
  induction n using Nat.strongRecOn with
  | _ n ih =>
    intro hn
    refine Ev.shift ?_
    simp only [portref1_told.f]
    refine Ev.neg (by omega) ?_
    by_cases h : n < 10
    · refine Ev.pos (by omega) ?_
      rw [w64 (by omega) (by omega)]
      refine Ev.cst (congrArg some (eq_ba ?_))
      rw [dec_small h, show bl (strOfNums [(48 + (n : Int)) % 256]) = [UInt8.ofNat ((48 + (n : Int)) % 256).toNat] from rfl, show ((48 + (n : Int)) % 256).toNat = 48 + n by omega]
    · refine Ev.neg (by omega) ?_
      have e1 : wrap64 (Int.tdiv (n : Int) 10) = ((n / 10 : Nat) : Int) := by
        rw [Int.tdiv_eq_ediv_of_nonneg (by omega), w64 (by omega) (by omega)]; omega
      have e2 : Int.tmod (n : Int) 10 = ((n % 10 : Nat) : Int) := by rw [Int.tmod_eq_emod_of_nonneg (by omega)]; omega
      rw [e1, e2]
      refine Ev.bind (ih (n / 10) (by omega) (by omega)) ?_
      refine Ev.bind (ih (n % 10) (by omega) (by omega)) ?_
      have l1 : (dec (n / 10)).length ≤ 19 := dec_len (k := 18) (by omega)
      have l2 : (dec (n % 10)).length ≤ 1 := dec_len (k := 0) (by omega)
      refine Ev.pos (by rw [ba_size, ba_size]; omega) ?_
      refine Ev.cst (congrArg some (eq_ba ?_))
      rw [bl_app, bl_ba, bl_ba, dec_big h, dec_small (n := n % 10) (by omega)]
theorem told_int (n : Int) (h0 : -1000000000 ≤ n) (h1 : n ≤ 1000000000) : Ev (fun k => portref1_told.f k n) (ba (Lib.itoa n)) := by
  by_cases h : n < 0
  · obtain ⟨m, rfl⟩ : ∃ m : Nat, n = -(m : Int) := ⟨n.natAbs, by omega⟩
    refine Ev.shift ?_
    simp only [portref1_told.f]
    refine Ev.pos h ?_
    rw [show wrap64 (-(-(m : Int))) = (m : Int) by rw [w64 (by omega) (by omega)]; omega]
    refine Ev.bind (told_ev m (by omega)) ?_
    have l1 : (dec m).length ≤ 10 := dec_len (k := 9) (by omega)
    refine Ev.pos (by rw [ba_size]; omega) (Ev.cst (congrArg some (eq_ba ?_)))
    rw [bl_app, bl_ba, Lib.itoa_neg m (by omega)]; rfl
  · obtain ⟨m, rfl⟩ : ∃ m : Nat, n = (m : Int) := ⟨n.toNat, by omega⟩
    refine Ev.val (told_ev m (by omega)) ?_
    rw [Lib.itoa_nonneg]
theorem itoa_f (n : Int) (h0 : -1000000000 ≤ n) (h1 : n ≤ 1000000000) : strconv_Itoa.f n = some (ba (Lib.itoa n)) := by
  show itoaF n = _
  unfold itoaF
  rw [if_pos (by omega), if_pos (by omega)]; rfl
theorem itoa_sz (n : Int) (h0 : -1000000000 ≤ n) (h1 : n ≤ 1000000000) : (ba (Lib.itoa n)).size ≤ 21 := by
  rw [ba_size]; exact Lib.itoa_length_le n (by omega) (by omega)
/-! ### quoted -/
theorem s1 (b : UInt8) : (⟨#[b]⟩ : ByteArray).size = 1 := rfl
theorem cut1 (a : ByteArray) {i : Nat} (h : i < (bl a).length) : a.extract i (i + 1) = ba [(bl a)[i]'h] := by
  refine eq_ba ?_
  rw [bl_cut, show i + 1 - i = 1 by omega, List.drop_eq_getElem_cons h]; rfl
theorem quoted_l0 (a : ByteArray) (ha : a.size ≤ 200) : ∀ (d i : Nat) (acc : List UInt8), i + d = (bl a).length → acc.length ≤ 1 + 2 * i →
    Ev (fun k => portref1_quoted.l0 k a (ba acc) (i : Int)) (ba (acc ++ qAll ((bl a).drop i) ++ [34])) := by
  have hs := bl_size a
  intro d
  induction d with
  | zero =>
    intro i acc hi hc
    refine Ev.shift ?_
    simp only [portref1_quoted.l0]
    refine Ev.neg (by omega) (Ev.pos (by rw [ba_size]; omega) (Ev.cst (congrArg some (eq_ba ?_))))
    rw [List.drop_eq_nil_of_le (by omega), bl_app, bl_ba]
    show _ = acc ++ [] ++ [34]
    rw [List.append_nil]
  | succ d ih =>
    intro i acc hi hc
    have hlt : i < (bl a).length := by omega
    refine Ev.shift ?_
    simp only [portref1_quoted.l0]
    have hz := ba_size acc
    have IH := ih (i + 1) (acc ++ qB (bl a)[i]) (by omega) (by
      have : (qB (bl a)[i]).length ≤ 2 := by unfold qB; split <;> simp
      rw [List.length_append]; omega)
    have e : acc ++ qAll ((bl a).drop i) ++ [34] = acc ++ qB (bl a)[i] ++ qAll ((bl a).drop (i + 1)) ++ [34] := by
      rw [List.drop_eq_getElem_cons hlt]
      unfold qAll
      rw [List.flatMap_cons]; simp
    rw [e, bt_get a hlt, up (by omega)]
    simp only [Int.toNat_natCast]
    rw [cut1 a hlt]
    have hz1 : (ba [(bl a)[i]]).size = 1 := ba_size _
    have hz2 : (ba acc ++ (⟨#[92]⟩ : ByteArray)).size = acc.length + 1 := by rw [ByteArray.size_append, hz]; rfl
    refine Ev.pos (by omega) (Ev.pos (by omega) ?_)
    have esc : (bl a)[i] = 34 ∨ (bl a)[i] = 92 → Ev (fun k => portref1_quoted.l0 k a (ba acc ++ (⟨#[92]⟩ : ByteArray) ++ ba [(bl a)[i]]) ((i + 1 : Nat) : Int)) (ba (acc ++ qB (bl a)[i] ++ qAll ((bl a).drop (i + 1)) ++ [34])) := by
      intro h
      have : ba acc ++ (⟨#[92]⟩ : ByteArray) ++ ba [(bl a)[i]] = ba (acc ++ qB (bl a)[i]) := eq_ba (by
        rw [bl_app, bl_app, bl_ba, bl_ba]; unfold qB; rw [if_pos h, List.append_assoc]; rfl)
      rw [this]; exact IH
    by_cases h1 : (bl a)[i] = 34
    · refine Ev.pos (by rw [h1]; rfl) (Ev.pos (by omega) (Ev.pos (by omega) (Ev.pos (by omega) (Ev.pos (by omega) (esc (.inl h1))))))
    · refine Ev.neg (fun q => h1 (UInt8.toNat_inj.1 (by show _ = 34; omega))) ?_
      by_cases h2 : (bl a)[i] = 92
      · refine Ev.pos (by rw [h2]; rfl) (Ev.pos (by omega) (Ev.pos (by omega) (Ev.pos (by omega) (Ev.pos (by omega) (esc (.inr h2))))))
      · refine Ev.neg (fun q => h2 (UInt8.toNat_inj.1 (by show _ = 92; omega))) (Ev.pos (by omega) (Ev.pos (by omega) (Ev.pos (by omega) ?_)))
        have : ba acc ++ ba [(bl a)[i]] = ba (acc ++ qB (bl a)[i]) := eq_ba (by
          rw [bl_app, bl_ba, bl_ba]; unfold qB; rw [if_neg (fun h => h.elim h1 h2)])
        rw [this]; exact IH
theorem quoted_ev (a : ByteArray) (ha : a.size ≤ 200) : Ev (fun k => portref1_quoted.f k a) (ba (34 :: qAll (bl a) ++ [34])) := by
  have := quoted_l0 a ha (bl a).length 0 [34] (by omega) (by simp)
  rw [List.drop_zero] at this
  exact this
theorem quoted_f (a : ByteArray) (ha : a.size ≤ 200) : ticket_quoted.f a = some (ba (34 :: qAll (bl a) ++ [34])) := by
  show quotedF a = _
  unfold quotedF
  rw [if_pos (by omega)]
/-! ### a value -/
def low (l : List UInt8) : Bool := l.any fun b => decide (b.toNat < 32)
theorem checkText_l0 (a : ByteArray) (ha : a.size ≤ 200) : ∀ d i : Nat, i + d = (bl a).length → Ev (fun k => ticket_checkText.l0 k a (a.size : Int) (i : Int)) (if low ((bl a).drop i) = true then 9 else 0) := by
  have hs := bl_size a
  intro d
  induction d with
  | zero =>
    intro i hi
    refine Ev.shift ?_
    simp only [ticket_checkText.l0]
    rw [List.drop_eq_nil_of_le (by omega)]
    exact Ev.neg (by omega) (Ev.cst rfl)
  | succ d ih =>
    intro i hi
    have hlt : i < (bl a).length := by omega
    refine Ev.shift ?_
    simp only [ticket_checkText.l0]
    refine Ev.pos (by omega) (Ev.pos (by omega) (Ev.pos (by omega) ?_))
    rw [bt_get a hlt, up (by omega), List.drop_eq_getElem_cons hlt]
    unfold low
    rw [List.any_cons]
    by_cases h : (bl a)[i].toNat < 32
    · rw [decide_eq_true h, Bool.true_or]; exact Ev.pos (by omega) (Ev.cst rfl)
    · rw [decide_eq_false h, Bool.false_or]; exact Ev.neg (by omega) (ih (i + 1) (by omega))
theorem below_l0 (a : ByteArray) (ha : a.size ≤ 200) : ∀ d i : Nat, i + d = (bl a).length → Ev (fun k => portref1_Below.l0 k a false (i : Int)) (low ((bl a).drop i)) := by
  have hs := bl_size a
  intro d
  induction d with
  | zero =>
    intro i hi
    refine Ev.shift ?_
    simp only [portref1_Below.l0]
    rw [List.drop_eq_nil_of_le (by omega)]
    exact Ev.neg (by omega) (Ev.cst rfl)
  | succ d ih =>
    intro i hi
    have hlt : i < (bl a).length := by omega
    refine Ev.shift ?_
    simp only [portref1_Below.l0]
    refine Ev.pos (by omega) (Ev.pos (by omega) ?_)
    rw [bt_get a hlt, up (by omega), List.drop_eq_getElem_cons hlt]
    unfold low
    rw [List.any_cons]
    by_cases h : (bl a)[i].toNat < 32
    · rw [decide_eq_true h, Bool.true_or]; exact Ev.pos (by omega) (Ev.neg (by decide) (Ev.cst rfl))
    · rw [decide_eq_false h, Bool.false_or]; exact Ev.neg (by omega) (ih (i + 1) (by omega))
def txtS (a : ByteArray) : Int := if (a.size : Int) > 200 then 4 else (if low (bl a) = true then 9 else 0)
theorem checkText_ev (a : ByteArray) : Ev (fun k => ticket_checkText.f k a) (txtS a) := by
  have hs := bl_size a
  unfold ticket_checkText.f txtS
  by_cases h : (a.size : Int) > 200
  · rw [if_pos h]; exact Ev.pos h (Ev.cst rfl)
  · rw [if_neg h]
    have := checkText_l0 a (by omega) (bl a).length 0 (by omega)
    rw [List.drop_zero] at this
    exact Ev.neg h this
def cleanS (K I : Int) (T : ByteArray) : Bool := if K = 0 then decide (I = 0) && decide (bl T = []) else if K = 3 then decide (I = 0) else decide (bl T = [])
theorem clean_f (K I : Int) (T : ByteArray) : portref1_clean.f K I T = some (cleanS K I T) := by
  unfold portref1_clean.f cleanS
  rw [toList_bl]
  by_cases h0 : K = 0
  · subst h0
    rw [if_pos rfl, if_pos rfl, if_neg (show ¬ (0 : Int) = 3 by decide)]
    by_cases hi : I = 0
    · rw [if_pos hi, decide_eq_true hi, Bool.true_and]
      by_cases ht : bl T = []
      · rw [if_pos ht, decide_eq_true ht]
      · rw [if_neg ht, decide_eq_false ht]
    · rw [if_neg hi, decide_eq_false hi, Bool.false_and]
  · rw [if_neg h0, if_neg h0]
    by_cases h3 : K = 3
    · rw [if_pos h3, if_pos h3]; rfl
    · rw [if_neg h3, if_neg h3]
      by_cases ht : bl T = []
      · rw [if_pos ht, decide_eq_true ht]
      · rw [if_neg ht, decide_eq_false ht]
theorem unused_f (K I : Int) (T : ByteArray) : ticket_unused.f K I T = some (!cleanS K I T) := by
  unfold ticket_unused.f cleanS
  rw [toList_bl]
  by_cases hi : I = 0
  · rw [if_pos hi, decide_eq_true hi]
    by_cases ht : bl T = []
    · rw [if_pos ht, decide_eq_true ht]; simp
    · rw [if_neg ht, decide_eq_false ht]
      by_cases h0 : K = 0
      · subst h0; rfl
      · rw [if_neg h0]
        by_cases h3 : K = 3
        · subst h3; rfl
        · rw [if_neg h3]; simp [h3]
  · rw [if_neg hi, decide_eq_false hi]
    by_cases h0 : K = 0
    · rw [if_pos h0, if_pos h0]; rfl
    · rw [if_neg h0, if_neg h0]
      by_cases h3 : K = 3
      · rw [if_pos h3, if_pos h3]; rfl
      · rw [if_neg h3, if_neg h3]
        by_cases ht : bl T = []
        · rw [if_pos ht, decide_eq_true ht]; rfl
        · rw [if_neg ht, decide_eq_false ht]; simp [h3]
def rngS (K I n : Int) : Bool := if K = 1 then inS I 0 1 else if K = 4 then inS I 0 (wrap64 (n - 1)) else if K = 5 then inS I 0 3000000 else if K = 6 then inS I 1 40 else if K = 2 then inS I (-1000000000) 1000000000 else true
def valS (f1 n K I : Int) (T : ByteArray) : Int := if cleanS K I T = true then (if (decide (K ≠ 0) && (K != f1)) = true then 10 else (if rngS K I n = true then txtS T else 2)) else 1
theorem tail_ev (r : Bool) (T : ByteArray) (b : Bool) (hb : b = r) : Ev (fun n => if b = true then (ticket_checkText.f n T).bind fun t => some t else some 2) (if r = true then txtS T else 2) := by
  subst hb
  cases b with
  | true => exact Ev.pos rfl (Ev.bind (checkText_ev T) (Ev.cst rfl))
  | false => exact Ev.neg (by decide) (Ev.cst rfl)
theorem check_j0 (f0 : ByteArray) (f1 : Int) (f2 : List ByteArray) (f3 K I : Int) (T : ByteArray) (x : Bool) : Ev (fun k => ticket_checkValue.j0 k x f0 f1 f2 f3 K I T) (if x = true then 10 else (if rngS K I (f2.length : Int) = true then txtS T else 2)) := by
  refine Ev.shift ?_
  simp only [ticket_checkValue.j0]
  cases x with
  | true => exact Ev.pos rfl (Ev.cst rfl)
  | false =>
    refine Ev.neg (by decide) ?_
    rw [if_neg (by decide)]
    unfold rngS
    by_cases h1 : K = 1
    · rw [if_pos h1]; exact Ev.pos h1 (Ev.bindc (within_f _ _ _) (tail_ev _ _ _ rfl))
    rw [if_neg h1]
    refine Ev.neg h1 ?_
    by_cases h4 : K = 4
    · rw [if_pos h4]; exact Ev.pos h4 (Ev.bindc (within_f _ _ _) (tail_ev _ _ _ rfl))
    rw [if_neg h4]
    refine Ev.neg h4 ?_
    by_cases h5 : K = 5
    · rw [if_pos h5]; exact Ev.pos h5 (Ev.bindc (within_f _ _ _) (tail_ev _ _ _ rfl))
    rw [if_neg h5]
    refine Ev.neg h5 ?_
    by_cases h6 : K = 6
    · rw [if_pos h6]; exact Ev.pos h6 (Ev.bindc (within_f _ _ _) (tail_ev _ _ _ rfl))
    rw [if_neg h6]
    refine Ev.neg h6 ?_
    by_cases h2 : K = 2
    · rw [if_pos h2]; exact Ev.pos h2 (Ev.bindc (within_f _ _ _) (tail_ev _ _ _ rfl))
    rw [if_neg h2, if_pos rfl]
    exact Ev.neg h2 (Ev.bind (checkText_ev T) (Ev.cst rfl))
theorem checkValue_ev (f0 : ByteArray) (f1 : Int) (f2 : List ByteArray) (f3 K I : Int) (T : ByteArray) : Ev (fun k => ticket_checkValue.f k f0 f1 f2 f3 K I T) (valS f1 (f2.length : Int) K I T) := by
  unfold ticket_checkValue.f valS
  refine Ev.bindc (unused_f K I T) ?_
  cases hc : cleanS K I T with
  | false => exact Ev.pos rfl (Ev.cst rfl)
  | true =>
    refine Ev.neg (by decide) ?_
    rw [if_pos rfl]
    by_cases h0 : K = 0
    · rw [decide_eq_false (fun q => q h0), Bool.false_and]
      exact Ev.pos h0 (check_j0 _ _ _ _ _ _ _ _)
    · rw [decide_eq_true h0, Bool.true_and]
      exact Ev.neg h0 (check_j0 _ _ _ _ _ _ _ _)
theorem ref_j1 (K I : Int) (T : ByteArray) (b : Bool) : Ev (fun k => portref1_ValueError.j1 k b K I T) (if b = true then txtS T else 2) := by
  have hs := bl_size T
  refine Ev.shift ?_
  simp only [portref1_ValueError.j1]
  cases b with
  | false => exact Ev.neg (by decide) (Ev.cst rfl)
  | true =>
    refine Ev.pos rfl ?_
    rw [if_pos rfl]
    unfold txtS
    by_cases h : (T.size : Int) > 200
    · rw [if_pos h]; exact Ev.pos h (Ev.cst rfl)
    · rw [if_neg h]
      have := below_l0 T (by omega) (bl T).length 0 (by omega)
      rw [List.drop_zero] at this
      refine Ev.neg h (Ev.bind this ?_)
      by_cases hl : low (bl T) = true
      · refine Ev.pos hl ?_
        rw [if_pos hl]; exact Ev.cst rfl
      · refine Ev.neg hl ?_
        rw [if_neg hl]; exact Ev.cst rfl
theorem ref_j0 (f0 : ByteArray) (f1 : Int) (f2 : List ByteArray) (f3 K I : Int) (T : ByteArray) (x : Bool) : Ev (fun k => portref1_ValueError.j0 k x f0 f1 f2 f3 K I T) (if x = true then 10 else (if rngS K I (f2.length : Int) = true then txtS T else 2)) := by
  refine Ev.shift ?_
  simp only [portref1_ValueError.j0]
  cases x with
  | true => exact Ev.pos rfl (Ev.cst rfl)
  | false =>
    refine Ev.neg (by decide) ?_
    rw [if_neg (by decide)]
    unfold rngS
    by_cases h1 : K = 1
    · rw [if_pos h1]; exact Ev.pos h1 (Ev.bindc (inRange_f _ _ _) (ref_j1 _ _ _ _))
    rw [if_neg h1]
    refine Ev.neg h1 ?_
    by_cases h4 : K = 4
    · rw [if_pos h4]; exact Ev.pos h4 (Ev.bindc (inRange_f _ _ _) (ref_j1 _ _ _ _))
    rw [if_neg h4]
    refine Ev.neg h4 ?_
    by_cases h5 : K = 5
    · rw [if_pos h5]; exact Ev.pos h5 (Ev.bindc (inRange_f _ _ _) (ref_j1 _ _ _ _))
    rw [if_neg h5]
    refine Ev.neg h5 ?_
    by_cases h6 : K = 6
    · rw [if_pos h6]; exact Ev.pos h6 (Ev.bindc (inRange_f _ _ _) (ref_j1 _ _ _ _))
    rw [if_neg h6]
    refine Ev.neg h6 ?_
    by_cases h2 : K = 2
    · rw [if_pos h2]; exact Ev.pos h2 (Ev.bindc (inRange_f _ _ _) (ref_j1 _ _ _ _))
    rw [if_neg h2]
    exact Ev.neg h2 (ref_j1 _ _ _ true)
theorem valueError_ev (f0 : ByteArray) (f1 : Int) (f2 : List ByteArray) (f3 K I : Int) (T : ByteArray) : Ev (fun k => portref1_ValueError.f k f0 f1 f2 f3 K I T) (valS f1 (f2.length : Int) K I T) := by
  unfold portref1_ValueError.f valS
  refine Ev.bindc (clean_f K I T) ?_
  cases hc : cleanS K I T with
  | false => exact Ev.neg (by decide) (Ev.cst rfl)
  | true =>
    refine Ev.pos rfl ?_
    rw [if_pos rfl]
    by_cases h0 : K = 0
    · rw [decide_eq_false (fun q => q h0), Bool.false_and]
      exact Ev.pos h0 (ref_j0 _ _ _ _ _ _ _ _)
    · rw [decide_eq_true h0, Bool.true_and]
      exact Ev.neg h0 (ref_j0 _ _ _ _ _ _ _ _)
/-! ### a value as a string -/
theorem inS_iff {a b c : Int} : inS a b c = true ↔ b ≤ a ∧ a ≤ c := by unfold inS; simp
theorem text_ev (f0 : ByteArray) (f1 : Int) (f2 : List ByteArray) (f3 K I : Int) (T : ByteArray) (hf : 1 ≤ f1 ∧ f1 ≤ 6) (hn : f2.length ≤ 9223372036854775807) (hv : valS f1 (f2.length : Int) K I T = 0) :
    ∃ s, ticket_valueText.f f0 f1 f2 f3 K I T = some s ∧ Ev (fun k => portref1_ValueString.f k f0 f1 f2 f3 K I T) s := by
  unfold valS at hv
  by_cases hc : cleanS K I T = true
  · rw [if_pos hc] at hv
    by_cases hk : (decide (K ≠ 0) && (K != f1)) = true
    · rw [if_pos hk] at hv; cases hv
    rw [if_neg hk] at hv
    by_cases hr : rngS K I (f2.length : Int) = true
    · rw [if_pos hr] at hv
      have hsz : T.size ≤ 200 := by
        unfold txtS at hv
        by_cases h : (T.size : Int) > 200
        · rw [if_pos h] at hv; cases hv
        · omega
      have hK : K = 0 ∨ K = f1 := by
        by_cases h : K = 0
        · exact .inl h
        · refine .inr (Classical.byContradiction fun q => hk ?_)
          rw [decide_eq_true h, Bool.true_and]; exact bne_iff_ne.2 q
      unfold ticket_valueText.f portref1_ValueString.f
      unfold rngS at hr
      by_cases h0 : K = 0
      · subst h0
        exact ⟨_, by rw [if_pos rfl], Ev.neg (by decide) (Ev.neg (by decide) (Ev.neg (by decide) (Ev.neg (by decide) (Ev.neg (by decide) (Ev.neg (by decide) (Ev.cst rfl))))))⟩
      by_cases h1 : K = 1
      · subst h1
        by_cases hi : I = 1
        · exact ⟨_, by rw [if_neg (by decide), if_pos rfl, if_pos hi], Ev.pos rfl (Ev.pos hi (Ev.cst rfl))⟩
        · exact ⟨_, by rw [if_neg (by decide), if_pos rfl, if_neg hi], Ev.pos rfl (Ev.neg hi (Ev.cst rfl))⟩
      rw [if_neg h1] at hr
      by_cases h3 : K = 3
      · subst h3
        refine ⟨_, by rw [if_neg (by decide), if_neg (by decide), if_pos rfl, quoted_f T hsz, Option.bind_some], Ev.neg (by decide) (Ev.neg (by decide) (Ev.pos rfl (Ev.bind (quoted_ev T hsz) (Ev.cst rfl))))⟩
      by_cases h4 : K = 4
      · subst h4
        rw [if_pos rfl, inS_iff, w64 (by omega) (by omega)] at hr
        exact ⟨_, by rw [if_neg (by decide), if_neg (by decide), if_neg (by decide), if_pos rfl, if_pos hr.1, if_pos (by omega)], Ev.neg (by decide) (Ev.neg (by decide) (Ev.neg (by decide) (Ev.pos rfl (Ev.pos hr.1 (Ev.pos (by omega) (Ev.cst rfl))))))⟩
      rw [if_neg h4] at hr
      by_cases h5 : K = 5
      · subst h5
        rw [if_pos rfl, inS_iff] at hr
        have hz := itoa_sz I (by omega) (by omega)
        exact ⟨_, by rw [if_neg (by decide), if_neg (by decide), if_neg (by decide), if_neg (by decide), if_pos rfl, itoa_f I (by omega) (by omega), Option.bind_some, if_pos (by omega)],
          Ev.neg (by decide) (Ev.neg (by decide) (Ev.neg (by decide) (Ev.neg (by decide) (Ev.pos rfl (Ev.bind (told_int I (by omega) (by omega)) (Ev.pos (by omega) (Ev.cst rfl)))))))⟩
      rw [if_neg h5] at hr
      by_cases h6 : K = 6
      · subst h6
        rw [if_pos rfl, inS_iff] at hr
        have hz := itoa_sz I (by omega) (by omega)
        exact ⟨_, by rw [if_neg (by decide), if_neg (by decide), if_neg (by decide), if_neg (by decide), if_neg (by decide), if_pos rfl, itoa_f I (by omega) (by omega), Option.bind_some, if_pos (by omega)],
          Ev.neg (by decide) (Ev.neg (by decide) (Ev.neg (by decide) (Ev.neg (by decide) (Ev.neg (by decide) (Ev.pos rfl (Ev.bind (told_int I (by omega) (by omega)) (Ev.pos (by omega) (Ev.cst rfl))))))))⟩
      rw [if_neg h6] at hr
      have h2 : K = 2 := by omega
      subst h2
      rw [if_pos rfl, inS_iff] at hr
      exact ⟨_, by rw [if_neg (by decide), if_neg (by decide), if_neg (by decide), if_neg (by decide), if_neg (by decide), if_neg (by decide), itoa_f I (by omega) (by omega), Option.bind_some],
        Ev.neg (by decide) (Ev.pos rfl (Ev.bind (told_int I (by omega) (by omega)) (Ev.cst rfl)))⟩
    · rw [if_neg hr] at hv; cases hv
  · rw [if_neg hc] at hv; cases hv
/-! ### the law -/
theorem fieldOf_ev (l : List S32) (hx : ∀ x ∈ l, Fit x) (a1 : Int) : Ev (fun k => ticket_fieldOf.f k l a1)
    (if fmS l = 0 then (if inS a1 0 (wrap64 ((l.length : Int) - 1)) = true then ((rd_T32 l a1).f0, (rd_T32 l a1).f1, (rd_T32 l a1).f2, (rd_T32 l a1).f3, 0) else ((⟨#[]⟩ : ByteArray), 0, ([] : List ByteArray), 0, 7)) else ((⟨#[]⟩ : ByteArray), 0, ([] : List ByteArray), 0, fmS l)) := by
  unfold ticket_fieldOf.f
  refine Ev.bind (checkForm_ev l hx) ?_
  by_cases h : fmS l = 0
  · refine Ev.pos h (Ev.bindc (within_f _ _ _) ?_)
    rw [if_pos h]
    by_cases h2 : inS a1 0 (wrap64 ((l.length : Int) - 1)) = true
    · have hl : l.length ≤ 20 := by
        unfold fmS at h
        by_cases a : (l.length : Int) > 20
        · rw [if_pos a] at h; cases h
        · omega
      have h3 := inS_iff.1 h2
      rw [w64 (by omega) (by omega)] at h3
      refine Ev.pos h2 (Ev.pos h3.1 (Ev.pos (by omega) ?_))
      rw [if_pos h2]; exact Ev.cst rfl
    · refine Ev.neg h2 ?_
      rw [if_neg h2]; exact Ev.cst rfl
  · refine Ev.neg h ?_
    rw [if_neg h]; exact Ev.cst rfl
theorem fault_ev (l : List S32) (hx : ∀ x ∈ l, Fit x) (a1 : Int) : Ev (fun k => portlaw1_fieldFault.f k l a1) (if fmS l = 0 then (if 0 ≤ a1 ∧ a1 < (l.length : Int) then 0 else 7) else fmS l) := by
  unfold portlaw1_fieldFault.f
  refine Ev.bind (formError_ev l hx) ?_
  by_cases h : fmS l = 0
  · refine Ev.pos h ?_
    rw [if_pos h]
    by_cases h1 : a1 < 0
    · rw [if_neg (show ¬ (0 ≤ a1 ∧ a1 < (l.length : Int)) by omega)]; exact Ev.pos h1 (Ev.cst rfl)
    · refine Ev.neg h1 ?_
      by_cases h2 : a1 ≥ (l.length : Int)
      · rw [if_neg (show ¬ (0 ≤ a1 ∧ a1 < (l.length : Int)) by omega)]; exact Ev.pos h2 (Ev.cst rfl)
      · rw [if_pos (show 0 ≤ a1 ∧ a1 < (l.length : Int) by omega)]; exact Ev.neg h2 (Ev.cst rfl)
  · refine Ev.neg h ?_
    rw [if_neg h]; exact Ev.cst rfl
theorem ticketValues_ev (l : List S32) (hx : ∀ x ∈ l, Fit x) (hl : ∀ x ∈ l, x.f2.length ≤ 9223372036854775807) (a1 K I : Int) (T : ByteArray) : Ev (fun k => portlaw1_TicketValues.f k l a1 K I T) true := by
  unfold portlaw1_TicketValues.f
  refine Ev.bind (fault_ev l hx a1) ?_
  have FO := fieldOf_ev l hx a1
  by_cases h : fmS l = 0
  · rw [if_pos h] at FO ⊢
    have hll : l.length ≤ 20 := by
      unfold fmS at h
      by_cases a : (l.length : Int) > 20
      · rw [if_pos a] at h; cases h
      · omega
    have hin : inS a1 0 (wrap64 ((l.length : Int) - 1)) = true ↔ 0 ≤ a1 ∧ a1 < (l.length : Int) := by
      rw [inS_iff, w64 (by omega) (by omega)]; omega
    by_cases h1 : 0 ≤ a1 ∧ a1 < (l.length : Int)
    · rw [if_pos (hin.2 h1)] at FO
      rw [if_pos h1]
      refine Ev.pos rfl (Ev.pos h1.1 (Ev.pos h1.2 ?_))
      obtain ⟨i, rfl⟩ : ∃ i : Nat, a1 = (i : Int) := ⟨a1.toNat, by omega⟩
      have hm := getD_mem l z32 (i := i) (by omega)
      have hf := (fm_kind l h (j := i) (by omega)).2
      have hn := hl _ hm
      rw [at_fld] at FO ⊢
      refine Ev.bind (valueError_ev _ _ _ _ _ _ _) ?_
      refine Ev.shift ?_
      simp only [portlaw1_TicketValues.j0]
      have CV : Ev (fun k => ticket_CheckValue.f k l (i : Int) K I T) (valS (l.getD i z32).f1 ((l.getD i z32).f2.length : Int) K I T) := by
        unfold ticket_CheckValue.f
        exact Ev.bind FO (Ev.pos rfl (Ev.bind (checkValue_ev _ _ _ _ _ _ _) (Ev.cst rfl)))
      by_cases hv : valS (l.getD i z32).f1 ((l.getD i z32).f2.length : Int) K I T = 0
      · obtain ⟨s, e1, e2⟩ := text_ev (l.getD i z32).f0 _ _ (l.getD i z32).f3 K I T hf hn hv
        have VT : Ev (fun k => ticket_ValueText.f k l (i : Int) K I T) (s, 0) := by
          unfold ticket_ValueText.f
          refine Ev.bind FO (Ev.pos rfl (Ev.bind (checkValue_ev _ _ _ _ _ _ _) (Ev.pos hv (Ev.bindc e1 (Ev.cst rfl)))))
        refine Ev.bind VT (Ev.bind CV (Ev.pos rfl (Ev.pos hv (Ev.pos rfl (Ev.pos (by omega) (Ev.pos h1.2 ?_))))))
        rw [at_fld]
        refine Ev.bind e2 (Ev.cst (congrArg some (beq_iff_eq.2 rfl)))
      · have VT : Ev (fun k => ticket_ValueText.f k l (i : Int) K I T) ((⟨#[]⟩ : ByteArray), valS (l.getD i z32).f1 ((l.getD i z32).f2.length : Int) K I T) := by
          unfold ticket_ValueText.f
          refine Ev.bind FO (Ev.pos rfl (Ev.bind (checkValue_ev _ _ _ _ _ _ _) (Ev.neg hv (Ev.cst rfl))))
        exact Ev.bind VT (Ev.bind CV (Ev.pos rfl (Ev.neg hv (Ev.pos rfl (Ev.cst (congrArg some (beq_iff_eq.2 (toList_bl _))))))))
    · rw [if_neg (fun q => h1 (hin.1 q))] at FO
      rw [if_neg h1]
      refine Ev.neg (by decide) (Ev.shift ?_)
      simp only [portlaw1_TicketValues.j0]
      have VT : Ev (fun k => ticket_ValueText.f k l a1 K I T) ((⟨#[]⟩ : ByteArray), 7) := by
        unfold ticket_ValueText.f
        exact Ev.bind FO (Ev.neg (by decide) (Ev.cst rfl))
      have CV : Ev (fun k => ticket_CheckValue.f k l a1 K I T) 7 := by
        unfold ticket_CheckValue.f
        exact Ev.bind FO (Ev.neg (by decide) (Ev.cst rfl))
      exact Ev.bind VT (Ev.bind CV (Ev.pos rfl (Ev.neg (by decide) (Ev.pos rfl (Ev.cst (congrArg some (beq_iff_eq.2 (toList_bl _))))))))
  · rw [if_neg h] at FO ⊢
    refine Ev.neg h (Ev.shift ?_)
    simp only [portlaw1_TicketValues.j0]
    have VT : Ev (fun k => ticket_ValueText.f k l a1 K I T) ((⟨#[]⟩ : ByteArray), fmS l) := by
      unfold ticket_ValueText.f
      exact Ev.bind FO (Ev.neg h (Ev.cst rfl))
    have CV : Ev (fun k => ticket_CheckValue.f k l a1 K I T) (fmS l) := by
      unfold ticket_CheckValue.f
      exact Ev.bind FO (Ev.neg h (Ev.cst rfl))
    exact Ev.bind VT (Ev.bind CV (Ev.pos rfl (Ev.neg h (Ev.pos rfl (Ev.cst (congrArg some (beq_iff_eq.2 (toList_bl _))))))))
end Go.Proofs.YtijajimooldhiaaDoor.TvB
