/- The check of a form in both spellings, the printed functions read as plain ones: names, what stands twice, options, fields. -/
import Derived.Test.YtijajimooldhiaaDoorKr
import Derived.Test.YtijajimooldhiaaDoorPl
namespace Go.Proofs.YtijajimooldhiaaDoor.TrA
open Go.RowKit Go.Proofs.YtijajimooldhiaaDoorW.PrintWords Go.Proofs.YtijajimooldhiaaDoor.Ext Go.Proofs.YtijajimooldhiaaDoor.Kr Go.Proofs.YtijajimooldhiaaDoor.Pl
theorem Ev.val {α : Type} {g : Nat → Option α} {r r' : α} (h : Ev g r) (e : r = r') : Ev g r' := e ▸ h
theorem Ev.and2 {α : Type} {c1 c2 : Prop} [Decidable c1] [Decidable c2] {P Q : Nat → Option α} {r : α} (h1 : c1 → c2 → Ev P r) (h2 : ¬ (c1 ∧ c2) → Ev Q r) : Ev (fun n => if c1 then (if c2 then P n else Q n) else Q n) r := by
  by_cases a : c1
  · refine Ev.pos a ?_
    by_cases b : c2
    · exact Ev.pos b (h1 a b)
    · exact Ev.neg b (h2 (fun h => b h.2))
  · exact Ev.neg a (h2 (fun h => a h.1))
theorem up {i : Nat} (h : i < 9223372036854775807) : wrap64 ((i : Int) + 1) = ((i + 1 : Nat) : Int) := by rw [w64 (by omega) (by omega)]; omega
theorem at_get (l : List ByteArray) {i : Nat} (h : i < l.length) : rdOf ByteArray.empty l (i : Int) = l[i] := by
  unfold rdOf
  rw [Int.toNat_natCast, List.getD_eq_getElem?_getD, List.getElem?_eq_getElem h]; rfl
theorem rd_get (l : List S32) {i : Nat} (h : i < l.length) : rd_T32 l (i : Int) = l[i] := by
  unfold rd_T32
  rw [Int.toNat_natCast, List.getD_eq_getElem?_getD, List.getElem?_eq_getElem h]; rfl
theorem isDigit_f (b : UInt8) : portref1_isDigit.f (b.toNat : Int) = some (isD b) := by
  unfold portref1_isDigit.f isD
  by_cases h : 48 ≤ b.toNat
  · rw [if_pos (by omega), decide_eq_true h, Bool.true_and]
    congr 1
    rw [Bool.eq_iff_iff]; simp; omega
  · rw [if_neg (by omega), decide_eq_false h, Bool.false_and]
/-! ### names -/
def lc (b : UInt8) : Bool := decide (97 ≤ b.toNat) && decide (b.toNat ≤ 122)
def nc (b : UInt8) : Bool := lc b || isD b || decide (b.toNat = 95)
def nmOk : List UInt8 → Bool
  | [] => false
  | b :: r => lc b && r.all nc && decide (r.length + 1 ≤ 20)
theorem lc_iff (b : UInt8) : lc b = true ↔ 97 ≤ b.toNat ∧ b.toNat ≤ 122 := by unfold lc; simp
theorem isD_iff (b : UInt8) : isD b = true ↔ 48 ≤ b.toNat ∧ b.toNat ≤ 57 := by unfold isD; simp
theorem bt_get (a : ByteArray) {i : Nat} (h : i < (bl a).length) : bt a (i : Int) = (((bl a)[i]'h).toNat : Int) := bt_nat (List.getElem?_eq_getElem h)
theorem isName_l0 (a : ByteArray) (hz : a.size ≤ 9223372036854775807) : ∀ d i : Nat, i + d = (bl a).length → Ev (fun k => portref1_isName.l0 k a (i : Int)) (((bl a).drop i).all nc) := by
  have hs := bl_size a
  intro d
  induction d with
  | zero =>
    intro i hi
    refine Ev.shift ?_
    simp only [portref1_isName.l0]
    refine Ev.neg (by omega) ?_
    rw [List.drop_eq_nil_of_le (by omega)]
    exact Ev.cst rfl
  | succ d ih =>
    intro i hi
    have hlt : i < (bl a).length := by omega
    refine Ev.shift ?_
    simp only [portref1_isName.l0]
    refine Ev.pos (by omega) (Ev.pos (by omega) ?_)
    rw [bt_get a hlt, isDigit_f, up (by omega), List.drop_eq_getElem_cons hlt, List.all_cons]
    simp only [Option.bind_some]
    have IH := ih (i + 1) (by omega)
    refine Ev.and2 (fun h1 h2 => ?_) (fun h => ?_)
    · have : nc (bl a)[i] = true := by unfold nc; rw [(lc_iff _).2 ⟨by omega, by omega⟩]; rfl
      rw [this, Bool.true_and]; exact IH
    · have hl : lc (bl a)[i] = false := Bool.eq_false_iff.2 fun e => h (by have := (lc_iff _).1 e; omega)
      by_cases hd : isD (bl a)[i] = true
      · refine Ev.pos hd ?_
        have : nc (bl a)[i] = true := by unfold nc; rw [hd, hl]; rfl
        rw [this, Bool.true_and]; exact IH
      · refine Ev.neg hd ?_
        rw [Bool.not_eq_true] at hd
        by_cases hu : (bl a)[i].toNat = 95
        · refine Ev.pos (by omega) ?_
          have : nc (bl a)[i] = true := by unfold nc; rw [hd, hl, decide_eq_true hu]; rfl
          rw [this, Bool.true_and]; exact IH
        · refine Ev.neg (by omega) ?_
          have : nc (bl a)[i] = false := by unfold nc; rw [hd, hl, decide_eq_false hu]; rfl
          rw [this, Bool.false_and]; exact Ev.cst rfl
theorem isName_ev (a : ByteArray) (hz : a.size ≤ 9223372036854775807) : Ev (fun k => portref1_isName.f k a) (nmOk (bl a)) := by
  have hs := bl_size a
  unfold portref1_isName.f
  have no : nmOk (bl a) = false → Ev (fun k => portref1_isName.j0 k a true) (nmOk (bl a)) := by
    intro h
    rw [h]
    refine Ev.shift ?_
    simp only [portref1_isName.j0, if_true]
    exact Ev.cst rfl
  cases hb : bl a with
  | nil =>
    have h0 : a.size = 0 := by rw [hs, hb]; rfl
    refine Ev.pos (by omega) ?_
    rw [← hb]
    exact no (by rw [hb]; rfl)
  | cons b r =>
    have h1 : a.size = r.length + 1 := by rw [hs, hb]; rfl
    refine Ev.neg (by omega) ?_
    rw [← hb]
    by_cases hl : r.length + 1 ≤ 20
    · refine Ev.neg (by omega) (Ev.pos (by omega) ?_)
      have h0 : bt a 0 = (b.toNat : Int) := bt_nat (i := 0) (by rw [hb]; rfl)
      rw [h0]
      have e : nmOk (bl a) = (lc b && r.all nc) := by rw [hb]; show (lc b && r.all nc && decide (r.length + 1 ≤ 20)) = _; rw [decide_eq_true hl, Bool.and_true]
      by_cases c : (b.toNat : Int) < 97
      · refine Ev.pos c (no ?_)
        rw [e, show lc b = false from Bool.eq_false_iff.2 fun e => by have := (lc_iff _).1 e; omega]; rfl
      · refine Ev.neg c ?_
        by_cases c2 : (b.toNat : Int) > 122
        · rw [decide_eq_true c2]
          refine no ?_
          rw [e, show lc b = false from Bool.eq_false_iff.2 fun e => by have := (lc_iff _).1 e; omega]; rfl
        · rw [decide_eq_false c2]
          refine Ev.shift ?_
          simp only [portref1_isName.j0]
          refine Ev.neg (by decide) ?_
          have hlc : lc b = true := (lc_iff _).2 ⟨by omega, by omega⟩
          have := isName_l0 a hz (bl a).length 0 (by omega)
          rw [List.drop_zero] at this
          refine Ev.val this ?_
          rw [e, hb, List.all_cons, hlc, show nc b = true by unfold nc; rw [hlc]; rfl]
    · refine Ev.pos (by omega) (no ?_)
      rw [hb]; show (lc b && r.all nc && decide (r.length + 1 ≤ 20)) = _; rw [decide_eq_false hl, Bool.and_false]
theorem name_l0 (a : ByteArray) (hz : a.size ≤ 9223372036854775807) (h0 : bl a ≠ []) : ∀ d i : Nat, 1 ≤ i → i + d = (bl a).length → Ev (fun k => ticket_name.l0 k a (a.size : Int) (i : Int)) (((bl a).drop i).all nc && decide ((bl a).length ≤ 20)) := by
  have hs := bl_size a
  intro d
  induction d with
  | zero =>
    intro i h1 hi
    refine Ev.shift ?_
    simp only [ticket_name.l0]
    refine Ev.neg (by omega) (Ev.neg (by rw [toList_bl]; exact h0) ?_)
    rw [List.drop_eq_nil_of_le (by omega)]
    refine Ev.cst (congrArg some ?_)
    rw [List.all_nil, Bool.true_and, Bool.eq_iff_iff, decide_eq_true_iff, decide_eq_true_iff]; omega
  | succ d ih =>
    intro i h1 hi
    have hlt : i < (bl a).length := by omega
    refine Ev.shift ?_
    simp only [ticket_name.l0]
    refine Ev.pos (by omega) (Ev.pos (by omega) (Ev.pos (by omega) ?_))
    rw [bt_get a hlt, up (by omega), List.drop_eq_getElem_cons hlt, List.all_cons]
    have IH := ih (i + 1) (by omega) (by omega)
    refine Ev.and2 (fun h1 h2 => ?_) (fun h => Ev.neg (by omega) (Ev.and2 (fun h1 h2 => ?_) (fun h' => ?_)))
    · have : nc (bl a)[i] = true := by unfold nc; rw [(lc_iff _).2 ⟨by omega, by omega⟩]; rfl
      rw [this, Bool.true_and]; exact IH
    · have : nc (bl a)[i] = true := by unfold nc; rw [(isD_iff _).2 ⟨by omega, by omega⟩, Bool.or_true]; rfl
      rw [this, Bool.true_and]; exact IH
    · have hl : lc (bl a)[i] = false := Bool.eq_false_iff.2 fun e => h (by have := (lc_iff _).1 e; omega)
      have hd : isD (bl a)[i] = false := Bool.eq_false_iff.2 fun e => h' (by have := (isD_iff _).1 e; omega)
      by_cases hu : (bl a)[i].toNat = 95
      · refine Ev.pos (by omega) ?_
        have : nc (bl a)[i] = true := by unfold nc; rw [hd, hl, decide_eq_true hu]; rfl
        rw [this, Bool.true_and]; exact IH
      · refine Ev.neg (by omega) ?_
        have : nc (bl a)[i] = false := by unfold nc; rw [hd, hl, decide_eq_false hu]; rfl
        rw [this, Bool.false_and, Bool.false_and]; exact Ev.cst rfl
theorem name_ev (a : ByteArray) (hz : a.size ≤ 9223372036854775807) : Ev (fun k => ticket_name.f k a) (nmOk (bl a)) := by
  have hs := bl_size a
  unfold ticket_name.f
  refine Ev.shift ?_
  simp only [ticket_name.l0]
  cases hb : bl a with
  | nil =>
    have h0 : a.size = 0 := by rw [hs, hb]; rfl
    refine Ev.neg (by omega) (Ev.pos (by rw [toList_bl]; exact hb) (Ev.cst rfl))
  | cons b r =>
    have h1 : a.size = r.length + 1 := by rw [hs, hb]; rfl
    have h0 : bt a 0 = (b.toNat : Int) := bt_nat (i := 0) (by rw [hb]; rfl)
    rw [h0]
    refine Ev.pos (by omega) (Ev.pos (by omega) (Ev.pos (by omega) ?_))
    have go := name_l0 a hz (by rw [hb]; simp) r.length 1 (by omega) (by rw [hb, List.length_cons]; omega)
    rw [hb] at go
    rw [show wrap64 (0 + 1) = ((1 : Nat) : Int) from up (i := 0) (by decide)]
    refine Ev.and2 (fun h1 h2 => ?_) (fun h => Ev.pos trivial ?_)
    · refine Ev.val go ?_
      show (r.all nc && decide ((b :: r).length ≤ 20)) = (lc b && r.all nc && decide (r.length + 1 ≤ 20))
      rw [(lc_iff _).2 ⟨by omega, by omega⟩, Bool.true_and, List.length_cons]
    · refine Ev.cst (congrArg some ?_)
      show false = (lc b && r.all nc && decide (r.length + 1 ≤ 20))
      rw [show lc b = false from Bool.eq_false_iff.2 fun e => h (by have := (lc_iff _).1 e; omega)]; rfl
/-! ### what stands twice -/
def hasS (l : List ByteArray) (s : ByteArray) : Bool := l.any fun x => decide (bl x = bl s)
theorem has_l0 (l : List ByteArray) (s : ByteArray) (hl : l.length ≤ 9223372036854775807) : ∀ d i : Nat, i + d = l.length → Ev (fun k => portref1_has.l0 k s l (l.length : Int) (i : Int)) (hasS (l.drop i) s) := by
  intro d
  induction d with
  | zero =>
    intro i hi
    refine Ev.shift ?_
    simp only [portref1_has.l0]
    refine Ev.neg (by omega) ?_
    rw [List.drop_eq_nil_of_le (by omega)]
    exact Ev.cst rfl
  | succ d ih =>
    intro i hi
    have hlt : i < l.length := by omega
    refine Ev.shift ?_
    simp only [portref1_has.l0]
    refine Ev.pos (by omega) (Ev.pos (by omega) (Ev.pos (by omega) ?_))
    rw [at_get l hlt, up (by omega), List.drop_eq_getElem_cons hlt]
    unfold hasS
    rw [List.any_cons, toList_bl, toList_bl]
    by_cases h : bl l[i] = bl s
    · refine Ev.pos h ?_
      rw [decide_eq_true h, Bool.true_or]; exact Ev.cst rfl
    · refine Ev.neg h ?_
      rw [decide_eq_false h, Bool.false_or]; exact ih (i + 1) (by omega)
theorem has_ev (l : List ByteArray) (s : ByteArray) (hl : l.length ≤ 9223372036854775807) : Ev (fun k => portref1_has.f k l s) (hasS l s) := has_l0 l s hl l.length 0 (by omega)
theorem index_l0 (l : List ByteArray) (s : ByteArray) (hl : l.length ≤ 9223372036854775807) : ∀ d i : Nat, i + d = l.length → ∃ n : Int, Ev (fun k => slices_Index_string_string.l0 k l s (l.length : Int) (i : Int)) n ∧ decide (n ≥ 0) = hasS (l.drop i) s := by
  intro d
  induction d with
  | zero =>
    intro i hi
    refine ⟨-1, Ev.shift ?_, ?_⟩
    · simp only [slices_Index_string_string.l0]
      refine Ev.neg (by omega) (Ev.cst rfl)
    · rw [List.drop_eq_nil_of_le (by omega)]; rfl
  | succ d ih =>
    intro i hi
    have hlt : i < l.length := by omega
    by_cases h : bl l[i] = bl s
    · refine ⟨(i : Int), Ev.shift ?_, ?_⟩
      · simp only [slices_Index_string_string.l0]
        refine Ev.pos (by omega) (Ev.pos (by omega) (Ev.pos (by omega) ?_))
        rw [at_get l hlt, toList_bl, toList_bl]
        exact Ev.pos h.symm (Ev.cst rfl)
      · rw [List.drop_eq_getElem_cons hlt]
        unfold hasS
        rw [List.any_cons, decide_eq_true h, Bool.true_or]; exact decide_eq_true (by omega)
    · obtain ⟨n, h1, h2⟩ := ih (i + 1) (by omega)
      refine ⟨n, Ev.shift ?_, ?_⟩
      · simp only [slices_Index_string_string.l0]
        refine Ev.pos (by omega) (Ev.pos (by omega) (Ev.pos (by omega) ?_))
        rw [at_get l hlt, toList_bl, toList_bl, up (by omega)]
        exact Ev.neg (fun e => h e.symm) h1
      · rw [List.drop_eq_getElem_cons hlt]
        unfold hasS at h2 ⊢
        rw [List.any_cons, decide_eq_false h, Bool.false_or]; exact h2
theorem contains_ev (l : List ByteArray) (s : ByteArray) (hl : l.length ≤ 9223372036854775807) : Ev (fun k => slices_Contains_string_string.f k l s) (hasS l s) := by
  obtain ⟨n, h1, h2⟩ := index_l0 l s hl l.length 0 (by omega)
  unfold slices_Contains_string_string.f
  refine Ev.bind h1 ?_
  rw [h2]
  exact Ev.cst rfl
/-! ### options and fields -/
def optS (o : List ByteArray) : Nat → Nat → Int
  | 0, _ => 0
  | d + 1, i => if nmOk (bl (o.getD i ByteArray.empty)) = true then (if hasS (o.take i) (o.getD i ByteArray.empty) = true then 6 else optS o d (i + 1)) else 3
def inS (a b c : Int) : Bool := decide (b ≤ a) && decide (a ≤ c)
theorem inRange_f (a b c : Int) : portref1_inRange.f a b c = some (inS a b c) := by
  unfold portref1_inRange.f inS
  by_cases h : b ≤ a
  · rw [if_pos h, decide_eq_true h, Bool.true_and]
  · rw [if_neg h, decide_eq_false h, Bool.false_and]
theorem within_f (a b c : Int) : ticket_within.f a b c = some (inS a b c) := inRange_f a b c
def fldS (x : S32) : Int :=
  if inS x.f1 1 6 = true then (if ((x.f1 == 4) != decide ((x.f2.length : Int) > 0)) = true then 1 else (if (x.f2.length : Int) > 20 then 4 else (if optS x.f2 x.f2.length 0 = 0 then (if inS x.f3 0 6 = true then 0 else 2) else optS x.f2 x.f2.length 0))) else 10
def twice (l : List S32) (s : ByteArray) : Bool := l.any fun y => s.toList == y.f0.toList
def formS (l : List S32) : Nat → Nat → Int
  | 0, _ => 0
  | d + 1, i => if nmOk (bl (l.getD i z32).f0) = true then (if twice (l.take i) (l.getD i z32).f0 = true then 6 else (if fldS (l.getD i z32) = 0 then formS l d (i + 1) else fldS (l.getD i z32))) else 3
def Fit (x : S32) : Prop := x.f0.size ≤ 9223372036854775807 ∧ ∀ s ∈ x.f2, s.size ≤ 9223372036854775807
theorem at_opt (l : List ByteArray) (i : Nat) : rdOf ByteArray.empty l (i : Int) = l.getD i ByteArray.empty := by unfold rdOf; rw [Int.toNat_natCast]
theorem at_fld (l : List S32) (i : Nat) : rd_T32 l (i : Int) = l.getD i z32 := by unfold rd_T32; rw [Int.toNat_natCast]
theorem getD_mem {α : Type} (l : List α) (d : α) {i : Nat} (h : i < l.length) : l.getD i d ∈ l := by
  rw [List.getD_eq_getElem?_getD, List.getElem?_eq_getElem h]; exact List.getElem_mem h
theorem opt_l0 (x : S32) (hx : Fit x) (hl : x.f2.length ≤ 20) : ∀ d i : Nat, i + d = x.f2.length → Ev (fun k => ticket_checkOptions.l0 k x.f2 (x.f2.length : Int) (i : Int) x.f0 x.f1 x.f2 x.f3) (optS x.f2 d i) := by
  intro d
  induction d with
  | zero =>
    intro i hi
    refine Ev.shift ?_
    simp only [ticket_checkOptions.l0]
    exact Ev.neg (by omega) (Ev.cst rfl)
  | succ d ih =>
    intro i hi
    refine Ev.shift ?_
    simp only [ticket_checkOptions.l0, optS]
    refine Ev.pos (by omega) (Ev.pos (by omega) (Ev.pos (by omega) ?_))
    rw [at_opt, up (by omega)]
    refine Ev.bind (name_ev _ (hx.2 _ (getD_mem _ _ (by omega)))) ?_
    by_cases h : nmOk (bl (x.f2.getD i ByteArray.empty)) = true
    · rw [if_pos h]
      refine Ev.pos h (Ev.pos (by omega) ?_)
      rw [Int.toNat_natCast]
      refine Ev.bind (contains_ev _ _ (by rw [List.length_take]; omega)) ?_
      by_cases h2 : hasS (x.f2.take i) (x.f2.getD i ByteArray.empty) = true
      · rw [if_pos h2]; exact Ev.pos h2 (Ev.cst rfl)
      · rw [if_neg h2]; exact Ev.neg h2 (ih (i + 1) (by omega))
    · rw [if_neg h]; exact Ev.neg h (Ev.cst rfl)
theorem checkForm_l0 (l : List S32) (hx : ∀ x ∈ l, Fit x) (hl : l.length ≤ 20) : ∀ d i : Nat, i + d = l.length → Ev (fun k => ticket_CheckForm.l0 k l (l.length : Int) (i : Int) l) (formS l d i) := by
  intro d
  induction d with
  | zero =>
    intro i hi
    refine Ev.shift ?_
    simp only [ticket_CheckForm.l0]
    exact Ev.neg (by omega) (Ev.cst rfl)
  | succ d ih =>
    intro i hi
    refine Ev.shift ?_
    simp only [ticket_CheckForm.l0, formS]
    refine Ev.pos (by omega) (Ev.pos (by omega) (Ev.pos (by omega) ?_))
    rw [at_fld, up (by omega)]
    have hm := hx _ (getD_mem l z32 (i := i) (by omega))
    generalize l.getD i z32 = x at hm ⊢
    refine Ev.bind (name_ev _ hm.1) ?_
    by_cases h : nmOk (bl x.f0) = true
    · rw [if_pos h]
      refine Ev.pos h (Ev.pos (by omega) ?_)
      rw [Int.toNat_natCast]
      refine Ev.bindc (v := twice (l.take i) x.f0) rfl ?_
      by_cases h2 : twice (l.take i) x.f0 = true
      · rw [if_pos h2]; exact Ev.pos h2 (Ev.cst rfl)
      · rw [if_neg h2]
        refine Ev.neg h2 (Ev.bindc (within_f _ _ _) ?_)
        unfold fldS
        by_cases h3 : inS x.f1 1 6 = true
        · rw [if_pos h3]
          refine Ev.pos h3 ?_
          unfold ticket_checkOptions.f
          by_cases h4 : ((x.f1 == 4) != decide ((x.f2.length : Int) > 0)) = true
          · simp only [if_pos h4]
            refine Ev.bindc (v := (1 : Int)) rfl ?_
            rw [if_neg (show ¬ (1 : Int) = 0 by decide)]
            exact Ev.neg (by decide) (Ev.cst rfl)
          · simp only [if_neg h4]
            by_cases h5 : (x.f2.length : Int) > 20
            · simp only [if_pos h5]
              refine Ev.bindc (v := (4 : Int)) rfl ?_
              rw [if_neg (show ¬ (4 : Int) = 0 by decide)]
              exact Ev.neg (by decide) (Ev.cst rfl)
            · simp only [if_neg h5]
              refine Ev.bind (opt_l0 x hm (by omega) x.f2.length 0 (by omega)) ?_
              by_cases h6 : optS x.f2 x.f2.length 0 = 0
              · rw [if_pos h6]
                refine Ev.pos h6 (Ev.bindc (within_f _ _ _) ?_)
                by_cases h7 : inS x.f3 0 6 = true
                · rw [if_pos h7, if_pos rfl]; exact Ev.pos h7 (ih (i + 1) (by omega))
                · rw [if_neg h7, if_neg (show ¬ (2 : Int) = 0 by decide)]; exact Ev.neg h7 (Ev.cst rfl)
              · rw [if_neg h6, if_neg h6]; exact Ev.neg h6 (Ev.cst rfl)
        · rw [if_neg h3, if_neg (show ¬ (10 : Int) = 0 by decide)]
          exact Ev.neg h3 (Ev.cst rfl)
    · rw [if_neg h]; exact Ev.neg h (Ev.cst rfl)
def fmS (l : List S32) : Int := if (l.length : Int) > 20 then 4 else formS l l.length 0
theorem checkForm_ev (l : List S32) (hx : ∀ x ∈ l, Fit x) : Ev (fun k => ticket_CheckForm.f k l) (fmS l) := by
  unfold ticket_CheckForm.f fmS
  by_cases h : (l.length : Int) > 20
  · rw [if_pos h]; exact Ev.pos h (Ev.cst rfl)
  · rw [if_neg h]; exact Ev.neg h (checkForm_l0 l hx (by omega) l.length 0 (by omega))
/-! ### the reference -/
theorem fe_l2 (l : List S32) (n : Int) (i : Int) (x : S32) (hx : Fit x) (hl : x.f2.length ≤ 20) (r : Int) (hc : Ev (fun k => portref1_FormError.l2 k l n i x.f2 (x.f2.length : Int) (x.f2.length : Int) l x.f0 x.f1 x.f2 x.f3) r) : ∀ d j : Nat, j + d = x.f2.length →
    Ev (fun k => portref1_FormError.l2 k l n i x.f2 (x.f2.length : Int) (j : Int) l x.f0 x.f1 x.f2 x.f3) (if optS x.f2 d j = 0 then r else optS x.f2 d j) := by
  intro d
  induction d with
  | zero =>
    intro j hj
    obtain rfl : j = x.f2.length := by omega
    exact hc
  | succ d ih =>
    intro j hj
    refine Ev.shift ?_
    simp only [portref1_FormError.l2, optS]
    refine Ev.pos (by omega) (Ev.pos (by omega) (Ev.pos (by omega) ?_))
    rw [at_opt, up (by omega)]
    refine Ev.bind (isName_ev _ (hx.2 _ (getD_mem _ _ (by omega)))) ?_
    by_cases h : nmOk (bl (x.f2.getD j ByteArray.empty)) = true
    · simp only [if_pos h]
      refine Ev.pos (by omega) ?_
      rw [Int.toNat_natCast]
      refine Ev.bind (has_ev _ _ (by rw [List.length_take]; omega)) ?_
      by_cases h2 : hasS (x.f2.take j) (x.f2.getD j ByteArray.empty) = true
      · simp only [if_pos h2]; rw [if_neg (show ¬ (6 : Int) = 0 by decide)]; exact Ev.cst rfl
      · simp only [if_neg h2]; exact ih (j + 1) (by omega)
    · simp only [if_neg h]; rw [if_neg (show ¬ (3 : Int) = 0 by decide)]; exact Ev.cst rfl
theorem fe_l1 (l : List S32) (n : Int) (i : Int) (x : S32) (ys : List S32) (hy : ys.length ≤ 20) (r : Int) (hc : Ev (fun k => portref1_FormError.l1 k l n i ys (ys.length : Int) (ys.length : Int) l x.f0 x.f1 x.f2 x.f3) r) : ∀ d j : Nat, j + d = ys.length →
    Ev (fun k => portref1_FormError.l1 k l n i ys (ys.length : Int) (j : Int) l x.f0 x.f1 x.f2 x.f3) (if twice (ys.drop j) x.f0 = true then 6 else r) := by
  intro d
  induction d with
  | zero =>
    intro j hj
    obtain rfl : j = ys.length := by omega
    rw [List.drop_eq_nil_of_le (by omega)]
    exact hc
  | succ d ih =>
    intro j hj
    have hlt : j < ys.length := by omega
    refine Ev.shift ?_
    simp only [portref1_FormError.l1]
    refine Ev.pos (by omega) (Ev.pos (by omega) (Ev.pos (by omega) ?_))
    have e : twice (ys.drop j) x.f0 = ((x.f0.toList == (ys[j]).f0.toList) || twice (ys.drop (j + 1)) x.f0) := by
      unfold twice
      rw [List.drop_eq_getElem_cons hlt, List.any_cons]
    rw [rd_get ys hlt, up (by omega), e]
    by_cases h : (ys[j]).f0.toList = x.f0.toList
    · rw [show (x.f0.toList == (ys[j]).f0.toList) = true from beq_iff_eq.2 h.symm, Bool.true_or, if_pos rfl]
      exact Ev.pos h (Ev.cst rfl)
    · rw [show (x.f0.toList == (ys[j]).f0.toList) = false from beq_eq_false_iff_ne.2 (fun q => h q.symm), Bool.false_or]
      exact Ev.neg h (ih (j + 1) (by omega))
theorem fe_l0 (l : List S32) (hx : ∀ x ∈ l, Fit x) (hl : l.length ≤ 20) : ∀ d i : Nat, i + d = l.length → Ev (fun k => portref1_FormError.l0 k l (l.length : Int) (i : Int) l) (formS l d i) := by
  intro d
  induction d with
  | zero =>
    intro i hi
    refine Ev.shift ?_
    simp only [portref1_FormError.l0]
    exact Ev.neg (by omega) (Ev.cst rfl)
  | succ d ih =>
    intro i hi
    refine Ev.shift ?_
    simp only [portref1_FormError.l0, formS]
    refine Ev.pos (by omega) (Ev.pos (by omega) (Ev.pos (by omega) ?_))
    rw [at_fld]
    have hm := hx _ (getD_mem l z32 (i := i) (by omega))
    generalize l.getD i z32 = x at hm ⊢
    refine Ev.bind (isName_ev _ hm.1) ?_
    by_cases h : nmOk (bl x.f0) = true
    · rw [if_pos h]
      refine Ev.pos h (Ev.pos (by omega) (Ev.bindc (v := l.take ((i : Int)).toNat) rfl ?_))
      rw [Int.toNat_natCast]
      have fin : Ev (fun k => portref1_FormError.l1 k l (l.length : Int) (i : Int) (l.take i) ((l.take i).length : Int) ((l.take i).length : Int) l x.f0 x.f1 x.f2 x.f3) (if fldS x = 0 then formS l d (i + 1) else fldS x) := by
        refine Ev.shift ?_
        simp only [portref1_FormError.l1]
        refine Ev.neg (by omega) (Ev.bindc (inRange_f _ _ _) ?_)
        unfold fldS
        by_cases h3 : inS x.f1 1 6 = true
        · simp only [if_pos h3]
          by_cases h4 : ((x.f1 == 4) != decide ((x.f2.length : Int) > 0)) = true
          · simp only [if_pos h4]
            rw [if_neg (show ¬ (1 : Int) = 0 by decide)]
            exact Ev.cst rfl
          · simp only [if_neg h4]
            by_cases h5 : (x.f2.length : Int) > 20
            · simp only [if_pos h5]
              rw [if_neg (show ¬ (4 : Int) = 0 by decide)]
              exact Ev.cst rfl
            · simp only [if_neg h5]
              have at2 : Ev (fun k => portref1_FormError.l2 k l (l.length : Int) (i : Int) x.f2 (x.f2.length : Int) (x.f2.length : Int) l x.f0 x.f1 x.f2 x.f3) (if inS x.f3 0 6 = true then formS l d (i + 1) else 2) := by
                refine Ev.shift ?_
                simp only [portref1_FormError.l2]
                refine Ev.neg (by omega) (Ev.bindc (inRange_f _ _ _) ?_)
                by_cases h7 : inS x.f3 0 6 = true
                · rw [if_pos h7, up (by omega)]; exact Ev.pos h7 (ih (i + 1) (by omega))
                · rw [if_neg h7]; exact Ev.neg h7 (Ev.cst rfl)
              have := fe_l2 l (l.length : Int) (i : Int) x hm (by omega) _ at2 x.f2.length 0 (by omega)
              refine Ev.val this ?_
              by_cases h6 : optS x.f2 x.f2.length 0 = 0
              · rw [if_pos h6, if_pos h6]
                by_cases h7 : inS x.f3 0 6 = true
                · rw [if_pos h7, if_pos h7, if_pos rfl]
                · rw [if_neg h7, if_neg h7, if_neg (by decide)]
              · rw [if_neg h6, if_neg h6, if_neg h6]
        · simp only [if_neg h3]
          rw [if_neg (show ¬ (10 : Int) = 0 by decide)]
          exact Ev.cst rfl
      have := fe_l1 l (l.length : Int) (i : Int) x (l.take i) (by rw [List.length_take]; omega) _ fin (l.take i).length 0 (by omega)
      rw [List.drop_zero] at this
      exact this
    · rw [if_neg h]; exact Ev.neg h (Ev.cst rfl)
theorem formError_ev (l : List S32) (hx : ∀ x ∈ l, Fit x) : Ev (fun k => portref1_FormError.f k l) (fmS l) := by
  unfold portref1_FormError.f fmS
  by_cases h : (l.length : Int) > 20
  · rw [if_pos h]; exact Ev.pos h (Ev.cst rfl)
  · rw [if_neg h]; exact Ev.neg h (fe_l0 l hx (by omega) l.length 0 (by omega))
theorem formS_fld (l : List S32) : ∀ d i : Nat, formS l d i = 0 → ∀ j, i ≤ j → j < i + d → fldS (l.getD j z32) = 0
  | 0, i, _, j, h1, h2 => by omega
  | d + 1, i, h, j, h1, h2 => by
    simp only [formS] at h
    by_cases a : nmOk (bl (l.getD i z32).f0) = true
    · rw [if_pos a] at h
      by_cases b : twice (l.take i) (l.getD i z32).f0 = true
      · rw [if_pos b] at h; cases h
      · rw [if_neg b] at h
        by_cases c : fldS (l.getD i z32) = 0
        · rw [if_pos c] at h
          rcases Nat.eq_or_lt_of_le h1 with e | e
          · rw [← e]; exact c
          · exact formS_fld l d (i + 1) h j (by omega) (by omega)
        · rw [if_neg c] at h; exact absurd h c
    · rw [if_neg a] at h; cases h
theorem fm_kind (l : List S32) (h : fmS l = 0) {j : Nat} (hj : j < l.length) : l.length ≤ 20 ∧ 1 ≤ (l.getD j z32).f1 ∧ (l.getD j z32).f1 ≤ 6 := by
  unfold fmS at h
  by_cases a : (l.length : Int) > 20
  · rw [if_pos a] at h; cases h
  · rw [if_neg a] at h
    have := formS_fld l l.length 0 h j (by omega) (by omega)
    unfold fldS at this
    by_cases b : inS (l.getD j z32).f1 1 6 = true
    · unfold inS at b
      simp only [Bool.and_eq_true, decide_eq_true_eq] at b
      exact ⟨by omega, b.1, b.2⟩
    · rw [if_neg b] at this; cases this
end Go.Proofs.YtijajimooldhiaaDoor.TrA
