/- The pure statement of MailKinds: for lists of at most 1048576 lines below 4294967281 bytes, the printed law answers true. -/
import Derived.Test.YtcljkhhjondhcaaDoorKindB1
import Derived.Test.YtcljkhhjondhcaaDoorKindB2
namespace Go.Proofs.YtcljkhhjondhcaaDoor.KindB
open Go.RowKit Go.Proofs.YtcljkhhjondhcaaDoorW.PrintWords Go.Proofs.YtcljkhhjondhcaaDoor.Ext Go.Proofs.YtcljkhhjondhcaaDoor.Ib Go.Proofs.YtcljkhhjondhcaaDoor.Pl Go.Proofs.YtcljkhhjondhcaaDoor.LibIb Go.Proofs.YtcljkhhjondhcaaDoor.KindP

/-! ### lists that are equal -/
theorem eqInt_l0 (l : List Int) (hl : l.length ≤ 4611686018427387904) : ∀ (d i : Nat), i + d = l.length → Ev (fun k => slices_Equal_int_int.l0 k l l (l.length : Int) (i : Int)) true := by
  intro d
  induction d with
  | zero =>
    intro i hi
    refine Ev.shift ?_
    simp only [slices_Equal_int_int.l0]
    exact Ev.neg (by omega) (Ev.cst rfl)
  | succ d ih =>
    intro i hi
    refine Ev.shift ?_
    simp only [slices_Equal_int_int.l0]
    refine Ev.pos (by omega) ?_
    refine Ev.pos (by omega) ?_
    refine Ev.pos (by omega) ?_
    refine Ev.pos (by omega) ?_
    refine Ev.pos trivial ?_
    rw [up (by omega)]
    exact ih (i + 1) (by omega)
theorem eqInt_f (l : List Int) (hl : l.length ≤ 4611686018427387904) : Ev (fun k => slices_Equal_int_int.f k l l) true := by
  unfold slices_Equal_int_int.f
  exact Ev.pos rfl (eqInt_l0 l hl l.length 0 (Nat.zero_add _))
theorem eqStr_l0 (l : List ByteArray) (hl : l.length ≤ 4611686018427387904) : ∀ (d i : Nat), i + d = l.length → Ev (fun k => slices_Equal_string_string.l0 k l l (l.length : Int) (i : Int)) true := by
  intro d
  induction d with
  | zero =>
    intro i hi
    refine Ev.shift ?_
    simp only [slices_Equal_string_string.l0]
    exact Ev.neg (by omega) (Ev.cst rfl)
  | succ d ih =>
    intro i hi
    refine Ev.shift ?_
    simp only [slices_Equal_string_string.l0]
    refine Ev.pos (by omega) ?_
    refine Ev.pos (by omega) ?_
    refine Ev.pos (by omega) ?_
    refine Ev.pos (by omega) ?_
    refine Ev.pos trivial ?_
    rw [up (by omega)]
    exact ih (i + 1) (by omega)
theorem eqStr_f (l : List ByteArray) (hl : l.length ≤ 4611686018427387904) : Ev (fun k => slices_Equal_string_string.f k l l) true := by
  unfold slices_Equal_string_string.f
  exact Ev.pos rfl (eqStr_l0 l hl l.length 0 (Nat.zero_add _))

/-! ### the depth -/
theorem qd_ne {a : ByteArray} (h : qd (bl a) = true) : 1 ≤ a.size := by
  rw [bl_size]
  cases hb : bl a with
  | nil => rw [hb] at h; cases h
  | cons x l => rw [List.length_cons]; omega
theorem depth_l0 : ∀ (n : Nat) (a : ByteArray) (c : Int), a.size ≤ n → ∃ r, Ev (fun k => mail_Depth.l0 k a c) r ∧ Ev (fun k => portref1_DepthOf.l0 k a c) r := by
  intro n
  induction n with
  | zero =>
    intro a c ha
    have h : ¬ qd (bl a) = true := fun h => by have := qd_ne h; omega
    refine ⟨c, Ev.shift ?_, Ev.shift ?_⟩
    · simp only [mail_Depth.l0]
      exact Ev.bindc (quoted_f a) (Ev.neg h (Ev.cst rfl))
    · simp only [portref1_DepthOf.l0]
      exact Ev.bindc (refQuoted_f a) (Ev.neg h (Ev.cst rfl))
  | succ n ih =>
    intro a c ha
    by_cases h : qd (bl a) = true
    · have h1 := qd_ne h
      have hs : (a.extract 1 a.size).size ≤ n := by rw [bl_size, bl_drop, List.length_drop, ← bl_size]; omega
      obtain ⟨t, ht, hl⟩ : ∃ t, strings_TrimPrefix.f (a.extract 1 a.size) (⟨#[32]⟩ : ByteArray) = some t ∧ t.size ≤ n := by
        refine ⟨_, trimPrefix_f _ _, ?_⟩
        split
        · rw [ba_size, List.length_drop, ← bl_size]; omega
        · exact hs
      obtain ⟨r, e1, e2⟩ := ih t (wrap64 (c + 1)) hl
      refine ⟨r, Ev.shift ?_, Ev.shift ?_⟩
      · simp only [mail_Depth.l0]
        exact Ev.bindc (quoted_f a) (Ev.pos h (Ev.pos (by omega) (Ev.bindc ht e1)))
      · simp only [portref1_DepthOf.l0]
        exact Ev.bindc (refQuoted_f a) (Ev.pos h (Ev.pos (by omega) (Ev.bindc ht e2)))
    · refine ⟨c, Ev.shift ?_, Ev.shift ?_⟩
      · simp only [mail_Depth.l0]
        exact Ev.bindc (quoted_f a) (Ev.neg h (Ev.cst rfl))
      · simp only [portref1_DepthOf.l0]
        exact Ev.bindc (refQuoted_f a) (Ev.neg h (Ev.cst rfl))

/-! ### own lines -/
theorem strip_back : ∀ (n : Nat) (l : List ByteArray), l.length ≤ n → l.length ≤ 1048576 → (∀ s ∈ l, s.size < 4294967281) → ∃ r : List ByteArray, r.length ≤ l.length ∧ Ev (fun k => mail_OwnLines.l1 k l) r ∧ Ev (fun k => portref1_OwnOf.l2 k l) r := by
  intro n
  induction n with
  | zero =>
    intro l hl _ _
    refine ⟨l, Nat.le_refl _, Ev.shift ?_, Ev.shift ?_⟩
    · simp only [mail_OwnLines.l1]
      exact Ev.neg (by omega) (Ev.cst rfl)
    · simp only [portref1_OwnOf.l2]
      exact Ev.neg (by omega) (Ev.cst rfl)
  | succ n ih =>
    intro l hl hm hb
    by_cases h0 : l.length = 0
    · obtain ⟨r, h⟩ := ih l (by omega) hm hb
      exact ⟨r, h⟩
    · have hw : wrap64 ((l.length : Int) - 1) = ((l.length - 1 : Nat) : Int) := by rw [w64 (by omega) (by omega)]; omega
      have hlt : l.length - 1 < l.length := by omega
      have hz := hb _ (at_mem l hlt)
      by_cases h : emp (bl (rdOf ByteArray.empty l ((l.length - 1 : Nat) : Int))) = true
      · obtain ⟨r, hr, e1, e2⟩ := ih (l.take (l.length - 1)) (by rw [List.length_take]; omega) (by rw [List.length_take]; omega) (fun s hs => hb s (List.mem_of_mem_take hs))
        refine ⟨r, by rw [List.length_take] at hr; omega, Ev.shift ?_, Ev.shift ?_⟩
        · simp only [mail_OwnLines.l1]
          rw [hw]
          simp only [Int.toNat_natCast]
          exact Ev.pos (by omega) (Ev.pos (by omega) (Ev.pos (by omega) (Ev.bindc (empty_f hz) (Ev.pos h (Ev.pos (by omega) e1)))))
        · simp only [portref1_OwnOf.l2]
          rw [hw]
          simp only [Int.toNat_natCast]
          exact Ev.pos (by omega) (Ev.pos (by omega) (Ev.pos (by omega) (Ev.bindc (refEmpty_f hz) (Ev.pos h (Ev.pos (by omega) e2)))))
      · refine ⟨l, Nat.le_refl _, Ev.shift ?_, Ev.shift ?_⟩
        · simp only [mail_OwnLines.l1]
          rw [hw]
          exact Ev.pos (by omega) (Ev.pos (by omega) (Ev.pos (by omega) (Ev.bindc (empty_f hz) (Ev.neg h (Ev.cst rfl)))))
        · simp only [portref1_OwnOf.l2]
          rw [hw]
          exact Ev.pos (by omega) (Ev.pos (by omega) (Ev.pos (by omega) (Ev.bindc (refEmpty_f hz) (Ev.neg h (Ev.cst rfl)))))
theorem strip : ∀ (l : List ByteArray), l.length ≤ 1048576 → (∀ s ∈ l, s.size < 4294967281) → ∃ r : List ByteArray, r.length ≤ l.length ∧ Ev (fun k => mail_OwnLines.l0 k l) r ∧ Ev (fun k => portref1_OwnOf.l1 k l) r := by
  intro l
  induction l with
  | nil =>
    intro hm hb
    obtain ⟨r, hr, e1, e2⟩ := strip_back 0 [] (Nat.le_refl _) hm hb
    refine ⟨r, hr, Ev.shift ?_, Ev.shift ?_⟩
    · simp only [mail_OwnLines.l0]
      refine Ev.neg (by decide) (Ev.shift ?_)
      simp only [mail_OwnLines.j1]
      exact e1
    · simp only [portref1_OwnOf.l1]
      refine Ev.neg (by decide) (Ev.shift ?_)
      simp only [portref1_OwnOf.j2]
      exact e2
  | cons x l ih =>
    intro hm hb
    have hx : rdOf ByteArray.empty (x :: l) 0 = x := rfl
    have hz := hb x (List.mem_cons_self ..)
    by_cases h : emp (bl x) = true
    · obtain ⟨r, hr, e1, e2⟩ := ih (by rw [List.length_cons] at hm; omega) (fun s hs => hb s (List.mem_cons_of_mem _ hs))
      refine ⟨r, by rw [List.length_cons]; omega, Ev.shift ?_, Ev.shift ?_⟩
      · simp only [mail_OwnLines.l0, List.length_cons]
        refine Ev.pos (by omega) (Ev.pos (by omega) ?_)
        rw [hx]
        exact Ev.bindc (empty_f hz) (Ev.pos h (Ev.pos (by omega) e1))
      · simp only [portref1_OwnOf.l1, List.length_cons]
        refine Ev.pos (by omega) (Ev.pos (by omega) ?_)
        rw [hx]
        exact Ev.bindc (refEmpty_f hz) (Ev.pos h (Ev.pos (by omega) e2))
    · obtain ⟨r, hr, e1, e2⟩ := strip_back _ (x :: l) (Nat.le_refl _) hm hb
      refine ⟨r, hr, Ev.shift ?_, Ev.shift ?_⟩
      · simp only [mail_OwnLines.l0, List.length_cons]
        refine Ev.pos (by omega) (Ev.pos (by omega) ?_)
        rw [hx]
        refine Ev.bindc (empty_f hz) (Ev.neg h (Ev.shift ?_))
        simp only [mail_OwnLines.j1]
        exact e1
      · simp only [portref1_OwnOf.l1, List.length_cons]
        refine Ev.pos (by omega) (Ev.pos (by omega) ?_)
        rw [hx]
        refine Ev.bindc (refEmpty_f hz) (Ev.neg h (Ev.shift ?_))
        simp only [portref1_OwnOf.j2]
        exact e2
section
variable (x0 : List ByteArray) (hn : x0.length ≤ 1048576) (hb : ∀ s ∈ x0, s.size < 4294967281)
include hn
theorem own_l0 (K : List Int) (hK : K.length = x0.length) : ∀ (d i : Nat) (acc : List ByteArray), i + d = x0.length → acc.length ≤ i → (∀ s ∈ acc, s ∈ x0) →
    ∃ r : List ByteArray, r.length ≤ x0.length ∧ (∀ s ∈ r, s ∈ x0) ∧ Ev (fun k => mail_own.l0 k x0 acc K (K.length : Int) (i : Int)) r ∧ (∀ r', Ev (fun k => portref1_OwnOf.l1 k r) r' → Ev (fun k => portref1_OwnOf.l0 k x0 acc K (K.length : Int) (i : Int)) r') := by
  intro d
  induction d with
  | zero =>
    intro i acc hi ha hm
    refine ⟨acc, by omega, hm, Ev.shift ?_, fun r' h => Ev.shift ?_⟩
    · simp only [mail_own.l0]
      exact Ev.neg (by omega) (Ev.cst rfl)
    · simp only [portref1_OwnOf.l0]
      exact Ev.neg (by omega) h
  | succ d ih =>
    intro i acc hi ha hm
    have hlt : i < x0.length := by omega
    by_cases h : rd K (i : Int) = 1
    · obtain ⟨r, h1, h2, h3, h4⟩ := ih (i + 1) (acc ++ [rdOf ByteArray.empty x0 (i : Int)]) (by omega) (by simp; omega) (by
        intro s hs
        rcases List.mem_append.1 hs with hs | hs
        · exact hm s hs
        · rw [List.mem_singleton.1 hs]; exact at_mem x0 hlt)
      refine ⟨r, h1, h2, Ev.shift ?_, fun r' hr => Ev.shift ?_⟩
      · simp only [mail_own.l0]
        rw [up (by omega)]
        exact Ev.pos (by omega) (Ev.pos (by omega) (Ev.pos (by omega) (Ev.pos h (Ev.pos (by omega) (Ev.pos (by omega) h3)))))
      · simp only [portref1_OwnOf.l0]
        rw [up (by omega)]
        exact Ev.pos (by omega) (Ev.pos (by omega) (Ev.pos (by omega) (Ev.pos h (Ev.pos (by omega) (Ev.pos (by omega) (h4 r' hr))))))
    · obtain ⟨r, h1, h2, h3, h4⟩ := ih (i + 1) acc (by omega) (by omega) hm
      refine ⟨r, h1, h2, Ev.shift ?_, fun r' hr => Ev.shift ?_⟩
      · simp only [mail_own.l0]
        rw [up (by omega)]
        exact Ev.pos (by omega) (Ev.pos (by omega) (Ev.pos (by omega) (Ev.neg h h3)))
      · simp only [portref1_OwnOf.l0]
        rw [up (by omega)]
        exact Ev.pos (by omega) (Ev.pos (by omega) (Ev.pos (by omega) (Ev.neg h (h4 r' hr))))
include hb
theorem ownLines_f : ∃ r : List ByteArray, r.length ≤ x0.length ∧ Ev (fun k => mail_OwnLines.f k x0) r ∧ Ev (fun k => portref1_OwnOf.f k x0) r := by
  have hK : (kinds (x0.map bl)).length = x0.length := by rw [kinds_len, List.length_map]
  obtain ⟨r, h1, h2, h3, h4⟩ := own_l0 x0 hn (kinds (x0.map bl)) hK x0.length 0 [] (Nat.zero_add _) (Nat.le_refl _) (by intro s hs; cases hs)
  obtain ⟨r', h5, h6, h7⟩ := strip r (by omega) (fun s hs => hb s (h2 s hs))
  refine ⟨r', by omega, ?_, ?_⟩
  · unfold mail_OwnLines.f
    refine Ev.bind (a := r) ?_ h6
    unfold mail_own.f
    exact Ev.bind (kinds_f x0 hn hb) h3
  · unfold portref1_OwnOf.f
    exact Ev.bind (kindsOf_f x0 hn hb) (h4 r' h7)

/-! ### quoted and unquoted -/
omit hn hb in
theorem bt0 {a : ByteArray} (h : ¬ bl a = []) : bt a 0 = 62 ↔ qd (bl a) = true := by
  cases hl : bl a with
  | nil => exact absurd hl h
  | cons x l =>
    have := bt_nat (s := a) (i := 0) (b := x) (by rw [hl]; rfl)
    have e : bt a 0 = (x.toNat : Int) := this
    rw [e]
    unfold qd
    simp only [List.isPrefixOf, Bool.and_true, beq_iff_eq]
    constructor
    · intro h; exact (UInt8.toNat_inj.1 (by show 62 = x.toNat; omega))
    · intro h; rw [← h]; rfl
theorem quotedOf_l0 : ∀ (d i : Nat) (acc : List ByteArray), i + d = x0.length → acc.length ≤ i →
    ∃ r : List ByteArray, r.length ≤ x0.length ∧ Ev (fun k => mail_Quoted.l0 k acc x0 (x0.length : Int) (i : Int)) r ∧ Ev (fun k => portref1_QuotedOf.l0 k acc x0 (x0.length : Int) (i : Int)) r := by
  intro d
  induction d with
  | zero =>
    intro i acc hi ha
    refine ⟨acc, by omega, Ev.shift ?_, Ev.shift ?_⟩
    · simp only [mail_Quoted.l0]
      exact Ev.neg (by omega) (Ev.cst rfl)
    · simp only [portref1_QuotedOf.l0]
      exact Ev.neg (by omega) (Ev.cst rfl)
  | succ d ih =>
    intro i acc hi ha
    have hlt : i < x0.length := by omega
    have hz := hb _ (at_mem x0 hlt)
    have hsz := bl_size (rdOf ByteArray.empty x0 (i : Int))
    have step : ∀ s : ByteArray, ∃ r : List ByteArray, r.length ≤ x0.length ∧ Ev (fun k => mail_Quoted.l0 k (acc ++ [s]) x0 (x0.length : Int) ((i + 1 : Nat) : Int)) r ∧ Ev (fun k => portref1_QuotedOf.l0 k (acc ++ [s]) x0 (x0.length : Int) ((i + 1 : Nat) : Int)) r :=
      fun s => ih (i + 1) (acc ++ [s]) (by omega) (by simp; omega)
    by_cases h1 : bl (rdOf ByteArray.empty x0 (i : Int)) = []
    · obtain ⟨r, hr, e1, e2⟩ := step _
      refine ⟨r, hr, Ev.shift ?_, Ev.shift ?_⟩
      · simp only [mail_Quoted.l0]
        rw [up (by omega)]
        exact Ev.pos (by omega) (Ev.pos (by omega) (Ev.pos (by omega) (Ev.pos (by rw [toList_bl]; exact h1) (Ev.pos (by omega) (Ev.pos (by omega) e1)))))
      · simp only [portref1_QuotedOf.l0]
        rw [up (by omega)]
        exact Ev.pos (by omega) (Ev.pos (by omega) (Ev.pos (by omega) (Ev.pos (by rw [toList_bl]; exact h1) (Ev.pos (by omega) (Ev.pos (by omega) e2)))))
    · have hne : ¬ (rdOf ByteArray.empty x0 (i : Int)).toList = [] := by rw [toList_bl]; exact h1
      have hp : 0 < (bl (rdOf ByteArray.empty x0 (i : Int))).length := List.length_pos_iff.2 h1
      by_cases h2 : qd (bl (rdOf ByteArray.empty x0 (i : Int))) = true
      · obtain ⟨r, hr, e1, e2⟩ := step _
        refine ⟨r, hr, Ev.shift ?_, Ev.shift ?_⟩
        · simp only [mail_Quoted.l0]
          rw [up (by omega)]
          exact Ev.pos (by omega) (Ev.pos (by omega) (Ev.pos (by omega) (Ev.neg hne (Ev.bindc (quoted_f _) (Ev.pos h2 (Ev.pos (by omega) (Ev.pos (by omega) e1)))))))
        · simp only [portref1_QuotedOf.l0]
          rw [up (by omega)]
          exact Ev.pos (by omega) (Ev.pos (by omega) (Ev.pos (by omega) (Ev.neg hne (Ev.pos (by omega) (Ev.pos ((bt0 h1).2 h2) (Ev.pos (by omega) (Ev.pos (by omega) e2)))))))
      · obtain ⟨r, hr, e1, e2⟩ := step _
        refine ⟨r, hr, Ev.shift ?_, Ev.shift ?_⟩
        · simp only [mail_Quoted.l0]
          rw [up (by omega)]
          exact Ev.pos (by omega) (Ev.pos (by omega) (Ev.pos (by omega) (Ev.neg hne (Ev.bindc (quoted_f _) (Ev.neg h2 (Ev.pos (by omega) (Ev.pos (by omega) e1)))))))
        · simp only [portref1_QuotedOf.l0]
          rw [up (by omega)]
          exact Ev.pos (by omega) (Ev.pos (by omega) (Ev.pos (by omega) (Ev.neg hne (Ev.pos (by omega) (Ev.neg (fun h => h2 ((bt0 h1).1 h)) (Ev.pos (by omega) (Ev.pos (by omega) e2)))))))
omit hb in
theorem unquotedOf_l0 : ∀ (d i : Nat) (acc : List ByteArray), i + d = x0.length → acc.length ≤ i →
    ∃ r : List ByteArray, r.length ≤ x0.length ∧ Ev (fun k => mail_Unquoted.l0 k acc x0 (x0.length : Int) (i : Int)) r ∧ Ev (fun k => portref1_UnquotedOf.l0 k acc x0 (x0.length : Int) (i : Int)) r := by
  intro d
  induction d with
  | zero =>
    intro i acc hi ha
    refine ⟨acc, by omega, Ev.shift ?_, Ev.shift ?_⟩
    · simp only [mail_Unquoted.l0]
      exact Ev.neg (by omega) (Ev.cst rfl)
    · simp only [portref1_UnquotedOf.l0]
      exact Ev.neg (by omega) (Ev.cst rfl)
  | succ d ih =>
    intro i acc hi ha
    have hlt : i < x0.length := by omega
    by_cases h2 : qd (bl (rdOf ByteArray.empty x0 (i : Int))) = true
    · have h1 := qd_ne h2
      have hc := cutPrefix_f (rdOf ByteArray.empty x0 (i : Int)) (⟨#[62]⟩ : ByteArray)
      rw [if_pos (show (bl (⟨#[62]⟩ : ByteArray)).isPrefixOf (bl (rdOf ByteArray.empty x0 (i : Int))) = true from h2)] at hc
      have he : (rdOf ByteArray.empty x0 (i : Int)).extract 1 (rdOf ByteArray.empty x0 (i : Int)).size = ba ((bl (rdOf ByteArray.empty x0 (i : Int))).drop (bl (⟨#[62]⟩ : ByteArray)).length) := eq_ba (bl_drop _ _)
      obtain ⟨r, hr, e1, e2⟩ := ih (i + 1) (acc ++ [_]) (by omega) (by simp; omega)
      refine ⟨r, hr, Ev.shift ?_, Ev.shift ?_⟩
      · simp only [mail_Unquoted.l0]
        rw [up (by omega)]
        exact Ev.pos (by omega) (Ev.pos (by omega) (Ev.pos (by omega) (Ev.bindc (quoted_f _) (Ev.pos h2 (Ev.pos (by omega) (Ev.bindc (trimPrefix_f _ _) (Ev.pos (by omega) e1)))))))
      · simp only [portref1_UnquotedOf.l0]
        rw [up (by omega)]
        refine Ev.pos (by omega) (Ev.pos (by omega) (Ev.pos (by omega) (Ev.bindc hc (Ev.pos rfl ?_))))
        rw [← he]
        exact Ev.bindc (trimPrefix_f _ _) (Ev.pos (by omega) e2)
    · have hc := cutPrefix_f (rdOf ByteArray.empty x0 (i : Int)) (⟨#[62]⟩ : ByteArray)
      rw [if_neg (show ¬ (bl (⟨#[62]⟩ : ByteArray)).isPrefixOf (bl (rdOf ByteArray.empty x0 (i : Int))) = true from h2)] at hc
      obtain ⟨r, hr, e1, e2⟩ := ih (i + 1) acc (by omega) (by omega)
      refine ⟨r, hr, Ev.shift ?_, Ev.shift ?_⟩
      · simp only [mail_Unquoted.l0]
        rw [up (by omega)]
        exact Ev.pos (by omega) (Ev.pos (by omega) (Ev.pos (by omega) (Ev.bindc (quoted_f _) (Ev.neg h2 e1))))
      · simp only [portref1_UnquotedOf.l0]
        rw [up (by omega)]
        exact Ev.pos (by omega) (Ev.pos (by omega) (Ev.pos (by omega) (Ev.bindc hc (Ev.neg (fun h => Bool.false_ne_true h) e2))))
theorem law_l0 : ∀ (d i : Nat), i + d = x0.length → Ev (fun k => portlaw1_MailKinds.l0 k x0 x0 (x0.length : Int) (i : Int)) true := by
  intro d
  induction d with
  | zero =>
    intro i hi
    have hK : (kinds (x0.map bl)).length = x0.length := by rw [kinds_len, List.length_map]
    obtain ⟨r1, h1, a1, b1⟩ := ownLines_f x0 hn hb
    obtain ⟨r2, h2, a2, b2⟩ := quotedOf_l0 x0 hn hb x0.length 0 [] (Nat.zero_add _) (Nat.le_refl _)
    obtain ⟨r3, h3, a3, b3⟩ := unquotedOf_l0 x0 hn x0.length 0 [] (Nat.zero_add _) (Nat.le_refl _)
    refine Ev.shift ?_
    simp only [portlaw1_MailKinds.l0]
    refine Ev.neg (by omega) ?_
    refine Ev.bind (kinds_f x0 hn hb) (Ev.bind (kindsOf_f x0 hn hb) (Ev.bind (eqInt_f _ (by omega)) (Ev.pos rfl ?_)))
    refine Ev.bind a1 (Ev.bind b1 (Ev.bind (eqStr_f _ (by omega)) (Ev.pos rfl ?_)))
    refine Ev.bind (g := fun k => mail_Quoted.f k x0) a2 (Ev.bind (g := fun k => portref1_QuotedOf.f k x0) b2 (Ev.bind (eqStr_f _ (by omega)) (Ev.pos rfl ?_)))
    exact Ev.bind (g := fun k => mail_Unquoted.f k x0) a3 (Ev.bind (g := fun k => portref1_UnquotedOf.f k x0) b3 (Ev.bind (eqStr_f _ (by omega)) (Ev.cst rfl)))
  | succ d ih =>
    intro i hi
    have hlt : i < x0.length := by omega
    obtain ⟨r, e1, e2⟩ := depth_l0 _ (rdOf ByteArray.empty x0 (i : Int)) 0 (Nat.le_refl _)
    refine Ev.shift ?_
    simp only [portlaw1_MailKinds.l0]
    rw [up (by omega)]
    exact Ev.pos (by omega) (Ev.pos (by omega) (Ev.pos (by omega) (Ev.bind (g := fun k => mail_Depth.f k _) e1 (Ev.bind (g := fun k => portref1_DepthOf.f k _) e2 (Ev.pos rfl (ih (i + 1) (by omega)))))))
theorem mailKinds_ev : Ev (fun k => portlaw1_MailKinds.f k x0) true := law_l0 x0 hn hb x0.length 0 (Nat.zero_add _)
theorem mailKinds_pure : ∃ k, portlaw1_MailKinds.f k x0 = some true := (mailKinds_ev x0 hn hb).rounds
end
end Go.Proofs.YtcljkhhjondhcaaDoor.KindB
