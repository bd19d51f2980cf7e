/- Plain laws on hidden digits, for all lists of bytes: a run of digits, what is hidden of it, and that hiding twice is hiding once. Nothing of the program stands here. -/
import Derived.Test.YtcljkhhjondhcaaDoorPl
namespace Go.Proofs.YtcljkhhjondhcaaDoor.MaskP
open Go.Proofs.YtcljkhhjondhcaaDoor.Pl
def sepB (b : UInt8) : Bool := b == 32 || b == 45
/-- how many bytes a run goes on for -/
def runL : List UInt8 → Nat
  | [] => 0
  | [c] => if isD c then 1 else 0
  | c :: d :: u => if isD c then runL (d :: u) + 1 else if sepB c then (if isD d then runL u + 2 else 0) else 0
def dv (b : UInt8) : Int := (b.toNat : Int) - 48
def dbl (d : Int) : Int := if d * 2 > 9 then d * 2 - 9 else d * 2
def lsum (odd : Bool) : List UInt8 → Int
  | [] => 0
  | d :: l => (if odd then dbl (dv d) else dv d) + lsum (!odd) l
def luhnB (ds : List UInt8) : Bool := decide (lsum false ds.reverse % 10 = 0)
def good (ds : List UInt8) : Bool := decide (13 ≤ ds.length) && (decide (ds.length ≤ 19) && luhnB ds)
/-- the first digits hidden -/
def star : Nat → List UInt8 → List UInt8
  | _, [] => []
  | 0, c :: l => c :: l
  | m + 1, c :: l => if isD c then 42 :: star m l else c :: star (m + 1) l
def starSeg (seg : List UInt8) : List UInt8 := if good (seg.filter isD) then star ((seg.filter isD).length - 4) seg else seg
def maskT : List UInt8 → List UInt8
  | [] => []
  | c :: t => if isD c then starSeg (c :: t.take (runL t)) ++ maskT (t.drop (runL t)) else c :: maskT t
termination_by l => l.length
decreasing_by
  · simp; omega
  · simp
theorem maskT_dig {c : UInt8} {t : List UInt8} (h : isD c = true) : maskT (c :: t) = starSeg (c :: t.take (runL t)) ++ maskT (t.drop (runL t)) := by rw [maskT]; simp [h]
theorem maskT_non {c : UInt8} {t : List UInt8} (h : isD c = false) : maskT (c :: t) = c :: maskT t := by rw [maskT]; simp [h]
theorem maskT_nil : maskT [] = [] := by rw [maskT]
theorem sep_not {c : UInt8} (h : sepB c = true) : isD c = false := by
  unfold sepB at h
  rcases Bool.or_eq_true_iff.1 h with h | h <;> (have := beq_iff_eq.1 h; subst this; rfl)
theorem runL_dig {c : UInt8} {t : List UInt8} (h : isD c = true) : runL (c :: t) = runL t + 1 := by
  cases t with
  | nil => simp [runL, h]
  | cons d u => rw [runL]; simp [h]
theorem runL_sep {c d : UInt8} {u : List UInt8} (h : sepB c = true) (hd : isD d = true) : runL (c :: d :: u) = runL u + 2 := by rw [runL]; simp [h, hd, sep_not h]
theorem runL_stop {c : UInt8} {t : List UInt8} (h : isD c = false) (hs : sepB c = true → ∀ d u, t = d :: u → isD d = false) : runL (c :: t) = 0 := by
  cases t with
  | nil => simp [runL, h]
  | cons d u =>
    rw [runL]
    by_cases hc : sepB c = true
    · simp [h, hc, hs hc d u rfl]
    · simp [h, hc]
/-- the three ways of a run: over, a digit, a separator and a digit -/
theorem run_ways (t : List UInt8) : runL t = 0 ∨ (∃ c u, t = c :: u ∧ isD c = true) ∨ (∃ c d u, t = c :: d :: u ∧ sepB c = true ∧ isD d = true) := by
  match t with
  | [] => exact .inl rfl
  | [c] =>
    by_cases h : isD c = true
    · exact .inr (.inl ⟨c, [], rfl, h⟩)
    · exact .inl (by simp [runL, h])
  | c :: d :: u =>
    by_cases h : isD c = true
    · exact .inr (.inl ⟨c, d :: u, rfl, h⟩)
    · by_cases hs : sepB c = true
      · by_cases hd : isD d = true
        · exact .inr (.inr ⟨c, d, u, rfl, hs, hd⟩)
        · exact .inl (runL_stop (by simpa using h) (fun _ d' u' e => by cases e; simpa using hd))
      · exact .inl (runL_stop (by simpa using h) (fun h' => absurd h' hs))
theorem runL_le (t : List UInt8) : runL t ≤ t.length := by
  match t with
  | [] => simp [runL]
  | [c] => simp only [runL]; split <;> simp
  | c :: d :: u =>
    have h1 := runL_le (d :: u)
    have h2 := runL_le u
    rw [runL]
    simp only [List.length_cons] at h1 ⊢
    split
    · omega
    · split
      · split <;> omega
      · omega
theorem runL_rest (t : List UInt8) : runL (t.drop (runL t)) = 0 := by
  rcases run_ways t with h | ⟨c, u, rfl, h⟩ | ⟨c, d, u, rfl, hs, hd⟩
  · rw [h, List.drop_zero, h]
  · rw [runL_dig h, List.drop_succ_cons]; exact runL_rest u
  · rw [runL_sep hs hd]; simp only [List.drop_succ_cons]; exact runL_rest u
termination_by t.length
/-- a whole run, and what stands behind it -/
theorem runL_app (s X : List UInt8) (h : runL s = s.length) (hX : runL X = 0) : runL (s ++ X) = s.length := by
  rcases run_ways s with h0 | ⟨c, u, rfl, hc⟩ | ⟨c, d, u, rfl, hs, hd⟩
  · have : s = [] := by rw [h0] at h; exact List.length_eq_zero_iff.1 h.symm
    subst this
    simpa using hX
  · rw [runL_dig hc, List.length_cons] at h
    rw [List.cons_append, runL_dig hc, runL_app u X (by omega) hX, List.length_cons]
  · rw [runL_sep hs hd] at h
    simp only [List.length_cons] at h
    rw [List.cons_append, List.cons_append, runL_sep hs hd, runL_app u X (by omega) hX]; rfl
termination_by s.length
theorem runL_take (t : List UInt8) : runL (t.take (runL t)) = (t.take (runL t)).length := by
  rcases run_ways t with h | ⟨c, u, rfl, h⟩ | ⟨c, d, u, rfl, hs, hd⟩
  · rw [h]; rfl
  · rw [runL_dig h, List.take_succ_cons, runL_dig h, runL_take u, List.length_cons]
  · rw [runL_sep hs hd]; simp only [List.take_succ_cons]; rw [runL_sep hs hd, runL_take u]; rfl
termination_by t.length
theorem mask_stops (t : List UInt8) (h : runL t = 0) : runL (maskT t) = 0 := by
  match t with
  | [] => rw [maskT_nil]; rfl
  | c :: t =>
    by_cases hc : isD c = true
    · rw [runL_dig hc] at h; omega
    · have hc : isD c = false := by simpa using hc
      rw [maskT_non hc]
      refine runL_stop hc (fun hs d u e => ?_)
      cases t with
      | nil => rw [maskT_nil] at e; cases e
      | cons d' u' =>
        by_cases hd : isD d' = true
        · rw [runL_sep hs hd] at h; omega
        · have hd : isD d' = false := by simpa using hd
          rw [maskT_non hd] at e
          cases e
          exact hd
theorem star_zero (l : List UInt8) : star 0 l = l := by cases l <;> rfl
theorem isD42 : isD 42 = false := rfl
theorem maskT_star (X : List UInt8) (hX : runL X = 0) (hm : maskT X = X) (s : List UInt8) (h : runL s = s.length) (m : Nat) (hd : (s.filter isD).length ≤ m + 12) : maskT (star m s ++ X) = star m s ++ X := by
  rcases run_ways s with h0 | ⟨c, u, rfl, hc⟩ | ⟨c, d, u, rfl, hs, hd'⟩
  · have : s = [] := by rw [h0] at h; exact List.length_eq_zero_iff.1 h.symm
    subst this
    simpa [star] using hm
  · rw [runL_dig hc, List.length_cons] at h
    have hu : runL u = u.length := by omega
    cases m with
    | zero =>
      rw [star_zero, List.cons_append, maskT_dig hc, runL_app u X hu hX, List.take_left, List.drop_left, hm]
      unfold starSeg good
      rw [decide_eq_false (p := 13 ≤ _) (by omega)]
      simp
    | succ m =>
      have e : star (m + 1) (c :: u) = 42 :: star m u := by simp [star, hc]
      rw [e, List.cons_append, maskT_non isD42, maskT_star X hX hm u hu m (by rw [List.filter_cons_of_pos hc, List.length_cons] at hd; omega)]
  · rw [runL_sep hs hd'] at h
    simp only [List.length_cons] at h
    have hn := sep_not hs
    have e : star m (c :: d :: u) = c :: star m (d :: u) := by
      cases m with
      | zero => rfl
      | succ m => rw [star]; simp [hn]
    rw [e, List.cons_append, maskT_non hn, maskT_star X hX hm (d :: u) (by rw [runL_dig hd']; simp only [List.length_cons]; omega) m (by rw [List.filter_cons_of_neg (by simp [hn])] at hd; exact hd)]
termination_by s.length
theorem maskT_idem (l : List UInt8) : maskT (maskT l) = maskT l := by
  match l with
  | [] => rw [maskT_nil, maskT_nil]
  | c :: t =>
    by_cases hc : isD c = true
    · have hX := mask_stops _ (runL_rest t)
      have hm := maskT_idem (t.drop (runL t))
      have ht := runL_take t
      rw [maskT_dig hc]
      generalize t.take (runL t) = s at ht
      generalize maskT (t.drop (runL t)) = X at hX hm
      by_cases hg : good ((c :: s).filter isD) = true
      · have e : starSeg (c :: s) = star (((c :: s).filter isD).length - 4) (c :: s) := by unfold starSeg; rw [if_pos hg]
        rw [e]
        exact maskT_star X hX hm (c :: s) (by rw [runL_dig hc, ht, List.length_cons]) _ (by omega)
      · have e : starSeg (c :: s) = c :: s := by unfold starSeg; rw [if_neg hg]
        rw [e, List.cons_append, maskT_dig hc, runL_app s X ht hX, List.take_left, List.drop_left, hm, e]; rfl
    · have hc : isD c = false := by simpa using hc
      rw [maskT_non hc, maskT_non hc, maskT_idem t]
termination_by l.length
decreasing_by
  · simp; omega
  · simp
/-- byte by byte: the same one, or a hidden digit -/
inductive Hid1 : List UInt8 → List UInt8 → Prop
  | nil : Hid1 [] []
  | same (c : UInt8) {s t : List UInt8} : Hid1 s t → Hid1 (c :: s) (c :: t)
  | hid (c : UInt8) {s t : List UInt8} : isD c = true → Hid1 s t → Hid1 (c :: s) (42 :: t)
theorem Hid1.refl : ∀ l, Hid1 l l
  | [] => .nil
  | c :: l => .same c (Hid1.refl l)
theorem Hid1.app {s t s' t' : List UInt8} (h : Hid1 s t) (h' : Hid1 s' t') : Hid1 (s ++ s') (t ++ t') := by
  induction h with
  | nil => exact h'
  | same c _ ih => exact .same c ih
  | hid c hc _ ih => exact .hid c hc ih
theorem hid_star : ∀ (l : List UInt8) (m : Nat), Hid1 l (star m l)
  | [], _ => by simp only [star]; exact .nil
  | c :: l, 0 => Hid1.refl _
  | c :: l, m + 1 => by
    rw [star]
    split
    · rename_i h; exact .hid c h (hid_star l m)
    · exact .same c (hid_star l (m + 1))
theorem Hid1.mask (l : List UInt8) : Hid1 l (maskT l) := by
  match l with
  | [] => rw [maskT_nil]; exact .nil
  | c :: t =>
    by_cases hc : isD c = true
    · rw [maskT_dig hc]
      have e : c :: t = (c :: t.take (runL t)) ++ t.drop (runL t) := by simp
      have h1 : Hid1 (c :: t.take (runL t)) (starSeg (c :: t.take (runL t))) := by
        unfold starSeg
        split
        · exact hid_star _ _
        · exact Hid1.refl _
      have := Hid1.app h1 (Hid1.mask (t.drop (runL t)))
      rwa [← e] at this
    · have hc : isD c = false := by simpa using hc
      rw [maskT_non hc]
      exact .same c (Hid1.mask t)
termination_by l.length
theorem Hid1.len {s t : List UInt8} (h : Hid1 s t) : t.length = s.length := by
  induction h with
  | nil => rfl
  | same c _ ih => simp [ih]
  | hid c hc _ ih => simp [ih]
theorem Hid1.get {s t : List UInt8} (h : Hid1 s t) : ∀ (i : Nat) (a b : UInt8), s[i]? = some a → t[i]? = some b → b = a ∨ (b = 42 ∧ isD a = true) := by
  induction h with
  | nil => intro i a b ha; simp at ha
  | same c _ ih =>
    intro i a b ha hb
    cases i with
    | zero => simp at ha hb; subst ha; subst hb; exact .inl rfl
    | succ i => exact ih i a b (by simpa using ha) (by simpa using hb)
  | hid c hc _ ih =>
    intro i a b ha hb
    cases i with
    | zero => simp at ha hb; subst ha; subst hb; exact .inr ⟨rfl, hc⟩
    | succ i => exact ih i a b (by simpa using ha) (by simpa using hb)
end Go.Proofs.YtcljkhhjondhcaaDoor.MaskP
