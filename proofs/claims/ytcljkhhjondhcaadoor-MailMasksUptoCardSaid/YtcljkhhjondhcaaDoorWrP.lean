/- Plain laws on wrapped lines, for all lists of bytes: joined by blanks a line is what its parts are; a trimmed line has a blank where its middle has one. Nothing of the program stands here. -/
import Derived.Test.YtcljkhhjondhcaaDoorKindP
import Derived.Lib.Join
namespace Go.Proofs.YtcljkhhjondhcaaDoor.WrP
open Go.RowKit Go.Proofs.YtcljkhhjondhcaaDoorW.PrintWords Go.Proofs.YtcljkhhjondhcaaDoor.Pl Go.Proofs.YtcljkhhjondhcaaDoor.KindP
abbrev jn (l : List Ln) : Ln := Lib.join l [32]
theorem jn_two (x y : Ln) (r : List Ln) : jn (x :: y :: r) = x ++ 32 :: jn (y :: r) := by
  unfold jn
  rw [Lib.join_cons, Lib.join_cons]
  unfold Lib.joinTail
  simp
theorem jn_ne (x : Ln) {r : List Ln} (h : r ≠ []) : jn (x :: r) = x ++ 32 :: jn r := by
  cases r with
  | nil => exact absurd rfl h
  | cons y r => exact jn_two x y r
theorem jn_split (a b : Ln) (r : List Ln) : ∀ acc : List Ln, jn (acc ++ a :: b :: r) = jn (acc ++ (a ++ 32 :: b) :: r)
  | [] => by
    rw [List.nil_append, List.nil_append, jn_two]
    cases r with
    | nil =>
      unfold jn
      rw [Lib.join_one, Lib.join_one]
    | cons y r =>
      rw [jn_two, jn_two]
      simp
  | x :: acc => by
    rw [List.cons_append, List.cons_append, jn_ne x (by simp), jn_ne x (by simp), jn_split a b r acc]
def tot : List Ln → Nat
  | [] => 0
  | x :: r => x.length + 1 + tot r
theorem tot_len : ∀ l, l.length ≤ tot l
  | [] => Nat.le_refl _
  | x :: r => by
    have := tot_len r
    rw [List.length_cons]
    unfold tot
    omega
theorem jn_len : ∀ l : List Ln, (jn l).length ≤ tot l
  | [] => by simp [jn, Lib.join_nil]
  | [x] => by unfold jn; rw [Lib.join_one]; unfold tot; omega
  | x :: y :: r => by
    have := jn_len (y :: r)
    rw [jn_two, List.length_append, List.length_cons]
    rw [show tot (x :: y :: r) = x.length + 1 + tot (y :: r) from rfl]
    omega

/-! ### trimmed -/
abbrev isb (b : UInt8) : Bool := bks.contains b
def first (l : Ln) : Nat := l.length - (Lib.trimLeftS l bks).length
theorem dw_take (p : UInt8 → Bool) (l : Ln) : l = l.takeWhile p ++ l.dropWhile p := (List.takeWhile_append_dropWhile).symm
/-- A blank in what is trimmed stands behind the leading ones. -/
theorem blank_in {l m y : Ln} (h : l = m ++ y) (hm : 32 ∈ Lib.trimS m bks) : ∃ j, first l ≤ j ∧ j < (Lib.trimRightS m bks).length ∧ l[j]? = some 32 := by
  obtain ⟨z, hz, _⟩ := trimR_split m
  generalize hX : Lib.trimRightS m bks = X at hz ⊢
  have hm' : 32 ∈ X.dropWhile (fun b => isb b) := by rw [← hX]; exact hm
  have hl : l = X ++ (z ++ y) := by rw [h, hz, List.append_assoc]
  obtain ⟨A, B, hAB⟩ := List.append_of_mem hm'
  have hX2 := dw_take (fun b => isb b) X
  have hdl : Lib.trimLeftS l bks = X.dropWhile (fun b => isb b) ++ (z ++ y) := by
    show l.dropWhile (fun b => isb b) = _
    rw [hl, List.dropWhile_append, if_neg]
    rw [hAB]
    simp
  obtain ⟨T, hT⟩ : ∃ T, X.takeWhile (fun b => isb b) = T := ⟨_, rfl⟩
  rw [hAB] at hdl hX2
  rw [hT] at hX2
  have hXl := congrArg List.length hX2
  have hll := congrArg List.length hl
  have hdll := congrArg List.length hdl
  simp only [List.length_append, List.length_cons] at hXl hll hdll
  refine ⟨T.length + A.length, ?_, by omega, ?_⟩
  · unfold first
    omega
  · have e : l = (T ++ A) ++ 32 :: (B ++ (z ++ y)) := by rw [hl, hX2]; simp
    rw [e, List.getElem?_append_right (by simp)]
    simp
/-- What a line was cut off at a blank: no blank in its middle, if there was none before. -/
def good (w : Int) (l : Ln) : Prop := (l.length : Int) ≤ w ∨ qd l = true ∨ 32 ∉ Lib.trimS l bks
theorem good_cut {l : Ln} {i : Nat} (hi : i ≤ l.length) (h : ∀ j, first l ≤ j → j < i → l[j]? ≠ some 32) : 32 ∉ Lib.trimS (l.take i) bks := by
  intro hm
  obtain ⟨j, h1, h2, h3⟩ := blank_in (l := l) (m := l.take i) (y := l.drop i) (List.take_append_drop i l).symm hm
  have := trimR_split (l.take i)
  obtain ⟨z, hz, _⟩ := this
  have hl := congrArg List.length hz
  rw [List.length_append, List.length_take] at hl
  exact h j h1 (by omega) h3
theorem good_all {l : Ln} (h : ∀ j, first l ≤ j → j < (Lib.trimRightS l bks).length → l[j]? ≠ some 32) : 32 ∉ Lib.trimS l bks := by
  intro hm
  obtain ⟨j, h1, h2, h3⟩ := blank_in (l := l) (m := l) (y := []) (by simp) hm
  exact h j h1 h2 h3
end Go.Proofs.YtcljkhhjondhcaaDoor.WrP
