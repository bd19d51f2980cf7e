/- Plain laws on the kinds of lines, for all lists of lines: signatures found forwards and backwards, leads marked one by one and in one go. Nothing of the program stands here. -/
import Derived.Test.YtcljkhhjondhcaaDoorLow
import Derived.Test.YtcljkhhjondhcaaDoorPl
namespace Go.Proofs.YtcljkhhjondhcaaDoor.KindP
open Go.RowKit Go.Proofs.YtcljkhhjondhcaaDoorW.PrintWords Go.Proofs.YtcljkhhjondhcaaDoor.Ext Go.Proofs.YtcljkhhjondhcaaDoor.Pl
abbrev Ln := List UInt8
abbrev bks : List UInt8 := [32, 9]
abbrev wrote : List UInt8 := [119, 114, 111, 116, 101]
def qd (l : Ln) : Bool := [62].isPrefixOf l
def emp (l : Ln) : Bool := Lib.trimS l bks == []
def sep (l : Ln) : Bool := (l == [45, 45]) || (l == [45, 45, 32])
theorem sep_qd {l : Ln} (h : sep l = true) : qd l = false := by
  unfold sep at h
  simp only [Bool.or_eq_true, beq_iff_eq] at h
  rcases h with rfl | rfl <;> rfl

/-! ### the signature -/
def sgn : List Ln → Nat
  | [] => 0
  | x :: r => if sep x = true ∧ r.length ≤ 12 ∧ r.all (fun y => !qd y) = true then 0 else sgn r + 1
theorem sgn_le : ∀ l, sgn l ≤ l.length
  | [] => Nat.le_refl _
  | x :: r => by
    unfold sgn
    have := sgn_le r
    split
    · omega
    · simp; omega
/-- From a place on behind which nothing can be a signature. -/
theorem sgn_skip : ∀ (a r : List Ln), (∀ (b c : List Ln) (x : Ln), a = b ++ x :: c → ¬ (sep x = true ∧ (c ++ r).length ≤ 12 ∧ (c ++ r).all (fun y => !qd y) = true)) → sgn (a ++ r) = a.length + sgn r
  | [], r, _ => by simp
  | x :: a, r, h => by
    rw [List.cons_append]
    conv => lhs; unfold sgn
    rw [if_neg (h [] a x rfl), sgn_skip a r (fun b c y e => h (x :: b) c y (by rw [e]; rfl)), List.length_cons]
    omega

/-! ### 'wrote' -/
theorem index_iff (sub : Ln) (hs : sub ≠ []) : ∀ s : Ln, 0 ≤ Lib.index s sub ↔ sub <:+: s
  | [] => by
    unfold Lib.index
    cases sub with
    | nil => exact absurd rfl hs
    | cons x r => simp
  | b :: l => by
    unfold Lib.index
    have ih := index_iff sub hs l
    have hge := Lib.index_ge l sub
    rw [List.infix_cons_iff]
    by_cases hp : sub.isPrefixOf (b :: l) = true
    · rw [if_pos hp]
      exact ⟨fun _ => .inl (List.isPrefixOf_iff_prefix.1 hp), fun _ => Int.le_refl _⟩
    · rw [if_neg hp]
      have hnp : ¬ sub <+: b :: l := fun h => hp (List.isPrefixOf_iff_prefix.2 h)
      by_cases h1 : Lib.index l sub = -1
      · rw [if_pos (by rw [h1]; rfl)]
        constructor
        · intro h; omega
        · rintro (h | h)
          · exact absurd h hnp
          · have := ih.2 h; omega
      · rw [if_neg (by simpa using h1)]
        constructor
        · intro _; exact .inr (ih.1 (by omega))
        · rintro (h | h)
          · exact absurd h hnp
          · have := ih.2 h; omega
theorem contains_iff (s sub : Ln) (hs : sub ≠ []) : Lib.contains s sub = true ↔ sub <:+: s := by
  unfold Lib.contains
  rw [decide_eq_true_iff]
  exact index_iff sub hs s
/-- What stands behind is of other bytes than the last one that is sought. -/
theorem infix_left (sub x y : Ln) (b : UInt8) (hsub : sub.getLast? = some b) (hy : b ∉ y) : sub <:+: x ++ y ↔ sub <:+: x := by
  constructor
  · rintro ⟨a, c, h⟩
    rw [List.append_eq_append_iff] at h
    rcases h with ⟨e, h1, h2⟩ | ⟨e, h1, h2⟩
    · exact ⟨a, e, h1.symm⟩
    · rcases List.eq_nil_or_concat e with rfl | ⟨e, z, rfl⟩
      · exact ⟨a, [], by simpa using h1⟩
      · exfalso
        rw [List.concat_eq_append] at h1 h2
        have hz : z = b := by
          have h3 := congrArg List.getLast? h1
          rw [List.getLast?_append, hsub, ← List.append_assoc, List.getLast?_concat] at h3
          simpa using h3.symm
        subst hz
        exact hy (by rw [h2]; simp)
  · rintro ⟨a, c, h⟩
    exact ⟨a, c ++ y, by rw [← h]; simp⟩
theorem mem_tw {p : UInt8 → Bool} : ∀ (l : Ln) (b : UInt8), b ∈ l.takeWhile p → p b = true
  | [], b, h => by simp at h
  | x :: l, b, h => by
    by_cases hx : p x = true
    · rw [List.takeWhile_cons_of_pos hx] at h
      rcases List.mem_cons.1 h with rfl | h
      · exact hx
      · exact mem_tw l b h
    · rw [List.takeWhile_cons_of_neg hx] at h; cases h
theorem dw_nil {p : UInt8 → Bool} : ∀ (l : Ln), l.dropWhile p = [] → ∀ b ∈ l, p b = true
  | [], _, b, h => by cases h
  | x :: l, hd, b, h => by
    by_cases hx : p x = true
    · rw [List.dropWhile_cons_of_pos hx] at hd
      rcases List.mem_cons.1 h with rfl | h
      · exact hx
      · exact dw_nil l hd b h
    · rw [List.dropWhile_cons_of_neg hx] at hd; cases hd
theorem trimR_split (l : Ln) : ∃ y, l = Lib.trimRightS l bks ++ y ∧ ∀ b ∈ y, bks.contains b = true := by
  refine ⟨(l.reverse.takeWhile (bks.contains ·)).reverse, ?_, ?_⟩
  · unfold Lib.trimRightS
    rw [← List.reverse_append, List.takeWhile_append_dropWhile, List.reverse_reverse]
  · intro b hb
    exact mem_tw _ b (List.mem_reverse.1 hb)
theorem low_blank {b : UInt8} (h : bks.contains b = true) : lowB b = b := by
  have : b = 32 ∨ b = 9 := by simpa using h
  rcases this with rfl | rfl <;> rfl
def introP (l : Ln) : Bool := [58].isSuffixOf (Lib.trimRightS l bks) && Lib.contains ((Lib.trimRightS l bks).map lowB) wrote
def introR (l : Ln) : Bool := !emp l && ([58].isSuffixOf (Lib.trimRightS l bks) && Lib.contains (l.map lowB) wrote)
theorem intro_eq (l : Ln) : introP l = introR l := by
  unfold introP introR
  by_cases hs : [58].isSuffixOf (Lib.trimRightS l bks) = true
  · have he : emp l = false := by
      unfold emp
      rw [beq_eq_false_iff_ne]
      intro h
      obtain ⟨a, ha⟩ := List.isSuffixOf_iff_suffix.1 hs
      have hm : (58 : UInt8) ∈ Lib.trimRightS l bks := by rw [← ha]; simp
      have hall : ∀ b ∈ Lib.trimRightS l bks, bks.contains b = true := by
        have hd : (Lib.trimRightS l bks).dropWhile (bks.contains ·) = [] := h
        intro b hb
        exact dw_nil _ hd b hb
      have := hall 58 hm
      exact absurd this (by decide)
    rw [hs, he]
    simp only [Bool.true_and, Bool.not_false]
    rw [Bool.eq_iff_iff, contains_iff _ _ (by decide), contains_iff _ _ (by decide)]
    obtain ⟨y, hy, hb⟩ := trimR_split l
    have e : l.map lowB = (Lib.trimRightS l bks).map lowB ++ y.map lowB := by rw [← List.map_append, ← hy]
    rw [e]
    refine (infix_left wrote _ _ 101 rfl ?_).symm
    intro h
    obtain ⟨b, hby, hbl⟩ := List.mem_map.1 h
    rw [low_blank (hb b hby)] at hbl
    subst hbl
    exact absurd (hb 101 hby) (by decide)
  · rw [Bool.not_eq_true] at hs
    rw [hs]; simp

/-! ### the kinds -/
def baseK (ls : List Ln) (e i : Nat) : Int := if e ≤ i then 4 else if qd (ls.getD i []) = true then 3 else 1
def baseTo (ls : List Ln) (e k : Nat) : List Int := (List.range k).map (baseK ls e)
theorem baseTo_len (ls : List Ln) (e k : Nat) : (baseTo ls e k).length = k := by simp [baseTo]
theorem baseTo_succ (ls : List Ln) (e k : Nat) : baseTo ls e (k + 1) = baseTo ls e k ++ [baseK ls e k] := by simp [baseTo, List.range_succ]
theorem set_at (A Z : List Int) (x y : Int) : (A ++ x :: Z).set A.length y = A ++ y :: Z := by
  rw [List.set_append_right _ _ (Nat.le_refl _), Nat.sub_self, List.set_cons_zero]
def skip (ls : List Ln) (e : Nat) : Nat → Nat → Nat
  | 0, k => k
  | d + 1, k => if k < e ∧ emp (ls.getD k []) = true then skip ls e d (k + 1) else k
theorem skip_ge (ls : List Ln) (e : Nat) : ∀ d k, k ≤ skip ls e d k
  | 0, k => Nat.le_refl _
  | d + 1, k => by
    unfold skip
    split
    · have := skip_ge ls e d (k + 1); omega
    · exact Nat.le_refl _
theorem skip_le (ls : List Ln) (e : Nat) : ∀ d k, k ≤ e → skip ls e d k ≤ e
  | 0, k, h => h
  | d + 1, k, h => by
    unfold skip
    split
    · rename_i hc; exact skip_le ls e d (k + 1) (by omega)
    · exact h
def fill : Nat → Nat → List Int → List Int
  | 0, _, K => K
  | d + 1, i, K => fill d (i + 1) (K.set i 2)
theorem fill_len : ∀ d i K, (fill d i K).length = K.length
  | 0, _, _ => rfl
  | d + 1, i, K => by unfold fill; rw [fill_len d]; simp
theorem fill_out : ∀ (d i : Nat) (K : List Int) (j : Nat), (j < i ∨ i + d ≤ j) → (fill d i K)[j]? = K[j]?
  | 0, _, _, _, _ => rfl
  | d + 1, i, K, j, h => by
    unfold fill
    rw [fill_out d (i + 1) _ j (by omega), List.getElem?_set_ne (by omega)]
theorem fill_in : ∀ (d i : Nat) (K : List Int) (j : Nat), i ≤ j → j < i + d → j < K.length → (fill d i K)[j]? = some 2
  | 0, _, _, _, h1, h2, _ => absurd h2 (by omega)
  | d + 1, i, K, j, h1, h2, h3 => by
    unfold fill
    by_cases e : i = j
    · subst e
      rw [fill_out d (i + 1) _ i (by omega), List.getElem?_set_self (by omega)]
    · exact fill_in d (i + 1) _ j (by omega) (by omega) (by simpa using h3)
/-- one by one, from i on, d places to go -/
def run1 (ls : List Ln) (e : Nat) : Nat → Nat → List Int → List Int
  | 0, _, K => K
  | d + 1, i, K =>
    if K.getD i 0 = 1 ∧ introP (ls.getD i []) = true then
      (if skip ls e (e - (i + 1)) (i + 1) < e ∧ K.getD (skip ls e (e - (i + 1)) (i + 1)) 0 = 3 then run1 ls e d (i + 1) (fill (skip ls e (e - (i + 1)) (i + 1) - i) i K) else run1 ls e d (i + 1) K)
    else run1 ls e d (i + 1) K
theorem run1_len (ls : List Ln) (e : Nat) : ∀ d i K, (run1 ls e d i K).length = K.length
  | 0, _, _ => rfl
  | d + 1, i, K => by
    unfold run1
    split
    · split
      · rw [run1_len ls e d, fill_len]
      · rw [run1_len ls e d]
    · rw [run1_len ls e d]
theorem run1_skip (ls : List Ln) (e : Nat) : ∀ m d i K, (∀ j, i ≤ j → j < i + m → K.getD j 0 ≠ 1) → run1 ls e (d + m) i K = run1 ls e d (i + m) K
  | 0, _, _, _, _ => rfl
  | m + 1, d, i, K, h => by
    rw [show d + (m + 1) = (d + m) + 1 by omega]
    conv => lhs; unfold run1
    rw [if_neg (fun hc => h i (Nat.le_refl _) (by omega) hc.1), run1_skip ls e m d (i + 1) K (fun j h1 h2 => h j (by omega) (by omega)), show i + 1 + m = i + (m + 1) by omega]
def kinds (ls : List Ln) : List Int := run1 ls (sgn ls) (sgn ls) 0 (baseTo ls (sgn ls) ls.length)
theorem kinds_len (ls : List Ln) : (kinds ls).length = ls.length := by unfold kinds; rw [run1_len, baseTo_len]
end Go.Proofs.YtcljkhhjondhcaaDoor.KindP
