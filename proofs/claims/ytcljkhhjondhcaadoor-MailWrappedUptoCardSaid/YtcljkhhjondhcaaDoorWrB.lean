/- The pure statement of MailWrapped: for lists of lines of at most 1048576 bytes in all, the printed law answers true, whatever the width. -/
import Derived.Test.YtcljkhhjondhcaaDoorIw
import Derived.Test.YtcljkhhjondhcaaDoorWrP
import Derived.Test.YtcljkhhjondhcaaDoorLibIw
namespace Go.Proofs.YtcljkhhjondhcaaDoor.WrB
open Go.RowKit Go.Proofs.YtcljkhhjondhcaaDoorW.PrintWords Go.Proofs.YtcljkhhjondhcaaDoor.Ext Go.Proofs.YtcljkhhjondhcaaDoor.Iw Go.Proofs.YtcljkhhjondhcaaDoor.Pl Go.Proofs.YtcljkhhjondhcaaDoor.LibIw Go.Proofs.YtcljkhhjondhcaaDoor.KindP Go.Proofs.YtcljkhhjondhcaaDoor.WrP
theorem Ev.val {α : Type} {g : Nat → Option α} {r r' : α} (h : Ev g r) (e : r = r') : Ev g r' := e ▸ h
theorem up {i : Nat} (h : i ≤ 4611686018427387904) : wrap64 ((i : Int) + 1) = ((i + 1 : Nat) : Int) := by rw [w64 (by omega) (by omega)]; omega
theorem at_get (l : List ByteArray) {i : Nat} (h : i < l.length) : rdOf ByteArray.empty l (i : Int) = l[i] := by
  unfold rdOf
  rw [Int.toNat_natCast, List.getD_eq_getElem?_getD, List.getElem?_eq_getElem h]; rfl
theorem at_bl (l : List ByteArray) {i : Nat} (h : i < l.length) : bl (rdOf ByteArray.empty l (i : Int)) = (l.map bl).getD i [] := by
  rw [at_get l h, List.getD_eq_getElem?_getD, List.getElem?_map, List.getElem?_eq_getElem h]; rfl
theorem at_mem (l : List ByteArray) {i : Nat} (h : i < l.length) : rdOf ByteArray.empty l (i : Int) ∈ l := by rw [at_get l h]; exact List.getElem_mem h
theorem at_drop (l : List ByteArray) {i : Nat} (h : i < l.length) : l.drop i = rdOf ByteArray.empty l (i : Int) :: l.drop (i + 1) := by rw [at_get l h]; exact List.drop_eq_getElem_cons h
theorem quoted_f (a : ByteArray) : mail_quoted.f a = some (qd (bl a)) := by unfold mail_quoted.f; rw [hasPrefix_f]; rfl
theorem refQuoted_f (a : ByteArray) : strings_HasPrefix.f a (⟨#[62]⟩ : ByteArray) = some (qd (bl a)) := hasPrefix_f a _
theorem trimG_f {f : List UInt8 → List UInt8 → List UInt8} {a : ByteArray} (h : a.size < 4294967281) : trimG f a (⟨#[32, 9]⟩ : ByteArray) = some (ba (f (bl a) bks)) := by
  unfold trimG
  rw [if_pos (by omega), if_pos (by decide), if_pos (by decide)]
  rfl
theorem trimR_f {a : ByteArray} (h : a.size < 4294967281) : strings_TrimRight.f a (⟨#[32, 9]⟩ : ByteArray) = some (ba (Lib.trimRightS (bl a) bks)) := trimG_f h
theorem trimR_len (l : Ln) : (Lib.trimRightS l bks).length ≤ l.length := by
  obtain ⟨y, hy, _⟩ := trimR_split l
  have := congrArg List.length hy
  rw [List.length_append] at this
  omega
theorem trimL_f {a : ByteArray} (h : a.size < 4294967281) : strings_TrimLeft.f a (⟨#[32, 9]⟩ : ByteArray) = some (ba (Lib.trimLeftS (bl a) bks)) := trimG_f h
theorem trim_f {a : ByteArray} (h : a.size < 4294967281) : strings_Trim.f a (⟨#[32, 9]⟩ : ByteArray) = some (ba (Lib.trimS (bl a) bks)) := trimG_f h
theorem trimL_len (l : Ln) : (Lib.trimLeftS l bks).length ≤ l.length := (List.dropWhile_suffix _).length_le

/-! ### cut -/
def Inv (l : Ln) (w : Int) (f i : Nat) (b : Int) : Prop := (b = -1 ∧ ∀ j, f ≤ j → j < i → l[j]? ≠ some 32) ∨ (∃ n : Nat, b = (n : Int) ∧ n < i ∧ l[n]? = some 32 ∧ ((n : Int) ≤ w ∨ ∀ j, f ≤ j → j < n → l[j]? ≠ some 32))
theorem cut_l0 (a : ByteArray) (w : Int) (L f : Nat) (hL : L ≤ (bl a).length) (hz : a.size ≤ 1048576) : ∀ (d i : Nat) (b : Int), i + d = L → f ≤ i → Inv (bl a) w f i b →
    ∃ r, Ev (fun k => mail_cut.l0 k a w (L : Int) b (i : Int)) r ∧ Inv (bl a) w f L r := by
  have hsz := bl_size a
  intro d
  induction d with
  | zero =>
    intro i b hi hf hI
    obtain rfl : i = L := by omega
    refine ⟨b, Ev.shift ?_, hI⟩
    simp only [mail_cut.l0]
    exact Ev.neg (by omega) (Ev.cst rfl)
  | succ d ih =>
    intro i b hi hf hI
    have hlt : i < (bl a).length := by omega
    have hget : (bl a)[i]? = some (bl a)[i] := List.getElem?_eq_getElem hlt
    have hbt := bt_nat hget
    by_cases h32 : (bl a)[i] = 32
    · have hc : bt a (i : Int) = 32 := by rw [hbt, h32]; rfl
      rw [h32] at hget
      by_cases hneg : b < 0
      · have hI' : Inv (bl a) w f (i + 1) (i : Int) := by
          refine .inr ⟨i, rfl, by omega, hget, .inr ?_⟩
          rcases hI with ⟨_, h⟩ | ⟨n, h, _⟩
          · exact h
          · omega
        obtain ⟨r, e, h⟩ := ih (i + 1) (i : Int) (by omega) (by omega) hI'
        refine ⟨r, Ev.shift ?_, h⟩
        simp only [mail_cut.l0]
        rw [up (by omega)]
        exact Ev.pos (by omega) (Ev.pos (by omega) (Ev.pos (by omega) (Ev.pos hc (Ev.pos hneg e))))
      · by_cases hw : (i : Int) ≤ w
        · obtain ⟨r, e, h⟩ := ih (i + 1) (i : Int) (by omega) (by omega) (.inr ⟨i, rfl, by omega, hget, .inl hw⟩)
          refine ⟨r, Ev.shift ?_, h⟩
          simp only [mail_cut.l0]
          rw [up (by omega)]
          exact Ev.pos (by omega) (Ev.pos (by omega) (Ev.pos (by omega) (Ev.pos hc (Ev.neg hneg (Ev.pos hw e)))))
        · have hI' : Inv (bl a) w f (i + 1) b := by
            rcases hI with ⟨h, _⟩ | ⟨n, h1, h2, h3, h4⟩
            · omega
            · exact .inr ⟨n, h1, by omega, h3, h4⟩
          obtain ⟨r, e, h⟩ := ih (i + 1) b (by omega) (by omega) hI'
          refine ⟨r, Ev.shift ?_, h⟩
          simp only [mail_cut.l0]
          rw [up (by omega)]
          exact Ev.pos (by omega) (Ev.pos (by omega) (Ev.pos (by omega) (Ev.pos hc (Ev.neg hneg (Ev.neg hw e)))))
    · have hc : ¬ bt a (i : Int) = 32 := by
        rw [hbt]
        intro e
        exact h32 (UInt8.toNat_inj.1 (by show ((bl a)[i]).toNat = 32; omega))
      have hI' : Inv (bl a) w f (i + 1) b := by
        rcases hI with ⟨h, h'⟩ | ⟨n, h1, h2, h3, h4⟩
        · refine .inl ⟨h, fun j hj1 hj2 => ?_⟩
          by_cases e : j = i
          · subst e
            rw [hget]
            intro e
            exact h32 (Option.some.inj e)
          · exact h' j hj1 (by omega)
        · exact .inr ⟨n, h1, by omega, h3, h4⟩
      obtain ⟨r, e, h⟩ := ih (i + 1) b (by omega) (by omega) hI'
      refine ⟨r, Ev.shift ?_, h⟩
      simp only [mail_cut.l0]
      rw [up (by omega)]
      exact Ev.pos (by omega) (Ev.pos (by omega) (Ev.pos (by omega) (Ev.neg hc e)))
theorem cut_f (a : ByteArray) (w : Int) (hz : a.size ≤ 1048576) : ∃ r, Ev (fun k => mail_cut.f k a w) r ∧ Inv (bl a) w (first (bl a)) (Lib.trimRightS (bl a) bks).length r := by
  have hsz := bl_size a
  have hl := trimL_len (bl a)
  have hr := trimR_len (bl a)
  have hw : wrap64 ((a.size : Int) - ((ba (Lib.trimLeftS (bl a) bks)).size : Int)) = ((first (bl a) : Nat) : Int) := by
    rw [ba_size, w64 (by omega) (by omega)]
    unfold first
    omega
  have key : ∃ r, Ev (fun k => mail_cut.l0 k a w ((Lib.trimRightS (bl a) bks).length : Int) (-1) ((first (bl a) : Nat) : Int)) r ∧ Inv (bl a) w (first (bl a)) (Lib.trimRightS (bl a) bks).length r := by
    by_cases h : first (bl a) ≤ (Lib.trimRightS (bl a) bks).length
    · exact cut_l0 a w _ _ hr hz _ _ (-1) (Nat.add_sub_cancel' h) (Nat.le_refl _) (.inl ⟨rfl, fun j h1 h2 => absurd h2 (by omega)⟩)
    · refine ⟨-1, Ev.shift ?_, .inl ⟨rfl, fun j h1 h2 => absurd h2 (by omega)⟩⟩
      simp only [mail_cut.l0]
      exact Ev.neg (by omega) (Ev.cst rfl)
  obtain ⟨r, e, h⟩ := key
  refine ⟨r, ?_, h⟩
  unfold mail_cut.f
  refine Ev.bindc (trimL_f (by omega)) (Ev.bindc (trimR_f (by omega)) ?_)
  rw [hw, ba_size]
  exact e

/-! ### Wrap -/
def Fin (x0 : List ByteArray) (w : Int) (S : Nat) (L : List ByteArray) : Prop := jn (L.map bl) = jn (x0.map bl) ∧ x0.length ≤ L.length ∧ (∀ p ∈ L, good w (bl p)) ∧ L.length ≤ S
section
variable (x0 : List ByteArray) (w : Int) (S : Nat) (hS : S ≤ 1048576) (hb : ∀ s ∈ x0, s.size ≤ 1048576)
include hS
/-- One line and what is behind it. -/
theorem wrap_l2 (i : Nat) (hi : i < x0.length) (hn : x0.length ≤ 1048576)
    (next : ∀ acc : List ByteArray, jn (acc.map bl ++ (x0.drop (i + 1)).map bl) = jn (x0.map bl) → i + 1 ≤ acc.length → (∀ p ∈ acc, good w (bl p)) → acc.length + tot ((x0.drop (i + 1)).map bl) ≤ S →
      ∃ L, Ev (fun k => mail_Wrap.l1 k w acc x0 (x0.length : Int) ((i + 1 : Nat) : Int)) (L, 0) ∧ Fin x0 w S L) :
    ∀ (n : Nat) (s : ByteArray) (acc : List ByteArray), s.size ≤ n → s.size ≤ 1048576 → jn (acc.map bl ++ bl s :: (x0.drop (i + 1)).map bl) = jn (x0.map bl) → i ≤ acc.length → (∀ p ∈ acc, good w (bl p)) → acc.length + (s.size + 1) + tot ((x0.drop (i + 1)).map bl) ≤ S →
      ∃ L, Ev (fun k => mail_Wrap.l2 k w acc s x0 (x0.length : Int) (i : Int)) (L, 0) ∧ Fin x0 w S L := by
  intro n
  induction n with
  | zero =>
    intro s acc hs hz hj ha hg ht
    have put : good w (bl s) → ∃ L, Ev (fun k => mail_Wrap.l1 k w (acc ++ [s]) x0 (x0.length : Int) ((i + 1 : Nat) : Int)) (L, 0) ∧ Fin x0 w S L := fun h =>
      next (acc ++ [s]) (by rw [← hj]; simp) (by simp; omega) (by
        intro p hp
        rcases List.mem_append.1 hp with hp | hp
        · exact hg p hp
        · rw [List.mem_singleton.1 hp]; exact h) (by rw [List.length_append, List.length_singleton]; omega)
    have hsz := bl_size s
    have hgs : good w (bl s) := .inr (.inr (by
      have : bl s = [] := List.length_eq_zero_iff.1 (by omega)
      rw [this]; decide))
    obtain ⟨L, e, h⟩ := put hgs
    by_cases h1 : (s.size : Int) > w
    · refine ⟨L, Ev.shift ?_, h⟩
      have hq : qd (bl s) = false := by
        have : bl s = [] := List.length_eq_zero_iff.1 (by omega)
        rw [this]; rfl
      simp only [mail_Wrap.l2]
      refine Ev.pos h1 (Ev.bindc (quoted_f s) (Ev.shift ?_))
      rw [hq]
      simp only [mail_Wrap.j4]
      obtain ⟨r, ec, hI⟩ := cut_f s w hz
      have hr : r < 0 := by
        rcases hI with ⟨rfl, _⟩ | ⟨m, _, hm, hm2, _⟩
        · decide
        · have := trimR_len (bl s); omega
      rw [up (by omega)]
      exact Ev.pos (by decide) (Ev.bind ec (Ev.pos hr (Ev.pos (by omega) e)))
    · refine ⟨L, Ev.shift ?_, h⟩
      simp only [mail_Wrap.l2]
      refine Ev.neg h1 (Ev.shift ?_)
      simp only [mail_Wrap.j4]
      rw [up (by omega)]
      exact Ev.neg (by decide) (Ev.pos (by omega) e)
  | succ n ih =>
    intro s acc hs hz hj ha hg ht
    have put : good w (bl s) → ∃ L, Ev (fun k => mail_Wrap.l1 k w (acc ++ [s]) x0 (x0.length : Int) ((i + 1 : Nat) : Int)) (L, 0) ∧ Fin x0 w S L := fun h =>
      next (acc ++ [s]) (by rw [← hj]; simp) (by simp; omega) (by
        intro p hp
        rcases List.mem_append.1 hp with hp | hp
        · exact hg p hp
        · rw [List.mem_singleton.1 hp]; exact h) (by rw [List.length_append, List.length_singleton]; omega)
    have hsz := bl_size s
    by_cases h1 : (s.size : Int) > w
    · by_cases hq : qd (bl s) = true
      · obtain ⟨L, e, h⟩ := put (.inr (.inl hq))
        refine ⟨L, Ev.shift ?_, h⟩
        simp only [mail_Wrap.l2]
        refine Ev.pos h1 (Ev.bindc (quoted_f s) (Ev.shift ?_))
        rw [hq]
        simp only [mail_Wrap.j4]
        rw [up (by omega)]
        exact Ev.neg (by decide) (Ev.pos (by omega) e)
      · rw [Bool.not_eq_true] at hq
        obtain ⟨r, ec, hI⟩ := cut_f s w hz
        rcases hI with ⟨rfl, hI⟩ | ⟨m, rfl, hm, hm2, hI⟩
        · obtain ⟨L, e, h⟩ := put (.inr (.inr (good_all hI)))
          refine ⟨L, Ev.shift ?_, h⟩
          simp only [mail_Wrap.l2]
          refine Ev.pos h1 (Ev.bindc (quoted_f s) (Ev.shift ?_))
          rw [hq]
          simp only [mail_Wrap.j4]
          rw [up (by omega)]
          exact Ev.pos (by decide) (Ev.bind ec (Ev.pos (by decide) (Ev.pos (by omega) e)))
        · have hr := trimR_len (bl s)
          have hml : m < (bl s).length := by omega
          have hbs : bl s = (bl s).take m ++ 32 :: (bl s).drop (m + 1) := by
            have hg := (List.getElem?_eq_some_iff.1 hm2).2
            conv => lhs; rw [← List.take_append_drop m (bl s), List.drop_eq_getElem_cons hml, hg]
          have hgood : good w (bl (s.extract 0 m)) := by
            rw [bl_take]
            rcases hI with hI | hI
            · refine .inl ?_
              rw [List.length_take]
              omega
            · exact .inr (.inr (good_cut (by omega) hI))
          have hsz2 : (s.extract (m + 1) s.size).size = s.size - (m + 1) := by rw [bl_size, bl_drop, List.length_drop, ← bl_size]
          obtain ⟨L, e, h⟩ := ih (s.extract (m + 1) s.size) (acc ++ [s.extract 0 m]) (by omega) (by omega) (by
            rw [← hj, List.map_append, List.map_cons, List.map_nil, bl_take, bl_drop, List.append_assoc, List.singleton_append, jn_split, ← hbs]) (by simp; omega) (by
            intro p hp
            rcases List.mem_append.1 hp with hp | hp
            · exact hg p hp
            · rw [List.mem_singleton.1 hp]; exact hgood) (by rw [List.length_append, List.length_singleton]; omega)
          refine ⟨L, Ev.shift ?_, h⟩
          simp only [mail_Wrap.l2]
          refine Ev.pos h1 (Ev.bindc (quoted_f s) (Ev.shift ?_))
          rw [hq]
          simp only [mail_Wrap.j4]
          refine Ev.pos (by decide) (Ev.bind ec (Ev.neg (by omega) ?_))
          rw [up (i := m) (by omega)]
          simp only [Int.toNat_natCast]
          exact Ev.pos (by omega) (Ev.pos (by omega) (Ev.pos (by omega) (Ev.pos (by omega) (Ev.pos (by omega) e))))
    · obtain ⟨L, e, h⟩ := put (.inl (by omega))
      refine ⟨L, Ev.shift ?_, h⟩
      simp only [mail_Wrap.l2]
      refine Ev.neg h1 (Ev.shift ?_)
      simp only [mail_Wrap.j4]
      rw [up (by omega)]
      exact Ev.neg (by decide) (Ev.pos (by omega) e)
include hb
theorem wrap_l1 (hn : x0.length ≤ 1048576) : ∀ (d i : Nat) (acc : List ByteArray), i + d = x0.length → jn (acc.map bl ++ (x0.drop i).map bl) = jn (x0.map bl) → i ≤ acc.length → (∀ p ∈ acc, good w (bl p)) → acc.length + tot ((x0.drop i).map bl) ≤ S →
    ∃ L, Ev (fun k => mail_Wrap.l1 k w acc x0 (x0.length : Int) (i : Int)) (L, 0) ∧ Fin x0 w S L := by
  intro d
  induction d with
  | zero =>
    intro i acc hi hj ha hg ht
    refine ⟨acc, Ev.shift ?_, ?_, by omega, hg, by omega⟩
    · simp only [mail_Wrap.l1]
      exact Ev.neg (by omega) (Ev.cst rfl)
    · rw [← hj, List.drop_eq_nil_of_le (by omega)]; simp
  | succ d ih =>
    intro i acc hi hj ha hg ht
    have hlt : i < x0.length := by omega
    have hz := hb _ (at_mem x0 hlt)
    rw [at_drop x0 hlt, List.map_cons] at hj ht
    unfold tot at ht
    rw [← bl_size] at ht
    obtain ⟨L, e, h⟩ := wrap_l2 x0 w S hS i hlt hn (fun acc' h1 h2 h3 h4 => ih (i + 1) acc' (by omega) h1 h2 h3 h4) _ (rdOf ByteArray.empty x0 (i : Int)) acc (Nat.le_refl _) hz hj ha hg (by omega)
    refine ⟨L, Ev.shift ?_, h⟩
    simp only [mail_Wrap.l1]
    exact Ev.pos (by omega) (Ev.pos (by omega) (Ev.pos (by omega) e))
omit hS hb in
theorem wrap_l0 (hn : x0.length ≤ 1048576) (hl1 : ∃ L, Ev (fun k => mail_Wrap.l1 k w [] x0 (x0.length : Int) 0) (L, 0) ∧ Fin x0 w S L) : ∀ (d i : Nat), i + d = x0.length →
    ∃ R : List ByteArray × Int, Ev (fun k => mail_Wrap.l0 k x0 w x0 (x0.length : Int) (i : Int)) R ∧ (R = ([], 4) ∨ ∃ L, R = (L, 0) ∧ Fin x0 w S L) := by
  intro d
  induction d with
  | zero =>
    intro i hi
    obtain ⟨L, e, h⟩ := hl1
    refine ⟨(L, 0), Ev.shift ?_, .inr ⟨L, rfl, h⟩⟩
    simp only [mail_Wrap.l0]
    exact Ev.neg (by omega) e
  | succ d ih =>
    intro i hi
    have hlt : i < x0.length := by omega
    by_cases h1 : ((rdOf ByteArray.empty x0 (i : Int)).size : Int) > 400
    · refine ⟨([], 4), Ev.shift ?_, .inl rfl⟩
      simp only [mail_Wrap.l0]
      exact Ev.pos (by omega) (Ev.pos (by omega) (Ev.pos (by omega) (Ev.pos h1 (Ev.cst rfl))))
    · obtain ⟨R, e, h⟩ := ih (i + 1) (by omega)
      refine ⟨R, Ev.shift ?_, h⟩
      simp only [mail_Wrap.l0]
      rw [up (by omega)]
      exact Ev.pos (by omega) (Ev.pos (by omega) (Ev.pos (by omega) (Ev.neg h1 e)))
theorem wrap_f (hn : x0.length ≤ 1048576) (ht : tot (x0.map bl) ≤ S) : ∃ R : List ByteArray × Int, Ev (fun k => mail_Wrap.f k x0 w) R ∧ ((R.1 = [] ∧ R.2 ≠ 0) ∨ ∃ L, R = (L, 0) ∧ Fin x0 w S L) := by
  have hl1 := wrap_l1 x0 w S hS hb hn x0.length 0 [] (Nat.zero_add _) (by simp) (Nat.le_refl _) (by intro p hp; cases hp) (by simpa using ht)
  have hj : ∀ f : Bool, ∃ R : List ByteArray × Int, Ev (fun k => mail_Wrap.j0 k x0 w f) R ∧ ((R.1 = [] ∧ R.2 ≠ 0) ∨ ∃ L, R = (L, 0) ∧ Fin x0 w S L) := by
    intro f
    cases f with
    | true =>
      refine ⟨([], 2), Ev.shift ?_, .inl ⟨rfl, by decide⟩⟩
      simp only [mail_Wrap.j0]
      exact Ev.pos trivial (Ev.cst rfl)
    | false =>
      by_cases h4 : (x0.length : Int) > 400
      · refine ⟨([], 4), Ev.shift ?_, .inl ⟨rfl, by decide⟩⟩
        simp only [mail_Wrap.j0]
        exact Ev.neg (by decide) (Ev.pos h4 (Ev.cst rfl))
      · obtain ⟨R, e, h⟩ := wrap_l0 x0 w S hn hl1 x0.length 0 (Nat.zero_add _)
        refine ⟨R, Ev.shift ?_, ?_⟩
        · simp only [mail_Wrap.j0]
          exact Ev.neg (by decide) (Ev.neg h4 e)
        · rcases h with rfl | h
          · exact .inl ⟨rfl, by decide⟩
          · exact .inr h
  unfold mail_Wrap.f
  by_cases h1 : w < 20
  · obtain ⟨R, e, h⟩ := hj true
    exact ⟨R, Ev.pos h1 e, h⟩
  · obtain ⟨R, e, h⟩ := hj (decide (w > 400))
    exact ⟨R, Ev.neg h1 e, h⟩
end

/-! ### the law -/
theorem jn_join (l : List ByteArray) : Lib.join (l.map (·.data.toList)) [32] = jn (l.map bl) := rfl
theorem jn_size (L : List ByteArray) (hl : L.length ≤ 1048576) (h : (jn (L.map bl)).length ≤ 1048576) : strings_Join.f L (⟨#[32]⟩ : ByteArray) = some (ba (jn (L.map bl))) := by
  show joinF L _ = _
  unfold joinF
  rw [if_pos (by omega)]
  show (if (jn (L.map bl)).length ≤ _ then _ else _) = _
  rw [if_pos (by omega)]
  rfl
theorem pieces (w : Int) (L : List ByteArray) (hl : L.length ≤ 1048576) (hb : ∀ p ∈ L, p.size ≤ 1048576) (hg : ∀ p ∈ L, good w (bl p)) : ∀ (d i : Nat), i + d = L.length →
    Ev (fun k => portkeep1_MailWrapped.l0 k w L (L.length : Int) (i : Int)) true := by
  intro d
  induction d with
  | zero =>
    intro i hi
    refine Ev.shift ?_
    simp only [portkeep1_MailWrapped.l0]
    exact Ev.neg (by omega) (Ev.cst rfl)
  | succ d ih =>
    intro i hi
    have hlt : i < L.length := by omega
    have hz := hb _ (at_mem L hlt)
    have hgp := hg _ (at_mem L hlt)
    have hsz := bl_size (rdOf ByteArray.empty L (i : Int))
    have hnx := ih (i + 1) (by omega)
    refine Ev.shift ?_
    simp only [portkeep1_MailWrapped.l0]
    rw [up (by omega)]
    refine Ev.pos (by omega) (Ev.pos (by omega) (Ev.pos (by omega) ?_))
    by_cases h1 : ((rdOf ByteArray.empty L (i : Int)).size : Int) > w
    · refine Ev.pos h1 (Ev.bindc (refQuoted_f _) ?_)
      by_cases hq : qd (bl (rdOf ByteArray.empty L (i : Int))) = true
      · exact Ev.pos hq hnx
      · have hno : 32 ∉ Lib.trimS (bl (rdOf ByteArray.empty L (i : Int))) bks := by
          rcases hgp with h | h | h
          · omega
          · exact absurd h hq
          · exact h
        have hc : strings_Contains.f (ba (Lib.trimS (bl (rdOf ByteArray.empty L (i : Int))) bks)) (⟨#[32]⟩ : ByteArray) = some (Lib.contains (Lib.trimS (bl (rdOf ByteArray.empty L (i : Int))) bks) [32]) := by
          show containsF _ _ = _
          unfold containsF
          rw [if_pos (by
            have h1 := (List.dropWhile_suffix (l := Lib.trimRightS (bl (rdOf ByteArray.empty L (i : Int))) bks) (bks.contains ·)).length_le
            have h2 := trimR_len (bl (rdOf ByteArray.empty L (i : Int)))
            have h3 : (Lib.trimS (bl (rdOf ByteArray.empty L (i : Int))) bks).length ≤ (Lib.trimRightS (bl (rdOf ByteArray.empty L (i : Int))) bks).length := h1
            rw [ba_size]; omega)]
          show some (Lib.contains (bl (ba _)) [32]) = _
          rw [bl_ba]
        refine Ev.neg hq (Ev.bindc (trim_f (by omega)) (Ev.bindc hc ?_))
        refine Ev.neg (fun h => ?_) hnx
        obtain ⟨x, y, hxy⟩ := (contains_iff _ _ (by decide)).1 h
        exact hno (by rw [← hxy]; simp)
    · exact Ev.neg h1 hnx
theorem size_le_jn : ∀ (L : List Ln) (p : Ln), p ∈ L → p.length ≤ (jn L).length
  | [], p, h => by cases h
  | [x], p, h => by
    rw [List.mem_singleton.1 h]
    unfold jn
    rw [Lib.join_one]; exact Nat.le_refl _
  | x :: y :: r, p, h => by
    rw [jn_two, List.length_append, List.length_cons]
    rcases List.mem_cons.1 h with rfl | h
    · omega
    · have := size_le_jn (y :: r) p h
      omega
theorem law (x0 : List ByteArray) (w : Int) (hb : ∀ s ∈ x0, s.size ≤ 1048576) (ht : tot (x0.map bl) ≤ 1048576) : ∃ k, portkeep1_MailWrapped.f k x0 w = some true := by
  refine Ev.rounds (g := fun k => portkeep1_MailWrapped.f k x0 w) ?_
  have hn : x0.length ≤ 1048576 := by
    have := tot_len (x0.map bl)
    rw [List.length_map] at this
    omega
  obtain ⟨R, e, h⟩ := wrap_f x0 w 1048576 (Nat.le_refl _) hb hn ht
  unfold portkeep1_MailWrapped.f portkeep1_awakeMail.f
  refine Ev.bindc rfl (Ev.pos rfl (Ev.bind e ?_))
  rcases h with ⟨h1, h2⟩ | ⟨L, rfl, hj, hlen, hg, hl⟩
  · refine Ev.neg h2 (Ev.cst ?_)
    rw [h1]; rfl
  · refine Ev.pos rfl ?_
    have hjl := jn_len (x0.map bl)
    refine Ev.bindc (jn_size L hl (by rw [hj]; omega)) (Ev.bindc (jn_size x0 hn (by omega)) ?_)
    rw [hj]
    refine Ev.pos rfl (Ev.shift ?_)
    simp only [portkeep1_MailWrapped.j0]
    rw [decide_eq_false (by omega)]
    refine Ev.neg (by decide) ?_
    refine pieces w L hl ?_ hg L.length 0 (Nat.zero_add _)
    intro p hp
    have := size_le_jn (L.map bl) (bl p) (List.mem_map.2 ⟨p, hp, rfl⟩)
    rw [hj] at this
    rw [bl_size]
    omega
end Go.Proofs.YtcljkhhjondhcaaDoor.WrB
