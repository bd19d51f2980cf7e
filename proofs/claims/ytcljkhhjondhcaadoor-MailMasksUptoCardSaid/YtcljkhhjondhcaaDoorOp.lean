/- What a slice of strings that comes in gives: it reads as a list of strings, and its bulk bounds their number and their lengths. No condition. -/
import Derived.Test.YtcljkhhjondhcaaDoorRows
import Derived.Test.YtcljkhhjondhcaaDoorWMore
import Derived.SliceStrings
import Derived.ProofKit
namespace Go.Proofs.YtcljkhhjondhcaaDoor.Op
open Go.RowKit Go.ChangeShapes Go.WideShapes Go.ChangeAt Go.Proofs.YtcljkhhjondhcaaDoorW.PrintWords

def sizes (l : List ByteArray) : Nat := (l.map fun s => s.size + 1).foldr (· + ·) 0
theorem sizes_cons (s : ByteArray) (l : List ByteArray) : sizes (s :: l) = s.size + 1 + sizes l := rfl
theorem sizes_app (a b : List ByteArray) : sizes (a ++ b) = sizes a + sizes b := by
  induction a with
  | nil => simp [sizes]
  | cons x a ih => rw [List.cons_append, sizes_cons, sizes_cons, ih]; omega
theorem sizes_len (l : List ByteArray) : l.length ≤ sizes l := by
  induction l with
  | nil => simp
  | cons x a ih => rw [List.length_cons, sizes_cons]; omega
theorem sizes_mem {l : List ByteArray} {s : ByteArray} (h : s ∈ l) : s.size + 1 ≤ sizes l := by
  induction l with
  | nil => cases h
  | cons x a ih =>
    rw [sizes_cons]
    rcases List.mem_cons.1 h with rfl | h
    · omega
    · have := ih h; omega
theorem bulk_strs {H : Type} (l : List ByteArray) : Rows.uptoBulkAll (strs (H := H) l) = sizes l := by
  induction l with
  | nil => rfl
  | cons x a ih =>
    show Rows.uptoBulk (DataW.lit (.string x.data.toList)) + Rows.uptoBulkAll (strs a) = _
    rw [ih, sizes_cons]
    simp only [Rows.uptoBulk]
    have : x.data.toList.length = x.size := by rw [Array.length_toList]; rfl
    omega
set_option maxRecDepth 100000 in
theorem open_strs {H : Type} {enc : TypeId × Value → H} {W : World} {t : TypeId} {base : Nat} {v : Value} {d : DataW H} {p : List MemPlace} (ht : Tryd.prog.underlying t = some (.slice 9))
    (hv : Value.okWide Tryd.prog W .any base t v) (h : DataW.Trod enc Tryd.prog W 0 (fun _ => true) true t v d p) :
    ∃ (A : Option Addr) (cap : Nat) (l : List ByteArray), v = .slice A l.length cap ∧ l.length ≤ cap ∧ Kd.C Kd.string W A l.length l ∧ sizes l ≤ Rows.uptoBulk d := by
  obtain ⟨a0, len, cap, rfl⟩ := okWide_slice ht hv
  obtain ⟨fuel, hf⟩ := h
  rcases open_strings ht Tryd.underlying9 (by kernel_rfl) hf with ⟨hcs, hx⟩ | ⟨a, len', cap', ss, hcs, _, hl, hm, hz, hx, hcell, _⟩
  · simp [Value.cells] at hcs
    obtain ⟨rfl, rfl, rfl⟩ := hcs
    exact ⟨none, 0, [], rfl, Nat.le_refl _, ⟨rfl, Nat.zero_le _, fun h => absurd h (Nat.lt_irrefl 0)⟩, by simp [sizes]⟩
  · simp [Value.cells] at hcs
    obtain ⟨rfl, rfl, rfl⟩ := hcs
    have hzl : ss.length = cap := by simpa using hz
    have htl : (ss.take len).length = len := by rw [List.length_take]; omega
    refine ⟨some a, cap, ss.take len, by rw [htl], by omega, ⟨rfl, by rw [htl]; unfold maxLen at hm; omega, fun _ => ⟨a, rfl, fun j s hj => ⟨[.string s], rfl, rfl, fun i u hu => ?_⟩⟩⟩, ?_⟩
    · have hi : i = 0 := by
        have := (List.getElem?_eq_some_iff.1 hu).1
        simpa using this
      subst hi
      injection hu with hu
      subst hu
      have hjl := (List.getElem?_eq_some_iff.1 hj).1
      rw [htl] at hjl
      rw [List.getElem?_take_of_lt hjl] at hj
      have := hcell j (by omega)
      have e : ss.getD j ByteArray.empty = s := by rw [List.getD_eq_getElem?_getD, hj]; rfl
      rw [e] at this
      show W.cell? (a.add (j * 1 + 0)) = some (.string s)
      rwa [Nat.mul_one, Nat.add_zero]
    · simp only [Prod.mk.injEq] at hx
      rw [hx.1]
      simp only [Rows.uptoBulk, bulk_strs]
      omega
end Go.Proofs.YtcljkhhjondhcaaDoor.Op
