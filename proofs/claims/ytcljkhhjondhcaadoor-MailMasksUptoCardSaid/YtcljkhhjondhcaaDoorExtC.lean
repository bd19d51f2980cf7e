/- The library's contract of strings.IndexAny in the form in which the printed functions take it: for chars of ASCII bytes, and strings of ASCII bytes or of more than eight. -/
import Derived.Test.YtcljkhhjondhcaaDoorBShelf
import Derived.Test.YtcljkhhjondhcaaDoorExt
namespace Go.Proofs.YtcljkhhjondhcaaDoor.Ext
open Go.RowKit Go.Shelf Go.Proofs.YtcljkhhjondhcaaDoorW.PrintWords
def indexAnyF (s c : ByteArray) : Option Int := if s.size < 4294967281 then if c.size < 4294967281 then if asciiB c = true then if asciiB s = true ∨ (8 < s.size ∧ 2 ≤ c.size) then some (Lib.indexAny s.data.toList c.data.toList) else none else none else none else none
theorem indexAny_calls (s c : ByteArray) (r : Int) (w : World) (h : indexAnyF s c = some r) :
    Calls Tryd.prog 113 #[.string s, .string c] w fun e w' => e = .returned (.int .i64 r) ∧ Below w.heap.size w w' := by
  unfold indexAnyF at h
  by_cases h0 : s.size < 4294967281
  · rw [if_pos h0] at h
    by_cases h1 : c.size < 4294967281
    · rw [if_pos h1] at h
      by_cases h2 : asciiB c = true
      · rw [if_pos h2] at h
        by_cases h3 : asciiB s = true ∨ (8 < s.size ∧ 2 ≤ c.size)
        · rw [if_pos h3] at h
          obtain rfl := Option.some.inj h
          by_cases h4 : asciiB s = true
          · exact Tryd.strings_IndexAny_laid s c w h0 h1 (ascii_of h4) (ascii_of h2)
          · obtain ⟨h5, h6⟩ := h3.resolve_left h4
            refine (Any.strings_IndexAny_long Tryd.lays153 (Go.zero_of_info (n := 256) (P := Tryd.prog) (t := Tryd.lays153_ren.t 116) (by kernel_rfl)).1 (by kernel_rfl) s c w h6 h5 h0 h1 (ascii_of h2)).mono fun e w' ⟨h7, h8⟩ => ⟨h7, ?_⟩
            rw [h8]
            exact ((Below.refl _ _).alloc (Nat.le_refl _) _).alloc (by simp) _
        · rw [if_neg h3] at h; cases h
      · rw [if_neg h2] at h; cases h
    · rw [if_neg h1] at h; cases h
  · rw [if_neg h0] at h; cases h
end Go.Proofs.YtcljkhhjondhcaaDoor.Ext
