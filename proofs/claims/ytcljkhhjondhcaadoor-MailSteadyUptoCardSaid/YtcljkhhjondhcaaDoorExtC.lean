/- The library's contract of strings.IndexAny in the form in which the printed functions take it: for two or more chars, all of ASCII bytes, and strings below 4294967281 bytes. -/
import Derived.Test.YtcljkhhjondhcaaDoorBShelf
import Derived.Test.YtcljkhhjondhcaaDoorExt
import Derived.Test.YtcljkhhjondhcaaDoorIdxA
namespace Go.Proofs.YtcljkhhjondhcaaDoor.Ext
open Go.RowKit Go.Shelf Go.Proofs.YtcljkhhjondhcaaDoorW.PrintWords
def indexAnyF (s c : ByteArray) : Option Int := if s.size < 4294967281 then if c.size < 4294967281 then if asciiB c = true then if 2 ≤ c.size then some (Lib.indexAny s.data.toList c.data.toList) else none else none else none else none
theorem indexAny_calls (s c : ByteArray) (r : Int) (w : World) (h : indexAnyF s c = some r) :
    Calls Tryd.prog 113 #[.string s, .string c] w fun e w' => e = .returned (.int .i64 r) ∧ Below w.heap.size w w' := by
  unfold indexAnyF at h
  by_cases h0 : s.size < 4294967281
  · rw [if_pos h0] at h
    by_cases h1 : c.size < 4294967281
    · rw [if_pos h1] at h
      by_cases h2 : asciiB c = true
      · rw [if_pos h2] at h
        by_cases h3 : 2 ≤ c.size
        · rw [if_pos h3] at h
          obtain rfl := Option.some.inj h
          by_cases h4 : 8 < s.size
          · refine (Any.strings_IndexAny_long Tryd.lays153 (Go.zero_of_info (n := 256) (P := Tryd.prog) (t := Tryd.lays153_ren.t 116) (by kernel_rfl)).1 (by kernel_rfl) s c w h3 h4 h0 h1 (ascii_of h2)).mono fun e w' ⟨h7, h8⟩ => ⟨h7, ?_⟩
            rw [h8]
            exact ((Below.refl _ _).alloc (Nat.le_refl _) _).alloc (by simp) _
          · exact indexAny_short_any s c w h3 (by omega) (ascii_of h2) (by omega)
        · rw [if_neg h3] at h; cases h
      · rw [if_neg h2] at h; cases h
    · rw [if_neg h1] at h; cases h
  · rw [if_neg h0] at h; cases h
end Go.Proofs.YtcljkhhjondhcaaDoor.Ext
