/- What the printed library functions on prefixes and suffixes answer, for all strings: no condition. -/
import Derived.Test.YtcljkhhjondhcaaDoorIx10
import Derived.Test.YtcljkhhjondhcaaDoorIx6
import Derived.Test.YtcljkhhjondhcaaDoorPl
namespace Go.Proofs.YtcljkhhjondhcaaDoor.LibIx
open Go.RowKit Go.Proofs.YtcljkhhjondhcaaDoorW.PrintWords Go.Proofs.YtcljkhhjondhcaaDoor.Ext Go.Proofs.YtcljkhhjondhcaaDoor.Ix Go.Proofs.YtcljkhhjondhcaaDoor.Pl
theorem sHasPrefix_f (a p : ByteArray) : stringslite_HasPrefix.f a p = some ((bl p).isPrefixOf (bl a)) := by
  unfold stringslite_HasPrefix.f
  have ha := bl_size a
  have hp := bl_size p
  by_cases h : (bl p).length ≤ (bl a).length
  · rw [if_pos (by omega), if_pos (by omega), if_pos (by omega), toList_bl, toList_bl, bl_take, ← pre_take _ _ h]
    congr 3
  · rw [if_neg (by omega), pre_short _ _ h]
theorem hasPrefix_f (a p : ByteArray) : strings_HasPrefix.f a p = some ((bl p).isPrefixOf (bl a)) := by
  unfold strings_HasPrefix.f
  rw [sHasPrefix_f]; rfl
theorem pre_len {p l : List UInt8} (h : p.isPrefixOf l = true) : p.length ≤ l.length := by
  by_cases hl : p.length ≤ l.length
  · exact hl
  · rw [pre_short _ _ hl] at h; cases h
theorem hasSuffix_f (a p : ByteArray) (ha9 : a.size ≤ 9223372036854775807) : strings_HasSuffix.f a p = some ((bl p).isSuffixOf (bl a)) := by
  unfold strings_HasSuffix.f stringslite_HasSuffix.f
  have ha := bl_size a
  have hp := bl_size p
  by_cases h : (bl p).length ≤ (bl a).length
  · have hw : wrap64 ((a.size : Int) - (p.size : Int)) = (((bl a).length - (bl p).length : Nat) : Int) := by rw [w64 (by omega) (by omega)]; omega
    rw [if_pos (by omega), hw, if_pos (by omega), if_pos (by omega), toList_bl, toList_bl, bl_drop, Int.toNat_natCast, Option.bind_some]
    congr 1
    rw [Bool.eq_iff_iff, beq_iff_eq, List.isSuffixOf_iff_suffix, List.suffix_iff_eq_drop]
    exact eq_comm
  · rw [if_neg (by omega), Option.bind_some]
    congr 1
    symm
    rw [Bool.eq_false_iff]
    intro hs
    rw [List.isSuffixOf_iff_suffix] at hs
    exact h hs.length_le
end Go.Proofs.YtcljkhhjondhcaaDoor.LibIx
