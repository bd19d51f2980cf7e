/- What the printed library functions on prefixes and suffixes answer, for all strings: no condition. -/
import Derived.Test.YtcljkhhjondhcaaDoorIw
import Derived.Test.YtcljkhhjondhcaaDoorPl
namespace Go.Proofs.YtcljkhhjondhcaaDoor.LibIw
open Go.RowKit Go.Proofs.YtcljkhhjondhcaaDoorW.PrintWords Go.Proofs.YtcljkhhjondhcaaDoor.Ext Go.Proofs.YtcljkhhjondhcaaDoor.Iw Go.Proofs.YtcljkhhjondhcaaDoor.Pl
theorem sHasPrefix_f (a p : ByteArray) : stringslite_HasPrefix.f a p = some ((bl p).isPrefixOf (bl a)) := by
  unfold stringslite_HasPrefix.f
  have ha := bl_size a
  have hp := bl_size p
  by_cases h : (bl p).length ≤ (bl a).length
  · rw [if_pos (by omega), if_pos (by omega), if_pos (by omega), toList_bl, toList_bl, bl_take, ← pre_take _ _ h]
    congr 3
  · rw [if_neg (by omega), pre_short _ _ h]
theorem hasPrefix_f (a p : ByteArray) : strings_HasPrefix.f a p = some ((bl p).isPrefixOf (bl a)) := by
  unfold strings_HasPrefix.f
  rw [sHasPrefix_f]; rfl
theorem pre_len {p l : List UInt8} (h : p.isPrefixOf l = true) : p.length ≤ l.length := by
  by_cases hl : p.length ≤ l.length
  · exact hl
  · rw [pre_short _ _ hl] at h; cases h
end Go.Proofs.YtcljkhhjondhcaaDoor.LibIw
