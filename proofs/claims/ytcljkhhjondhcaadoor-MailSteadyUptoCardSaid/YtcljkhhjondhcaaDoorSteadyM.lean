/- mail.Mask as a total function, for lines of at most 1048576 bytes: the plain 'maskT'. -/
import Derived.Test.YtcljkhhjondhcaaDoorMaskE
import Derived.Test.YtcljkhhjondhcaaDoorSteadyB
import Derived.Test.YtcljkhhjondhcaaDoorAw
namespace Go.Proofs.YtcljkhhjondhcaaDoor.SteadyM
open Go.RowKit Go.Proofs.YtcljkhhjondhcaaDoorW.PrintWords Go.Proofs.YtcljkhhjondhcaaDoor.Ext Go.Proofs.YtcljkhhjondhcaaDoor.Pl
def hideT (a : ByteArray) : Option ByteArray := if a.size ≤ 1048576 then some (ba (MaskP.maskT (bl a))) else none
theorem hideT_calls (a0 r : ByteArray) (w : World) (h : hideT a0 = some r) :
    Calls Tryd.prog 19 #[.string a0] w fun e w' => e = .returned (.string r) ∧ Below w.heap.size w w' := by
  unfold hideT at h
  by_cases h0 : a0.size ≤ 1048576
  · rw [if_pos h0] at h
    obtain rfl := Option.some.inj h
    obtain ⟨k, hk⟩ := (MaskE.mask_f a0 h0).rounds
    exact Ix.mail_Mask.calls k a0 _ w hk
  · rw [if_neg h0] at h; cases h
end Go.Proofs.YtcljkhhjondhcaaDoor.SteadyM
