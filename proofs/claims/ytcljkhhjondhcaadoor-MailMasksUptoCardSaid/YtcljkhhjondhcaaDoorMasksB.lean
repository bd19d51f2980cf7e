/- The pure statement of MailMasks: for a line of at most 1048576 bytes and a list of at most 1048576 such lines, the printed law answers true. -/
import Derived.Test.YtcljkhhjondhcaaDoorIx12
import Derived.Test.YtcljkhhjondhcaaDoorMaskE
import Derived.Test.YtcljkhhjondhcaaDoorExcB
namespace Go.Proofs.YtcljkhhjondhcaaDoor.MasksB
open Go.RowKit Go.Proofs.YtcljkhhjondhcaaDoorW.PrintWords Go.Proofs.YtcljkhhjondhcaaDoor.Ext Go.Proofs.YtcljkhhjondhcaaDoor.Ix Go.Proofs.YtcljkhhjondhcaaDoor.Pl
theorem law (a : ByteArray) (l : List ByteArray) (m : Int) (ha : a.size ≤ 1048576) (hn : l.length ≤ 1048576) (hb : ∀ s ∈ l, s.size ≤ 1048576) (hm : m ≤ 9223372036854775807) : ∃ k, portlaw1_MailMasks.f k a l m = some true := by
  refine Ev.rounds ?_
  obtain ⟨r, e1, e2⟩ := ExcB.excerpt_f l hn hb m hm
  unfold portlaw1_MailMasks.f
  refine Ev.bind (MaskE.mask_f a ha) (Ev.bind (MaskE.refMask_f a ha) (Ev.pos rfl (Ev.bind e1 (Ev.bind e2 (Ev.cst ?_)))))
  simp
end Go.Proofs.YtcljkhhjondhcaaDoor.MasksB
