/- portkeep1.awakeMail returns true in whatever world: mail.Clean of 'Re: a' is 'a'. -/
import Derived.Test.YtcljkhhjondhcaaDoorCl
namespace Go.Proofs.YtcljkhhjondhcaaDoor.Ext
open Go.RowKit Go.Shelf Go.Proofs.YtcljkhhjondhcaaDoorW.PrintWords Go.Proofs.YtcljkhhjondhcaaDoorW.PrintLast Go.Proofs.YtcljkhhjondhcaaDoorW.PrintMore Go.Proofs.YtcljkhhjondhcaaDoor.Cl
theorem awake_k : cleanK 40 (⟨#[82, 101, 58, 32, 97]⟩ : ByteArray) = some (⟨#[97]⟩ : ByteArray) := by kernel_rfl
set_option maxHeartbeats 1000000 in
set_option maxRecDepth 100000 in
theorem awake_calls (r : Bool) (w : World) (h : (some true : Option Bool) = some r) :
    Calls Tryd.prog 17 #[] w fun e w' => e = .returned (.bool r) ∧ Below w.heap.size w w' := by
  obtain rfl := Option.some.inj h
  clear h
  have HA := Aside0.mk awake_k
  go_enter Tryd.func17, Tryd.ntmps17
  go_wp2_with (first | (go_at_call 18; (with_reducible refine (clean_calls 40 (⟨#[82, 101, 58, 32, 97]⟩ : ByteArray) (⟨#[97]⟩ : ByteArray) _ HA.out).mono ?_); rintro e w1 ⟨rfl, hb⟩))
  go_ret
  exact ⟨by first | rfl | (simp; done) | decide, below_step (by repeat (first | exact Below.refl _ _ | apply below_alloc | apply pw_below_drewN | apply below_drew1)) hb⟩
end Go.Proofs.YtcljkhhjondhcaaDoor.Ext
