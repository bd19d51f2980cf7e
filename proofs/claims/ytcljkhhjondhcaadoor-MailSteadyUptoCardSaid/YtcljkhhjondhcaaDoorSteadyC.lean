/- The pure statement of MailSteady: for a subject and a line of at most 1048576 bytes each, the printed law answers true. -/
import Derived.Test.YtcljkhhjondhcaaDoorIs1
namespace Go.Proofs.YtcljkhhjondhcaaDoor.SteadyC
open Go.RowKit Go.Proofs.YtcljkhhjondhcaaDoorW.PrintWords Go.Proofs.YtcljkhhjondhcaaDoor.Ext Go.Proofs.YtcljkhhjondhcaaDoor.Is Go.Proofs.YtcljkhhjondhcaaDoor.Pl Go.Proofs.YtcljkhhjondhcaaDoor.SteadyP Go.Proofs.YtcljkhhjondhcaaDoor.MaskP
theorem up {i : Nat} (h : i ≤ 4611686018427387904) : wrap64 ((i : Int) + 1) = ((i + 1 : Nat) : Int) := by rw [w64 (by omega) (by omega)]; omega
theorem steady_l0 (a : ByteArray) (ha : a.size ≤ 1048576) : ∀ d i, i + d = a.size → Ev (fun k => portkeep1_MailSteady.l0 k a (ba (maskT (bl a))) (a.size : Int) (i : Int)) true := by
  have hal := bl_size a
  have hid := Hid1.mask (bl a)
  have hml := hid.len
  have hms := ba_size (maskT (bl a))
  intro d
  induction d with
  | zero =>
    intro i hi
    have hm : mail_Mask.f (ba (maskT (bl a))) = some (ba (maskT (bl a))) := by
      show SteadyM.hideT _ = _
      unfold SteadyM.hideT
      rw [if_pos (by omega), bl_ba, maskT_idem]
    refine Ev.shift ?_
    simp only [portkeep1_MailSteady.l0]
    exact Ev.neg (by omega) (Ev.bindc hm (Ev.cst (by simp)))
  | succ d ih =>
    intro i hi
    have hlt : i < (bl a).length := by omega
    have hlm : i < (maskT (bl a)).length := by omega
    have g1 := List.getElem?_eq_getElem hlt
    have g2 := List.getElem?_eq_getElem hlm
    have b1 := bt_nat g1
    have b2 : bt (ba (maskT (bl a))) (i : Int) = _ := bt_nat (by rw [bl_ba]; exact g2)
    have hrec := ih (i + 1) (by omega)
    refine Ev.shift ?_
    simp only [portkeep1_MailSteady.l0]
    rw [b1, b2, up (by omega)]
    refine Ev.pos (by omega) (Ev.pos (by omega) (Ev.pos (by omega) (Ev.pos (by omega) ?_)))
    rcases hid.get i _ _ g1 g2 with h | ⟨h, hd⟩
    · exact Ev.pos (by rw [h]) hrec
    · have hr : 48 ≤ (bl a)[i].toNat ∧ (bl a)[i].toNat ≤ 57 := by unfold isD at hd; simpa using hd
      have h42 : (((maskT (bl a))[i].toNat : Nat) : Int) = 42 := by rw [h]; rfl
      exact Ev.neg (by omega) (Ev.pos h42 (Ev.neg (by omega) (Ev.neg (by omega) hrec)))
theorem law (s a : ByteArray) (hs : s.size ≤ 1048576) (ha : a.size ≤ 1048576) : ∃ k, portkeep1_MailSteady.f k s a = some true := by
  refine Ev.rounds ?_
  have hsl := bl_size s
  have hal := bl_size a
  have hcl := clean_len (bl s)
  have hcs := ba_size (cleanP (bl s))
  have hms := ba_size (maskT (bl a))
  have hml := (Hid1.mask (bl a)).len
  have h1 : mail_Clean.f s = some (ba (cleanP (bl s))) := by
    show SteadyB.cleanT _ = _
    unfold SteadyB.cleanT
    rw [if_pos (by omega)]
  have h2 : mail_Mask.f a = some (ba (maskT (bl a))) := by
    show SteadyM.hideT _ = _
    unfold SteadyM.hideT
    rw [if_pos ha]
  have h3 : mail_Clean.f (ba (cleanP (bl s))) = some (ba (cleanP (bl s))) := by
    show SteadyB.cleanT _ = _
    unfold SteadyB.cleanT
    rw [if_pos (by omega), bl_ba, clean_clean]
  have h4 : mail_Clean.f ((⟨#[82, 101, 58, 32]⟩ : ByteArray) ++ ba (cleanP (bl s))) = some (ba (cleanP (bl s))) := by
    have e : bl ((⟨#[82, 101, 58, 32]⟩ : ByteArray) ++ ba (cleanP (bl s))) = re4 ++ cleanP (bl s) := by rw [bl_app, bl_ba]
    show SteadyB.cleanT _ = _
    unfold SteadyB.cleanT
    rw [if_pos (by rw [bl_size, e, List.length_append]; simp; omega), e, clean_re_clean]
  unfold portkeep1_MailSteady.f
  refine Ev.bindc rfl (Ev.pos rfl (Ev.bindc h1 (Ev.bindc h2 (Ev.bindc h3 (Ev.pos rfl (Ev.pos (by omega) (Ev.bindc h4 (Ev.pos rfl ?_))))))))
  have e : (((ba (maskT (bl a))).size : Int) != (a.size : Int)) = false := bne_eq_false_iff_eq.2 (by omega)
  rw [e]
  refine Ev.shift ?_
  simp only [portkeep1_MailSteady.j0]
  exact Ev.neg (by simp) (steady_l0 a ha a.size 0 (Nat.zero_add _))
end Go.Proofs.YtcljkhhjondhcaaDoor.SteadyC
