/- Functions of the program as plain functions, and that each call returns what they say, wherever they answer: written by a program of this session over the kit's printer; conditions: those in each statement. -/
import Derived.Test.YtcljkhhjondhcaaDoorIs0
namespace Go.Proofs.YtcljkhhjondhcaaDoor.Is
open Go.RowKit Go.Proofs.YtcljkhhjondhcaaDoorW.PrintWords Go.Proofs.YtcljkhhjondhcaaDoorW.PrintLast Go.Proofs.YtcljkhhjondhcaaDoorW.PrintMore Go.Proofs.YtcljkhhjondhcaaDoor.Ext
attribute [local go_sem] max2_int min2_int max_two min_two max_three min_three max_four min_four   -- for this text's walks alone
set_option linter.unusedVariables false
set_option linter.unusedSimpArgs false

/-! ### portkeep1_awakeMail: function 17 -/
abbrev portkeep1_awakeMail.f : Option Bool := some true
theorem portkeep1_awakeMail.calls (r : Bool) (w : World) (h : portkeep1_awakeMail.f = some r) :
    Calls Tryd.prog 17 #[] w fun e w' => e = .returned (.bool r) ∧ Below w.heap.size w w' := awake_calls r w h

/-! ### mail_Clean: function 18 -/
abbrev mail_Clean.f (a0 : ByteArray) : Option ByteArray := Go.Proofs.YtcljkhhjondhcaaDoor.SteadyB.cleanT a0
theorem mail_Clean.calls (a0 : ByteArray) (r : ByteArray) (w : World) (h : mail_Clean.f a0 = some r) :
    Calls Tryd.prog 18 #[.string a0] w fun e w' => e = .returned (.string r) ∧ Below w.heap.size w w' := Go.Proofs.YtcljkhhjondhcaaDoor.SteadyB.cleanT_calls a0 r w h

/-! ### mail_Mask: function 19 -/
abbrev mail_Mask.f (a0 : ByteArray) : Option ByteArray := Go.Proofs.YtcljkhhjondhcaaDoor.SteadyM.hideT a0
theorem mail_Mask.calls (a0 : ByteArray) (r : ByteArray) (w : World) (h : mail_Mask.f a0 = some r) :
    Calls Tryd.prog 19 #[.string a0] w fun e w' => e = .returned (.string r) ∧ Below w.heap.size w w' := Go.Proofs.YtcljkhhjondhcaaDoor.SteadyM.hideT_calls a0 r w h

/-! ### portkeep1_MailSteady: function 4 -/
mutual
def portkeep1_MailSteady.j0 : Nat → ByteArray → ByteArray → Bool → Option (Bool)
  | 0, _, _, _ => none
  | k + 1, x1, x6, x31 => if x31 = true then (some false) else (portkeep1_MailSteady.l0 k x1 x6 (x1.size : Int) 0)
def portkeep1_MailSteady.l0 : Nat → ByteArray → ByteArray → Int → Int → Option (Bool)
  | 0, _, _, _, _ => none
  | k + 1, x1, x6, x33, x34 => if x34 < x33 then (if 0 ≤ x34 then (if x34 < (x6.size : Int) then (if x34 < (x1.size : Int) then (if (bt x6 x34) = (bt x1 x34) then (portkeep1_MailSteady.l0 k x1 x6 x33 (wrap64 (x34 + 1))) else (if (bt x6 x34) = 42 then (if (bt x1 x34) < 48 then (some false) else (if (bt x1 x34) > 57 then (some false) else (portkeep1_MailSteady.l0 k x1 x6 x33 (wrap64 (x34 + 1))))) else (some false))) else (none)) else (none)) else (none)) else ((mail_Mask.f x6).bind fun t106 => (some (t106.toList == x6.toList)))
end
def portkeep1_MailSteady.f (k : Nat) (a0 : ByteArray) (a1 : ByteArray) : Option (Bool) := (portkeep1_awakeMail.f).bind fun t101 => (if t101 = true then ((mail_Clean.f a0).bind fun t102 => ((mail_Mask.f a1).bind fun t103 => ((mail_Clean.f t102).bind fun t104 => (if t104.toList = t102.toList then (if 4 + t102.size ≤ 9223372036854775807 then ((mail_Clean.f ((⟨#[82, 101, 58, 32]⟩ : ByteArray) ++ t102)).bind fun t105 => (if t105.toList = t102.toList then (portkeep1_MailSteady.j0 k a1 t103 ((t103.size : Int) != (a1.size : Int))) else (portkeep1_MailSteady.j0 k a1 t103 true))) else (none)) else (portkeep1_MailSteady.j0 k a1 t103 true))))) else (some false))
theorem portkeep1_MailSteady.mono_l : ∀ k, (∀ y0 y1 y2, LeO (portkeep1_MailSteady.j0 k y0 y1 y2) (portkeep1_MailSteady.j0 (k + 1) y0 y1 y2)) ∧ (∀ y0 y1 y2 y3, LeO (portkeep1_MailSteady.l0 k y0 y1 y2 y3) (portkeep1_MailSteady.l0 (k + 1) y0 y1 y2 y3))
  | 0 => ⟨fun _ _ _ r h => by simp [portkeep1_MailSteady.j0] at h, fun _ _ _ _ r h => by simp [portkeep1_MailSteady.l0] at h⟩
  | k + 1 => by
    obtain ⟨ih0, ih1⟩ := portkeep1_MailSteady.mono_l k
    refine ⟨?_, ?_⟩
    · intro y0 y1 y2
      unfold portkeep1_MailSteady.j0
      repeat' first
      | (with_reducible exact ih0 _ _ _)
      | (with_reducible exact ih1 _ _ _ _)
      | (with_reducible exact LeO.refl _)
      | (with_reducible exact LeO.none _)
      | (with_reducible refine LeO.ite ?_ ?_)
      | (with_reducible refine LeO.bind ?_ (fun _ => ?_))
      | exact ih0 _ _ _
      | exact ih1 _ _ _ _
      | exact LeO.none _
      | refine LeO.ite ?_ ?_
      | refine LeO.bind ?_ (fun _ => ?_)
    · intro y0 y1 y2 y3
      unfold portkeep1_MailSteady.l0
      repeat' first
      | (with_reducible exact ih0 _ _ _)
      | (with_reducible exact ih1 _ _ _ _)
      | (with_reducible exact LeO.refl _)
      | (with_reducible exact LeO.none _)
      | (with_reducible refine LeO.ite ?_ ?_)
      | (with_reducible refine LeO.bind ?_ (fun _ => ?_))
      | exact ih0 _ _ _
      | exact ih1 _ _ _ _
      | exact LeO.none _
      | refine LeO.ite ?_ ?_
      | refine LeO.bind ?_ (fun _ => ?_)
theorem portkeep1_MailSteady.mono : ∀ a0 a1 k, LeO (portkeep1_MailSteady.f k a0 a1) (portkeep1_MailSteady.f (k + 1) a0 a1) := by
  intro a0 a1 k
  obtain ⟨ih0, ih1⟩ := portkeep1_MailSteady.mono_l k
  unfold portkeep1_MailSteady.f
  repeat' first
      | (with_reducible exact ih0 _ _ _)
      | (with_reducible exact ih1 _ _ _ _)
      | (with_reducible exact LeO.refl _)
      | (with_reducible exact LeO.none _)
      | (with_reducible refine LeO.ite ?_ ?_)
      | (with_reducible refine LeO.bind ?_ (fun _ => ?_))
      | exact ih0 _ _ _
      | exact ih1 _ _ _ _
      | exact LeO.none _
      | refine LeO.ite ?_ ?_
      | refine LeO.bind ?_ (fun _ => ?_)
set_option maxHeartbeats 8000000 in
set_option maxRecDepth 100000 in
theorem portkeep1_MailSteady.calls (k : Nat) (a0 : ByteArray) (a1 : ByteArray) (r : Bool) (w : World) (h : portkeep1_MailSteady.f k a0 a1 = some r) :
    Calls Tryd.prog 4 #[.string a0, .string a1] w fun e w' => e = .returned (.bool r) ∧ Below w.heap.size w w' := by
  have HB := Aside0.mk (Below.refl w.heap.size w)
  have H : ((portkeep1_awakeMail.f).bind fun t101 => (if t101 = true then ((mail_Clean.f a0).bind fun t102 => ((mail_Mask.f a1).bind fun t103 => ((mail_Clean.f t102).bind fun t104 => (if t104.toList = t102.toList then (if 4 + t102.size ≤ 9223372036854775807 then ((mail_Clean.f ((⟨#[82, 101, 58, 32]⟩ : ByteArray) ++ t102)).bind fun t105 => (if t105.toList = t102.toList then (portkeep1_MailSteady.j0 k a1 t103 ((t103.size : Int) != (a1.size : Int))) else (portkeep1_MailSteady.j0 k a1 t103 true))) else (none)) else (portkeep1_MailSteady.j0 k a1 t103 true))))) else (some false))) = some r := h
  clear h
  replace H := Option.bind_eq_some_iff.mp H
  obtain ⟨t101, A30, H⟩ := H
  replace H : (if t101 = true then ((mail_Clean.f a0).bind fun t102 => ((mail_Mask.f a1).bind fun t103 => ((mail_Clean.f t102).bind fun t104 => (if t104.toList = t102.toList then (if 4 + t102.size ≤ 9223372036854775807 then ((mail_Clean.f ((⟨#[82, 101, 58, 32]⟩ : ByteArray) ++ t102)).bind fun t105 => (if t105.toList = t102.toList then (portkeep1_MailSteady.j0 k a1 t103 ((t103.size : Int) != (a1.size : Int))) else (portkeep1_MailSteady.j0 k a1 t103 true))) else (none)) else (portkeep1_MailSteady.j0 k a1 t103 true))))) else (some false)) = some r := H
  have A3 := Aside0.mk A30
  clear A30
  by_cases c4 : t101 = true
  · subst c4
    have H1 : ((mail_Clean.f a0).bind fun t102 => ((mail_Mask.f a1).bind fun t103 => ((mail_Clean.f t102).bind fun t104 => (if t104.toList = t102.toList then (if 4 + t102.size ≤ 9223372036854775807 then ((mail_Clean.f ((⟨#[82, 101, 58, 32]⟩ : ByteArray) ++ t102)).bind fun t105 => (if t105.toList = t102.toList then (portkeep1_MailSteady.j0 k a1 t103 ((t103.size : Int) != (a1.size : Int))) else (portkeep1_MailSteady.j0 k a1 t103 true))) else (none)) else (portkeep1_MailSteady.j0 k a1 t103 true))))) = some r := by rw [if_pos rfl] at H; exact H
    clear H
    have H := H1
    clear H1
    replace H := Option.bind_eq_some_iff.mp H
    obtain ⟨t102, A50, H⟩ := H
    replace H : ((mail_Mask.f a1).bind fun t103 => ((mail_Clean.f t102).bind fun t104 => (if t104.toList = t102.toList then (if 4 + t102.size ≤ 9223372036854775807 then ((mail_Clean.f ((⟨#[82, 101, 58, 32]⟩ : ByteArray) ++ t102)).bind fun t105 => (if t105.toList = t102.toList then (portkeep1_MailSteady.j0 k a1 t103 ((t103.size : Int) != (a1.size : Int))) else (portkeep1_MailSteady.j0 k a1 t103 true))) else (none)) else (portkeep1_MailSteady.j0 k a1 t103 true)))) = some r := H
    have A5 := Aside0.mk A50
    clear A50
    replace H := Option.bind_eq_some_iff.mp H
    obtain ⟨t103, A60, H⟩ := H
    replace H : ((mail_Clean.f t102).bind fun t104 => (if t104.toList = t102.toList then (if 4 + t102.size ≤ 9223372036854775807 then ((mail_Clean.f ((⟨#[82, 101, 58, 32]⟩ : ByteArray) ++ t102)).bind fun t105 => (if t105.toList = t102.toList then (portkeep1_MailSteady.j0 k a1 t103 ((t103.size : Int) != (a1.size : Int))) else (portkeep1_MailSteady.j0 k a1 t103 true))) else (none)) else (portkeep1_MailSteady.j0 k a1 t103 true))) = some r := H
    have A6 := Aside0.mk A60
    clear A60
    have HC7 := Aside0.mk H
    clear H
    go_enter Tryd.func4, Tryd.ntmps4
    go_upto_region 5 with (first | (go_at_call 17; (with_reducible refine (portkeep1_awakeMail.calls  true _ A3.out).mono ?_); rintro e w8 ⟨rfl, hb⟩; have n0_ := Aside0.mk (below_step (by repeat (first | (with_reducible first | exact HB.out | apply below_alloc | apply pw_below_drewN | apply below_drew1) | exact HB.out)) hb); clear HB; have HB := n0_; clear n0_; (try clear hb); (try clear hb2); (try clear hk); (try clear hi)) | (go_at_call 18; (with_reducible refine (mail_Clean.calls a0 t102 _ A5.out).mono ?_); rintro e w9 ⟨rfl, hb⟩; have n0_ := Aside0.mk (below_step (by repeat (first | (with_reducible first | exact HB.out | apply below_alloc | apply pw_below_drewN | apply below_drew1) | exact HB.out)) hb); clear HB; have HB := n0_; clear n0_; (try clear hb); (try clear hb2); (try clear hk); (try clear hi)) | (go_at_call 19; (with_reducible refine (mail_Mask.calls a1 t103 _ A6.out).mono ?_); rintro e w10 ⟨rfl, hb⟩; have n0_ := Aside0.mk (below_step (by repeat (first | (with_reducible first | exact HB.out | apply below_alloc | apply pw_below_drewN | apply below_drew1) | exact HB.out)) hb); clear HB; have HB := n0_; clear n0_; (try clear hb); (try clear hb2); (try clear hk); (try clear hi)))
    repeat (go_quiet (first | (go_at_call 17; (with_reducible refine (portkeep1_awakeMail.calls  true _ A3.out).mono ?_); rintro e w8 ⟨rfl, hb⟩; have n0_ := Aside0.mk (below_step (by repeat (first | (with_reducible first | exact HB.out | apply below_alloc | apply pw_below_drewN | apply below_drew1) | exact HB.out)) hb); clear HB; have HB := n0_; clear n0_; (try clear hb); (try clear hb2); (try clear hk); (try clear hi)) | (go_at_call 18; (with_reducible refine (mail_Clean.calls a0 t102 _ A5.out).mono ?_); rintro e w9 ⟨rfl, hb⟩; have n0_ := Aside0.mk (below_step (by repeat (first | (with_reducible first | exact HB.out | apply below_alloc | apply pw_below_drewN | apply below_drew1) | exact HB.out)) hb); clear HB; have HB := n0_; clear n0_; (try clear hb); (try clear hb2); (try clear hk); (try clear hi)) | (go_at_call 19; (with_reducible refine (mail_Mask.calls a1 t103 _ A6.out).mono ?_); rintro e w10 ⟨rfl, hb⟩; have n0_ := Aside0.mk (below_step (by repeat (first | (with_reducible first | exact HB.out | apply below_alloc | apply pw_below_drewN | apply below_drew1) | exact HB.out)) hb); clear HB; have HB := n0_; clear n0_; (try clear hb); (try clear hb2); (try clear hk); (try clear hi))); go_upto_region 5 with (first | (go_at_call 17; (with_reducible refine (portkeep1_awakeMail.calls  true _ A3.out).mono ?_); rintro e w8 ⟨rfl, hb⟩; have n0_ := Aside0.mk (below_step (by repeat (first | (with_reducible first | exact HB.out | apply below_alloc | apply pw_below_drewN | apply below_drew1) | exact HB.out)) hb); clear HB; have HB := n0_; clear n0_; (try clear hb); (try clear hb2); (try clear hk); (try clear hi)) | (go_at_call 18; (with_reducible refine (mail_Clean.calls a0 t102 _ A5.out).mono ?_); rintro e w9 ⟨rfl, hb⟩; have n0_ := Aside0.mk (below_step (by repeat (first | (with_reducible first | exact HB.out | apply below_alloc | apply pw_below_drewN | apply below_drew1) | exact HB.out)) hb); clear HB; have HB := n0_; clear n0_; (try clear hb); (try clear hb2); (try clear hk); (try clear hi)) | (go_at_call 19; (with_reducible refine (mail_Mask.calls a1 t103 _ A6.out).mono ?_); rintro e w10 ⟨rfl, hb⟩; have n0_ := Aside0.mk (below_step (by repeat (first | (with_reducible first | exact HB.out | apply below_alloc | apply pw_below_drewN | apply below_drew1) | exact HB.out)) hb); clear HB; have HB := n0_; clear n0_; (try clear hb); (try clear hb2); (try clear hk); (try clear hi))))
    (try simp only [Act.put, List.setIfInBounds_toArray, List.set_cons_zero, List.set_cons_succ])
    go_cut [31] (fun v31 wc => ∃ (kq : Nat) (x31_6 : Bool), v31 = .bool x31_6 ∧ Aside0 (portkeep1_MailSteady.j0 kq a1 t103 x31_6 = some r) ∧ Aside0 (kq ≤ k) ∧ Aside0 (Below w.heap.size w wc))
    case first =>
      have H := HC7.out
      clear HC7
      replace H := Option.bind_eq_some_iff.mp H
      obtain ⟨t104, A110, H⟩ := H
      replace H : (if t104.toList = t102.toList then (if 4 + t102.size ≤ 9223372036854775807 then ((mail_Clean.f ((⟨#[82, 101, 58, 32]⟩ : ByteArray) ++ t102)).bind fun t105 => (if t105.toList = t102.toList then (portkeep1_MailSteady.j0 k a1 t103 ((t103.size : Int) != (a1.size : Int))) else (portkeep1_MailSteady.j0 k a1 t103 true))) else (none)) else (portkeep1_MailSteady.j0 k a1 t103 true)) = some r := H
      have A11 := Aside0.mk A110
      clear A110
      by_cases c12 : t104.toList = t102.toList
      · rw [if_pos c12] at H
        have c12b0 : (t104.toList == t102.toList) = true := beq_iff_eq.mpr c12
        have c12b1 : (t104.toList != t102.toList) = false := bne_eq_false_iff_eq.mpr c12
        clear c12
        (first | rw [c12b0] | (simp only [i64_w, i32_w]; rw [c12b0]) | skip)
        by_cases c13 : 4 + t102.size ≤ 9223372036854775807
        · rw [if_pos c13] at H
          have c13b0 := eq_true c13
          have c13b1 : decide (4 + t102.size ≤ 9223372036854775807) = true := decide_eq_true c13
          try have c13b2 : (9223372036854775807 < 4 + t102.size) = False := eq_false (Nat.not_lt.2 c13)
          try (have c13b3 := c13; simp at c13b3)
          replace H := Option.bind_eq_some_iff.mp H
          obtain ⟨t105, A140, H⟩ := H
          replace H : (if t105.toList = t102.toList then (portkeep1_MailSteady.j0 k a1 t103 ((t103.size : Int) != (a1.size : Int))) else (portkeep1_MailSteady.j0 k a1 t103 true)) = some r := H
          have A14 := Aside0.mk A140
          clear A140
          by_cases c15 : t105.toList = t102.toList
          · rw [if_pos c15] at H
            have c15b0 : (t105.toList == t102.toList) = true := beq_iff_eq.mpr c15
            have c15b1 : (t105.toList != t102.toList) = false := bne_eq_false_iff_eq.mpr c15
            clear c15
            have H' := Aside0.mk H
            clear H
            go_wp2_with (first | (go_at_call 18; (with_reducible refine (mail_Clean.calls t102 t104 _ A11.out).mono ?_); rintro e w16 ⟨rfl, hb⟩; have n0_ := Aside0.mk (below_step (by repeat (first | (with_reducible first | exact HB.out | apply below_alloc | apply pw_below_drewN | apply below_drew1) | exact HB.out)) hb); clear HB; have HB := n0_; clear n0_; (try clear hb); (try clear hb2); (try clear hk); (try clear hi)) | (go_at_call 18; (with_reducible refine (mail_Clean.calls ((⟨#[82, 101, 58, 32]⟩ : ByteArray) ++ t102) t105 _ A14.out).mono ?_); rintro e w17 ⟨rfl, hb⟩; have n0_ := Aside0.mk (below_step (by repeat (first | (with_reducible first | exact HB.out | apply below_alloc | apply pw_below_drewN | apply below_drew1) | exact HB.out)) hb); clear HB; have HB := n0_; clear n0_; (try clear hb); (try clear hb2); (try clear hk); (try clear hi)))
            repeat (go_quiet (first | (go_at_call 18; (with_reducible refine (mail_Clean.calls t102 t104 _ A11.out).mono ?_); rintro e w16 ⟨rfl, hb⟩; have n0_ := Aside0.mk (below_step (by repeat (first | (with_reducible first | exact HB.out | apply below_alloc | apply pw_below_drewN | apply below_drew1) | exact HB.out)) hb); clear HB; have HB := n0_; clear n0_; (try clear hb); (try clear hb2); (try clear hk); (try clear hi)) | (go_at_call 18; (with_reducible refine (mail_Clean.calls ((⟨#[82, 101, 58, 32]⟩ : ByteArray) ++ t102) t105 _ A14.out).mono ?_); rintro e w17 ⟨rfl, hb⟩; have n0_ := Aside0.mk (below_step (by repeat (first | (with_reducible first | exact HB.out | apply below_alloc | apply pw_below_drewN | apply below_drew1) | exact HB.out)) hb); clear HB; have HB := n0_; clear n0_; (try clear hb); (try clear hb2); (try clear hk); (try clear hi))); try go_wp2_with (first | (go_at_call 18; (with_reducible refine (mail_Clean.calls t102 t104 _ A11.out).mono ?_); rintro e w16 ⟨rfl, hb⟩; have n0_ := Aside0.mk (below_step (by repeat (first | (with_reducible first | exact HB.out | apply below_alloc | apply pw_below_drewN | apply below_drew1) | exact HB.out)) hb); clear HB; have HB := n0_; clear n0_; (try clear hb); (try clear hb2); (try clear hk); (try clear hi)) | (go_at_call 18; (with_reducible refine (mail_Clean.calls ((⟨#[82, 101, 58, 32]⟩ : ByteArray) ++ t102) t105 _ A14.out).mono ?_); rintro e w17 ⟨rfl, hb⟩; have n0_ := Aside0.mk (below_step (by repeat (first | (with_reducible first | exact HB.out | apply below_alloc | apply pw_below_drewN | apply below_drew1) | exact HB.out)) hb); clear HB; have HB := n0_; clear n0_; (try clear hb); (try clear hb2); (try clear hk); (try clear hi))))
            go_meet
            case rel => exact ⟨_, (((t103.size : Int) != (a1.size : Int))), (by first | rfl | (simp; done) | (simp [*]; done)), H', ⟨by first | omega | exact Nat.le_refl _⟩, ⟨by repeat (first | (with_reducible first | exact HB.out | apply below_alloc | apply pw_below_drewN | apply below_drew1) | exact HB.out)⟩⟩
          · rw [if_neg c15] at H
            have c15b0 : (t105.toList == t102.toList) = false := beq_eq_false_iff_ne.mpr c15
            have c15b1 : (t105.toList != t102.toList) = true := bne_iff_ne.mpr c15
            have H' := Aside0.mk H
            clear H
            go_wp2_with (first | (go_at_call 18; (with_reducible refine (mail_Clean.calls t102 t104 _ A11.out).mono ?_); rintro e w18 ⟨rfl, hb⟩; have n0_ := Aside0.mk (below_step (by repeat (first | (with_reducible first | exact HB.out | apply below_alloc | apply pw_below_drewN | apply below_drew1) | exact HB.out)) hb); clear HB; have HB := n0_; clear n0_; (try clear hb); (try clear hb2); (try clear hk); (try clear hi)) | (go_at_call 18; (with_reducible refine (mail_Clean.calls ((⟨#[82, 101, 58, 32]⟩ : ByteArray) ++ t102) t105 _ A14.out).mono ?_); rintro e w19 ⟨rfl, hb⟩; have n0_ := Aside0.mk (below_step (by repeat (first | (with_reducible first | exact HB.out | apply below_alloc | apply pw_below_drewN | apply below_drew1) | exact HB.out)) hb); clear HB; have HB := n0_; clear n0_; (try clear hb); (try clear hb2); (try clear hk); (try clear hi)))
            repeat (go_quiet (first | (go_at_call 18; (with_reducible refine (mail_Clean.calls t102 t104 _ A11.out).mono ?_); rintro e w18 ⟨rfl, hb⟩; have n0_ := Aside0.mk (below_step (by repeat (first | (with_reducible first | exact HB.out | apply below_alloc | apply pw_below_drewN | apply below_drew1) | exact HB.out)) hb); clear HB; have HB := n0_; clear n0_; (try clear hb); (try clear hb2); (try clear hk); (try clear hi)) | (go_at_call 18; (with_reducible refine (mail_Clean.calls ((⟨#[82, 101, 58, 32]⟩ : ByteArray) ++ t102) t105 _ A14.out).mono ?_); rintro e w19 ⟨rfl, hb⟩; have n0_ := Aside0.mk (below_step (by repeat (first | (with_reducible first | exact HB.out | apply below_alloc | apply pw_below_drewN | apply below_drew1) | exact HB.out)) hb); clear HB; have HB := n0_; clear n0_; (try clear hb); (try clear hb2); (try clear hk); (try clear hi))); try go_wp2_with (first | (go_at_call 18; (with_reducible refine (mail_Clean.calls t102 t104 _ A11.out).mono ?_); rintro e w18 ⟨rfl, hb⟩; have n0_ := Aside0.mk (below_step (by repeat (first | (with_reducible first | exact HB.out | apply below_alloc | apply pw_below_drewN | apply below_drew1) | exact HB.out)) hb); clear HB; have HB := n0_; clear n0_; (try clear hb); (try clear hb2); (try clear hk); (try clear hi)) | (go_at_call 18; (with_reducible refine (mail_Clean.calls ((⟨#[82, 101, 58, 32]⟩ : ByteArray) ++ t102) t105 _ A14.out).mono ?_); rintro e w19 ⟨rfl, hb⟩; have n0_ := Aside0.mk (below_step (by repeat (first | (with_reducible first | exact HB.out | apply below_alloc | apply pw_below_drewN | apply below_drew1) | exact HB.out)) hb); clear HB; have HB := n0_; clear n0_; (try clear hb); (try clear hb2); (try clear hk); (try clear hi))))
            go_meet
            case rel => exact ⟨_, (true), (by first | rfl | (simp; done) | (simp [*]; done)), H', ⟨by first | omega | exact Nat.le_refl _⟩, ⟨by repeat (first | (with_reducible first | exact HB.out | apply below_alloc | apply pw_below_drewN | apply below_drew1) | exact HB.out)⟩⟩
        · rw [if_neg c13] at H
          exact absurd H (by simp)
      · rw [if_neg c12] at H
        have c12b0 : (t104.toList == t102.toList) = false := beq_eq_false_iff_ne.mpr c12
        have c12b1 : (t104.toList != t102.toList) = true := bne_iff_ne.mpr c12
        (first | rw [c12b0] | (simp only [i64_w, i32_w]; rw [c12b0]) | skip)
        have H' := Aside0.mk H
        clear H
        go_wp2_with (first | (go_at_call 18; (with_reducible refine (mail_Clean.calls t102 t104 _ A11.out).mono ?_); rintro e w20 ⟨rfl, hb⟩; have n0_ := Aside0.mk (below_step (by repeat (first | (with_reducible first | exact HB.out | apply below_alloc | apply pw_below_drewN | apply below_drew1) | exact HB.out)) hb); clear HB; have HB := n0_; clear n0_; (try clear hb); (try clear hb2); (try clear hk); (try clear hi)))
        repeat (go_quiet (first | (go_at_call 18; (with_reducible refine (mail_Clean.calls t102 t104 _ A11.out).mono ?_); rintro e w20 ⟨rfl, hb⟩; have n0_ := Aside0.mk (below_step (by repeat (first | (with_reducible first | exact HB.out | apply below_alloc | apply pw_below_drewN | apply below_drew1) | exact HB.out)) hb); clear HB; have HB := n0_; clear n0_; (try clear hb); (try clear hb2); (try clear hk); (try clear hi))); try go_wp2_with (first | (go_at_call 18; (with_reducible refine (mail_Clean.calls t102 t104 _ A11.out).mono ?_); rintro e w20 ⟨rfl, hb⟩; have n0_ := Aside0.mk (below_step (by repeat (first | (with_reducible first | exact HB.out | apply below_alloc | apply pw_below_drewN | apply below_drew1) | exact HB.out)) hb); clear HB; have HB := n0_; clear n0_; (try clear hb); (try clear hb2); (try clear hk); (try clear hi))))
        go_meet
        case rel => exact ⟨_, (true), (by first | rfl | (simp; done) | (simp [*]; done)), H', ⟨by first | omega | exact Nat.le_refl _⟩, ⟨by repeat (first | (with_reducible first | exact HB.out | apply below_alloc | apply pw_below_drewN | apply below_drew1) | exact HB.out)⟩⟩
    case rest =>
      clear HC7
      try clear c1
      try clear p1
      try clear p2
      try clear c4
      try clear c12
      try clear c12b0
      try clear c12b1
      try clear c13
      try clear c13b0
      try clear c13b1
      try clear c13b2
      try clear c15
      try clear c15b0
      try clear c15b1
      obtain ⟨kq, x31_6, rfl, HA, HJ6, HB⟩ := hcut
      cases kq with
      | zero => exact absurd HA.out (by simp [portkeep1_MailSteady.j0])
      | succ kj6 =>
        have H := HA.out
        clear HA
        simp only [portkeep1_MailSteady.j0] at H
        by_cases c21 : x31_6 = true
        · subst c21
          have H1 : (some false) = some r := by rw [if_pos rfl] at H; exact H
          clear H
          have H := H1
          clear H1
          obtain rfl := Option.some.inj H
          go_wp2
          repeat (go_quiet (fail); try go_wp2)
          go_ret
          exact ⟨by first | rfl | (simp [errW_none, errW_some] <;> rfl) | (simp [*, errW_none, errW_some] <;> rfl), by repeat (first | (with_reducible first | exact HB.out | apply below_alloc | apply pw_below_drewN | apply below_drew1) | exact HB.out)⟩
        · replace c21 := Bool.eq_false_iff.mpr c21
          subst c21
          have H1 : (portkeep1_MailSteady.l0 kj6 a1 t103 (a1.size : Int) 0) = some r := by rw [if_neg (show ¬ (false = true) by decide)] at H; exact H
          clear H
          have H := H1
          clear H1
          have H' := Aside0.mk H
          clear H
          go_wp2
          repeat (go_quiet (fail); try go_wp2)
          go_loopg [34] kj6 (fun kq v34 w' => ∃ (x34_2 : Int), v34 = .int .i64 x34_2 ∧ Aside0 (portkeep1_MailSteady.l0 kq a1 t103 (a1.size : Int) x34_2 = some r) ∧ Aside0 (kq ≤ kj6) ∧ Aside0 (Below w.heap.size w w'))
          case atStart => exact ⟨(0), (by first | rfl | (simp; done) | (simp [*]; done)), H', ⟨Nat.le_refl _⟩, ⟨by repeat (first | (with_reducible first | exact HB.out | apply below_alloc | apply pw_below_drewN | apply below_drew1) | exact HB.out)⟩⟩
          case round =>
            clear H'
            try clear c1
            try clear p1
            try clear c2
            try clear p2
            try clear c4
            try clear c12
            try clear c12b0
            try clear c12b1
            try clear c13
            try clear c13b0
            try clear c13b1
            try clear c13b2
            try clear c15
            try clear c15b0
            try clear c15b1
            try clear c21
            try clear p1
            try clear p2
            obtain ⟨x34_2, rfl, HA, HK2, HB⟩ := hrel
            cases gk with
            | zero => exact absurd HA.out (by simp [portkeep1_MailSteady.l0])
            | succ k2 =>
              have H := HA.out
              clear HA
              simp only [portkeep1_MailSteady.l0] at H
              by_cases c22 : x34_2 < (a1.size : Int)
              · rw [if_pos c22] at H
                have c22b0 : decide (x34_2 < (a1.size : Int)) = true := decide_eq_true c22
                clear c22
                by_cases c23 : 0 ≤ x34_2
                · rw [if_pos c23] at H
                  have c23b0 : decide (0 ≤ x34_2) = true := decide_eq_true c23
                  clear c23
                  by_cases c24 : x34_2 < (t103.size : Int)
                  · rw [if_pos c24] at H
                    have c24b0 : decide (x34_2 < (t103.size : Int)) = true := decide_eq_true c24
                    clear c24
                    by_cases c26 : x34_2 < (a1.size : Int)
                    · rw [if_pos c26] at H
                      have c26b0 : decide (x34_2 < (a1.size : Int)) = true := decide_eq_true c26
                      clear c26
                      by_cases c28 : (bt t103 x34_2) = (bt a1 x34_2)
                      · rw [if_pos c28] at H
                        have c28b0 : ((bt t103 x34_2) == (bt a1 x34_2)) = true := beq_iff_eq.mpr c28
                        have c28b1 : ((bt t103 x34_2) != (bt a1 x34_2)) = false := bne_eq_false_iff_eq.mpr c28
                        clear c28
                        have H' := Aside0.mk H
                        clear H
                        have p25 : 0 ≤ (x34_2 : Int) := of_decide_eq_true (by first | (with_reducible assumption) | assumption)
                        have q25 : x34_2 < (t103.size : Int) := of_decide_eq_true (by first | (with_reducible assumption) | assumption)
                        have hx25 := bt_at t103 x34_2
                        replace p25 := eq_true p25
                        replace q25 := eq_true q25
                        have p27 : 0 ≤ (x34_2 : Int) := of_decide_eq_true (by first | (with_reducible assumption) | assumption)
                        have q27 : x34_2 < (a1.size : Int) := of_decide_eq_true (by first | (with_reducible assumption) | assumption)
                        have hx27 := bt_at a1 x34_2
                        replace p27 := eq_true p27
                        replace q27 := eq_true q27
                        go_wp2
                        repeat (go_quiet (fail); try go_wp2)
                        go_roundg k2
                        case measure => have := HJ6.out; have := HK2.out; omega
                        case rel => exact ⟨(wrap64 (x34_2 + 1)), (by first | rfl | (simp; done) | (simp [*]; done)), H', ⟨by have := HJ6.out; have := HK2.out; omega⟩, ⟨by repeat (first | (with_reducible first | exact HB.out | apply below_alloc | apply pw_below_drewN | apply below_drew1) | exact HB.out)⟩⟩
                      · rw [if_neg c28] at H
                        have c28b0 : ((bt t103 x34_2) == (bt a1 x34_2)) = false := beq_eq_false_iff_ne.mpr c28
                        have c28b1 : ((bt t103 x34_2) != (bt a1 x34_2)) = true := bne_iff_ne.mpr c28
                        by_cases c30 : (bt t103 x34_2) = 42
                        · rw [if_pos c30] at H
                          have c30b0 : ((bt t103 x34_2) == 42) = true := beq_iff_eq.mpr c30
                          have c30b1 : ((bt t103 x34_2) != 42) = false := bne_eq_false_iff_eq.mpr c30
                          clear c30
                          by_cases c32 : (bt a1 x34_2) < 48
                          · rw [if_pos c32] at H
                            have c32b0 : decide ((bt a1 x34_2) < 48) = true := decide_eq_true c32
                            clear c32
                            obtain rfl := Option.some.inj H
                            have p25 : 0 ≤ (x34_2 : Int) := of_decide_eq_true (by first | (with_reducible assumption) | assumption)
                            have q25 : x34_2 < (t103.size : Int) := of_decide_eq_true (by first | (with_reducible assumption) | assumption)
                            have hx25 := bt_at t103 x34_2
                            replace p25 := eq_true p25
                            replace q25 := eq_true q25
                            have p27 : 0 ≤ (x34_2 : Int) := of_decide_eq_true (by first | (with_reducible assumption) | assumption)
                            have q27 : x34_2 < (a1.size : Int) := of_decide_eq_true (by first | (with_reducible assumption) | assumption)
                            have hx27 := bt_at a1 x34_2
                            replace p27 := eq_true p27
                            replace q27 := eq_true q27
                            have p29 : 0 ≤ (x34_2 : Int) := of_decide_eq_true (by first | (with_reducible assumption) | assumption)
                            have q29 : x34_2 < (t103.size : Int) := of_decide_eq_true (by first | (with_reducible assumption) | assumption)
                            have hx29 := bt_at t103 x34_2
                            replace p29 := eq_true p29
                            replace q29 := eq_true q29
                            have p31 : 0 ≤ (x34_2 : Int) := of_decide_eq_true (by first | (with_reducible assumption) | assumption)
                            have q31 : x34_2 < (a1.size : Int) := of_decide_eq_true (by first | (with_reducible assumption) | assumption)
                            have hx31 := bt_at a1 x34_2
                            replace p31 := eq_true p31
                            replace q31 := eq_true q31
                            go_wp2
                            repeat (go_quiet (fail); try go_wp2)
                            go_ret
                            exact ⟨by first | rfl | (simp [errW_none, errW_some] <;> rfl) | (simp [*, errW_none, errW_some] <;> rfl), by repeat (first | (with_reducible first | exact HB.out | apply below_alloc | apply pw_below_drewN | apply below_drew1) | exact HB.out)⟩
                          · rw [if_neg c32] at H
                            have c32b0 : decide ((bt a1 x34_2) < 48) = false := decide_eq_false c32
                            clear c32
                            by_cases c34 : (bt a1 x34_2) > 57
                            · rw [if_pos c34] at H
                              have c34b0 : decide (57 < (bt a1 x34_2)) = true := decide_eq_true c34
                              clear c34
                              obtain rfl := Option.some.inj H
                              have p25 : 0 ≤ (x34_2 : Int) := of_decide_eq_true (by first | (with_reducible assumption) | assumption)
                              have q25 : x34_2 < (t103.size : Int) := of_decide_eq_true (by first | (with_reducible assumption) | assumption)
                              have hx25 := bt_at t103 x34_2
                              replace p25 := eq_true p25
                              replace q25 := eq_true q25
                              have p27 : 0 ≤ (x34_2 : Int) := of_decide_eq_true (by first | (with_reducible assumption) | assumption)
                              have q27 : x34_2 < (a1.size : Int) := of_decide_eq_true (by first | (with_reducible assumption) | assumption)
                              have hx27 := bt_at a1 x34_2
                              replace p27 := eq_true p27
                              replace q27 := eq_true q27
                              have p29 : 0 ≤ (x34_2 : Int) := of_decide_eq_true (by first | (with_reducible assumption) | assumption)
                              have q29 : x34_2 < (t103.size : Int) := of_decide_eq_true (by first | (with_reducible assumption) | assumption)
                              have hx29 := bt_at t103 x34_2
                              replace p29 := eq_true p29
                              replace q29 := eq_true q29
                              have p31 : 0 ≤ (x34_2 : Int) := of_decide_eq_true (by first | (with_reducible assumption) | assumption)
                              have q31 : x34_2 < (a1.size : Int) := of_decide_eq_true (by first | (with_reducible assumption) | assumption)
                              have hx31 := bt_at a1 x34_2
                              replace p31 := eq_true p31
                              replace q31 := eq_true q31
                              have p33 : 0 ≤ (x34_2 : Int) := of_decide_eq_true (by first | (with_reducible assumption) | assumption)
                              have q33 : x34_2 < (a1.size : Int) := of_decide_eq_true (by first | (with_reducible assumption) | assumption)
                              have hx33 := bt_at a1 x34_2
                              replace p33 := eq_true p33
                              replace q33 := eq_true q33
                              go_wp2
                              repeat (go_quiet (fail); try go_wp2)
                              go_ret
                              exact ⟨by first | rfl | (simp [errW_none, errW_some] <;> rfl) | (simp [*, errW_none, errW_some] <;> rfl), by repeat (first | (with_reducible first | exact HB.out | apply below_alloc | apply pw_below_drewN | apply below_drew1) | exact HB.out)⟩
                            · rw [if_neg c34] at H
                              have c34b0 : decide (57 < (bt a1 x34_2)) = false := decide_eq_false c34
                              clear c34
                              have H' := Aside0.mk H
                              clear H
                              have p25 : 0 ≤ (x34_2 : Int) := of_decide_eq_true (by first | (with_reducible assumption) | assumption)
                              have q25 : x34_2 < (t103.size : Int) := of_decide_eq_true (by first | (with_reducible assumption) | assumption)
                              have hx25 := bt_at t103 x34_2
                              replace p25 := eq_true p25
                              replace q25 := eq_true q25
                              have p27 : 0 ≤ (x34_2 : Int) := of_decide_eq_true (by first | (with_reducible assumption) | assumption)
                              have q27 : x34_2 < (a1.size : Int) := of_decide_eq_true (by first | (with_reducible assumption) | assumption)
                              have hx27 := bt_at a1 x34_2
                              replace p27 := eq_true p27
                              replace q27 := eq_true q27
                              have p29 : 0 ≤ (x34_2 : Int) := of_decide_eq_true (by first | (with_reducible assumption) | assumption)
                              have q29 : x34_2 < (t103.size : Int) := of_decide_eq_true (by first | (with_reducible assumption) | assumption)
                              have hx29 := bt_at t103 x34_2
                              replace p29 := eq_true p29
                              replace q29 := eq_true q29
                              have p31 : 0 ≤ (x34_2 : Int) := of_decide_eq_true (by first | (with_reducible assumption) | assumption)
                              have q31 : x34_2 < (a1.size : Int) := of_decide_eq_true (by first | (with_reducible assumption) | assumption)
                              have hx31 := bt_at a1 x34_2
                              replace p31 := eq_true p31
                              replace q31 := eq_true q31
                              have p33 : 0 ≤ (x34_2 : Int) := of_decide_eq_true (by first | (with_reducible assumption) | assumption)
                              have q33 : x34_2 < (a1.size : Int) := of_decide_eq_true (by first | (with_reducible assumption) | assumption)
                              have hx33 := bt_at a1 x34_2
                              replace p33 := eq_true p33
                              replace q33 := eq_true q33
                              go_wp2
                              repeat (go_quiet (fail); try go_wp2)
                              go_roundg k2
                              case measure => have := HJ6.out; have := HK2.out; omega
                              case rel => exact ⟨(wrap64 (x34_2 + 1)), (by first | rfl | (simp; done) | (simp [*]; done)), H', ⟨by have := HJ6.out; have := HK2.out; omega⟩, ⟨by repeat (first | (with_reducible first | exact HB.out | apply below_alloc | apply pw_below_drewN | apply below_drew1) | exact HB.out)⟩⟩
                        · rw [if_neg c30] at H
                          have c30b0 : ((bt t103 x34_2) == 42) = false := beq_eq_false_iff_ne.mpr c30
                          have c30b1 : ((bt t103 x34_2) != 42) = true := bne_iff_ne.mpr c30
                          obtain rfl := Option.some.inj H
                          have p25 : 0 ≤ (x34_2 : Int) := of_decide_eq_true (by first | (with_reducible assumption) | assumption)
                          have q25 : x34_2 < (t103.size : Int) := of_decide_eq_true (by first | (with_reducible assumption) | assumption)
                          have hx25 := bt_at t103 x34_2
                          replace p25 := eq_true p25
                          replace q25 := eq_true q25
                          have p27 : 0 ≤ (x34_2 : Int) := of_decide_eq_true (by first | (with_reducible assumption) | assumption)
                          have q27 : x34_2 < (a1.size : Int) := of_decide_eq_true (by first | (with_reducible assumption) | assumption)
                          have hx27 := bt_at a1 x34_2
                          replace p27 := eq_true p27
                          replace q27 := eq_true q27
                          have p29 : 0 ≤ (x34_2 : Int) := of_decide_eq_true (by first | (with_reducible assumption) | assumption)
                          have q29 : x34_2 < (t103.size : Int) := of_decide_eq_true (by first | (with_reducible assumption) | assumption)
                          have hx29 := bt_at t103 x34_2
                          replace p29 := eq_true p29
                          replace q29 := eq_true q29
                          go_wp2
                          repeat (go_quiet (fail); try go_wp2)
                          go_ret
                          exact ⟨by first | rfl | (simp [errW_none, errW_some] <;> rfl) | (simp [*, errW_none, errW_some] <;> rfl), by repeat (first | (with_reducible first | exact HB.out | apply below_alloc | apply pw_below_drewN | apply below_drew1) | exact HB.out)⟩
                    · rw [if_neg c26] at H
                      exact absurd H (by simp)
                  · rw [if_neg c24] at H
                    exact absurd H (by simp)
                · rw [if_neg c23] at H
                  exact absurd H (by simp)
              · rw [if_neg c22] at H
                have c22b0 : decide (x34_2 < (a1.size : Int)) = false := decide_eq_false c22
                clear c22
                replace H := Option.bind_eq_some_iff.mp H
                obtain ⟨t106, A350, H⟩ := H
                replace H : (some (t106.toList == t103.toList)) = some r := H
                have A35 := Aside0.mk A350
                clear A350
                obtain rfl := Option.some.inj H
                go_wp2_with (first | (go_at_call 19; (with_reducible refine (mail_Mask.calls t103 t106 _ A35.out).mono ?_); rintro e w36 ⟨rfl, hb⟩; have n0_ := Aside0.mk (below_step (by repeat (first | (with_reducible first | exact HB.out | apply below_alloc | apply pw_below_drewN | apply below_drew1) | exact HB.out)) hb); clear HB; have HB := n0_; clear n0_; (try clear hb); (try clear hb2); (try clear hk); (try clear hi)))
                repeat (go_quiet (first | (go_at_call 19; (with_reducible refine (mail_Mask.calls t103 t106 _ A35.out).mono ?_); rintro e w36 ⟨rfl, hb⟩; have n0_ := Aside0.mk (below_step (by repeat (first | (with_reducible first | exact HB.out | apply below_alloc | apply pw_below_drewN | apply below_drew1) | exact HB.out)) hb); clear HB; have HB := n0_; clear n0_; (try clear hb); (try clear hb2); (try clear hk); (try clear hi))); try go_wp2_with (first | (go_at_call 19; (with_reducible refine (mail_Mask.calls t103 t106 _ A35.out).mono ?_); rintro e w36 ⟨rfl, hb⟩; have n0_ := Aside0.mk (below_step (by repeat (first | (with_reducible first | exact HB.out | apply below_alloc | apply pw_below_drewN | apply below_drew1) | exact HB.out)) hb); clear HB; have HB := n0_; clear n0_; (try clear hb); (try clear hb2); (try clear hk); (try clear hi))))
                go_ret
                exact ⟨by first | rfl | (simp [errW_none, errW_some] <;> rfl) | (simp [*, errW_none, errW_some] <;> rfl), by repeat (first | (with_reducible first | exact HB.out | apply below_alloc | apply pw_below_drewN | apply below_drew1) | exact HB.out)⟩
  · replace c4 := Bool.eq_false_iff.mpr c4
    subst c4
    have H1 : (some false) = some r := by rw [if_neg (show ¬ (false = true) by decide)] at H; exact H
    clear H
    have H := H1
    clear H1
    obtain rfl := Option.some.inj H
    go_enter Tryd.func4, Tryd.ntmps4
    go_wp2_with (first | (go_at_call 17; (with_reducible refine (portkeep1_awakeMail.calls  false _ A3.out).mono ?_); rintro e w37 ⟨rfl, hb⟩; have n0_ := Aside0.mk (below_step (by repeat (first | (with_reducible first | exact HB.out | apply below_alloc | apply pw_below_drewN | apply below_drew1) | exact HB.out)) hb); clear HB; have HB := n0_; clear n0_; (try clear hb); (try clear hb2); (try clear hk); (try clear hi)))
    repeat (go_quiet (first | (go_at_call 17; (with_reducible refine (portkeep1_awakeMail.calls  false _ A3.out).mono ?_); rintro e w37 ⟨rfl, hb⟩; have n0_ := Aside0.mk (below_step (by repeat (first | (with_reducible first | exact HB.out | apply below_alloc | apply pw_below_drewN | apply below_drew1) | exact HB.out)) hb); clear HB; have HB := n0_; clear n0_; (try clear hb); (try clear hb2); (try clear hk); (try clear hi))); try go_wp2_with (first | (go_at_call 17; (with_reducible refine (portkeep1_awakeMail.calls  false _ A3.out).mono ?_); rintro e w37 ⟨rfl, hb⟩; have n0_ := Aside0.mk (below_step (by repeat (first | (with_reducible first | exact HB.out | apply below_alloc | apply pw_below_drewN | apply below_drew1) | exact HB.out)) hb); clear HB; have HB := n0_; clear n0_; (try clear hb); (try clear hb2); (try clear hk); (try clear hi))))
    go_ret
    exact ⟨by first | rfl | (simp [errW_none, errW_some] <;> rfl) | (simp [*, errW_none, errW_some] <;> rfl), by repeat (first | (with_reducible first | exact HB.out | apply below_alloc | apply pw_below_drewN | apply below_drew1) | exact HB.out)⟩

end Go.Proofs.YtcljkhhjondhcaaDoor.Is
