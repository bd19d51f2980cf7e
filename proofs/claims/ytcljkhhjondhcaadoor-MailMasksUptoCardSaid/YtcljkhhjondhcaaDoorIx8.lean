/- Functions of the program as plain functions, and that each call returns what they say, wherever they answer: written by a program of this session over the kit's printer; conditions: those in each statement. -/
import Derived.Test.YtcljkhhjondhcaaDoorIx0
import Derived.Test.YtcljkhhjondhcaaDoorIx5
import Derived.Test.YtcljkhhjondhcaaDoorIx7
namespace Go.Proofs.YtcljkhhjondhcaaDoor.Ix
open Go.RowKit Go.Proofs.YtcljkhhjondhcaaDoorW.PrintWords Go.Proofs.YtcljkhhjondhcaaDoorW.PrintLast Go.Proofs.YtcljkhhjondhcaaDoorW.PrintMore Go.Proofs.YtcljkhhjondhcaaDoor.Ext
attribute [local go_sem] max2_int min2_int max_two min_two max_three min_three max_four min_four   -- for this text's walks alone
set_option linter.unusedVariables false
set_option linter.unusedSimpArgs false

/-! ### mail_Excerpt: function 45 -/
mutual
def mail_Excerpt.l0 : Nat → Int → List ByteArray → List ByteArray → Int → Int → Option (ByteArray)
 | 0, _, _, _, _, _ => none
 | k + 1, x1, x5, x13, x14, x15 => if x15 < x14 then (if 0 ≤ x15 then (if x15 < (x13.length : Int) then ((mail_empty.f (rdOf ByteArray.empty x13 x15)).bind fun t218 => (if t218 = true then (mail_Excerpt.l0 k x1 x5 x13 x14 (wrap64 (x15 + 1))) else ((strings_Trim.f (rdOf ByteArray.empty x13 x15) (⟨#[32, 9]⟩ : ByteArray)).bind fun t219 => (if x5.length < 8796093022208 then (mail_Excerpt.l0 k x1 (x5 ++ [t219]) x13 x14 (wrap64 (x15 + 1))) else (none))))) else (none)) else (none)) else ((strings_Join.f x5 (⟨#[32]⟩ : ByteArray)).bind fun t223 => (if (t223.size : Int) ≤ x1 then (some t223) else (if 0 ≤ x1 then (if x1 < (t223.size : Int) then ((mail_blank.f (bt t223 x1)).bind fun t224 => (if t224 = true then (mail_Excerpt.j2 k x1 t223 x1) else (mail_Excerpt.l1 k x1 t223 x1))) else (none)) else (none))))
def mail_Excerpt.j2 : Nat → Int → ByteArray → Int → Option (ByteArray)
 | 0, _, _, _ => none
 | k + 1, x1, x8, x9 => mail_Excerpt.l2 k x1 x8 x9
def mail_Excerpt.l2 : Nat → Int → ByteArray → Int → Option (ByteArray)
 | 0, _, _, _ => none
 | k + 1, x1, x8, x9 => if x9 > 0 then (if 0 ≤ (wrap64 (x9 - 1)) then (if (wrap64 (x9 - 1)) < (x8.size : Int) then ((mail_blank.f (bt x8 (wrap64 (x9 - 1)))).bind fun t226 => (if t226 = true then (mail_Excerpt.l2 k x1 x8 (wrap64 (x9 - 1))) else (if x9 = 0 then (if 0 ≤ x1 then (if x1 ≤ (x8.size : Int) then (some (x8.extract 0 (x1 : Int).toNat)) else (none)) else (none)) else (if 0 ≤ x9 then (if x9 ≤ (x8.size : Int) then (some (x8.extract 0 (x9 : Int).toNat)) else (none)) else (none))))) else (none)) else (none)) else (if x9 = 0 then (if 0 ≤ x1 then (if x1 ≤ (x8.size : Int) then (some (x8.extract 0 (x1 : Int).toNat)) else (none)) else (none)) else (if 0 ≤ x9 then (if x9 ≤ (x8.size : Int) then (some (x8.extract 0 (x9 : Int).toNat)) else (none)) else (none)))
def mail_Excerpt.l1 : Nat → Int → ByteArray → Int → Option (ByteArray)
 | 0, _, _, _ => none
 | k + 1, x1, x8, x9 => if x9 > 0 then (if 0 ≤ (wrap64 (x9 - 1)) then (if (wrap64 (x9 - 1)) < (x8.size : Int) then ((mail_blank.f (bt x8 (wrap64 (x9 - 1)))).bind fun t225 => (if t225 = true then (mail_Excerpt.j2 k x1 x8 x9) else (mail_Excerpt.l1 k x1 x8 (wrap64 (x9 - 1))))) else (none)) else (none)) else (mail_Excerpt.j2 k x1 x8 x9)
end
def mail_Excerpt.f (k : Nat) (l0 : List ByteArray) (a1 : Int) : Option (ByteArray) := if a1 ≤ 0 then (some (⟨#[]⟩ : ByteArray)) else ((mail_own.f k l0).bind fun t214 => (mail_Excerpt.l0 k a1 ([] : List ByteArray) t214 (t214.length : Int) 0))
theorem mail_Excerpt.mono_l : ∀ k, (∀ y0 y1 y2 y3 y4, LeO (mail_Excerpt.l0 k y0 y1 y2 y3 y4) (mail_Excerpt.l0 (k + 1) y0 y1 y2 y3 y4)) ∧ (∀ y0 y1 y2, LeO (mail_Excerpt.j2 k y0 y1 y2) (mail_Excerpt.j2 (k + 1) y0 y1 y2)) ∧ (∀ y0 y1 y2, LeO (mail_Excerpt.l2 k y0 y1 y2) (mail_Excerpt.l2 (k + 1) y0 y1 y2)) ∧ (∀ y0 y1 y2, LeO (mail_Excerpt.l1 k y0 y1 y2) (mail_Excerpt.l1 (k + 1) y0 y1 y2))
 | 0 => ⟨fun _ _ _ _ _ r h => by simp [mail_Excerpt.l0] at h, fun _ _ _ r h => by simp [mail_Excerpt.j2] at h, fun _ _ _ r h => by simp [mail_Excerpt.l2] at h, fun _ _ _ r h => by simp [mail_Excerpt.l1] at h⟩
 | k + 1 => by
  obtain ⟨ih0, ih1, ih2, ih3⟩ := mail_Excerpt.mono_l k
  refine ⟨?_, ?_, ?_, ?_⟩
  ·intro y0 y1 y2 y3 y4
   unfold mail_Excerpt.l0
   repeat' first
   | (with_reducible exact ih0 _ _ _ _ _)
   | (with_reducible exact ih1 _ _ _)
   | (with_reducible exact ih2 _ _ _)
   | (with_reducible exact ih3 _ _ _)
   | (with_reducible exact mail_own.mono _ _)
   | (with_reducible exact LeO.refl _)
   | (with_reducible exact LeO.none _)
   | (with_reducible refine LeO.ite ?_ ?_)
   | (with_reducible refine LeO.bind ?_ (fun _ => ?_))
  ·intro y0 y1 y2
   unfold mail_Excerpt.j2
   repeat' first
   | (with_reducible exact ih0 _ _ _ _ _)
   | (with_reducible exact ih1 _ _ _)
   | (with_reducible exact ih2 _ _ _)
   | (with_reducible exact ih3 _ _ _)
   | (with_reducible exact mail_own.mono _ _)
   | (with_reducible exact LeO.refl _)
   | (with_reducible exact LeO.none _)
   | (with_reducible refine LeO.ite ?_ ?_)
   | (with_reducible refine LeO.bind ?_ (fun _ => ?_))
  ·intro y0 y1 y2
   unfold mail_Excerpt.l2
   repeat' first
   | (with_reducible exact ih0 _ _ _ _ _)
   | (with_reducible exact ih1 _ _ _)
   | (with_reducible exact ih2 _ _ _)
   | (with_reducible exact ih3 _ _ _)
   | (with_reducible exact mail_own.mono _ _)
   | (with_reducible exact LeO.refl _)
   | (with_reducible exact LeO.none _)
   | (with_reducible refine LeO.ite ?_ ?_)
   | (with_reducible refine LeO.bind ?_ (fun _ => ?_))
  ·intro y0 y1 y2
   unfold mail_Excerpt.l1
   repeat' first
   | (with_reducible exact ih0 _ _ _ _ _)
   | (with_reducible exact ih1 _ _ _)
   | (with_reducible exact ih2 _ _ _)
   | (with_reducible exact ih3 _ _ _)
   | (with_reducible exact mail_own.mono _ _)
   | (with_reducible exact LeO.refl _)
   | (with_reducible exact LeO.none _)
   | (with_reducible refine LeO.ite ?_ ?_)
   | (with_reducible refine LeO.bind ?_ (fun _ => ?_))
theorem mail_Excerpt.mono : ∀ a0 a1 k, LeO (mail_Excerpt.f k a0 a1) (mail_Excerpt.f (k + 1) a0 a1) := by
 intro a0 a1 k
 obtain ⟨ih0, ih1, ih2, ih3⟩ := mail_Excerpt.mono_l k
 unfold mail_Excerpt.f
 repeat' first
   | (with_reducible exact ih0 _ _ _ _ _)
   | (with_reducible exact ih1 _ _ _)
   | (with_reducible exact ih2 _ _ _)
   | (with_reducible exact ih3 _ _ _)
   | (with_reducible exact mail_own.mono _ _)
   | (with_reducible exact LeO.refl _)
   | (with_reducible exact LeO.none _)
   | (with_reducible refine LeO.ite ?_ ?_)
   | (with_reducible refine LeO.bind ?_ (fun _ => ?_))
set_option maxHeartbeats 8000000 in
set_option maxRecDepth 100000 in
theorem mail_Excerpt.calls (k : Nat) (A0 : Option Addr) (c0 : Nat) (l0 : List ByteArray) (a1 : Int) (r : ByteArray) (w : World) (hr0 : Kd.C Kd.string w A0 l0.length l0) (hc0 : l0.length ≤ c0) (hTm : Tm w) (h : mail_Excerpt.f k l0 a1 = some r) :
  Calls Tryd.prog 45 #[.slice A0 l0.length c0, .int .i64 a1] w fun e w' => e = .returned (.string r) ∧ Below w.heap.size w w' := by
 have HTm := Aside0.mk hTm
 clear hTm
 have HR0 := Aside0.mk hr0
 have HC0 := Aside0.mk hc0
 clear hr0 hc0
 have HB := Aside0.mk (Below.refl w.heap.size w)
 have H : (if a1 ≤ 0 then (some (⟨#[]⟩ : ByteArray)) else ((mail_own.f k l0).bind fun t214 => (mail_Excerpt.l0 k a1 ([] : List ByteArray) t214 (t214.length : Int) 0))) = some r := h
 clear h
 by_cases c3 : a1 ≤ 0
 ·rw [if_pos c3] at H
  have c3b0 : decide (a1 ≤ 0) = true := decide_eq_true c3
  clear c3
  obtain rfl := Option.some.inj H
  go_enter Tryd.func45, Tryd.ntmps45
  go_wp2
  go_ret
  exact ⟨by first | rfl | (simp [errW_none, errW_some] <;> rfl) | (simp [*, errW_none, errW_some] <;> rfl), by repeat (first | (with_reducible first | exact HB.out | apply below_alloc | apply pw_below_drewN | apply below_drew1) | exact HB.out)⟩
 ·rw [if_neg c3] at H
  have c3b0 : decide (a1 ≤ 0) = false := decide_eq_false c3
  clear c3
  replace H := Option.bind_eq_some_iff.mp H
  obtain ⟨t214, A40, H⟩ := H
  replace H : (mail_Excerpt.l0 k a1 ([] : List ByteArray) t214 (t214.length : Int) 0) = some r := H
  have A4 := Aside0.mk A40
  clear A40
  have H' := Aside0.mk H
  clear H
  go_enter Tryd.func45, Tryd.ntmps45
  go_wp2_with (first | ((with_reducible refine gate_callee (f := 73) rfl ?_); refine goesL_ (some 13) rfl rfl Tryd.func73 (by kernel_rfl) rfl #[.slice A0 l0.length c0] rfl (by (try simp only [List.map_toArray, List.map_cons, List.map_nil]); first | done | rfl | (simp only [List.length_drop, List.length_take]; rfl)) ?_; (with_reducible refine (mail_own.calls k _ _ l0 t214 _ ?side1 ?side2 ?side3 A4.out).mono ?_); (case side1 => repeat (first | exact HR0.out | (with_reducible refine Kd.C_alloc ?_ _) | (with_reducible refine Kd.C_drewN ?_ _) | (with_reducible refine Kd.C_drew ?_))); (case side2 => exact HC0.out); (case side3 => first | exact HTm.out | exact Tm_below HTm.out (by repeat (first | (with_reducible first | exact HB.out | apply below_alloc | apply pw_below_drewN | apply below_drew1) | exact HB.out)) | exact Tm_drewN HTm.out _ | exact Tm_drew HTm.out | exact Tm_drewN (Tm_drewN HTm.out _) _); rintro e w5 ⟨v215, rfl, ho0, hb⟩; refine ⟨_, rfl, ?_⟩; have n0_ := Aside0.mk (Kd.R_lower ho0 (below_size (by repeat (first | (with_reducible first | exact HB.out | apply below_alloc | apply pw_below_drewN | apply below_drew1) | exact HB.out)))); have n1_ := Aside0.mk (below_step (by repeat (first | (with_reducible first | exact HB.out | apply below_alloc | apply pw_below_drewN | apply below_drew1) | exact HB.out)) hb); clear HB; have HO216 := n0_; have HB := n1_; clear n0_ n1_; (try clear hb); (try clear hb2); (try clear hk); (try clear hi); (try clear ho0); obtain ⟨Ao6, co6, eo6⟩ := Kd.R_slice HO216.out; subst eo6))
  go_loopg [5, 15] k (fun kq v5 v15 w' => ∃ (x5_1 : List ByteArray) (x15_1 : Int), v15 = .int .i64 x15_1 ∧ Aside0 (mail_Excerpt.l0 kq a1 x5_1 t214 (t214.length : Int) x15_1 = some r) ∧ Aside0 (kq ≤ k) ∧ Aside0 (Kd.R Kd.string 9 w' w.heap.size (fun k_ => some k_ ≠ ((.slice Ao6 t214.length co6) : Value).ownBlock) v5 x5_1) ∧ Aside0 (Kd.R Kd.string 9 w' w.heap.size (fun k_ => some k_ ≠ (v5 : Value).ownBlock) (.slice Ao6 t214.length co6) t214) ∧ Aside0 (Below w.heap.size w w'))
  case atStart => exact ⟨(([] : List ByteArray)), (0), (by first | rfl | (simp; done) | (simp [*]; done)), H', ⟨Nat.le_refl _⟩, ⟨by first | exact Kd.R_nil _ _ _ _ _ | exact Kd.N_nil _ _ _ _ _ | exact Kd.V_nil _ _ _ _ _ | exact Kd.Q_nil _ _ _ _ _ | exact Kd.S_nil _ _ _ _ _⟩, ⟨by (with_reducible repeat (first | apply Kd.R_alloc | apply Kd.R_drewN | apply Kd.R_drew)); exact Kd.R_mono HO216.out (fun _ hk => (by simp [Value.ownBlock]))⟩, ⟨by repeat (first | (with_reducible first | exact HB.out | apply below_alloc | apply pw_below_drewN | apply below_drew1) | exact HB.out)⟩⟩
  case round =>
   clear H'
   (try clear p2); (try clear c3); (try clear c3b0); (try clear c4)
   obtain ⟨x5_1, x15_1, rfl, HA, HK1, HO_5, HO_13, HB⟩ := hrel
   cases gk with
   | zero => exact absurd HA.out (by simp [mail_Excerpt.l0])
   | succ k1 =>
    have H := HA.out
    clear HA
    simp only [mail_Excerpt.l0] at H
    by_cases c7 : x15_1 < (t214.length : Int)
    ·rw [if_pos c7] at H
     have c7b0 : decide (x15_1 < (t214.length : Int)) = true := decide_eq_true c7
     clear c7
     by_cases c8 : 0 ≤ x15_1
     ·rw [if_pos c8] at H
      have c8b0 : decide (0 ≤ x15_1) = true := decide_eq_true c8
      clear c8
      by_cases c9 : x15_1 < (t214.length : Int)
      ·rw [if_pos c9] at H
       have c9b0 : decide (x15_1 < (t214.length : Int)) = true := decide_eq_true c9
       clear c9
       replace H := Option.bind_eq_some_iff.mp H
       obtain ⟨t218, A100, H⟩ := H
       replace H : (if t218 = true then (mail_Excerpt.l0 k1 a1 x5_1 t214 (t214.length : Int) (wrap64 (x15_1 + 1))) else ((strings_Trim.f (rdOf ByteArray.empty t214 x15_1) (⟨#[32, 9]⟩ : ByteArray)).bind fun t219 => (if x5_1.length < 8796093022208 then (mail_Excerpt.l0 k1 a1 (x5_1 ++ [t219]) t214 (t214.length : Int) (wrap64 (x15_1 + 1))) else (none)))) = some r := H
       have A10 := Aside0.mk A100
       clear A100
       by_cases c11 : t218 = true
       ·subst c11
        have H1 : (mail_Excerpt.l0 k1 a1 x5_1 t214 (t214.length : Int) (wrap64 (x15_1 + 1))) = some r := by rw [if_pos rfl] at H; exact H
        clear H
        have H := H1
        clear H1
        have H' := Aside0.mk H
        clear H
        have p217 : 0 ≤ (x15_1 : Int) := of_decide_eq_true (by first | (with_reducible assumption) | assumption)
        have q217 : x15_1 < (t214.length : Int) := of_decide_eq_true (by first | (with_reducible assumption) | assumption)
        obtain ⟨ad217, e217, hx217_0⟩ := Kd.at_string (Kd.R_reads' HO_13.out).2.2 x15_1 p217 q217
        cases e217
        replace p217 := eq_true p217
        replace q217 := eq_true q217
        go_wp2_with (first | ((with_reducible refine gate_callee (f := 70) rfl ?_); refine goesL_ (some 20) rfl rfl Tryd.func70 (by kernel_rfl) rfl #[.string (rdOf ByteArray.empty t214 x15_1)] rfl (by (try simp only [List.map_toArray, List.map_cons, List.map_nil]); first | done | rfl | (simp only [List.length_drop, List.length_take]; rfl)) ?_; (with_reducible refine (mail_empty.calls (rdOf ByteArray.empty t214 x15_1) true _ A10.out).mono ?_); rintro e w12 ⟨rfl, hb⟩; refine ⟨_, rfl, ?_⟩; have n0_ := Aside0.mk (Kd.R_below (by (with_reducible repeat (first | apply Kd.R_alloc | apply Kd.R_drewN | apply Kd.R_drew)); exact HO_5.out) hb); have n1_ := Aside0.mk (Kd.R_below (by (with_reducible repeat (first | apply Kd.R_alloc | apply Kd.R_drewN | apply Kd.R_drew)); exact HO_13.out) hb); have n2_ := Aside0.mk (below_step (by repeat (first | (with_reducible first | exact HB.out | apply below_alloc | apply pw_below_drewN | apply below_drew1) | exact HB.out)) hb); clear HO_5; clear HO_13; clear HB; have HO_5 := n0_; have HO_13 := n1_; have HB := n2_; clear n0_ n1_ n2_; (try clear hb); (try clear hb2); (try clear hk); (try clear hi)))
        go_roundg k1
        case measure => have := HK1.out; omega
        case rel => exact ⟨(x5_1), (wrap64 (x15_1 + 1)), (by first | rfl | (simp; done) | (simp [*]; done)), H', ⟨by have := HK1.out; omega⟩, ⟨by (with_reducible repeat (first | apply Kd.R_alloc | apply Kd.R_drewN | apply Kd.R_drew)); exact HO_5.out⟩, ⟨by (with_reducible repeat (first | apply Kd.R_alloc | apply Kd.R_drewN | apply Kd.R_drew)); exact HO_13.out⟩, ⟨by repeat (first | (with_reducible first | exact HB.out | apply below_alloc | apply pw_below_drewN | apply below_drew1) | exact HB.out)⟩⟩
       ·replace c11 := Bool.eq_false_iff.mpr c11
        subst c11
        have H1 : ((strings_Trim.f (rdOf ByteArray.empty t214 x15_1) (⟨#[32, 9]⟩ : ByteArray)).bind fun t219 => (if x5_1.length < 8796093022208 then (mail_Excerpt.l0 k1 a1 (x5_1 ++ [t219]) t214 (t214.length : Int) (wrap64 (x15_1 + 1))) else (none))) = some r := by rw [if_neg (show ¬ (false = true) by decide)] at H; exact H
        clear H
        have H := H1
        clear H1
        replace H := Option.bind_eq_some_iff.mp H
        obtain ⟨t219, A130, H⟩ := H
        replace H : (if x5_1.length < 8796093022208 then (mail_Excerpt.l0 k1 a1 (x5_1 ++ [t219]) t214 (t214.length : Int) (wrap64 (x15_1 + 1))) else (none)) = some r := H
        have A13 := Aside0.mk A130
        clear A130
        by_cases c14 : x5_1.length < 8796093022208
        ·rw [if_pos c14] at H
         have LMc14 := Aside0.mk c14
         clear c14
         obtain ⟨y220, hy220⟩ : ∃ y_ : List ByteArray, y_ = (x5_1 ++ [t219]) := ⟨_, rfl⟩
         replace H : (mail_Excerpt.l0 k1 a1 y220 t214 (t214.length : Int) (wrap64 (x15_1 + 1))) = some r := by first | (rw [hy220]; with_reducible exact H) | (have H2_ := (Option.bind_some _ _).symm.trans H; rw [hy220]; with_reducible exact H2_) | (have H2_ := (Option.bind_some _ _).symm.trans H; with_reducible exact H2_) | with_reducible exact H | (rw [hy220]; exact H) | exact H
         have Ny220 := Aside0.mk hy220
         clear hy220
         have H' := Aside0.mk H
         clear H
         have p217 : 0 ≤ (x15_1 : Int) := of_decide_eq_true (by first | (with_reducible assumption) | assumption)
         have q217 : x15_1 < (t214.length : Int) := of_decide_eq_true (by first | (with_reducible assumption) | assumption)
         obtain ⟨ad217, e217, hx217_0⟩ := Kd.at_string (Kd.R_reads' HO_13.out).2.2 x15_1 p217 q217
         cases e217
         replace p217 := eq_true p217
         replace q217 := eq_true q217
         go_wp2_with (first | ((with_reducible refine gate_callee (f := 70) rfl ?_); refine goesL_ (some 20) rfl rfl Tryd.func70 (by kernel_rfl) rfl #[.string (rdOf ByteArray.empty t214 x15_1)] rfl (by (try simp only [List.map_toArray, List.map_cons, List.map_nil]); first | done | rfl | (simp only [List.length_drop, List.length_take]; rfl)) ?_; (with_reducible refine (mail_empty.calls (rdOf ByteArray.empty t214 x15_1) false _ A10.out).mono ?_); rintro e w15 ⟨rfl, hb⟩; refine ⟨_, rfl, ?_⟩; have n0_ := Aside0.mk (Kd.R_below (by (with_reducible repeat (first | apply Kd.R_alloc | apply Kd.R_drewN | apply Kd.R_drew)); exact HO_5.out) hb); have n1_ := Aside0.mk (Kd.R_below (by (with_reducible repeat (first | apply Kd.R_alloc | apply Kd.R_drewN | apply Kd.R_drew)); exact HO_13.out) hb); have n2_ := Aside0.mk (below_step (by repeat (first | (with_reducible first | exact HB.out | apply below_alloc | apply pw_below_drewN | apply below_drew1) | exact HB.out)) hb); clear HO_5; clear HO_13; clear HB; have HO_5 := n0_; have HO_13 := n1_; have HB := n2_; clear n0_ n1_ n2_; (try clear hb); (try clear hb2); (try clear hk); (try clear hi)) | ((with_reducible refine gate_callee (f := 43) rfl ?_); refine goesL_ (some 24) rfl rfl Tryd.func43 (by kernel_rfl) rfl #[.string (rdOf ByteArray.empty t214 x15_1), .string (⟨#[32, 9]⟩ : ByteArray)] rfl (by (try simp only [List.map_toArray, List.map_cons, List.map_nil]); first | done | rfl | (simp only [List.length_drop, List.length_take]; rfl)) ?_; (with_reducible refine (strings_Trim.calls (rdOf ByteArray.empty t214 x15_1) (⟨#[32, 9]⟩ : ByteArray) t219 _ A13.out).mono ?_); rintro e w16 ⟨rfl, hb⟩; refine ⟨_, rfl, ?_⟩; have n0_ := Aside0.mk (Kd.R_below (by (with_reducible repeat (first | apply Kd.R_alloc | apply Kd.R_drewN | apply Kd.R_drew)); exact HO_5.out) hb); have n1_ := Aside0.mk (Kd.R_below (by (with_reducible repeat (first | apply Kd.R_alloc | apply Kd.R_drewN | apply Kd.R_drew)); exact HO_13.out) hb); have n2_ := Aside0.mk (below_step (by repeat (first | (with_reducible first | exact HB.out | apply below_alloc | apply pw_below_drewN | apply below_drew1) | exact HB.out)) hb); clear HO_5; clear HO_13; clear HB; have HO_5 := n0_; have HO_13 := n1_; have HB := n2_; clear n0_ n1_ n2_; (try clear hb); (try clear hb2); (try clear hk); (try clear hi)) | ((with_reducible refine gate_builtin (b := .append) (xs := #[.tmp 22, .tmp 25]) rfl ?_); at_builtin; refine Kd.R_append Kd.string (w0 := w) w.heap.size rfl (.tmp 22) (.tmp 25) 32 9 (.string ⟨#[]⟩) 16 rfl Tryd.underlying32 info9 rfl (by decide) (by omega) u5 x5_1 t219 [.string t219] (fun k_ => some k_ ≠ (.slice (some ad217) t214.length co6 : Value).ownBlock) (fun _ => False) rfl rfl ?aP (fun _ hk => hk.elim) ?aF ?aO ?aB ?aS ?aL ?_; (case aP => exact rfl); (case aB => exact (by repeat (first | (with_reducible first | exact HB.out | apply below_alloc | apply pw_below_drewN | apply below_drew1) | exact HB.out))); (case aF => exact (fun k_ hk => Kd.fresh' (Kd.R_lt (by (with_reducible repeat (first | apply Kd.R_alloc | apply Kd.R_drewN | apply Kd.R_drew)); exact HO_13.out)) k_ hk)); (case aO => exact (by (with_reducible repeat (first | apply Kd.R_alloc | apply Kd.R_drewN | apply Kd.R_drew)); exact HO_5.out)); (case aS => exact (below_size (by repeat (first | (with_reducible first | exact HB.out | apply below_alloc | apply pw_below_drewN | apply below_drew1) | exact HB.out)))); (case aL => have := LMc14.out; omega); intro v221 w17 ho hb hg hat; rw [← Ny220.out] at ho; have n0_ := Aside0.mk (Kd.R_after (ok := (fun _ => True)) (by (with_reducible repeat (first | apply Kd.R_alloc | apply Kd.R_drewN | apply Kd.R_drew)); exact Kd.R_mono HO_13.out (fun _ hk => ⟨trivial, hk⟩)) hg hat); have n1_ := Aside0.mk (hb); have n2_ := Aside0.mk (ho); clear HO_13; clear HB; clear HO_5; have HO_13 := n0_; have HB := n1_; have HO222 := n2_; clear n0_ n1_ n2_; clear ho hb hg hat))
         go_roundg k1
         case measure => have := HK1.out; omega
         case rel => exact ⟨(y220), (wrap64 (x15_1 + 1)), (by first | rfl | (simp; done) | (simp [*]; done)), H', ⟨by have := HK1.out; omega⟩, ⟨by (with_reducible repeat (first | apply Kd.R_alloc | apply Kd.R_drewN | apply Kd.R_drew)); exact HO222.out⟩, ⟨by (with_reducible repeat (first | apply Kd.R_alloc | apply Kd.R_drewN | apply Kd.R_drew)); exact Kd.R_mono HO_13.out (fun _ hk => hk.2)⟩, ⟨by repeat (first | (with_reducible first | exact HB.out | apply below_alloc | apply pw_below_drewN | apply below_drew1) | exact HB.out)⟩⟩
        ·rw [if_neg c14] at H
         exact absurd H (by simp)
      ·rw [if_neg c9] at H
       exact absurd H (by simp)
     ·rw [if_neg c8] at H
      exact absurd H (by simp)
    ·rw [if_neg c7] at H
     have c7b0 : decide (x15_1 < (t214.length : Int)) = false := decide_eq_false c7
     clear c7
     replace H := Option.bind_eq_some_iff.mp H
     obtain ⟨t223, A180, H⟩ := H
     replace H : (if (t223.size : Int) ≤ a1 then (some t223) else (if 0 ≤ a1 then (if a1 < (t223.size : Int) then ((mail_blank.f (bt t223 a1)).bind fun t224 => (if t224 = true then (mail_Excerpt.j2 k1 a1 t223 a1) else (mail_Excerpt.l1 k1 a1 t223 a1))) else (none)) else (none))) = some r := H
     have A18 := Aside0.mk A180
     clear A180
     by_cases c19 : (t223.size : Int) ≤ a1
     ·rw [if_pos c19] at H
      have c19b0 : decide ((t223.size : Int) ≤ a1) = true := decide_eq_true c19
      clear c19
      obtain rfl := Option.some.inj H
      obtain ⟨Ao20, co20, eo20⟩ := Kd.R_slice HO_5.out
      subst eo20
      go_wp2_with (first | ((with_reducible refine gate_callee (f := 40) rfl ?_); refine goesL_ (some 29) rfl rfl Tryd.func40 (by kernel_rfl) rfl #[.slice Ao20 x5_1.length co20, .string (⟨#[32]⟩ : ByteArray)] rfl (by (try simp only [List.map_toArray, List.map_cons, List.map_nil]); first | done | rfl | (simp only [List.length_drop, List.length_take]; rfl)) ?_; (with_reducible refine (strings_Join.calls _ _ x5_1 (⟨#[32]⟩ : ByteArray) t223 _ ?side1 ?side2 A18.out).mono ?_); (case side1 => repeat (first | exact (Kd.R_reads' HO_5.out).2.2 | (with_reducible refine Kd.C_alloc ?_ _) | (with_reducible refine Kd.C_drewN ?_ _) | (with_reducible refine Kd.C_drew ?_))); (case side2 => exact (Kd.R_reads' HO_5.out).2.1); rintro e w21 ⟨rfl, hb⟩; refine ⟨_, rfl, ?_⟩; have n0_ := Aside0.mk (Kd.R_below (by (with_reducible repeat (first | apply Kd.R_alloc | apply Kd.R_drewN | apply Kd.R_drew)); exact HO_5.out) hb); have n1_ := Aside0.mk (Kd.R_below (by (with_reducible repeat (first | apply Kd.R_alloc | apply Kd.R_drewN | apply Kd.R_drew)); exact HO_13.out) hb); have n2_ := Aside0.mk (below_step (by repeat (first | (with_reducible first | exact HB.out | apply below_alloc | apply pw_below_drewN | apply below_drew1) | exact HB.out)) hb); clear HO_5; clear HO_13; clear HB; have HO_5 := n0_; have HO_13 := n1_; have HB := n2_; clear n0_ n1_ n2_; (try clear hb); (try clear hb2); (try clear hk); (try clear hi)))
      go_ret
      exact ⟨by first | rfl | (simp [errW_none, errW_some] <;> rfl) | (simp [*, errW_none, errW_some] <;> rfl), by repeat (first | (with_reducible first | exact HB.out | apply below_alloc | apply pw_below_drewN | apply below_drew1) | exact HB.out)⟩
     ·rw [if_neg c19] at H
      have c19b0 : decide ((t223.size : Int) ≤ a1) = false := decide_eq_false c19
      clear c19
      by_cases c22 : 0 ≤ a1
      ·rw [if_pos c22] at H
       have c22b0 : decide (0 ≤ a1) = true := decide_eq_true c22
       clear c22
       by_cases c23 : a1 < (t223.size : Int)
       ·rw [if_pos c23] at H
        have c23b0 : decide (a1 < (t223.size : Int)) = true := decide_eq_true c23
        clear c23
        replace H := Option.bind_eq_some_iff.mp H
        obtain ⟨t224, A250, H⟩ := H
        replace H : (if t224 = true then (mail_Excerpt.j2 k1 a1 t223 a1) else (mail_Excerpt.l1 k1 a1 t223 a1)) = some r := H
        have A25 := Aside0.mk A250
        clear A250
        have HC26 := Aside0.mk H
        clear H
        obtain ⟨Ao27, co27, eo27⟩ := Kd.R_slice HO_5.out
        subst eo27
        go_upto_if 40 with (first | ((with_reducible refine gate_callee (f := 40) rfl ?_); refine goesL_ (some 29) rfl rfl Tryd.func40 (by kernel_rfl) rfl #[.slice Ao27 x5_1.length co27, .string (⟨#[32]⟩ : ByteArray)] rfl (by (try simp only [List.map_toArray, List.map_cons, List.map_nil]); first | done | rfl | (simp only [List.length_drop, List.length_take]; rfl)) ?_; (with_reducible refine (strings_Join.calls _ _ x5_1 (⟨#[32]⟩ : ByteArray) t223 _ ?side1 ?side2 A18.out).mono ?_); (case side1 => repeat (first | exact (Kd.R_reads' HO_5.out).2.2 | (with_reducible refine Kd.C_alloc ?_ _) | (with_reducible refine Kd.C_drewN ?_ _) | (with_reducible refine Kd.C_drew ?_))); (case side2 => exact (Kd.R_reads' HO_5.out).2.1); rintro e w28 ⟨rfl, hb⟩; refine ⟨_, rfl, ?_⟩; have n0_ := Aside0.mk (Kd.R_below (by (with_reducible repeat (first | apply Kd.R_alloc | apply Kd.R_drewN | apply Kd.R_drew)); exact HO_5.out) hb); have n1_ := Aside0.mk (Kd.R_below (by (with_reducible repeat (first | apply Kd.R_alloc | apply Kd.R_drewN | apply Kd.R_drew)); exact HO_13.out) hb); have n2_ := Aside0.mk (below_step (by repeat (first | (with_reducible first | exact HB.out | apply below_alloc | apply pw_below_drewN | apply below_drew1) | exact HB.out)) hb); clear HO_5; clear HO_13; clear HB; have HO_5 := n0_; have HO_13 := n1_; have HB := n2_; clear n0_ n1_ n2_; (try clear hb); (try clear hb2); (try clear hk); (try clear hi); have p24 : 0 ≤ (a1 : Int) := of_decide_eq_true (by first | (with_reducible assumption) | assumption); have q24 : a1 < (t223.size : Int) := of_decide_eq_true (by first | (with_reducible assumption) | assumption); have hx24 := bt_at t223 a1; replace p24 := eq_true p24; replace q24 := eq_true q24) | ((with_reducible refine gate_callee (f := 60) rfl ?_); refine goesL_ (some 39) rfl rfl Tryd.func60 (by kernel_rfl) rfl #[.int .u8 (bt t223 a1)] rfl (by (try simp only [List.map_toArray, List.map_cons, List.map_nil]); first | done | rfl | (simp only [List.length_drop, List.length_take]; rfl)) ?_; (with_reducible refine (mail_blank.calls (bt t223 a1) t224 _ A25.out).mono ?_); rintro e w' ⟨rfl, ⟨nd, rfl⟩⟩; refine ⟨_, rfl, ?_⟩))
        (try simp only [Act.put, List.setIfInBounds_toArray, List.set_cons_zero, List.set_cons_succ])
        go_cut [9] (fun v9 wc => ∃ (kq : Nat) (x9_25 : Int), v9 = .int .i64 x9_25 ∧ Aside0 (mail_Excerpt.j2 kq a1 t223 x9_25 = some r) ∧ Aside0 (kq ≤ k1) ∧ Aside0 (Below w.heap.size w wc))
        case first =>
         have H := HC26.out
         clear HC26
         by_cases c29 : t224 = true
         ·subst c29
          have H1 : (mail_Excerpt.j2 k1 a1 t223 a1) = some r := by rw [if_pos rfl] at H; exact H
          clear H
          have H := H1
          clear H1
          have H' := Aside0.mk H
          clear H
          go_wp2
          go_meet
          case rel => exact ⟨_, (a1), (by first | rfl | (simp; done) | (simp [*]; done)), H', ⟨by have := HK1.out; first | omega | exact Nat.le_refl _⟩, ⟨by repeat (first | (with_reducible first | exact HB.out | apply below_alloc | apply pw_below_drewN | apply below_drew1) | exact HB.out)⟩⟩
         ·replace c29 := Bool.eq_false_iff.mpr c29
          subst c29
          have H1 : (mail_Excerpt.l1 k1 a1 t223 a1) = some r := by rw [if_neg (show ¬ (false = true) by decide)] at H; exact H
          clear H
          have H := H1
          clear H1
          have H' := Aside0.mk H
          clear H
          go_wp2
          go_loopg [9] k1 (fun kq v9 w' => ∃ (x9_2 : Int), v9 = .int .i64 x9_2 ∧ Aside0 (mail_Excerpt.l1 kq a1 t223 x9_2 = some r) ∧ Aside0 (kq ≤ k1) ∧ Aside0 (Below w.heap.size w w'))
          case atStart => exact ⟨(a1), (by first | rfl | (simp; done) | (simp [*]; done)), H', ⟨Nat.le_refl _⟩, ⟨by repeat (first | (with_reducible first | exact HB.out | apply below_alloc | apply pw_below_drewN | apply below_drew1) | exact HB.out)⟩⟩
          case round =>
           clear H'
           (try clear c1); (try clear c2); (try clear p2); (try clear q2); (try clear hx2); (try clear c3); (try clear c3b0); (try clear c4); (try clear c6); (try clear p6); (try clear c7); (try clear c7b0); (try clear c8); (try clear c8b0); (try clear c9); (try clear c9b0); (try clear c11); (try clear c14); (try clear c19); (try clear c19b0); (try clear p21); (try clear q21); (try clear hx21); (try clear c22); (try clear c22b0); (try clear c23); (try clear c23b0); (try clear p24); (try clear q24); (try clear hx24); (try clear c29); (try clear hx217_0); (try clear p2); (try clear p217); (try clear p24); (try clear q217); (try clear q24)
           obtain ⟨x9_2, rfl, HA, HK2, HB⟩ := hrel
           cases gk with
           | zero => exact absurd HA.out (by simp [mail_Excerpt.l1])
           | succ k2 =>
            have H := HA.out
            clear HA
            simp only [mail_Excerpt.l1] at H
            by_cases c30 : x9_2 > 0
            ·rw [if_pos c30] at H
             have c30b0 : decide (0 < x9_2) = true := decide_eq_true c30
             clear c30
             (first | rw [c30b0] | (simp only [i64_w, i32_w]; rw [c30b0]) | skip)
             obtain ⟨ji31, hji31⟩ : ∃ j_ : Int, (wrap64 (x9_2 - 1)) = j_ := ⟨_, rfl⟩
             replace H : (if 0 ≤ (ji31) then (if (ji31) < (t223.size : Int) then ((mail_blank.f (bt t223 (ji31))).bind fun t225 => (if t225 = true then (mail_Excerpt.j2 k2 a1 t223 x9_2) else (mail_Excerpt.l1 k2 a1 t223 ji31))) else (none)) else (none)) = some r := by first | (rw [hji31] at H; exact H) | (simp only [hji31] at H ⊢; exact H)
             have hji31w : (IntKind.i64.wrap (x9_2 - 1)) = ji31 := (i64_w _).trans hji31
             by_cases c32 : 0 ≤ (ji31)
             ·rw [if_pos c32] at H
              have c32b0 : decide (0 ≤ (ji31)) = true := decide_eq_true c32
              clear c32
              by_cases c33 : (ji31) < (t223.size : Int)
              ·rw [if_pos c33] at H
               have c33b0 : decide ((ji31) < (t223.size : Int)) = true := decide_eq_true c33
               clear c33
               replace H := Option.bind_eq_some_iff.mp H
               obtain ⟨t225, A350, H⟩ := H
               replace H : (if t225 = true then (mail_Excerpt.j2 k2 a1 t223 x9_2) else (mail_Excerpt.l1 k2 a1 t223 ji31)) = some r := H
               have A35 := Aside0.mk A350
               clear A350
               by_cases c36 : t225 = true
               ·subst c36
                have H1 : (mail_Excerpt.j2 k2 a1 t223 x9_2) = some r := by rw [if_pos rfl] at H; exact H
                clear H
                have H := H1
                clear H1
                have H' := Aside0.mk H
                clear H
                have p34 : 0 ≤ ((ji31) : Int) := of_decide_eq_true (by first | (with_reducible assumption) | assumption)
                have q34 : (ji31) < (t223.size : Int) := of_decide_eq_true (by first | (with_reducible assumption) | assumption)
                have hx34 := bt_at t223 (ji31)
                replace p34 := eq_true p34
                replace q34 := eq_true q34
                go_wp2_with (first | (go_at_call 60; (with_reducible refine (mail_blank.calls (bt t223 (ji31)) true _ A35.out).mono ?_); rintro e w' ⟨rfl, ⟨nd, rfl⟩⟩))
                go_meet
                case rel => exact ⟨_, (x9_2), (by first | rfl | (simp; done) | (simp [*]; done)), H', ⟨by have := HK1.out; have := HK2.out; first | omega | exact Nat.le_refl _⟩, ⟨by repeat (first | (with_reducible first | exact HB.out | apply below_alloc | apply pw_below_drewN | apply below_drew1) | exact HB.out)⟩⟩
               ·replace c36 := Bool.eq_false_iff.mpr c36
                subst c36
                have H1 : (mail_Excerpt.l1 k2 a1 t223 ji31) = some r := by rw [if_neg (show ¬ (false = true) by decide)] at H; exact H
                clear H
                have H := H1
                clear H1
                have H' := Aside0.mk H
                clear H
                have p34 : 0 ≤ ((ji31) : Int) := of_decide_eq_true (by first | (with_reducible assumption) | assumption)
                have q34 : (ji31) < (t223.size : Int) := of_decide_eq_true (by first | (with_reducible assumption) | assumption)
                have hx34 := bt_at t223 (ji31)
                replace p34 := eq_true p34
                replace q34 := eq_true q34
                go_wp2_with (first | (go_at_call 60; (with_reducible refine (mail_blank.calls (bt t223 (ji31)) false _ A35.out).mono ?_); rintro e w' ⟨rfl, ⟨nd, rfl⟩⟩))
                go_roundg k2
                case measure => have := HK1.out; have := HK2.out; omega
                case rel => exact ⟨(ji31), (by first | rfl | (simp; done) | (simp only [← hji31] <;> (first | rfl | simp)) | (simp [*]; done)), H', ⟨by have := HK1.out; have := HK2.out; omega⟩, ⟨by repeat (first | (with_reducible first | exact HB.out | apply below_alloc | apply pw_below_drewN | apply below_drew1) | exact HB.out)⟩⟩
              ·rw [if_neg c33] at H
               exact absurd H (by simp)
             ·rw [if_neg c32] at H
              exact absurd H (by simp)
            ·rw [if_neg c30] at H
             have c30b0 : decide (0 < x9_2) = false := decide_eq_false c30
             clear c30
             (first | rw [c30b0] | (simp only [i64_w, i32_w]; rw [c30b0]) | skip)
             have H' := Aside0.mk H
             clear H
             go_wp2
             go_meet
             case rel => exact ⟨_, (x9_2), (by first | rfl | (simp; done) | (simp [*]; done)), H', ⟨by have := HK1.out; have := HK2.out; first | omega | exact Nat.le_refl _⟩, ⟨by repeat (first | (with_reducible first | exact HB.out | apply below_alloc | apply pw_below_drewN | apply below_drew1) | exact HB.out)⟩⟩
        case rest =>
         clear HC26
         (try clear c1); (try clear c2); (try clear p2); (try clear q2); (try clear hx2); (try clear c3); (try clear c3b0); (try clear p3); (try clear q3); (try clear hx3); (try clear c4); (try clear c6); (try clear p6); (try clear c7); (try clear c7b0); (try clear c8); (try clear c8b0); (try clear c9); (try clear c9b0); (try clear c11); (try clear c14); (try clear c19); (try clear c19b0); (try clear p21); (try clear q21); (try clear hx21); (try clear c22); (try clear c22b0); (try clear c23); (try clear c23b0); (try clear p24); (try clear q24); (try clear hx24); (try clear c29); (try clear c30); (try clear c30b0); (try clear c32); (try clear c32b0); (try clear c33); (try clear c33b0); (try clear p34); (try clear q34); (try clear hx34); (try clear c36); (try clear hx217_0); (try clear p2); (try clear p21); (try clear p217); (try clear p24); (try clear p34); (try clear p6); (try clear q2); (try clear q21); (try clear q217); (try clear q24); (try clear q34)
         obtain ⟨kq, x9_25, rfl, HA, HJ25, HB⟩ := hcut
         cases kq with
         | zero => exact absurd HA.out (by simp [mail_Excerpt.j2])
         | succ kj25 =>
          have H := HA.out
          clear HA
          simp only [mail_Excerpt.j2] at H
          have H' := Aside0.mk H
          clear H
          go_wp2
          go_loopg [9] kj25 (fun kq v9 w' => ∃ (x9_3 : Int), v9 = .int .i64 x9_3 ∧ Aside0 (mail_Excerpt.l2 kq a1 t223 x9_3 = some r) ∧ Aside0 (kq ≤ kj25) ∧ Aside0 (Below w.heap.size w w'))
          case atStart => exact ⟨(x9_25), (by first | rfl | (simp; done) | (simp [*]; done)), H', ⟨Nat.le_refl _⟩, ⟨by repeat (first | (with_reducible first | exact HB.out | apply below_alloc | apply pw_below_drewN | apply below_drew1) | exact HB.out)⟩⟩
          case round =>
           clear H'
           (try clear c1); (try clear c2); (try clear p2); (try clear q2); (try clear hx2); (try clear c3); (try clear c3b0); (try clear p3); (try clear q3); (try clear hx3); (try clear c4); (try clear c6); (try clear p6); (try clear c7); (try clear c7b0); (try clear c8); (try clear c8b0); (try clear c9); (try clear c9b0); (try clear c11); (try clear c14); (try clear c19); (try clear c19b0); (try clear p21); (try clear q21); (try clear hx21); (try clear c22); (try clear c22b0); (try clear c23); (try clear c23b0); (try clear p24); (try clear q24); (try clear hx24); (try clear c29); (try clear c30); (try clear c30b0); (try clear c32); (try clear c32b0); (try clear c33); (try clear c33b0); (try clear p34); (try clear q34); (try clear hx34); (try clear c36); (try clear hx217_0); (try clear p2); (try clear p21); (try clear p217); (try clear p24); (try clear p3); (try clear p34); (try clear p6); (try clear q2); (try clear q21); (try clear q217); (try clear q24); (try clear q3); (try clear q34)
           obtain ⟨x9_3, rfl, HA, HK3, HB⟩ := hrel
           cases gk with
           | zero => exact absurd HA.out (by simp [mail_Excerpt.l2])
           | succ k3 =>
            have H := HA.out
            clear HA
            simp only [mail_Excerpt.l2] at H
            by_cases c37 : x9_3 > 0
            ·rw [if_pos c37] at H
             have c37b0 : decide (0 < x9_3) = true := decide_eq_true c37
             clear c37
             obtain ⟨ji38, hji38⟩ : ∃ j_ : Int, (wrap64 (x9_3 - 1)) = j_ := ⟨_, rfl⟩
             replace H : (if 0 ≤ (ji38) then (if (ji38) < (t223.size : Int) then ((mail_blank.f (bt t223 (ji38))).bind fun t226 => (if t226 = true then (mail_Excerpt.l2 k3 a1 t223 ji38) else (if x9_3 = 0 then (if 0 ≤ a1 then (if a1 ≤ (t223.size : Int) then (some (t223.extract 0 (a1 : Int).toNat)) else (none)) else (none)) else (if 0 ≤ x9_3 then (if x9_3 ≤ (t223.size : Int) then (some (t223.extract 0 (x9_3 : Int).toNat)) else (none)) else (none))))) else (none)) else (none)) = some r := by first | (rw [hji38] at H; exact H) | (simp only [hji38] at H ⊢; exact H)
             have hji38w : (IntKind.i64.wrap (x9_3 - 1)) = ji38 := (i64_w _).trans hji38
             by_cases c39 : 0 ≤ (ji38)
             ·rw [if_pos c39] at H
              have c39b0 : decide (0 ≤ (ji38)) = true := decide_eq_true c39
              clear c39
              by_cases c40 : (ji38) < (t223.size : Int)
              ·rw [if_pos c40] at H
               have c40b0 : decide ((ji38) < (t223.size : Int)) = true := decide_eq_true c40
               clear c40
               replace H := Option.bind_eq_some_iff.mp H
               obtain ⟨t226, A420, H⟩ := H
               replace H : (if t226 = true then (mail_Excerpt.l2 k3 a1 t223 ji38) else (if x9_3 = 0 then (if 0 ≤ a1 then (if a1 ≤ (t223.size : Int) then (some (t223.extract 0 (a1 : Int).toNat)) else (none)) else (none)) else (if 0 ≤ x9_3 then (if x9_3 ≤ (t223.size : Int) then (some (t223.extract 0 (x9_3 : Int).toNat)) else (none)) else (none)))) = some r := H
               have A42 := Aside0.mk A420
               clear A420
               by_cases c43 : t226 = true
               ·subst c43
                have H1 : (mail_Excerpt.l2 k3 a1 t223 ji38) = some r := by rw [if_pos rfl] at H; exact H
                clear H
                have H := H1
                clear H1
                have H' := Aside0.mk H
                clear H
                have p41 : 0 ≤ ((ji38) : Int) := of_decide_eq_true (by first | (with_reducible assumption) | assumption)
                have q41 : (ji38) < (t223.size : Int) := of_decide_eq_true (by first | (with_reducible assumption) | assumption)
                have hx41 := bt_at t223 (ji38)
                replace p41 := eq_true p41
                replace q41 := eq_true q41
                go_wp2_with (first | (go_at_call 60; (with_reducible refine (mail_blank.calls (bt t223 (ji38)) true _ A42.out).mono ?_); rintro e w' ⟨rfl, ⟨nd, rfl⟩⟩))
                go_roundg k3
                case measure => have := HK1.out; have := HJ25.out; have := HK3.out; omega
                case rel => exact ⟨(ji38), (by first | rfl | (simp; done) | (simp only [← hji38] <;> (first | rfl | simp)) | (simp [*]; done)), H', ⟨by have := HK1.out; have := HJ25.out; have := HK3.out; omega⟩, ⟨by repeat (first | (with_reducible first | exact HB.out | apply below_alloc | apply pw_below_drewN | apply below_drew1) | exact HB.out)⟩⟩
               ·replace c43 := Bool.eq_false_iff.mpr c43
                subst c43
                have H1 : (if x9_3 = 0 then (if 0 ≤ a1 then (if a1 ≤ (t223.size : Int) then (some (t223.extract 0 (a1 : Int).toNat)) else (none)) else (none)) else (if 0 ≤ x9_3 then (if x9_3 ≤ (t223.size : Int) then (some (t223.extract 0 (x9_3 : Int).toNat)) else (none)) else (none))) = some r := by rw [if_neg (show ¬ (false = true) by decide)] at H; exact H
                clear H
                have H := H1
                clear H1
                by_cases c44 : x9_3 = 0
                ·rw [if_pos c44] at H
                 have c44b0 : (x9_3 == 0) = true := beq_iff_eq.mpr c44
                 have c44b1 : (x9_3 != 0) = false := bne_eq_false_iff_eq.mpr c44
                 clear c44
                 by_cases c45 : 0 ≤ a1
                 ·rw [if_pos c45] at H
                  have c45b0 := eq_true c45
                  have c45b1 : decide (0 ≤ a1) = true := decide_eq_true c45
                  clear c45
                  by_cases c46 : a1 ≤ (t223.size : Int)
                  ·rw [if_pos c46] at H
                   have c46b0 := eq_true c46
                   have c46b1 : decide (a1 ≤ (t223.size : Int)) = true := decide_eq_true c46
                   clear c46
                   obtain rfl := Option.some.inj H
                   have p41 : 0 ≤ ((ji38) : Int) := of_decide_eq_true (by first | (with_reducible assumption) | assumption)
                   have q41 : (ji38) < (t223.size : Int) := of_decide_eq_true (by first | (with_reducible assumption) | assumption)
                   have hx41 := bt_at t223 (ji38)
                   replace p41 := eq_true p41
                   replace q41 := eq_true q41
                   go_wp2_with (first | (go_at_call 60; (with_reducible refine (mail_blank.calls (bt t223 (ji38)) false _ A42.out).mono ?_); rintro e w' ⟨rfl, ⟨nd, rfl⟩⟩))
                   go_ret
                   exact ⟨by first | rfl | (simp [errW_none, errW_some] <;> rfl) | (simp only [← hji38]; first | rfl | (simp [errW_none, errW_some] <;> rfl)) | (simp [*, errW_none, errW_some] <;> rfl), by repeat (first | (with_reducible first | exact HB.out | apply below_alloc | apply pw_below_drewN | apply below_drew1) | exact HB.out)⟩
                  ·rw [if_neg c46] at H
                   exact absurd H (by simp)
                 ·rw [if_neg c45] at H
                  exact absurd H (by simp)
                ·rw [if_neg c44] at H
                 have c44b0 : (x9_3 == 0) = false := beq_eq_false_iff_ne.mpr c44
                 have c44b1 : (x9_3 != 0) = true := bne_iff_ne.mpr c44
                 by_cases c47 : 0 ≤ x9_3
                 ·rw [if_pos c47] at H
                  have c47b0 := eq_true c47
                  have c47b1 : decide (0 ≤ x9_3) = true := decide_eq_true c47
                  clear c47
                  by_cases c48 : x9_3 ≤ (t223.size : Int)
                  ·rw [if_pos c48] at H
                   have c48b0 := eq_true c48
                   have c48b1 : decide (x9_3 ≤ (t223.size : Int)) = true := decide_eq_true c48
                   clear c48
                   obtain rfl := Option.some.inj H
                   have p41 : 0 ≤ ((ji38) : Int) := of_decide_eq_true (by first | (with_reducible assumption) | assumption)
                   have q41 : (ji38) < (t223.size : Int) := of_decide_eq_true (by first | (with_reducible assumption) | assumption)
                   have hx41 := bt_at t223 (ji38)
                   replace p41 := eq_true p41
                   replace q41 := eq_true q41
                   go_wp2_with (first | (go_at_call 60; (with_reducible refine (mail_blank.calls (bt t223 (ji38)) false _ A42.out).mono ?_); rintro e w' ⟨rfl, ⟨nd, rfl⟩⟩))
                   go_ret
                   exact ⟨by first | rfl | (simp [errW_none, errW_some] <;> rfl) | (simp only [← hji38]; first | rfl | (simp [errW_none, errW_some] <;> rfl)) | (simp [*, errW_none, errW_some] <;> rfl), by repeat (first | (with_reducible first | exact HB.out | apply below_alloc | apply pw_below_drewN | apply below_drew1) | exact HB.out)⟩
                  ·rw [if_neg c48] at H
                   exact absurd H (by simp)
                 ·rw [if_neg c47] at H
                  exact absurd H (by simp)
              ·rw [if_neg c40] at H
               exact absurd H (by simp)
             ·rw [if_neg c39] at H
              exact absurd H (by simp)
            ·rw [if_neg c37] at H
             have c37b0 : decide (0 < x9_3) = false := decide_eq_false c37
             clear c37
             by_cases c49 : x9_3 = 0
             ·rw [if_pos c49] at H
              have c49b0 : (x9_3 == 0) = true := beq_iff_eq.mpr c49
              have c49b1 : (x9_3 != 0) = false := bne_eq_false_iff_eq.mpr c49
              clear c49
              by_cases c50 : 0 ≤ a1
              ·rw [if_pos c50] at H
               have c50b0 := eq_true c50
               have c50b1 : decide (0 ≤ a1) = true := decide_eq_true c50
               clear c50
               by_cases c51 : a1 ≤ (t223.size : Int)
               ·rw [if_pos c51] at H
                have c51b0 := eq_true c51
                have c51b1 : decide (a1 ≤ (t223.size : Int)) = true := decide_eq_true c51
                clear c51
                obtain rfl := Option.some.inj H
                go_wp2
                go_ret
                exact ⟨by first | rfl | (simp [errW_none, errW_some] <;> rfl) | (simp [*, errW_none, errW_some] <;> rfl), by repeat (first | (with_reducible first | exact HB.out | apply below_alloc | apply pw_below_drewN | apply below_drew1) | exact HB.out)⟩
               ·rw [if_neg c51] at H
                exact absurd H (by simp)
              ·rw [if_neg c50] at H
               exact absurd H (by simp)
             ·rw [if_neg c49] at H
              have c49b0 : (x9_3 == 0) = false := beq_eq_false_iff_ne.mpr c49
              have c49b1 : (x9_3 != 0) = true := bne_iff_ne.mpr c49
              by_cases c52 : 0 ≤ x9_3
              ·rw [if_pos c52] at H
               have c52b0 := eq_true c52
               have c52b1 : decide (0 ≤ x9_3) = true := decide_eq_true c52
               clear c52
               by_cases c53 : x9_3 ≤ (t223.size : Int)
               ·rw [if_pos c53] at H
                have c53b0 := eq_true c53
                have c53b1 : decide (x9_3 ≤ (t223.size : Int)) = true := decide_eq_true c53
                clear c53
                obtain rfl := Option.some.inj H
                go_wp2
                go_ret
                exact ⟨by first | rfl | (simp [errW_none, errW_some] <;> rfl) | (simp [*, errW_none, errW_some] <;> rfl), by repeat (first | (with_reducible first | exact HB.out | apply below_alloc | apply pw_below_drewN | apply below_drew1) | exact HB.out)⟩
               ·rw [if_neg c53] at H
                exact absurd H (by simp)
              ·rw [if_neg c52] at H
               exact absurd H (by simp)
       ·rw [if_neg c23] at H
        exact absurd H (by simp)
      ·rw [if_neg c22] at H
       exact absurd H (by simp)

end Go.Proofs.YtcljkhhjondhcaaDoor.Ix
