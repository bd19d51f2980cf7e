/- Functions of the program as plain functions, and that each call returns what they say, wherever they answer: written by a program of this session over the kit's printer; conditions: those in each statement. -/
import Derived.Test.YtcljkhhjondhcaaDoorIx0
import Derived.Test.YtcljkhhjondhcaaDoorIx5
namespace Go.Proofs.YtcljkhhjondhcaaDoor.Ix
open Go.RowKit Go.Proofs.YtcljkhhjondhcaaDoorW.PrintWords Go.Proofs.YtcljkhhjondhcaaDoorW.PrintLast Go.Proofs.YtcljkhhjondhcaaDoorW.PrintMore Go.Proofs.YtcljkhhjondhcaaDoor.Ext
attribute [local go_sem] max2_int min2_int max_two min_two max_three min_three max_four min_four   -- for this text's walks alone
set_option linter.unusedVariables false
set_option linter.unusedSimpArgs false

/-! ### mail_Kinds: function 23 -/
mutual
def mail_Kinds.l0 : Nat → List ByteArray → List Int → Int → Int → Int → Option (List Int)
 | 0, _, _, _, _, _ => none
 | k + 1, x0, x3, x4, x16, x17 => if x17 < x16 then (if 0 ≤ x17 then (if x17 < (x3.length : Int) then ((some (x3.set (x17 : Int).toNat 1 : List Int)).bind fun y191 => (if x17 ≥ x4 then (mail_Kinds.l0 k x0 (y191.set (x17 : Int).toNat 4) x4 x16 (wrap64 (x17 + 1))) else (if x17 < (x0.length : Int) then ((mail_quoted.f (rdOf ByteArray.empty x0 x17)).bind fun t194 => (if t194 = true then (mail_Kinds.l0 k x0 (y191.set (x17 : Int).toNat 3) x4 x16 (wrap64 (x17 + 1))) else (mail_Kinds.l0 k x0 y191 x4 x16 (wrap64 (x17 + 1))))) else (none)))) else (none)) else (none)) else (mail_Kinds.l1 k x0 x3 x4 x4 0)
def mail_Kinds.l1 : Nat → List ByteArray → List Int → Int → Int → Int → Option (List Int)
 | 0, _, _, _, _, _ => none
 | k + 1, x0, x3, x4, x40, x41 => if x41 < x40 then (if 0 ≤ x41 then (if x41 < (x0.length : Int) then ((strings_TrimRight.f (rdOf ByteArray.empty x0 x41) (⟨#[32, 9]⟩ : ByteArray)).bind fun t197 => (if x41 < (x3.length : Int) then (if (rd x3 x41) = 1 then ((strings_HasSuffix.f t197 (⟨#[58]⟩ : ByteArray)).bind fun t199 => (if t199 = true then ((mail_lower.f t197).bind fun t200 => ((strings_Contains.f t200 (⟨#[119, 114, 111, 116, 101]⟩ : ByteArray)).bind fun t201 => (mail_Kinds.j2 k x0 x3 x4 x41 x40 x41 (!t201)))) else (mail_Kinds.j2 k x0 x3 x4 x41 x40 x41 true))) else (mail_Kinds.j2 k x0 x3 x4 x41 x40 x41 true)) else (none))) else (none)) else (none)) else (if (x3.length : Int) = 0 then (some ([] : List Int)) else (some x3))
def mail_Kinds.j2 : Nat → List ByteArray → List Int → Int → Int → Int → Int → Bool → Option (List Int)
 | 0, _, _, _, _, _, _, _ => none
 | k + 1, x0, x3, x4, x6, x40, x41, x64 => if x64 = true then (mail_Kinds.l1 k x0 x3 x4 x40 (wrap64 (x41 + 1))) else (mail_Kinds.l2 k x0 x3 x4 x6 (wrap64 (x6 + 1)) x40 x41)
def mail_Kinds.j4 : Nat → List ByteArray → List Int → Int → Int → Int → Int → Int → Option (List Int)
 | 0, _, _, _, _, _, _, _ => none
 | k + 1, x0, x3, x4, x6, x8, x40, x41 => if x8 < x4 then (if 0 ≤ x8 then (if x8 < (x3.length : Int) then (mail_Kinds.j5 k x0 x3 x4 x6 x8 x40 x41 ((rd x3 x8) == 3)) else (none)) else (none)) else (mail_Kinds.j5 k x0 x3 x4 x6 x8 x40 x41 false)
def mail_Kinds.j5 : Nat → List ByteArray → List Int → Int → Int → Int → Int → Int → Bool → Option (List Int)
 | 0, _, _, _, _, _, _, _, _ => none
 | k + 1, x0, x3, x4, x6, x8, x40, x41, x88 => if x88 = true then (mail_Kinds.l3 k x0 x3 x4 x8 x6 x40 x41) else (mail_Kinds.l1 k x0 x3 x4 x40 (wrap64 (x41 + 1)))
def mail_Kinds.l3 : Nat → List ByteArray → List Int → Int → Int → Int → Int → Int → Option (List Int)
 | 0, _, _, _, _, _, _, _ => none
 | k + 1, x0, x3, x4, x8, x9, x40, x41 => if x9 < x8 then (if 0 ≤ x9 then (if x9 < (x3.length : Int) then (mail_Kinds.l3 k x0 (x3.set (x9 : Int).toNat 2) x4 x8 (wrap64 (x9 + 1)) x40 x41) else (none)) else (none)) else (mail_Kinds.l1 k x0 x3 x4 x40 (wrap64 (x41 + 1)))
def mail_Kinds.l2 : Nat → List ByteArray → List Int → Int → Int → Int → Int → Int → Option (List Int)
 | 0, _, _, _, _, _, _, _ => none
 | k + 1, x0, x3, x4, x6, x8, x40, x41 => if x8 < x4 then (if 0 ≤ x8 then (if x8 < (x0.length : Int) then ((mail_empty.f (rdOf ByteArray.empty x0 x8)).bind fun t203 => (if t203 = true then (mail_Kinds.l2 k x0 x3 x4 x6 (wrap64 (x8 + 1)) x40 x41) else (mail_Kinds.j4 k x0 x3 x4 x6 x8 x40 x41))) else (none)) else (none)) else (mail_Kinds.j4 k x0 x3 x4 x6 x8 x40 x41)
end
def mail_Kinds.f (k : Nat) (l0 : List ByteArray) : Option (List Int) := if 0 ≤ (l0.length : Int) then (if ((l0.length : Int) : Int).toNat ≤ 35184372088832 then ((some (List.replicate ((l0.length : Int) : Int).toNat 0 : List Int)).bind fun y187 => ((mail_signed.f k l0).bind fun t190 => (mail_Kinds.l0 k l0 y187 t190 (y187.length : Int) 0))) else (none)) else (none)
theorem mail_Kinds.mono_l : ∀ k, (∀ y0 y1 y2 y3 y4, LeO (mail_Kinds.l0 k y0 y1 y2 y3 y4) (mail_Kinds.l0 (k + 1) y0 y1 y2 y3 y4)) ∧ (∀ y0 y1 y2 y3 y4, LeO (mail_Kinds.l1 k y0 y1 y2 y3 y4) (mail_Kinds.l1 (k + 1) y0 y1 y2 y3 y4)) ∧ (∀ y0 y1 y2 y3 y4 y5 y6, LeO (mail_Kinds.j2 k y0 y1 y2 y3 y4 y5 y6) (mail_Kinds.j2 (k + 1) y0 y1 y2 y3 y4 y5 y6)) ∧ (∀ y0 y1 y2 y3 y4 y5 y6, LeO (mail_Kinds.j4 k y0 y1 y2 y3 y4 y5 y6) (mail_Kinds.j4 (k + 1) y0 y1 y2 y3 y4 y5 y6)) ∧ (∀ y0 y1 y2 y3 y4 y5 y6 y7, LeO (mail_Kinds.j5 k y0 y1 y2 y3 y4 y5 y6 y7) (mail_Kinds.j5 (k + 1) y0 y1 y2 y3 y4 y5 y6 y7)) ∧ (∀ y0 y1 y2 y3 y4 y5 y6, LeO (mail_Kinds.l3 k y0 y1 y2 y3 y4 y5 y6) (mail_Kinds.l3 (k + 1) y0 y1 y2 y3 y4 y5 y6)) ∧ (∀ y0 y1 y2 y3 y4 y5 y6, LeO (mail_Kinds.l2 k y0 y1 y2 y3 y4 y5 y6) (mail_Kinds.l2 (k + 1) y0 y1 y2 y3 y4 y5 y6))
 | 0 => ⟨fun _ _ _ _ _ r h => by simp [mail_Kinds.l0] at h, fun _ _ _ _ _ r h => by simp [mail_Kinds.l1] at h, fun _ _ _ _ _ _ _ r h => by simp [mail_Kinds.j2] at h, fun _ _ _ _ _ _ _ r h => by simp [mail_Kinds.j4] at h, fun _ _ _ _ _ _ _ _ r h => by simp [mail_Kinds.j5] at h, fun _ _ _ _ _ _ _ r h => by simp [mail_Kinds.l3] at h, fun _ _ _ _ _ _ _ r h => by simp [mail_Kinds.l2] at h⟩
 | k + 1 => by
  obtain ⟨ih0, ih1, ih2, ih3, ih4, ih5, ih6⟩ := mail_Kinds.mono_l k
  refine ⟨?_, ?_, ?_, ?_, ?_, ?_, ?_⟩
  ·intro y0 y1 y2 y3 y4
   unfold mail_Kinds.l0
   repeat' first
   | (with_reducible exact ih0 _ _ _ _ _)
   | (with_reducible exact ih1 _ _ _ _ _)
   | (with_reducible exact ih2 _ _ _ _ _ _ _)
   | (with_reducible exact ih3 _ _ _ _ _ _ _)
   | (with_reducible exact ih4 _ _ _ _ _ _ _ _)
   | (with_reducible exact ih5 _ _ _ _ _ _ _)
   | (with_reducible exact ih6 _ _ _ _ _ _ _)
   | (with_reducible exact mail_signed.mono _ _)
   | (with_reducible exact LeO.refl _)
   | (with_reducible exact LeO.none _)
   | (with_reducible refine LeO.ite ?_ ?_)
   | (with_reducible refine LeO.bind ?_ (fun _ => ?_))
  ·intro y0 y1 y2 y3 y4
   unfold mail_Kinds.l1
   repeat' first
   | (with_reducible exact ih0 _ _ _ _ _)
   | (with_reducible exact ih1 _ _ _ _ _)
   | (with_reducible exact ih2 _ _ _ _ _ _ _)
   | (with_reducible exact ih3 _ _ _ _ _ _ _)
   | (with_reducible exact ih4 _ _ _ _ _ _ _ _)
   | (with_reducible exact ih5 _ _ _ _ _ _ _)
   | (with_reducible exact ih6 _ _ _ _ _ _ _)
   | (with_reducible exact mail_signed.mono _ _)
   | (with_reducible exact LeO.refl _)
   | (with_reducible exact LeO.none _)
   | (with_reducible refine LeO.ite ?_ ?_)
   | (with_reducible refine LeO.bind ?_ (fun _ => ?_))
  ·intro y0 y1 y2 y3 y4 y5 y6
   unfold mail_Kinds.j2
   repeat' first
   | (with_reducible exact ih0 _ _ _ _ _)
   | (with_reducible exact ih1 _ _ _ _ _)
   | (with_reducible exact ih2 _ _ _ _ _ _ _)
   | (with_reducible exact ih3 _ _ _ _ _ _ _)
   | (with_reducible exact ih4 _ _ _ _ _ _ _ _)
   | (with_reducible exact ih5 _ _ _ _ _ _ _)
   | (with_reducible exact ih6 _ _ _ _ _ _ _)
   | (with_reducible exact mail_signed.mono _ _)
   | (with_reducible exact LeO.refl _)
   | (with_reducible exact LeO.none _)
   | (with_reducible refine LeO.ite ?_ ?_)
   | (with_reducible refine LeO.bind ?_ (fun _ => ?_))
  ·intro y0 y1 y2 y3 y4 y5 y6
   unfold mail_Kinds.j4
   repeat' first
   | (with_reducible exact ih0 _ _ _ _ _)
   | (with_reducible exact ih1 _ _ _ _ _)
   | (with_reducible exact ih2 _ _ _ _ _ _ _)
   | (with_reducible exact ih3 _ _ _ _ _ _ _)
   | (with_reducible exact ih4 _ _ _ _ _ _ _ _)
   | (with_reducible exact ih5 _ _ _ _ _ _ _)
   | (with_reducible exact ih6 _ _ _ _ _ _ _)
   | (with_reducible exact mail_signed.mono _ _)
   | (with_reducible exact LeO.refl _)
   | (with_reducible exact LeO.none _)
   | (with_reducible refine LeO.ite ?_ ?_)
   | (with_reducible refine LeO.bind ?_ (fun _ => ?_))
  ·intro y0 y1 y2 y3 y4 y5 y6 y7
   unfold mail_Kinds.j5
   repeat' first
   | (with_reducible exact ih0 _ _ _ _ _)
   | (with_reducible exact ih1 _ _ _ _ _)
   | (with_reducible exact ih2 _ _ _ _ _ _ _)
   | (with_reducible exact ih3 _ _ _ _ _ _ _)
   | (with_reducible exact ih4 _ _ _ _ _ _ _ _)
   | (with_reducible exact ih5 _ _ _ _ _ _ _)
   | (with_reducible exact ih6 _ _ _ _ _ _ _)
   | (with_reducible exact mail_signed.mono _ _)
   | (with_reducible exact LeO.refl _)
   | (with_reducible exact LeO.none _)
   | (with_reducible refine LeO.ite ?_ ?_)
   | (with_reducible refine LeO.bind ?_ (fun _ => ?_))
  ·intro y0 y1 y2 y3 y4 y5 y6
   unfold mail_Kinds.l3
   repeat' first
   | (with_reducible exact ih0 _ _ _ _ _)
   | (with_reducible exact ih1 _ _ _ _ _)
   | (with_reducible exact ih2 _ _ _ _ _ _ _)
   | (with_reducible exact ih3 _ _ _ _ _ _ _)
   | (with_reducible exact ih4 _ _ _ _ _ _ _ _)
   | (with_reducible exact ih5 _ _ _ _ _ _ _)
   | (with_reducible exact ih6 _ _ _ _ _ _ _)
   | (with_reducible exact mail_signed.mono _ _)
   | (with_reducible exact LeO.refl _)
   | (with_reducible exact LeO.none _)
   | (with_reducible refine LeO.ite ?_ ?_)
   | (with_reducible refine LeO.bind ?_ (fun _ => ?_))
  ·intro y0 y1 y2 y3 y4 y5 y6
   unfold mail_Kinds.l2
   repeat' first
   | (with_reducible exact ih0 _ _ _ _ _)
   | (with_reducible exact ih1 _ _ _ _ _)
   | (with_reducible exact ih2 _ _ _ _ _ _ _)
   | (with_reducible exact ih3 _ _ _ _ _ _ _)
   | (with_reducible exact ih4 _ _ _ _ _ _ _ _)
   | (with_reducible exact ih5 _ _ _ _ _ _ _)
   | (with_reducible exact ih6 _ _ _ _ _ _ _)
   | (with_reducible exact mail_signed.mono _ _)
   | (with_reducible exact LeO.refl _)
   | (with_reducible exact LeO.none _)
   | (with_reducible refine LeO.ite ?_ ?_)
   | (with_reducible refine LeO.bind ?_ (fun _ => ?_))
theorem mail_Kinds.mono : ∀ a0 k, LeO (mail_Kinds.f k a0) (mail_Kinds.f (k + 1) a0) := by
 intro a0 k
 obtain ⟨ih0, ih1, ih2, ih3, ih4, ih5, ih6⟩ := mail_Kinds.mono_l k
 unfold mail_Kinds.f
 repeat' first
   | (with_reducible exact ih0 _ _ _ _ _)
   | (with_reducible exact ih1 _ _ _ _ _)
   | (with_reducible exact ih2 _ _ _ _ _ _ _)
   | (with_reducible exact ih3 _ _ _ _ _ _ _)
   | (with_reducible exact ih4 _ _ _ _ _ _ _ _)
   | (with_reducible exact ih5 _ _ _ _ _ _ _)
   | (with_reducible exact ih6 _ _ _ _ _ _ _)
   | (with_reducible exact mail_signed.mono _ _)
   | (with_reducible exact LeO.refl _)
   | (with_reducible exact LeO.none _)
   | (with_reducible refine LeO.ite ?_ ?_)
   | (with_reducible refine LeO.bind ?_ (fun _ => ?_))
set_option maxHeartbeats 8000000 in
set_option maxRecDepth 100000 in
theorem mail_Kinds.calls (k : Nat) (A0 : Option Addr) (c0 : Nat) (l0 : List ByteArray) (r : List Int) (w : World) (hr0 : Kd.C Kd.string w A0 l0.length l0) (hc0 : l0.length ≤ c0) (hTm : Tm w) (h : mail_Kinds.f k l0 = some r) :
  Calls Tryd.prog 23 #[.slice A0 l0.length c0] w fun e w' => ∃ v0_ : Value, e = .returned (v0_) ∧ Kd.R (Kd.int .i64) 3 w' w.heap.size (fun _ => True) v0_ r ∧ Below w.heap.size w w' := by
 have HTm := Aside0.mk hTm
 clear hTm
 have HR0 := Aside0.mk hr0
 have HC0 := Aside0.mk hc0
 clear hr0 hc0
 have HB := Aside0.mk (Below.refl w.heap.size w)
 have H : (if 0 ≤ (l0.length : Int) then (if ((l0.length : Int) : Int).toNat ≤ 35184372088832 then ((some (List.replicate ((l0.length : Int) : Int).toNat 0 : List Int)).bind fun y187 => ((mail_signed.f k l0).bind fun t190 => (mail_Kinds.l0 k l0 y187 t190 (y187.length : Int) 0))) else (none)) else (none)) = some r := h
 clear h
 by_cases c2 : 0 ≤ (l0.length : Int)
 ·rw [if_pos c2] at H
  have c2b0 := eq_true c2
  have c2b1 : decide (0 ≤ (l0.length : Int)) = true := decide_eq_true c2
  clear c2
  by_cases c3 : ((l0.length : Int) : Int).toNat ≤ 35184372088832
  ·rw [if_pos c3] at H
   have c3b0 := eq_true c3
   have c3b1 : decide (((l0.length : Int) : Int).toNat ≤ 35184372088832) = true := decide_eq_true c3
   clear c3
   obtain ⟨y187, hy187⟩ : ∃ y_ : List Int, y_ = (List.replicate ((l0.length : Int) : Int).toNat 0) := ⟨_, rfl⟩
   replace H : ((mail_signed.f k l0).bind fun t190 => (mail_Kinds.l0 k l0 y187 t190 (y187.length : Int) 0)) = some r := by first | (rw [hy187]; with_reducible exact H) | (have H2_ := (Option.bind_some _ _).symm.trans H; rw [hy187]; with_reducible exact H2_) | (have H2_ := (Option.bind_some _ _).symm.trans H; with_reducible exact H2_) | with_reducible exact H | (rw [hy187]; exact H) | exact H
   have Ny187 := Aside0.mk hy187
   clear hy187
   replace H := Option.bind_eq_some_iff.mp H
   obtain ⟨t190, A40, H⟩ := H
   replace H : (mail_Kinds.l0 k l0 y187 t190 (y187.length : Int) 0) = some r := H
   have A4 := Aside0.mk A40
   clear A40
   have H' := Aside0.mk H
   clear H
   go_enter Tryd.func23, Tryd.ntmps23
   go_wp2_with (first | ((with_reducible refine gate_dst (N := 12) rfl ?_); refine Kd.R_make (Kd.int .i64) _ 3 rfl (N := 12) rfl 35 _ _ rfl (l0.length : Int) rfl rfl Tryd.underlying35 (.int .i64 0) 8 info3 rfl (by decide) (by omega) 0 (ok := fun _ => True) (okp := fun _ => True) rfl (fun _ hk => hk) trivial (of_decide_eq_true (by first | (with_reducible assumption) | assumption)) (Nat.le_trans (Nat.mul_le_mul_right _ (of_decide_eq_true (by first | (with_reducible assumption) | assumption) : (l0.length : Int).toNat ≤ 35184372088832)) (by omega)) (Below.refl _ _) (Nat.le_refl _) ?_; intro v188 w5 ho6 hb hg_ hnew_; clear hg_ hnew_; (first | rw [← Ny187.out] at ho6 | (simp only [Int.reduceToNat] at ho6; rw [← Ny187.out] at ho6)); have n0_ := Aside0.mk (Kd.R_lower ho6 (below_size (by repeat (first | (with_reducible first | exact HB.out | apply below_alloc | apply pw_below_drewN | apply below_drew1) | exact HB.out)))); have n1_ := Aside0.mk (below_step (by repeat (first | (with_reducible first | exact HB.out | apply below_alloc | apply pw_below_drewN | apply below_drew1) | exact HB.out)) hb); clear HB; have HO189 := n0_; have HB := n1_; clear n0_ n1_; clear hb ho6) | ((with_reducible refine gate_callee (f := 66) rfl ?_); refine goesL_ (some 14) rfl rfl Tryd.func66 (by kernel_rfl) rfl #[.slice A0 l0.length c0] rfl (by (try simp only [List.map_toArray, List.map_cons, List.map_nil]); first | done | rfl | (simp only [List.length_drop, List.length_take]; rfl)) ?_; (with_reducible refine (mail_signed.calls k _ _ l0 t190 _ ?side1 ?side2 A4.out).mono ?_); (case side1 => repeat (first | exact (Kd.C_below HR0.out HB.out) | (with_reducible refine Kd.C_alloc ?_ _) | (with_reducible refine Kd.C_drewN ?_ _) | (with_reducible refine Kd.C_drew ?_))); (case side2 => exact HC0.out); rintro e w' ⟨rfl, ⟨nd, rfl⟩⟩; refine ⟨_, rfl, ?_⟩; obtain ⟨Ao7, co7, eo7⟩ := Kd.R_slice HO189.out; subst eo7))
   go_loopg [17] k (fun kq v17 w' => ∃ (x3_1 : List Int) (x17_1 : Int), v17 = .int .i64 x17_1 ∧ Aside0 (mail_Kinds.l0 kq l0 x3_1 t190 (y187.length : Int) x17_1 = some r) ∧ Aside0 (kq ≤ k) ∧ Aside0 (Kd.R (Kd.int .i64) 3 w' w.heap.size (fun _ => True) (.slice Ao7 y187.length co7) x3_1) ∧ Aside0 (Below w.heap.size w w'))
   case atStart => exact ⟨(y187), (0), (by first | rfl | (simp; done) | (simp [*]; done)), H', ⟨Nat.le_refl _⟩, ⟨by (with_reducible repeat (first | apply Kd.R_alloc | apply Kd.R_drewN | apply Kd.R_drew)); exact HO189.out⟩, ⟨by repeat (first | (with_reducible first | exact HB.out | apply below_alloc | apply pw_below_drewN | apply below_drew1) | exact HB.out)⟩⟩
   case round =>
    clear H'
    (try clear c2); (try clear c2b0); (try clear c2b1); (try clear p2); (try clear c3); (try clear c3b0); (try clear c3b1); (try clear c6)
    obtain ⟨x3_1, x17_1, rfl, HA, HK1, HO_3, HB⟩ := hrel
    have hl3_1 := (Kd.R_reads' HO_3.out).1
    rw [hl3_1] at HO_3
    (try simp only [hl3_1])
    cases gk with
    | zero => exact absurd HA.out (by simp [mail_Kinds.l0])
    | succ k1 =>
     have H := HA.out
     clear HA
     simp only [mail_Kinds.l0] at H
     by_cases c8 : x17_1 < (y187.length : Int)
     ·rw [if_pos c8] at H
      have c8b0 : decide (x17_1 < (y187.length : Int)) = true := decide_eq_true c8
      try (have c8e0_hl3_1 := c8b0; simp only [hl3_1] at c8e0_hl3_1)
      clear c8
      by_cases c9 : 0 ≤ x17_1
      ·rw [if_pos c9] at H
       have c9b0 : decide (0 ≤ x17_1) = true := decide_eq_true c9
       clear c9
       by_cases c10 : x17_1 < (x3_1.length : Int)
       ·rw [if_pos c10] at H
        have c10b0 : decide (x17_1 < (x3_1.length : Int)) = true := decide_eq_true c10
        try (have c10e0_hl3_1 := c10b0; simp only [hl3_1] at c10e0_hl3_1)
        clear c10
        obtain ⟨y191, hy191⟩ : ∃ y_ : List Int, y_ = (x3_1.set (x17_1 : Int).toNat 1) := ⟨_, rfl⟩
        replace H : (if x17_1 ≥ t190 then (mail_Kinds.l0 k1 l0 (y191.set (x17_1 : Int).toNat 4) t190 (y187.length : Int) (wrap64 (x17_1 + 1))) else (if x17_1 < (l0.length : Int) then ((mail_quoted.f (rdOf ByteArray.empty l0 x17_1)).bind fun t194 => (if t194 = true then (mail_Kinds.l0 k1 l0 (y191.set (x17_1 : Int).toNat 3) t190 (y187.length : Int) (wrap64 (x17_1 + 1))) else (mail_Kinds.l0 k1 l0 y191 t190 (y187.length : Int) (wrap64 (x17_1 + 1))))) else (none))) = some r := by first | (rw [hy191]; with_reducible exact H) | (have H2_ := (Option.bind_some _ _).symm.trans H; rw [hy191]; with_reducible exact H2_) | (have H2_ := (Option.bind_some _ _).symm.trans H; with_reducible exact H2_) | with_reducible exact H | (rw [hy191]; exact H) | exact H
        have Ny191 := Aside0.mk hy191
        clear hy191
        by_cases c12 : x17_1 ≥ t190
        ·rw [if_pos c12] at H
         have c12b0 : decide (t190 ≤ x17_1) = true := decide_eq_true c12
         clear c12
         obtain ⟨y192, hy192⟩ : ∃ y_ : List Int, y_ = (y191.set (x17_1 : Int).toNat 4) := ⟨_, rfl⟩
         replace H : (mail_Kinds.l0 k1 l0 y192 t190 (y187.length : Int) (wrap64 (x17_1 + 1))) = some r := by first | (rw [hy192]; with_reducible exact H) | (have H2_ := (Option.bind_some _ _).symm.trans H; rw [hy192]; with_reducible exact H2_) | (have H2_ := (Option.bind_some _ _).symm.trans H; with_reducible exact H2_) | with_reducible exact H | (rw [hy192]; exact H) | exact H
         have Ny192 := Aside0.mk hy192
         clear hy192
         have H' := Aside0.mk H
         clear H
         have p11 : 0 ≤ (x17_1 : Int) := of_decide_eq_true (by first | (with_reducible assumption) | assumption)
         have q11 : (x17_1 : Int) < ((x3_1.length : Int) : Int) := of_decide_eq_true (by first | (with_reducible assumption) | assumption)
         obtain ⟨go11, co11, eo11, gb11, gl11, cl11, HG11⟩ := Kd.R_form HO_3.out (by omega)
         (first | cases eo11 | (injection eo11 with ea_ en_ ec_; (first | subst ea_ | (injection ea_ with ea_; subst ea_)); subst ec_; clear en_))
         have GB11 := Aside0.mk gb11
         have GG11 := Aside0.mk HG11
         clear gb11 gl11 HG11
         obtain ⟨hx11_0, hf11_0⟩ := Kd.R_celln 0 HO_3.out (x17_1 : Int) p11 q11
         replace p11 := eq_true p11
         replace q11 := eq_true q11
         have HP14 := Kd.R_putg HO_3.out (x17_1 : Int) 1
         go_wp2_with (first | ((with_reducible refine gate_store (t := 3) (p := 22) rfl ?_); refine store_event (t := 3) (p := 22) (v := ?vo_w15) (w1 := (wr.setCell ⟨go11, (x17_1 : Int).toNat, none⟩ (.int .i64 1))) ?hg ?ho ?hn ?hr ?_; (case ho => rfl); (case hg => rfl); (case hn => rfl); (case hr => first | (go_simp; done) | (go_simp; rfl)); intro w15 hw; have hg : wr.grownBy w15 (some go11) := (by rw [hw]; exact HP14.2); have hp_ : Kd.R (Kd.int .i64) 3 w15 w.heap.size (fun _ => True) (.slice (some ⟨go11, 0, none⟩) x3_1.length co7) y191 := (by rw [hw, Ny191.out]; exact HP14.1); clear HP14; have n0_ := Aside0.mk (hp_); have n1_ := Aside0.mk ((by rw [hw]; exact below_set (HB.out) GB11.out : Below w.heap.size w w15)); clear HO_3; clear HB; have HO_3 := n0_; have HB := n1_; clear n0_ n1_; clear hg hw hp_; have p13 : 0 ≤ (x17_1 : Int) := of_decide_eq_true (by first | (with_reducible assumption) | assumption); have q13 : (x17_1 : Int) < ((x3_1.length : Int) : Int) := of_decide_eq_true (by first | (with_reducible assumption) | assumption); obtain ⟨hx13_0, hf13_0⟩ := Kd.R_celln 0 HO_3.out (x17_1 : Int) p13 q13; replace p13 := eq_true p13; replace q13 := eq_true q13; obtain ⟨hy16_, hz16_⟩ := Kd.R_celln 0 HO_3.out (x17_1 : Int) (of_decide_eq_true (by first | (with_reducible assumption) | assumption)) (of_decide_eq_true (by first | (with_reducible assumption) | assumption)); have HP16 := Kd.R_putg HO_3.out (x17_1 : Int) 4) | ((with_reducible refine gate_store (t := 3) (p := 29) rfl ?_); refine store_event (t := 3) (p := 29) (v := ?vo_w17) (w1 := (w15.setCell ⟨go11, (x17_1 : Int).toNat, none⟩ (.int .i64 4))) ?hg ?ho ?hn ?hr ?_; (case ho => rfl); (case hg => rfl); (case hn => rfl); (case hr => first | (go_simp; done) | (go_simp; rfl)); intro w17 hw; have hg : w15.grownBy w17 (some go11) := (by rw [hw]; exact HP16.2); have hp_ : Kd.R (Kd.int .i64) 3 w17 w.heap.size (fun _ => True) (.slice (some ⟨go11, 0, none⟩) x3_1.length co7) y192 := (by rw [hw, Ny192.out]; exact HP16.1); clear HP16; have n0_ := Aside0.mk (hp_); have n1_ := Aside0.mk ((by rw [hw]; exact below_set (HB.out) GB11.out : Below w.heap.size w w17)); clear HO_3; clear HB; have HO_3 := n0_; have HB := n1_; clear n0_ n1_; clear hg hw hp_))
         (try simp only [← hl3_1])
         go_roundg k1
         case measure => have := HK1.out; omega
         case rel => exact ⟨(y192), (wrap64 (x17_1 + 1)), (by first | rfl | (simp; done) | (simp [*]; done)), H', ⟨by have := HK1.out; omega⟩, ⟨by (try simp only [hl3_1]); (with_reducible repeat (first | apply Kd.R_alloc | apply Kd.R_drewN | apply Kd.R_drew)); exact HO_3.out⟩, ⟨by repeat (first | (with_reducible first | exact HB.out | apply below_alloc | apply pw_below_drewN | apply below_drew1) | exact HB.out)⟩⟩
        ·rw [if_neg c12] at H
         have c12b0 : decide (t190 ≤ x17_1) = false := decide_eq_false c12
         clear c12
         by_cases c18 : x17_1 < (l0.length : Int)
         ·rw [if_pos c18] at H
          have c18b0 : decide (x17_1 < (l0.length : Int)) = true := decide_eq_true c18
          try (have c18e0_hl3_1 := c18b0; simp only [hl3_1] at c18e0_hl3_1)
          clear c18
          replace H := Option.bind_eq_some_iff.mp H
          obtain ⟨t194, A190, H⟩ := H
          replace H : (if t194 = true then (mail_Kinds.l0 k1 l0 (y191.set (x17_1 : Int).toNat 3) t190 (y187.length : Int) (wrap64 (x17_1 + 1))) else (mail_Kinds.l0 k1 l0 y191 t190 (y187.length : Int) (wrap64 (x17_1 + 1)))) = some r := H
          have A19 := Aside0.mk A190
          clear A190
          by_cases c20 : t194 = true
          ·subst c20
           have H1 : (mail_Kinds.l0 k1 l0 (y191.set (x17_1 : Int).toNat 3) t190 (y187.length : Int) (wrap64 (x17_1 + 1))) = some r := by rw [if_pos rfl] at H; exact H
           clear H
           have H := H1
           clear H1
           obtain ⟨y195, hy195⟩ : ∃ y_ : List Int, y_ = (y191.set (x17_1 : Int).toNat 3) := ⟨_, rfl⟩
           replace H : (mail_Kinds.l0 k1 l0 y195 t190 (y187.length : Int) (wrap64 (x17_1 + 1))) = some r := by first | (rw [hy195]; with_reducible exact H) | (have H2_ := (Option.bind_some _ _).symm.trans H; rw [hy195]; with_reducible exact H2_) | (have H2_ := (Option.bind_some _ _).symm.trans H; with_reducible exact H2_) | with_reducible exact H | (rw [hy195]; exact H) | exact H
           have Ny195 := Aside0.mk hy195
           clear hy195
           have H' := Aside0.mk H
           clear H
           have p11 : 0 ≤ (x17_1 : Int) := of_decide_eq_true (by first | (with_reducible assumption) | assumption)
           have q11 : (x17_1 : Int) < ((x3_1.length : Int) : Int) := of_decide_eq_true (by first | (with_reducible assumption) | assumption)
           obtain ⟨go11, co11, eo11, gb11, gl11, cl11, HG11⟩ := Kd.R_form HO_3.out (by omega)
           (first | cases eo11 | (injection eo11 with ea_ en_ ec_; (first | subst ea_ | (injection ea_ with ea_; subst ea_)); subst ec_; clear en_))
           have GB11 := Aside0.mk gb11
           have GG11 := Aside0.mk HG11
           clear gb11 gl11 HG11
           obtain ⟨hx11_0, hf11_0⟩ := Kd.R_celln 0 HO_3.out (x17_1 : Int) p11 q11
           replace p11 := eq_true p11
           replace q11 := eq_true q11
           have HP22 := Kd.R_putg HO_3.out (x17_1 : Int) 1
           go_wp2_with (first | ((with_reducible refine gate_store (t := 3) (p := 22) rfl ?_); refine store_event (t := 3) (p := 22) (v := ?vo_w23) (w1 := (wr.setCell ⟨go11, (x17_1 : Int).toNat, none⟩ (.int .i64 1))) ?hg ?ho ?hn ?hr ?_; (case ho => rfl); (case hg => rfl); (case hn => rfl); (case hr => first | (go_simp; done) | (go_simp; rfl)); intro w23 hw; have hg : wr.grownBy w23 (some go11) := (by rw [hw]; exact HP22.2); have hp_ : Kd.R (Kd.int .i64) 3 w23 w.heap.size (fun _ => True) (.slice (some ⟨go11, 0, none⟩) x3_1.length co7) y191 := (by rw [hw, Ny191.out]; exact HP22.1); clear HP22; have n0_ := Aside0.mk (hp_); have n1_ := Aside0.mk ((by rw [hw]; exact below_set (HB.out) GB11.out : Below w.heap.size w w23)); clear HO_3; clear HB; have HO_3 := n0_; have HB := n1_; clear n0_ n1_; clear hg hw hp_; have p193 : 0 ≤ (x17_1 : Int) := of_decide_eq_true (by first | (with_reducible assumption) | assumption); have q193 : x17_1 < (l0.length : Int) := of_decide_eq_true (by first | (with_reducible assumption) | assumption); obtain ⟨ad193, e193, hx193_0⟩ := Kd.at_string HR0.out x17_1 p193 q193; cases e193; replace hx193_0 := (HB.out.cell (World.block_lt_of_cell? w _ hx193_0)).trans hx193_0; replace p193 := eq_true p193; replace q193 := eq_true q193) | ((with_reducible refine gate_callee (f := 64) rfl ?_); refine goesL_ (some 35) rfl rfl Tryd.func64 (by kernel_rfl) rfl #[.string (rdOf ByteArray.empty l0 x17_1)] rfl (by (try simp only [List.map_toArray, List.map_cons, List.map_nil]); first | done | rfl | (simp only [List.length_drop, List.length_take]; rfl)) ?_; (with_reducible refine (mail_quoted.calls (rdOf ByteArray.empty l0 x17_1) true _ A19.out).mono ?_); rintro e w' ⟨rfl, ⟨nd, rfl⟩⟩; refine ⟨_, rfl, ?_⟩; (try (rw [drewN_self w23]; generalize hq_ : World.drewN w23 _ = w23; have n0_ : Aside0 (Kd.R (Kd.int .i64) 3 w23 w.heap.size (fun _ => True) (.slice (some ⟨go11, 0, none⟩) x3_1.length co7) y191) := ⟨by rw [← hq_]; exact (by (with_reducible repeat (first | apply Kd.R_alloc | apply Kd.R_drewN | apply Kd.R_drew)); exact HO_3.out)⟩; have n1_ : Aside0 (Below w.heap.size w w23) := ⟨by rw [← hq_]; exact (by repeat (first | (with_reducible first | exact HB.out | apply below_alloc | apply pw_below_drewN | apply below_drew1) | exact HB.out))⟩; clear HO_3 HB hq_; have HO_3 := n0_; have HB := n1_; clear n0_ n1_)); have p21 : 0 ≤ (x17_1 : Int) := of_decide_eq_true (by first | (with_reducible assumption) | assumption); have q21 : (x17_1 : Int) < ((x3_1.length : Int) : Int) := of_decide_eq_true (by first | (with_reducible assumption) | assumption); obtain ⟨hx21_0, hf21_0⟩ := Kd.R_celln 0 HO_3.out (x17_1 : Int) p21 q21; replace p21 := eq_true p21; replace q21 := eq_true q21; obtain ⟨hy24_, hz24_⟩ := Kd.R_celln 0 HO_3.out (x17_1 : Int) (of_decide_eq_true (by first | (with_reducible assumption) | assumption)) (of_decide_eq_true (by first | (with_reducible assumption) | assumption)); have HP24 := Kd.R_putg HO_3.out (x17_1 : Int) 3) | ((with_reducible refine gate_store (t := 3) (p := 38) rfl ?_); refine store_event (t := 3) (p := 38) (v := ?vo_w25) (w1 := (w23.setCell ⟨go11, (x17_1 : Int).toNat, none⟩ (.int .i64 3))) ?hg ?ho ?hn ?hr ?_; (case ho => rfl); (case hg => rfl); (case hn => rfl); (case hr => first | (go_simp; done) | (go_simp; rfl)); intro w25 hw; have hg : w23.grownBy w25 (some go11) := (by rw [hw]; exact HP24.2); have hp_ : Kd.R (Kd.int .i64) 3 w25 w.heap.size (fun _ => True) (.slice (some ⟨go11, 0, none⟩) x3_1.length co7) y195 := (by rw [hw, Ny195.out]; exact HP24.1); clear HP24; have n0_ := Aside0.mk (hp_); have n1_ := Aside0.mk ((by rw [hw]; exact below_set (HB.out) GB11.out : Below w.heap.size w w25)); clear HO_3; clear HB; have HO_3 := n0_; have HB := n1_; clear n0_ n1_; clear hg hw hp_))
           (try simp only [← hl3_1])
           go_roundg k1
           case measure => have := HK1.out; omega
           case rel => exact ⟨(y195), (wrap64 (x17_1 + 1)), (by first | rfl | (simp; done) | (simp [*]; done)), H', ⟨by have := HK1.out; omega⟩, ⟨by (try simp only [hl3_1]); (with_reducible repeat (first | apply Kd.R_alloc | apply Kd.R_drewN | apply Kd.R_drew)); exact HO_3.out⟩, ⟨by repeat (first | (with_reducible first | exact HB.out | apply below_alloc | apply pw_below_drewN | apply below_drew1) | exact HB.out)⟩⟩
          ·replace c20 := Bool.eq_false_iff.mpr c20
           subst c20
           have H1 : (mail_Kinds.l0 k1 l0 y191 t190 (y187.length : Int) (wrap64 (x17_1 + 1))) = some r := by rw [if_neg (show ¬ (false = true) by decide)] at H; exact H
           clear H
           have H := H1
           clear H1
           have H' := Aside0.mk H
           clear H
           have p11 : 0 ≤ (x17_1 : Int) := of_decide_eq_true (by first | (with_reducible assumption) | assumption)
           have q11 : (x17_1 : Int) < ((x3_1.length : Int) : Int) := of_decide_eq_true (by first | (with_reducible assumption) | assumption)
           obtain ⟨go11, co11, eo11, gb11, gl11, cl11, HG11⟩ := Kd.R_form HO_3.out (by omega)
           (first | cases eo11 | (injection eo11 with ea_ en_ ec_; (first | subst ea_ | (injection ea_ with ea_; subst ea_)); subst ec_; clear en_))
           have GB11 := Aside0.mk gb11
           have GG11 := Aside0.mk HG11
           clear gb11 gl11 HG11
           obtain ⟨hx11_0, hf11_0⟩ := Kd.R_celln 0 HO_3.out (x17_1 : Int) p11 q11
           replace p11 := eq_true p11
           replace q11 := eq_true q11
           have HP26 := Kd.R_putg HO_3.out (x17_1 : Int) 1
           go_wp2_with (first | ((with_reducible refine gate_store (t := 3) (p := 22) rfl ?_); refine store_event (t := 3) (p := 22) (v := ?vo_w27) (w1 := (wr.setCell ⟨go11, (x17_1 : Int).toNat, none⟩ (.int .i64 1))) ?hg ?ho ?hn ?hr ?_; (case ho => rfl); (case hg => rfl); (case hn => rfl); (case hr => first | (go_simp; done) | (go_simp; rfl)); intro w27 hw; have hg : wr.grownBy w27 (some go11) := (by rw [hw]; exact HP26.2); have hp_ : Kd.R (Kd.int .i64) 3 w27 w.heap.size (fun _ => True) (.slice (some ⟨go11, 0, none⟩) x3_1.length co7) y191 := (by rw [hw, Ny191.out]; exact HP26.1); clear HP26; have n0_ := Aside0.mk (hp_); have n1_ := Aside0.mk ((by rw [hw]; exact below_set (HB.out) GB11.out : Below w.heap.size w w27)); clear HO_3; clear HB; have HO_3 := n0_; have HB := n1_; clear n0_ n1_; clear hg hw hp_; have p193 : 0 ≤ (x17_1 : Int) := of_decide_eq_true (by first | (with_reducible assumption) | assumption); have q193 : x17_1 < (l0.length : Int) := of_decide_eq_true (by first | (with_reducible assumption) | assumption); obtain ⟨ad193, e193, hx193_0⟩ := Kd.at_string HR0.out x17_1 p193 q193; cases e193; replace hx193_0 := (HB.out.cell (World.block_lt_of_cell? w _ hx193_0)).trans hx193_0; replace p193 := eq_true p193; replace q193 := eq_true q193) | ((with_reducible refine gate_callee (f := 64) rfl ?_); refine goesL_ (some 35) rfl rfl Tryd.func64 (by kernel_rfl) rfl #[.string (rdOf ByteArray.empty l0 x17_1)] rfl (by (try simp only [List.map_toArray, List.map_cons, List.map_nil]); first | done | rfl | (simp only [List.length_drop, List.length_take]; rfl)) ?_; (with_reducible refine (mail_quoted.calls (rdOf ByteArray.empty l0 x17_1) false _ A19.out).mono ?_); rintro e w' ⟨rfl, ⟨nd, rfl⟩⟩; refine ⟨_, rfl, ?_⟩))
           (try simp only [← hl3_1])
           go_roundg k1
           case measure => have := HK1.out; omega
           case rel => exact ⟨(y191), (wrap64 (x17_1 + 1)), (by first | rfl | (simp; done) | (simp [*]; done)), H', ⟨by have := HK1.out; omega⟩, ⟨by (try simp only [hl3_1]); (with_reducible repeat (first | apply Kd.R_alloc | apply Kd.R_drewN | apply Kd.R_drew)); exact HO_3.out⟩, ⟨by repeat (first | (with_reducible first | exact HB.out | apply below_alloc | apply pw_below_drewN | apply below_drew1) | exact HB.out)⟩⟩
         ·rw [if_neg c18] at H
          exact absurd H (by simp)
       ·rw [if_neg c10] at H
        exact absurd H (by simp)
      ·rw [if_neg c9] at H
       exact absurd H (by simp)
     ·rw [if_neg c8] at H
      have c8b0 : decide (x17_1 < (y187.length : Int)) = false := decide_eq_false c8
      try (have c8e0_hl3_1 := c8b0; simp only [hl3_1] at c8e0_hl3_1)
      clear c8
      have H' := Aside0.mk H
      clear H
      go_wp2
      go_loopg [41] k1 (fun kq v41 w' => ∃ (x3_2 : List Int) (x41_2 : Int), v41 = .int .i64 x41_2 ∧ Aside0 (mail_Kinds.l1 kq l0 x3_2 t190 t190 x41_2 = some r) ∧ Aside0 (kq ≤ k1) ∧ Aside0 (Kd.R (Kd.int .i64) 3 w' w.heap.size (fun _ => True) (.slice Ao7 x3_1.length co7) x3_2) ∧ Aside0 (Below w.heap.size w w'))
      case atStart => exact ⟨(x3_1), (0), (by first | rfl | (simp; done) | (simp [*]; done)), H', ⟨Nat.le_refl _⟩, ⟨by (try simp only [hl3_1]); (with_reducible repeat (first | apply Kd.R_alloc | apply Kd.R_drewN | apply Kd.R_drew)); exact HO_3.out⟩, ⟨by repeat (first | (with_reducible first | exact HB.out | apply below_alloc | apply pw_below_drewN | apply below_drew1) | exact HB.out)⟩⟩
      case round =>
       clear H'
       (try clear c1); (try clear p1); (try clear q1); (try clear hx1); (try clear hf1); (try clear c2); (try clear c2b0); (try clear c2b1); (try clear p2); (try clear q2); (try clear hx2); (try clear hf2); (try clear c3); (try clear c3b0); (try clear c3b1); (try clear c6); (try clear p6); (try clear c8); (try clear c8b0); (try clear c9); (try clear c9b0); (try clear c10); (try clear c10b0); (try clear p11); (try clear q11); (try clear hx11); (try clear hf11); (try clear c12); (try clear c12b0); (try clear p13); (try clear q13); (try clear hx13); (try clear hf13); (try clear c18); (try clear c18b0); (try clear p19); (try clear q19); (try clear hx19); (try clear c20); (try clear p21); (try clear q21); (try clear hx21); (try clear hf21); (try clear c23); (try clear hx11_0); (try clear hx13_0); (try clear hx193_0); (try clear hx21_0); (try clear p11); (try clear p13); (try clear p193); (try clear p2); (try clear p21); (try clear q11); (try clear q13); (try clear q193); (try clear q21)
       obtain ⟨x3_2, x41_2, rfl, HA, HK2, HO_3, HB⟩ := hrel
       have hl3_2 := (Kd.R_reads' HO_3.out).1
       rw [hl3_2] at HO_3
       (try simp only [hl3_2])
       cases gk with
       | zero => exact absurd HA.out (by simp [mail_Kinds.l1])
       | succ k2 =>
        have H := HA.out
        clear HA
        simp only [mail_Kinds.l1] at H
        by_cases c28 : x41_2 < t190
        ·rw [if_pos c28] at H
         have c28b0 : decide (x41_2 < t190) = true := decide_eq_true c28
         clear c28
         by_cases c29 : 0 ≤ x41_2
         ·rw [if_pos c29] at H
          have c29b0 : decide (0 ≤ x41_2) = true := decide_eq_true c29
          clear c29
          by_cases c30 : x41_2 < (l0.length : Int)
          ·rw [if_pos c30] at H
           have c30b0 : decide (x41_2 < (l0.length : Int)) = true := decide_eq_true c30
           try (have c30e0_hl3_1 := c30b0; simp only [hl3_1] at c30e0_hl3_1)
           try (have c30e0_hl3_2 := c30b0; simp only [hl3_2] at c30e0_hl3_2)
           clear c30
           replace H := Option.bind_eq_some_iff.mp H
           obtain ⟨t197, A310, H⟩ := H
           replace H : (if x41_2 < (x3_2.length : Int) then (if (rd x3_2 x41_2) = 1 then ((strings_HasSuffix.f t197 (⟨#[58]⟩ : ByteArray)).bind fun t199 => (if t199 = true then ((mail_lower.f t197).bind fun t200 => ((strings_Contains.f t200 (⟨#[119, 114, 111, 116, 101]⟩ : ByteArray)).bind fun t201 => (mail_Kinds.j2 k2 l0 x3_2 t190 x41_2 t190 x41_2 (!t201)))) else (mail_Kinds.j2 k2 l0 x3_2 t190 x41_2 t190 x41_2 true))) else (mail_Kinds.j2 k2 l0 x3_2 t190 x41_2 t190 x41_2 true)) else (none)) = some r := H
           have A31 := Aside0.mk A310
           clear A310
           have HC32 := Aside0.mk H
           clear H
           have p196 : 0 ≤ (x41_2 : Int) := of_decide_eq_true (by first | (with_reducible assumption) | assumption)
           have q196 : x41_2 < (l0.length : Int) := of_decide_eq_true (by first | (with_reducible assumption) | assumption)
           obtain ⟨ad196, e196, hx196_0⟩ := Kd.at_string HR0.out x41_2 p196 q196
           cases e196
           replace hx196_0 := (HB.out.cell (World.block_lt_of_cell? w _ hx196_0)).trans hx196_0
           replace p196 := eq_true p196
           replace q196 := eq_true q196
           go_upto_region 16 with (first | ((with_reducible refine gate_callee (f := 67) rfl ?_); refine goesL_ (some 48) rfl rfl Tryd.func67 (by kernel_rfl) rfl #[.string (rdOf ByteArray.empty l0 x41_2), .string (⟨#[32, 9]⟩ : ByteArray)] rfl (by (try simp only [List.map_toArray, List.map_cons, List.map_nil]); first | done | rfl | (simp only [List.length_drop, List.length_take]; rfl)) ?_; (with_reducible refine (strings_TrimRight.calls (rdOf ByteArray.empty l0 x41_2) (⟨#[32, 9]⟩ : ByteArray) t197 _ A31.out).mono ?_); rintro e w33 ⟨rfl, hb⟩; refine ⟨_, rfl, ?_⟩; have n0_ := Aside0.mk (Kd.R_below (by (with_reducible repeat (first | apply Kd.R_alloc | apply Kd.R_drewN | apply Kd.R_drew)); exact HO_3.out) hb); have n1_ := Aside0.mk (below_step (by repeat (first | (with_reducible first | exact HB.out | apply below_alloc | apply pw_below_drewN | apply below_drew1) | exact HB.out)) hb); clear HO_3; clear HB; have HO_3 := n0_; have HB := n1_; clear n0_ n1_; (try clear hb); (try clear hb2); (try clear hk); (try clear hi)))
           (try simp only [Act.put, List.setIfInBounds_toArray, List.set_cons_zero, List.set_cons_succ])
           go_cut [64] (fun v64 wc => ∃ (kq : Nat) (x64_31 : Bool), v64 = .bool x64_31 ∧ Aside0 (mail_Kinds.j2 kq l0 x3_2 t190 x41_2 t190 x41_2 x64_31 = some r) ∧ Aside0 (kq ≤ k2) ∧ Aside0 (Kd.R (Kd.int .i64) 3 wc w.heap.size (fun _ => True) (.slice Ao7 x3_2.length co7) x3_2) ∧ Aside0 (Below w.heap.size w wc))
           case first =>
            have H := HC32.out
            clear HC32
            by_cases c34 : x41_2 < (x3_2.length : Int)
            ·rw [if_pos c34] at H
             have c34b0 : decide (x41_2 < (x3_2.length : Int)) = true := decide_eq_true c34
             try (have c34e0_hl3_1 := c34b0; simp only [hl3_1] at c34e0_hl3_1)
             try (have c34e0_hl3_2 := c34b0; simp only [hl3_2] at c34e0_hl3_2)
             clear c34
             (first | rw [c34b0] | (simp only [i64_w, i32_w]; rw [c34b0]) | skip)
             by_cases c35 : (rd x3_2 x41_2) = 1
             ·rw [if_pos c35] at H
              have c35b0 : ((rd x3_2 x41_2) == 1) = true := beq_iff_eq.mpr c35
              have c35b1 : ((rd x3_2 x41_2) != 1) = false := bne_eq_false_iff_eq.mpr c35
              clear c35
              replace H := Option.bind_eq_some_iff.mp H
              obtain ⟨t199, A360, H⟩ := H
              replace H : (if t199 = true then ((mail_lower.f t197).bind fun t200 => ((strings_Contains.f t200 (⟨#[119, 114, 111, 116, 101]⟩ : ByteArray)).bind fun t201 => (mail_Kinds.j2 k2 l0 x3_2 t190 x41_2 t190 x41_2 (!t201)))) else (mail_Kinds.j2 k2 l0 x3_2 t190 x41_2 t190 x41_2 true)) = some r := H
              have A36 := Aside0.mk A360
              clear A360
              by_cases c37 : t199 = true
              ·subst c37
               have H1 : ((mail_lower.f t197).bind fun t200 => ((strings_Contains.f t200 (⟨#[119, 114, 111, 116, 101]⟩ : ByteArray)).bind fun t201 => (mail_Kinds.j2 k2 l0 x3_2 t190 x41_2 t190 x41_2 (!t201)))) = some r := by rw [if_pos rfl] at H; exact H
               clear H
               have H := H1
               clear H1
               replace H := Option.bind_eq_some_iff.mp H
               obtain ⟨t200, A380, H⟩ := H
               replace H : ((strings_Contains.f t200 (⟨#[119, 114, 111, 116, 101]⟩ : ByteArray)).bind fun t201 => (mail_Kinds.j2 k2 l0 x3_2 t190 x41_2 t190 x41_2 (!t201))) = some r := H
               have A38 := Aside0.mk A380
               clear A380
               replace H := Option.bind_eq_some_iff.mp H
               obtain ⟨t201, A390, H⟩ := H
               replace H : (mail_Kinds.j2 k2 l0 x3_2 t190 x41_2 t190 x41_2 (!t201)) = some r := H
               have A39 := Aside0.mk A390
               clear A390
               have H' := Aside0.mk H
               clear H
               have p198 : 0 ≤ (x41_2 : Int) := of_decide_eq_true (by first | (with_reducible assumption) | assumption)
               have q198 : x41_2 < (x3_2.length : Int) := of_decide_eq_true (by first | (with_reducible assumption) | assumption)
               obtain ⟨ad198, e198, hx198_0⟩ := Kd.at_int (Kd.R_reads' HO_3.out).2.2 x41_2 p198 q198
               cases e198
               replace p198 := eq_true p198
               replace q198 := eq_true q198
               go_wp2_with (first | (go_at_call 68; (with_reducible refine (strings_HasSuffix.calls t197 (⟨#[58]⟩ : ByteArray) true _ A36.out).mono ?_); rintro e w' ⟨rfl, ⟨nd, rfl⟩⟩) | (go_at_call 69; (with_reducible refine (mail_lower.calls t197 t200 _ A38.out).mono ?_); rintro e w40 ⟨rfl, hb⟩; have n0_ := Aside0.mk (Kd.R_below (by (with_reducible repeat (first | apply Kd.R_alloc | apply Kd.R_drewN | apply Kd.R_drew)); exact HO_3.out) hb); have n1_ := Aside0.mk (below_step (by repeat (first | (with_reducible first | exact HB.out | apply below_alloc | apply pw_below_drewN | apply below_drew1) | exact HB.out)) hb); clear HO_3; clear HB; have HO_3 := n0_; have HB := n1_; clear n0_ n1_; (try clear hb); (try clear hb2); (try clear hk); (try clear hi)) | (go_at_call 42; (with_reducible refine (strings_Contains.calls t200 (⟨#[119, 114, 111, 116, 101]⟩ : ByteArray) t201 _ ?side1 A39.out).mono ?_); (case side1 => first | exact HTm.out | exact Tm_below HTm.out (by repeat (first | (with_reducible first | exact HB.out | apply below_alloc | apply pw_below_drewN | apply below_drew1) | exact HB.out)) | exact Tm_drewN HTm.out _ | exact Tm_drew HTm.out | exact Tm_drewN (Tm_drewN HTm.out _) _); rintro e w' ⟨rfl, ⟨nd, rfl⟩⟩))
               go_meet
               case rel => exact ⟨_, (!t201), (by first | rfl | (simp; done) | (simp [*]; done)), H', ⟨by have := HK1.out; have := HK2.out; first | omega | exact Nat.le_refl _⟩, ⟨by (try simp only [hl3_1]); (try simp only [hl3_2]); (with_reducible repeat (first | apply Kd.R_alloc | apply Kd.R_drewN | apply Kd.R_drew)); exact HO_3.out⟩, ⟨by repeat (first | (with_reducible first | exact HB.out | apply below_alloc | apply pw_below_drewN | apply below_drew1) | exact HB.out)⟩⟩
              ·replace c37 := Bool.eq_false_iff.mpr c37
               subst c37
               have H1 : (mail_Kinds.j2 k2 l0 x3_2 t190 x41_2 t190 x41_2 true) = some r := by rw [if_neg (show ¬ (false = true) by decide)] at H; exact H
               clear H
               have H := H1
               clear H1
               have H' := Aside0.mk H
               clear H
               have p198 : 0 ≤ (x41_2 : Int) := of_decide_eq_true (by first | (with_reducible assumption) | assumption)
               have q198 : x41_2 < (x3_2.length : Int) := of_decide_eq_true (by first | (with_reducible assumption) | assumption)
               obtain ⟨ad198, e198, hx198_0⟩ := Kd.at_int (Kd.R_reads' HO_3.out).2.2 x41_2 p198 q198
               cases e198
               replace p198 := eq_true p198
               replace q198 := eq_true q198
               go_wp2_with (first | (go_at_call 68; (with_reducible refine (strings_HasSuffix.calls t197 (⟨#[58]⟩ : ByteArray) false _ A36.out).mono ?_); rintro e w' ⟨rfl, ⟨nd, rfl⟩⟩))
               go_meet
               case rel => exact ⟨_, (true), (by first | rfl | (simp; done) | (simp [*]; done)), H', ⟨by have := HK1.out; have := HK2.out; first | omega | exact Nat.le_refl _⟩, ⟨by (try simp only [hl3_1]); (try simp only [hl3_2]); (with_reducible repeat (first | apply Kd.R_alloc | apply Kd.R_drewN | apply Kd.R_drew)); exact HO_3.out⟩, ⟨by repeat (first | (with_reducible first | exact HB.out | apply below_alloc | apply pw_below_drewN | apply below_drew1) | exact HB.out)⟩⟩
             ·rw [if_neg c35] at H
              have c35b0 : ((rd x3_2 x41_2) == 1) = false := beq_eq_false_iff_ne.mpr c35
              have c35b1 : ((rd x3_2 x41_2) != 1) = true := bne_iff_ne.mpr c35
              have H' := Aside0.mk H
              clear H
              have p198 : 0 ≤ (x41_2 : Int) := of_decide_eq_true (by first | (with_reducible assumption) | assumption)
              have q198 : x41_2 < (x3_2.length : Int) := of_decide_eq_true (by first | (with_reducible assumption) | assumption)
              obtain ⟨ad198, e198, hx198_0⟩ := Kd.at_int (Kd.R_reads' HO_3.out).2.2 x41_2 p198 q198
              cases e198
              replace p198 := eq_true p198
              replace q198 := eq_true q198
              go_wp2
              go_meet
              case rel => exact ⟨_, (true), (by first | rfl | (simp; done) | (simp [*]; done)), H', ⟨by have := HK1.out; have := HK2.out; first | omega | exact Nat.le_refl _⟩, ⟨by (try simp only [hl3_1]); (try simp only [hl3_2]); (with_reducible repeat (first | apply Kd.R_alloc | apply Kd.R_drewN | apply Kd.R_drew)); exact HO_3.out⟩, ⟨by repeat (first | (with_reducible first | exact HB.out | apply below_alloc | apply pw_below_drewN | apply below_drew1) | exact HB.out)⟩⟩
            ·rw [if_neg c34] at H
             exact absurd H (by simp)
           case rest =>
            clear HC32
            (try clear c1); (try clear p1); (try clear q1); (try clear hx1); (try clear hf1); (try clear c2); (try clear c2b0); (try clear c2b1); (try clear p2); (try clear q2); (try clear hx2); (try clear hf2); (try clear c3); (try clear c3b0); (try clear c3b1); (try clear c6); (try clear p6); (try clear c8); (try clear c8b0); (try clear c9); (try clear c9b0); (try clear c10); (try clear c10b0); (try clear p11); (try clear q11); (try clear hx11); (try clear hf11); (try clear c12); (try clear c12b0); (try clear p13); (try clear q13); (try clear hx13); (try clear hf13); (try clear c18); (try clear c18b0); (try clear p19); (try clear q19); (try clear hx19); (try clear c20); (try clear p21); (try clear q21); (try clear hx21); (try clear hf21); (try clear c23); (try clear c28); (try clear c28b0); (try clear c29); (try clear c29b0); (try clear c30); (try clear c30b0); (try clear c34); (try clear c34b0); (try clear c35); (try clear c35b0); (try clear c35b1); (try clear c37); (try clear hx11_0); (try clear hx13_0); (try clear hx193_0); (try clear hx196_0); (try clear hx198_0); (try clear hx21_0); (try clear p1); (try clear p11); (try clear p13); (try clear p19); (try clear p193); (try clear p196); (try clear p198); (try clear p2); (try clear p21); (try clear p6); (try clear q1); (try clear q11); (try clear q13); (try clear q19); (try clear q193); (try clear q196); (try clear q198); (try clear q2); (try clear q21)
            obtain ⟨kq, x64_31, rfl, HA, HJ31, HO_3, HB⟩ := hcut
            cases kq with
            | zero => exact absurd HA.out (by simp [mail_Kinds.j2])
            | succ kj31 =>
             have H := HA.out
             clear HA
             simp only [mail_Kinds.j2] at H
             by_cases c41 : x64_31 = true
             ·subst c41
              have H1 : (mail_Kinds.l1 kj31 l0 x3_2 t190 t190 (wrap64 (x41_2 + 1))) = some r := by rw [if_pos rfl] at H; exact H
              clear H
              have H := H1
              clear H1
              have H' := Aside0.mk H
              clear H
              go_wp2
              (try simp only [← hl3_2])
              go_roundg kj31
              case measure => have := HK1.out; have := HK2.out; have := HJ31.out; omega
              case rel => exact ⟨(x3_2), (wrap64 (x41_2 + 1)), (by first | rfl | (simp; done) | (simp [*]; done)), H', ⟨by have := HK1.out; have := HK2.out; have := HJ31.out; omega⟩, ⟨by (try simp only [hl3_1]); (try simp only [hl3_2]); (with_reducible repeat (first | apply Kd.R_alloc | apply Kd.R_drewN | apply Kd.R_drew)); exact HO_3.out⟩, ⟨by repeat (first | (with_reducible first | exact HB.out | apply below_alloc | apply pw_below_drewN | apply below_drew1) | exact HB.out)⟩⟩
             ·replace c41 := Bool.eq_false_iff.mpr c41
              subst c41
              have H1 : (mail_Kinds.l2 kj31 l0 x3_2 t190 x41_2 (wrap64 (x41_2 + 1)) t190 x41_2) = some r := by rw [if_neg (show ¬ (false = true) by decide)] at H; exact H
              clear H
              have H := H1
              clear H1
              have HC42 := Aside0.mk H
              clear H
              go_upto_block 5 with (fail)
              go_cut [8] (fun v8 wc => ∃ (kq : Nat) (x8_41 : Int), v8 = .int .i64 x8_41 ∧ Aside0 (mail_Kinds.j4 kq l0 x3_2 t190 x41_2 x8_41 t190 x41_2 = some r) ∧ Aside0 (kq ≤ kj31) ∧ Aside0 (Kd.R (Kd.int .i64) 3 wc w.heap.size (fun _ => True) (.slice Ao7 x3_2.length co7) x3_2) ∧ Aside0 (Below w.heap.size w wc))
              case first =>
               have H := HC42.out
               clear HC42
               have H' := Aside0.mk H
               clear H
               go_wp2
               go_loopg [8] kj31 (fun kq v8 w' => ∃ (x8_4 : Int), v8 = .int .i64 x8_4 ∧ Aside0 (mail_Kinds.l2 kq l0 x3_2 t190 x41_2 x8_4 t190 x41_2 = some r) ∧ Aside0 (kq ≤ kj31) ∧ Aside0 (Kd.R (Kd.int .i64) 3 w' w.heap.size (fun _ => True) (.slice Ao7 x3_2.length co7) x3_2) ∧ Aside0 (Below w.heap.size w w'))
               case atStart => exact ⟨(wrap64 (x41_2 + 1)), (by first | rfl | (simp; done) | (simp [*]; done)), H', ⟨Nat.le_refl _⟩, ⟨by (try simp only [hl3_1]); (try simp only [hl3_2]); (with_reducible repeat (first | apply Kd.R_alloc | apply Kd.R_drewN | apply Kd.R_drew)); exact HO_3.out⟩, ⟨by repeat (first | (with_reducible first | exact HB.out | apply below_alloc | apply pw_below_drewN | apply below_drew1) | exact HB.out)⟩⟩
               case round =>
                clear H'
                (try clear c1); (try clear p1); (try clear q1); (try clear hx1); (try clear hf1); (try clear c2); (try clear c2b0); (try clear c2b1); (try clear p2); (try clear q2); (try clear hx2); (try clear hf2); (try clear c3); (try clear c3b0); (try clear c3b1); (try clear c4); (try clear c6); (try clear p6); (try clear c8); (try clear c8b0); (try clear c9); (try clear c9b0); (try clear c10); (try clear c10b0); (try clear p11); (try clear q11); (try clear hx11); (try clear hf11); (try clear c12); (try clear c12b0); (try clear p13); (try clear q13); (try clear hx13); (try clear hf13); (try clear c18); (try clear c18b0); (try clear p19); (try clear q19); (try clear hx19); (try clear c20); (try clear p21); (try clear q21); (try clear hx21); (try clear hf21); (try clear c23); (try clear c28); (try clear c28b0); (try clear c29); (try clear c29b0); (try clear c30); (try clear c30b0); (try clear c34); (try clear c34b0); (try clear c35); (try clear c35b0); (try clear c35b1); (try clear c37); (try clear c41); (try clear hx11_0); (try clear hx13_0); (try clear hx193_0); (try clear hx196_0); (try clear hx198_0); (try clear hx21_0); (try clear p1); (try clear p11); (try clear p13); (try clear p19); (try clear p193); (try clear p196); (try clear p198); (try clear p2); (try clear p21); (try clear p6); (try clear q1); (try clear q11); (try clear q13); (try clear q19); (try clear q193); (try clear q196); (try clear q198); (try clear q2); (try clear q21)
                obtain ⟨x8_4, rfl, HA, HK4, HO_3, HB⟩ := hrel
                cases gk with
                | zero => exact absurd HA.out (by simp [mail_Kinds.l2])
                | succ k4 =>
                 have H := HA.out
                 clear HA
                 simp only [mail_Kinds.l2] at H
                 by_cases c43 : x8_4 < t190
                 ·rw [if_pos c43] at H
                  have c43b0 : decide (x8_4 < t190) = true := decide_eq_true c43
                  clear c43
                  (first | rw [c43b0] | (simp only [i64_w, i32_w]; rw [c43b0]) | skip)
                  by_cases c44 : 0 ≤ x8_4
                  ·rw [if_pos c44] at H
                   have c44b0 : decide (0 ≤ x8_4) = true := decide_eq_true c44
                   clear c44
                   by_cases c45 : x8_4 < (l0.length : Int)
                   ·rw [if_pos c45] at H
                    have c45b0 : decide (x8_4 < (l0.length : Int)) = true := decide_eq_true c45
                    try (have c45e0_hl3_1 := c45b0; simp only [hl3_1] at c45e0_hl3_1)
                    try (have c45e0_hl3_2 := c45b0; simp only [hl3_2] at c45e0_hl3_2)
                    clear c45
                    replace H := Option.bind_eq_some_iff.mp H
                    obtain ⟨t203, A460, H⟩ := H
                    replace H : (if t203 = true then (mail_Kinds.l2 k4 l0 x3_2 t190 x41_2 (wrap64 (x8_4 + 1)) t190 x41_2) else (mail_Kinds.j4 k4 l0 x3_2 t190 x41_2 x8_4 t190 x41_2)) = some r := H
                    have A46 := Aside0.mk A460
                    clear A460
                    by_cases c47 : t203 = true
                    ·subst c47
                     have H1 : (mail_Kinds.l2 k4 l0 x3_2 t190 x41_2 (wrap64 (x8_4 + 1)) t190 x41_2) = some r := by rw [if_pos rfl] at H; exact H
                     clear H
                     have H := H1
                     clear H1
                     have H' := Aside0.mk H
                     clear H
                     have p202 : 0 ≤ (x8_4 : Int) := of_decide_eq_true (by first | (with_reducible assumption) | assumption)
                     have q202 : x8_4 < (l0.length : Int) := of_decide_eq_true (by first | (with_reducible assumption) | assumption)
                     obtain ⟨ad202, e202, hx202_0⟩ := Kd.at_string HR0.out x8_4 p202 q202
                     obtain rfl : ad196 = ad202 := (by injection e202)
                     replace hx202_0 := (HB.out.cell (World.block_lt_of_cell? w _ hx202_0)).trans hx202_0
                     replace p202 := eq_true p202
                     replace q202 := eq_true q202
                     go_wp2_with (first | (go_at_call 70; (with_reducible refine (mail_empty.calls (rdOf ByteArray.empty l0 x8_4) true _ A46.out).mono ?_); rintro e w48 ⟨rfl, hb⟩; have n0_ := Aside0.mk (Kd.R_below (by (with_reducible repeat (first | apply Kd.R_alloc | apply Kd.R_drewN | apply Kd.R_drew)); exact HO_3.out) hb); have n1_ := Aside0.mk (below_step (by repeat (first | (with_reducible first | exact HB.out | apply below_alloc | apply pw_below_drewN | apply below_drew1) | exact HB.out)) hb); clear HO_3; clear HB; have HO_3 := n0_; have HB := n1_; clear n0_ n1_; (try clear hb); (try clear hb2); (try clear hk); (try clear hi)))
                     go_roundg k4
                     case measure => have := HK1.out; have := HK2.out; have := HJ31.out; have := HK4.out; omega
                     case rel => exact ⟨(wrap64 (x8_4 + 1)), (by first | rfl | (simp; done) | (simp [*]; done)), H', ⟨by have := HK1.out; have := HK2.out; have := HJ31.out; have := HK4.out; omega⟩, ⟨by (try simp only [hl3_1]); (try simp only [hl3_2]); (with_reducible repeat (first | apply Kd.R_alloc | apply Kd.R_drewN | apply Kd.R_drew)); exact HO_3.out⟩, ⟨by repeat (first | (with_reducible first | exact HB.out | apply below_alloc | apply pw_below_drewN | apply below_drew1) | exact HB.out)⟩⟩
                    ·replace c47 := Bool.eq_false_iff.mpr c47
                     subst c47
                     have H1 : (mail_Kinds.j4 k4 l0 x3_2 t190 x41_2 x8_4 t190 x41_2) = some r := by rw [if_neg (show ¬ (false = true) by decide)] at H; exact H
                     clear H
                     have H := H1
                     clear H1
                     have H' := Aside0.mk H
                     clear H
                     have p202 : 0 ≤ (x8_4 : Int) := of_decide_eq_true (by first | (with_reducible assumption) | assumption)
                     have q202 : x8_4 < (l0.length : Int) := of_decide_eq_true (by first | (with_reducible assumption) | assumption)
                     obtain ⟨ad202, e202, hx202_0⟩ := Kd.at_string HR0.out x8_4 p202 q202
                     obtain rfl : ad196 = ad202 := (by injection e202)
                     replace hx202_0 := (HB.out.cell (World.block_lt_of_cell? w _ hx202_0)).trans hx202_0
                     replace p202 := eq_true p202
                     replace q202 := eq_true q202
                     go_wp2_with (first | (go_at_call 70; (with_reducible refine (mail_empty.calls (rdOf ByteArray.empty l0 x8_4) false _ A46.out).mono ?_); rintro e w49 ⟨rfl, hb⟩; have n0_ := Aside0.mk (Kd.R_below (by (with_reducible repeat (first | apply Kd.R_alloc | apply Kd.R_drewN | apply Kd.R_drew)); exact HO_3.out) hb); have n1_ := Aside0.mk (below_step (by repeat (first | (with_reducible first | exact HB.out | apply below_alloc | apply pw_below_drewN | apply below_drew1) | exact HB.out)) hb); clear HO_3; clear HB; have HO_3 := n0_; have HB := n1_; clear n0_ n1_; (try clear hb); (try clear hb2); (try clear hk); (try clear hi)))
                     go_meet
                     case rel => exact ⟨_, (x8_4), (by first | rfl | (simp; done) | (simp [*]; done)), H', ⟨by have := HK1.out; have := HK2.out; have := HJ31.out; have := HK4.out; first | omega | exact Nat.le_refl _⟩, ⟨by (try simp only [hl3_1]); (try simp only [hl3_2]); (with_reducible repeat (first | apply Kd.R_alloc | apply Kd.R_drewN | apply Kd.R_drew)); exact HO_3.out⟩, ⟨by repeat (first | (with_reducible first | exact HB.out | apply below_alloc | apply pw_below_drewN | apply below_drew1) | exact HB.out)⟩⟩
                   ·rw [if_neg c45] at H
                    exact absurd H (by simp)
                  ·rw [if_neg c44] at H
                   exact absurd H (by simp)
                 ·rw [if_neg c43] at H
                  have c43b0 : decide (x8_4 < t190) = false := decide_eq_false c43
                  clear c43
                  (first | rw [c43b0] | (simp only [i64_w, i32_w]; rw [c43b0]) | skip)
                  have H' := Aside0.mk H
                  clear H
                  go_wp2
                  go_meet
                  case rel => exact ⟨_, (x8_4), (by first | rfl | (simp; done) | (simp [*]; done)), H', ⟨by have := HK1.out; have := HK2.out; have := HJ31.out; have := HK4.out; first | omega | exact Nat.le_refl _⟩, ⟨by (try simp only [hl3_1]); (try simp only [hl3_2]); (with_reducible repeat (first | apply Kd.R_alloc | apply Kd.R_drewN | apply Kd.R_drew)); exact HO_3.out⟩, ⟨by repeat (first | (with_reducible first | exact HB.out | apply below_alloc | apply pw_below_drewN | apply below_drew1) | exact HB.out)⟩⟩
              case rest =>
               clear HC42
               (try clear c1); (try clear p1); (try clear q1); (try clear hx1); (try clear hf1); (try clear c2); (try clear c2b0); (try clear c2b1); (try clear p2); (try clear q2); (try clear hx2); (try clear hf2); (try clear c3); (try clear c3b0); (try clear c3b1); (try clear c4); (try clear c6); (try clear p6); (try clear c8); (try clear c8b0); (try clear c9); (try clear c9b0); (try clear c10); (try clear c10b0); (try clear p11); (try clear q11); (try clear hx11); (try clear hf11); (try clear c12); (try clear c12b0); (try clear p13); (try clear q13); (try clear hx13); (try clear hf13); (try clear c18); (try clear c18b0); (try clear p19); (try clear q19); (try clear hx19); (try clear c20); (try clear p20); (try clear q20); (try clear hx20); (try clear p21); (try clear q21); (try clear hx21); (try clear hf21); (try clear c23); (try clear c28); (try clear c28b0); (try clear c29); (try clear c29b0); (try clear c30); (try clear c30b0); (try clear c34); (try clear c34b0); (try clear c35); (try clear c35b0); (try clear c35b1); (try clear c37); (try clear c41); (try clear c43); (try clear c43b0); (try clear c44); (try clear c44b0); (try clear c45); (try clear c45b0); (try clear c47); (try clear hx11_0); (try clear hx13_0); (try clear hx193_0); (try clear hx196_0); (try clear hx198_0); (try clear hx202_0); (try clear hx21_0); (try clear p1); (try clear p11); (try clear p13); (try clear p19); (try clear p193); (try clear p196); (try clear p198); (try clear p2); (try clear p202); (try clear p21); (try clear p6); (try clear q1); (try clear q11); (try clear q13); (try clear q19); (try clear q193); (try clear q196); (try clear q198); (try clear q2); (try clear q202); (try clear q21)
               obtain ⟨kq, x8_41, rfl, HA, HJ41, HO_3, HB⟩ := hcut
               cases kq with
               | zero => exact absurd HA.out (by simp [mail_Kinds.j4])
               | succ kj41 =>
                have H := HA.out
                clear HA
                simp only [mail_Kinds.j4] at H
                have HC50 := Aside0.mk H
                clear H
                go_upto_region 20 with (fail)
                go_cut [88] (fun v88 wc => ∃ (kq : Nat) (x88_49 : Bool), v88 = .bool x88_49 ∧ Aside0 (mail_Kinds.j5 kq l0 x3_2 t190 x41_2 x8_41 t190 x41_2 x88_49 = some r) ∧ Aside0 (kq ≤ kj41) ∧ Aside0 (Kd.R (Kd.int .i64) 3 wc w.heap.size (fun _ => True) (.slice Ao7 x3_2.length co7) x3_2) ∧ Aside0 (Below w.heap.size w wc))
                case first =>
                 have H := HC50.out
                 clear HC50
                 by_cases c51 : x8_41 < t190
                 ·rw [if_pos c51] at H
                  have c51b0 : decide (x8_41 < t190) = true := decide_eq_true c51
                  clear c51
                  (first | rw [c51b0] | (simp only [i64_w, i32_w]; rw [c51b0]) | skip)
                  by_cases c52 : 0 ≤ x8_41
                  ·rw [if_pos c52] at H
                   have c52b0 : decide (0 ≤ x8_41) = true := decide_eq_true c52
                   clear c52
                   by_cases c53 : x8_41 < (x3_2.length : Int)
                   ·rw [if_pos c53] at H
                    have c53b0 : decide (x8_41 < (x3_2.length : Int)) = true := decide_eq_true c53
                    try (have c53e0_hl3_1 := c53b0; simp only [hl3_1] at c53e0_hl3_1)
                    try (have c53e0_hl3_2 := c53b0; simp only [hl3_2] at c53e0_hl3_2)
                    clear c53
                    have H' := Aside0.mk H
                    clear H
                    have p204 : 0 ≤ (x8_41 : Int) := of_decide_eq_true (by first | (with_reducible assumption) | assumption)
                    have q204 : x8_41 < (x3_2.length : Int) := of_decide_eq_true (by first | (with_reducible assumption) | assumption)
                    obtain ⟨ad204, e204, hx204_0⟩ := Kd.at_int (Kd.R_reads' HO_3.out).2.2 x8_41 p204 q204
                    cases e204
                    replace p204 := eq_true p204
                    replace q204 := eq_true q204
                    go_wp2
                    go_meet
                    case rel => exact ⟨_, (((rd x3_2 x8_41) == 3)), (by first | rfl | (simp; done) | (simp [*]; done)), H', ⟨by have := HK1.out; have := HK2.out; have := HJ31.out; have := HJ41.out; first | omega | exact Nat.le_refl _⟩, ⟨by (try simp only [hl3_1]); (try simp only [hl3_2]); (with_reducible repeat (first | apply Kd.R_alloc | apply Kd.R_drewN | apply Kd.R_drew)); exact HO_3.out⟩, ⟨by repeat (first | (with_reducible first | exact HB.out | apply below_alloc | apply pw_below_drewN | apply below_drew1) | exact HB.out)⟩⟩
                   ·rw [if_neg c53] at H
                    exact absurd H (by simp)
                  ·rw [if_neg c52] at H
                   exact absurd H (by simp)
                 ·rw [if_neg c51] at H
                  have c51b0 : decide (x8_41 < t190) = false := decide_eq_false c51
                  clear c51
                  (first | rw [c51b0] | (simp only [i64_w, i32_w]; rw [c51b0]) | skip)
                  have H' := Aside0.mk H
                  clear H
                  go_wp2
                  go_meet
                  case rel => exact ⟨_, (false), (by first | rfl | (simp; done) | (simp [*]; done)), H', ⟨by have := HK1.out; have := HK2.out; have := HJ31.out; have := HJ41.out; first | omega | exact Nat.le_refl _⟩, ⟨by (try simp only [hl3_1]); (try simp only [hl3_2]); (with_reducible repeat (first | apply Kd.R_alloc | apply Kd.R_drewN | apply Kd.R_drew)); exact HO_3.out⟩, ⟨by repeat (first | (with_reducible first | exact HB.out | apply below_alloc | apply pw_below_drewN | apply below_drew1) | exact HB.out)⟩⟩
                case rest =>
                 clear HC50
                 (try clear c1); (try clear p1); (try clear q1); (try clear hx1); (try clear hf1); (try clear c2); (try clear c2b0); (try clear c2b1); (try clear p2); (try clear q2); (try clear hx2); (try clear hf2); (try clear c3); (try clear c3b0); (try clear c3b1); (try clear c4); (try clear c5); (try clear c6); (try clear p6); (try clear c8); (try clear c8b0); (try clear c9); (try clear c9b0); (try clear c10); (try clear c10b0); (try clear p11); (try clear q11); (try clear hx11); (try clear hf11); (try clear c12); (try clear c12b0); (try clear p13); (try clear q13); (try clear hx13); (try clear hf13); (try clear c18); (try clear c18b0); (try clear p19); (try clear q19); (try clear hx19); (try clear c20); (try clear p20); (try clear q20); (try clear hx20); (try clear p21); (try clear q21); (try clear hx21); (try clear hf21); (try clear c23); (try clear c28); (try clear c28b0); (try clear c29); (try clear c29b0); (try clear c30); (try clear c30b0); (try clear c34); (try clear c34b0); (try clear c35); (try clear c35b0); (try clear c35b1); (try clear c37); (try clear c41); (try clear c43); (try clear c43b0); (try clear c44); (try clear c44b0); (try clear c45); (try clear c45b0); (try clear c47); (try clear c51); (try clear c51b0); (try clear c52); (try clear c52b0); (try clear c53); (try clear c53b0); (try clear hx11_0); (try clear hx13_0); (try clear hx193_0); (try clear hx196_0); (try clear hx198_0); (try clear hx202_0); (try clear hx204_0); (try clear hx21_0); (try clear p1); (try clear p11); (try clear p13); (try clear p19); (try clear p193); (try clear p196); (try clear p198); (try clear p2); (try clear p20); (try clear p202); (try clear p204); (try clear p21); (try clear p6); (try clear q1); (try clear q11); (try clear q13); (try clear q19); (try clear q193); (try clear q196); (try clear q198); (try clear q2); (try clear q20); (try clear q202); (try clear q204); (try clear q21)
                 obtain ⟨kq, x88_49, rfl, HA, HJ49, HO_3, HB⟩ := hcut
                 cases kq with
                 | zero => exact absurd HA.out (by simp [mail_Kinds.j5])
                 | succ kj49 =>
                  have H := HA.out
                  clear HA
                  simp only [mail_Kinds.j5] at H
                  by_cases c54 : x88_49 = true
                  ·subst c54
                   have H1 : (mail_Kinds.l3 kj49 l0 x3_2 t190 x8_41 x41_2 t190 x41_2) = some r := by rw [if_pos rfl] at H; exact H
                   clear H
                   have H := H1
                   clear H1
                   have H' := Aside0.mk H
                   clear H
                   go_wp2
                   go_loopg [9] kj49 (fun kq v9 w' => ∃ (x3_6 : List Int) (x9_6 : Int), v9 = .int .i64 x9_6 ∧ Aside0 (mail_Kinds.l3 kq l0 x3_6 t190 x8_41 x9_6 t190 x41_2 = some r) ∧ Aside0 (kq ≤ kj49) ∧ Aside0 (Kd.R (Kd.int .i64) 3 w' w.heap.size (fun _ => True) (.slice Ao7 x3_2.length co7) x3_6) ∧ Aside0 (Below w.heap.size w w'))
                   case atStart => exact ⟨(x3_2), (x41_2), (by first | rfl | (simp; done) | (simp [*]; done)), H', ⟨Nat.le_refl _⟩, ⟨by (try simp only [hl3_1]); (try simp only [hl3_2]); (with_reducible repeat (first | apply Kd.R_alloc | apply Kd.R_drewN | apply Kd.R_drew)); exact HO_3.out⟩, ⟨by repeat (first | (with_reducible first | exact HB.out | apply below_alloc | apply pw_below_drewN | apply below_drew1) | exact HB.out)⟩⟩
                   case round =>
                    clear H'
                    (try clear c1); (try clear p1); (try clear q1); (try clear hx1); (try clear hf1); (try clear c2); (try clear c2b0); (try clear c2b1); (try clear p2); (try clear q2); (try clear hx2); (try clear hf2); (try clear c3); (try clear c3b0); (try clear c3b1); (try clear c4); (try clear c5); (try clear c6); (try clear p6); (try clear c8); (try clear c8b0); (try clear c9); (try clear c9b0); (try clear c10); (try clear c10b0); (try clear p11); (try clear q11); (try clear hx11); (try clear hf11); (try clear c12); (try clear c12b0); (try clear p13); (try clear q13); (try clear hx13); (try clear hf13); (try clear c18); (try clear c18b0); (try clear p19); (try clear q19); (try clear hx19); (try clear c20); (try clear p20); (try clear q20); (try clear hx20); (try clear p21); (try clear q21); (try clear hx21); (try clear hf21); (try clear c23); (try clear c28); (try clear c28b0); (try clear c29); (try clear c29b0); (try clear c30); (try clear c30b0); (try clear c34); (try clear c34b0); (try clear c35); (try clear c35b0); (try clear c35b1); (try clear c37); (try clear c41); (try clear c43); (try clear c43b0); (try clear c44); (try clear c44b0); (try clear c45); (try clear c45b0); (try clear c47); (try clear c51); (try clear c51b0); (try clear c52); (try clear c52b0); (try clear c53); (try clear c53b0); (try clear c54); (try clear hx11_0); (try clear hx13_0); (try clear hx193_0); (try clear hx196_0); (try clear hx198_0); (try clear hx202_0); (try clear hx204_0); (try clear hx21_0); (try clear p1); (try clear p11); (try clear p13); (try clear p19); (try clear p193); (try clear p196); (try clear p198); (try clear p2); (try clear p20); (try clear p202); (try clear p204); (try clear p21); (try clear p6); (try clear q1); (try clear q11); (try clear q13); (try clear q19); (try clear q193); (try clear q196); (try clear q198); (try clear q2); (try clear q20); (try clear q202); (try clear q204); (try clear q21)
                    obtain ⟨x3_6, x9_6, rfl, HA, HK6, HO_3, HB⟩ := hrel
                    have hl3_6 := (Kd.R_reads' HO_3.out).1
                    rw [hl3_6] at HO_3
                    (try simp only [hl3_6])
                    cases gk with
                    | zero => exact absurd HA.out (by simp [mail_Kinds.l3])
                    | succ k6 =>
                     have H := HA.out
                     clear HA
                     simp only [mail_Kinds.l3] at H
                     by_cases c55 : x9_6 < x8_41
                     ·rw [if_pos c55] at H
                      have c55b0 : decide (x9_6 < x8_41) = true := decide_eq_true c55
                      clear c55
                      by_cases c56 : 0 ≤ x9_6
                      ·rw [if_pos c56] at H
                       have c56b0 : decide (0 ≤ x9_6) = true := decide_eq_true c56
                       clear c56
                       by_cases c57 : x9_6 < (x3_6.length : Int)
                       ·rw [if_pos c57] at H
                        have c57b0 : decide (x9_6 < (x3_6.length : Int)) = true := decide_eq_true c57
                        try (have c57e0_hl3_1 := c57b0; simp only [hl3_1] at c57e0_hl3_1)
                        try (have c57e0_hl3_2 := c57b0; simp only [hl3_2] at c57e0_hl3_2)
                        try (have c57e0_hl3_6 := c57b0; simp only [hl3_6] at c57e0_hl3_6)
                        clear c57
                        obtain ⟨y205, hy205⟩ : ∃ y_ : List Int, y_ = (x3_6.set (x9_6 : Int).toNat 2) := ⟨_, rfl⟩
                        replace H : (mail_Kinds.l3 k6 l0 y205 t190 x8_41 (wrap64 (x9_6 + 1)) t190 x41_2) = some r := by first | (rw [hy205]; with_reducible exact H) | (have H2_ := (Option.bind_some _ _).symm.trans H; rw [hy205]; with_reducible exact H2_) | (have H2_ := (Option.bind_some _ _).symm.trans H; with_reducible exact H2_) | with_reducible exact H | (rw [hy205]; exact H) | exact H
                        have Ny205 := Aside0.mk hy205
                        clear hy205
                        have H' := Aside0.mk H
                        clear H
                        have p58 : 0 ≤ (x9_6 : Int) := of_decide_eq_true (by first | (with_reducible assumption) | assumption)
                        have q58 : (x9_6 : Int) < ((x3_6.length : Int) : Int) := of_decide_eq_true (by first | (with_reducible assumption) | assumption)
                        obtain ⟨go58, co58, eo58, gb58, gl58, cl58, HG58⟩ := Kd.R_form HO_3.out (by omega)
                        (first | cases eo58 | (injection eo58 with ea_ en_ ec_; (first | subst ea_ | (injection ea_ with ea_; subst ea_)); subst ec_; clear en_))
                        have GB58 := Aside0.mk gb58
                        have GG58 := Aside0.mk HG58
                        clear gb58 gl58 HG58
                        obtain ⟨hx58_0, hf58_0⟩ := Kd.R_celln 0 HO_3.out (x9_6 : Int) p58 q58
                        replace p58 := eq_true p58
                        replace q58 := eq_true q58
                        have HP59 := Kd.R_putg HO_3.out (x9_6 : Int) 2
                        go_wp2_with (first | ((with_reducible refine gate_store (t := 3) (p := 97) rfl ?_); refine store_event (t := 3) (p := 97) (v := ?vo_w60) (w1 := (wr.setCell ⟨go58, (x9_6 : Int).toNat, none⟩ (.int .i64 2))) ?hg ?ho ?hn ?hr ?_; (case ho => rfl); (case hg => rfl); (case hn => rfl); (case hr => first | (go_simp; done) | (go_simp; rfl)); intro w60 hw; have hg : wr.grownBy w60 (some go58) := (by rw [hw]; exact HP59.2); have hp_ : Kd.R (Kd.int .i64) 3 w60 w.heap.size (fun _ => True) (.slice (some ⟨go58, 0, none⟩) x3_6.length co7) y205 := (by rw [hw, Ny205.out]; exact HP59.1); clear HP59; have n0_ := Aside0.mk (hp_); have n1_ := Aside0.mk ((by rw [hw]; exact below_set (HB.out) GB58.out : Below w.heap.size w w60)); clear HO_3; clear HB; have HO_3 := n0_; have HB := n1_; clear n0_ n1_; clear hg hw hp_))
                        (try simp only [← hl3_6])
                        go_roundg k6
                        case measure => have := HK1.out; have := HK2.out; have := HJ31.out; have := HJ41.out; have := HJ49.out; have := HK6.out; omega
                        case rel => exact ⟨(y205), (wrap64 (x9_6 + 1)), (by first | rfl | (simp; done) | (simp [*]; done)), H', ⟨by have := HK1.out; have := HK2.out; have := HJ31.out; have := HJ41.out; have := HJ49.out; have := HK6.out; omega⟩, ⟨by (try simp only [hl3_1]); (try simp only [hl3_2]); (try simp only [hl3_6]); (with_reducible repeat (first | apply Kd.R_alloc | apply Kd.R_drewN | apply Kd.R_drew)); exact HO_3.out⟩, ⟨by repeat (first | (with_reducible first | exact HB.out | apply below_alloc | apply pw_below_drewN | apply below_drew1) | exact HB.out)⟩⟩
                       ·rw [if_neg c57] at H
                        exact absurd H (by simp)
                      ·rw [if_neg c56] at H
                       exact absurd H (by simp)
                     ·rw [if_neg c55] at H
                      have c55b0 : decide (x9_6 < x8_41) = false := decide_eq_false c55
                      clear c55
                      have H' := Aside0.mk H
                      clear H
                      go_wp2
                      (try simp only [← hl3_2, ← hl3_6])
                      go_roundg k6
                      case measure => have := HK1.out; have := HK2.out; have := HJ31.out; have := HJ41.out; have := HJ49.out; have := HK6.out; omega
                      case rel => exact ⟨(x3_6), (wrap64 (x41_2 + 1)), (by first | rfl | (simp; done) | (simp [*]; done)), H', ⟨by have := HK1.out; have := HK2.out; have := HJ31.out; have := HJ41.out; have := HJ49.out; have := HK6.out; omega⟩, ⟨by (try simp only [hl3_1]); (try simp only [hl3_2]); (try simp only [hl3_6]); (with_reducible repeat (first | apply Kd.R_alloc | apply Kd.R_drewN | apply Kd.R_drew)); exact HO_3.out⟩, ⟨by repeat (first | (with_reducible first | exact HB.out | apply below_alloc | apply pw_below_drewN | apply below_drew1) | exact HB.out)⟩⟩
                  ·replace c54 := Bool.eq_false_iff.mpr c54
                   subst c54
                   have H1 : (mail_Kinds.l1 kj49 l0 x3_2 t190 t190 (wrap64 (x41_2 + 1))) = some r := by rw [if_neg (show ¬ (false = true) by decide)] at H; exact H
                   clear H
                   have H := H1
                   clear H1
                   have H' := Aside0.mk H
                   clear H
                   go_wp2
                   (try simp only [← hl3_2])
                   go_roundg kj49
                   case measure => have := HK1.out; have := HK2.out; have := HJ31.out; have := HJ41.out; have := HJ49.out; omega
                   case rel => exact ⟨(x3_2), (wrap64 (x41_2 + 1)), (by first | rfl | (simp; done) | (simp [*]; done)), H', ⟨by have := HK1.out; have := HK2.out; have := HJ31.out; have := HJ41.out; have := HJ49.out; omega⟩, ⟨by (try simp only [hl3_1]); (try simp only [hl3_2]); (with_reducible repeat (first | apply Kd.R_alloc | apply Kd.R_drewN | apply Kd.R_drew)); exact HO_3.out⟩, ⟨by repeat (first | (with_reducible first | exact HB.out | apply below_alloc | apply pw_below_drewN | apply below_drew1) | exact HB.out)⟩⟩
          ·rw [if_neg c30] at H
           exact absurd H (by simp)
         ·rw [if_neg c29] at H
          exact absurd H (by simp)
        ·rw [if_neg c28] at H
         have c28b0 : decide (x41_2 < t190) = false := decide_eq_false c28
         clear c28
         by_cases c61 : (x3_2.length : Int) = 0
         ·rw [if_pos c61] at H
          have c61b0 : ((x3_2.length : Int) == 0) = true := beq_iff_eq.mpr c61
          have c61b1 : ((x3_2.length : Int) != 0) = false := bne_eq_false_iff_eq.mpr c61
          clear c61
          obtain rfl := Option.some.inj H
          go_wp2
          go_ret
          exact ⟨_, by first | rfl | (simp [errW_none, errW_some] <;> rfl) | (simp [*, errW_none, errW_some] <;> rfl), by first | exact Kd.R_nil _ _ _ _ _ | exact Kd.N_nil _ _ _ _ _ | exact Kd.V_nil _ _ _ _ _ | exact Kd.Q_nil _ _ _ _ _ | exact Kd.S_nil _ _ _ _ _, by repeat (first | (with_reducible first | exact HB.out | apply below_alloc | apply pw_below_drewN | apply below_drew1) | exact HB.out)⟩
         ·rw [if_neg c61] at H
          have c61b0 : ((x3_2.length : Int) == 0) = false := beq_eq_false_iff_ne.mpr c61
          have c61b1 : ((x3_2.length : Int) != 0) = true := bne_iff_ne.mpr c61
          have c61b2 : ¬ (x3_2 = []) := fun h_ => c61 (by rw [h_]; rfl)
          obtain rfl := Option.some.inj H
          go_wp2
          go_ret
          exact ⟨_, by first | rfl | (simp [errW_none, errW_some] <;> rfl) | (simp [*, errW_none, errW_some] <;> rfl), by (with_reducible repeat (first | apply Kd.R_alloc | apply Kd.R_drewN | apply Kd.R_drew)); exact HO_3.out, by repeat (first | (with_reducible first | exact HB.out | apply below_alloc | apply pw_below_drewN | apply below_drew1) | exact HB.out)⟩
  ·rw [if_neg c3] at H
   exact absurd H (by simp)
 ·rw [if_neg c2] at H
  exact absurd H (by simp)

end Go.Proofs.YtcljkhhjondhcaaDoor.Ix
