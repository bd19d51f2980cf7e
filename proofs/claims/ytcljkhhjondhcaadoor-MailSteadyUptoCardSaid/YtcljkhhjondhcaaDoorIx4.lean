/- Functions of the program as plain functions, and that each call returns what they say, wherever they answer: written by a program of this session over the kit's printer; conditions: those in each statement. -/
import Derived.Test.YtcljkhhjondhcaaDoorIx0
import Derived.Test.YtcljkhhjondhcaaDoorIx3
namespace Go.Proofs.YtcljkhhjondhcaaDoor.Ix
open Go.RowKit Go.Proofs.YtcljkhhjondhcaaDoorW.PrintWords Go.Proofs.YtcljkhhjondhcaaDoorW.PrintLast Go.Proofs.YtcljkhhjondhcaaDoorW.PrintMore Go.Proofs.YtcljkhhjondhcaaDoor.Ext
attribute [local go_sem] max2_int min2_int max_two min_two max_three min_three max_four min_four   -- for this text's walks alone
set_option linter.unusedVariables false
set_option linter.unusedSimpArgs false

/-! ### portref1_MaskedOf: function 44 -/
mutual
def portref1_MaskedOf.l0 : Nat → ByteArray → List Int → Int → Option (ByteArray)
 | 0, _, _, _ => none
 | k + 1, x0, x3, x4 => if x4 < (x0.size : Int) then (if 0 ≤ x4 then ((portref1_isDigit.f (bt x0 x4)).bind fun t160 => (if t160 = true then (if x4 ≤ (wrap64 (x4 + 1)) then (if (wrap64 (x4 + 1)) ≤ (x0.size : Int) then (portref1_MaskedOf.l1 k x0 x3 (([x4] : List Int)) (x0.extract (x4 : Int).toNat ((wrap64 (x4 + 1)) : Int).toNat) (wrap64 (x4 + 1))) else (none)) else (none)) else (portref1_MaskedOf.l0 k x0 x3 (wrap64 (x4 + 1))))) else (none)) else (some (strOfNums x3))
def portref1_MaskedOf.j3 : Nat → ByteArray → List Int → List Int → ByteArray → Int → Option (ByteArray)
 | 0, _, _, _, _, _ => none
 | k + 1, x0, x3, x5, x6, x7 => if (x5.length : Int) ≥ 13 then (if (x5.length : Int) ≤ 19 then ((portref1_luhn.f k x6).bind fun t172 => (portref1_MaskedOf.j4 k x0 x3 x5 x7 t172)) else (portref1_MaskedOf.j4 k x0 x3 x5 x7 false)) else (portref1_MaskedOf.j4 k x0 x3 x5 x7 false)
def portref1_MaskedOf.j4 : Nat → ByteArray → List Int → List Int → Int → Bool → Option (ByteArray)
 | 0, _, _, _, _, _ => none
 | k + 1, x0, x3, x5, x7, x85 => if x85 = true then (if 0 ≤ (wrap64 ((x5.length : Int) - 4)) then (if (wrap64 ((x5.length : Int) - 4)) ≤ (x5.length : Int) then ((some (x5.take ((wrap64 ((x5.length : Int) - 4)) : Int).toNat : List Int)).bind fun y173 => (portref1_MaskedOf.l2 k x0 x3 x7 y173 (y173.length : Int) 0)) else (none)) else (none)) else (portref1_MaskedOf.l0 k x0 x3 x7)
def portref1_MaskedOf.l2 : Nat → ByteArray → List Int → Int → List Int → Int → Int → Option (ByteArray)
 | 0, _, _, _, _, _, _ => none
 | k + 1, x0, x3, x7, x90, x91, x92 => if x92 < x91 then (if 0 ≤ x92 then (if x92 < (x90.length : Int) then (if 0 ≤ (rd x90 x92) then (if (rd x90 x92) < (x3.length : Int) then (portref1_MaskedOf.l2 k x0 (x3.set ((rd x90 x92) : Int).toNat 42) x7 x90 x91 (wrap64 (x92 + 1))) else (none)) else (none)) else (none)) else (none)) else (portref1_MaskedOf.l0 k x0 x3 x7)
def portref1_MaskedOf.l1 : Nat → ByteArray → List Int → List Int → ByteArray → Int → Option (ByteArray)
 | 0, _, _, _, _, _ => none
 | k + 1, x0, x3, x5, x6, x7 => if x7 < (x0.size : Int) then (if 0 ≤ x7 then (if (bt x0 x7) = 32 then (portref1_MaskedOf.j2 k x0 x3 x5 x6 x7 x7 true) else (portref1_MaskedOf.j2 k x0 x3 x5 x6 x7 x7 ((bt x0 x7) == 45))) else (none)) else (portref1_MaskedOf.j3 k x0 x3 x5 x6 x7)
def portref1_MaskedOf.j2 : Nat → ByteArray → List Int → List Int → ByteArray → Int → Int → Bool → Option (ByteArray)
 | 0, _, _, _, _, _, _, _ => none
 | k + 1, x0, x3, x5, x6, x7, x8, x47 => if x47 = true then (if (wrap64 (x8 + 1)) = (x0.size : Int) then (portref1_MaskedOf.j3 k x0 x3 x5 x6 x7) else (if 0 ≤ (wrap64 (x8 + 1)) then (if (wrap64 (x8 + 1)) < (x0.size : Int) then ((portref1_isDigit.f (bt x0 (wrap64 (x8 + 1)))).bind fun t164 => (if t164 = true then (if x5.length < 17592186044416 then (if (wrap64 (x8 + 1)) ≤ (wrap64 ((wrap64 (x8 + 1)) + 1)) then (if (wrap64 ((wrap64 (x8 + 1)) + 1)) ≤ (x0.size : Int) then (if x6.size + (x0.extract ((wrap64 (x8 + 1)) : Int).toNat ((wrap64 ((wrap64 (x8 + 1)) + 1)) : Int).toNat).size ≤ 9223372036854775807 then (portref1_MaskedOf.l1 k x0 x3 (x5 ++ [wrap64 (x8 + 1)]) (x6 ++ (x0.extract ((wrap64 (x8 + 1)) : Int).toNat ((wrap64 ((wrap64 (x8 + 1)) + 1)) : Int).toNat)) (wrap64 ((wrap64 (x8 + 1)) + 1))) else (none)) else (none)) else (none)) else (none)) else (portref1_MaskedOf.j3 k x0 x3 x5 x6 x7))) else (none)) else (none))) else (if x8 = (x0.size : Int) then (portref1_MaskedOf.j3 k x0 x3 x5 x6 x7) else (if 0 ≤ x8 then (if x8 < (x0.size : Int) then ((portref1_isDigit.f (bt x0 x8)).bind fun t168 => (if t168 = true then (if x5.length < 17592186044416 then (if x8 ≤ (wrap64 (x8 + 1)) then (if (wrap64 (x8 + 1)) ≤ (x0.size : Int) then (if x6.size + (x0.extract (x8 : Int).toNat ((wrap64 (x8 + 1)) : Int).toNat).size ≤ 9223372036854775807 then (portref1_MaskedOf.l1 k x0 x3 (x5 ++ [x8]) (x6 ++ (x0.extract (x8 : Int).toNat ((wrap64 (x8 + 1)) : Int).toNat)) (wrap64 (x8 + 1))) else (none)) else (none)) else (none)) else (none)) else (portref1_MaskedOf.j3 k x0 x3 x5 x6 x7))) else (none)) else (none)))
end
def portref1_MaskedOf.f (k : Nat) (a0 : ByteArray) : Option (ByteArray) := if (a0.size : Int) ≤ 140737488355328 then (portref1_MaskedOf.l0 k a0 (numsOf a0) 0) else (none)
theorem portref1_MaskedOf.mono_l : ∀ k, (∀ y0 y1 y2, LeO (portref1_MaskedOf.l0 k y0 y1 y2) (portref1_MaskedOf.l0 (k + 1) y0 y1 y2)) ∧ (∀ y0 y1 y2 y3 y4, LeO (portref1_MaskedOf.j3 k y0 y1 y2 y3 y4) (portref1_MaskedOf.j3 (k + 1) y0 y1 y2 y3 y4)) ∧ (∀ y0 y1 y2 y3 y4, LeO (portref1_MaskedOf.j4 k y0 y1 y2 y3 y4) (portref1_MaskedOf.j4 (k + 1) y0 y1 y2 y3 y4)) ∧ (∀ y0 y1 y2 y3 y4 y5, LeO (portref1_MaskedOf.l2 k y0 y1 y2 y3 y4 y5) (portref1_MaskedOf.l2 (k + 1) y0 y1 y2 y3 y4 y5)) ∧ (∀ y0 y1 y2 y3 y4, LeO (portref1_MaskedOf.l1 k y0 y1 y2 y3 y4) (portref1_MaskedOf.l1 (k + 1) y0 y1 y2 y3 y4)) ∧ (∀ y0 y1 y2 y3 y4 y5 y6, LeO (portref1_MaskedOf.j2 k y0 y1 y2 y3 y4 y5 y6) (portref1_MaskedOf.j2 (k + 1) y0 y1 y2 y3 y4 y5 y6))
 | 0 => ⟨fun _ _ _ r h => by simp [portref1_MaskedOf.l0] at h, fun _ _ _ _ _ r h => by simp [portref1_MaskedOf.j3] at h, fun _ _ _ _ _ r h => by simp [portref1_MaskedOf.j4] at h, fun _ _ _ _ _ _ r h => by simp [portref1_MaskedOf.l2] at h, fun _ _ _ _ _ r h => by simp [portref1_MaskedOf.l1] at h, fun _ _ _ _ _ _ _ r h => by simp [portref1_MaskedOf.j2] at h⟩
 | k + 1 => by
  obtain ⟨ih0, ih1, ih2, ih3, ih4, ih5⟩ := portref1_MaskedOf.mono_l k
  refine ⟨?_, ?_, ?_, ?_, ?_, ?_⟩
  ·intro y0 y1 y2
   unfold portref1_MaskedOf.l0
   repeat' first
   | (with_reducible exact ih0 _ _ _)
   | (with_reducible exact ih1 _ _ _ _ _)
   | (with_reducible exact ih2 _ _ _ _ _)
   | (with_reducible exact ih3 _ _ _ _ _ _)
   | (with_reducible exact ih4 _ _ _ _ _)
   | (with_reducible exact ih5 _ _ _ _ _ _ _)
   | (with_reducible exact portref1_luhn.mono _ _)
   | (with_reducible exact LeO.refl _)
   | (with_reducible exact LeO.none _)
   | (with_reducible refine LeO.ite ?_ ?_)
   | (with_reducible refine LeO.bind ?_ (fun _ => ?_))
  ·intro y0 y1 y2 y3 y4
   unfold portref1_MaskedOf.j3
   repeat' first
   | (with_reducible exact ih0 _ _ _)
   | (with_reducible exact ih1 _ _ _ _ _)
   | (with_reducible exact ih2 _ _ _ _ _)
   | (with_reducible exact ih3 _ _ _ _ _ _)
   | (with_reducible exact ih4 _ _ _ _ _)
   | (with_reducible exact ih5 _ _ _ _ _ _ _)
   | (with_reducible exact portref1_luhn.mono _ _)
   | (with_reducible exact LeO.refl _)
   | (with_reducible exact LeO.none _)
   | (with_reducible refine LeO.ite ?_ ?_)
   | (with_reducible refine LeO.bind ?_ (fun _ => ?_))
  ·intro y0 y1 y2 y3 y4
   unfold portref1_MaskedOf.j4
   repeat' first
   | (with_reducible exact ih0 _ _ _)
   | (with_reducible exact ih1 _ _ _ _ _)
   | (with_reducible exact ih2 _ _ _ _ _)
   | (with_reducible exact ih3 _ _ _ _ _ _)
   | (with_reducible exact ih4 _ _ _ _ _)
   | (with_reducible exact ih5 _ _ _ _ _ _ _)
   | (with_reducible exact portref1_luhn.mono _ _)
   | (with_reducible exact LeO.refl _)
   | (with_reducible exact LeO.none _)
   | (with_reducible refine LeO.ite ?_ ?_)
   | (with_reducible refine LeO.bind ?_ (fun _ => ?_))
  ·intro y0 y1 y2 y3 y4 y5
   unfold portref1_MaskedOf.l2
   repeat' first
   | (with_reducible exact ih0 _ _ _)
   | (with_reducible exact ih1 _ _ _ _ _)
   | (with_reducible exact ih2 _ _ _ _ _)
   | (with_reducible exact ih3 _ _ _ _ _ _)
   | (with_reducible exact ih4 _ _ _ _ _)
   | (with_reducible exact ih5 _ _ _ _ _ _ _)
   | (with_reducible exact portref1_luhn.mono _ _)
   | (with_reducible exact LeO.refl _)
   | (with_reducible exact LeO.none _)
   | (with_reducible refine LeO.ite ?_ ?_)
   | (with_reducible refine LeO.bind ?_ (fun _ => ?_))
  ·intro y0 y1 y2 y3 y4
   unfold portref1_MaskedOf.l1
   repeat' first
   | (with_reducible exact ih0 _ _ _)
   | (with_reducible exact ih1 _ _ _ _ _)
   | (with_reducible exact ih2 _ _ _ _ _)
   | (with_reducible exact ih3 _ _ _ _ _ _)
   | (with_reducible exact ih4 _ _ _ _ _)
   | (with_reducible exact ih5 _ _ _ _ _ _ _)
   | (with_reducible exact portref1_luhn.mono _ _)
   | (with_reducible exact LeO.refl _)
   | (with_reducible exact LeO.none _)
   | (with_reducible refine LeO.ite ?_ ?_)
   | (with_reducible refine LeO.bind ?_ (fun _ => ?_))
  ·intro y0 y1 y2 y3 y4 y5 y6
   unfold portref1_MaskedOf.j2
   repeat' first
   | (with_reducible exact ih0 _ _ _)
   | (with_reducible exact ih1 _ _ _ _ _)
   | (with_reducible exact ih2 _ _ _ _ _)
   | (with_reducible exact ih3 _ _ _ _ _ _)
   | (with_reducible exact ih4 _ _ _ _ _)
   | (with_reducible exact ih5 _ _ _ _ _ _ _)
   | (with_reducible exact portref1_luhn.mono _ _)
   | (with_reducible exact LeO.refl _)
   | (with_reducible exact LeO.none _)
   | (with_reducible refine LeO.ite ?_ ?_)
   | (with_reducible refine LeO.bind ?_ (fun _ => ?_))
theorem portref1_MaskedOf.mono : ∀ a0 k, LeO (portref1_MaskedOf.f k a0) (portref1_MaskedOf.f (k + 1) a0) := by
 intro a0 k
 obtain ⟨ih0, ih1, ih2, ih3, ih4, ih5⟩ := portref1_MaskedOf.mono_l k
 unfold portref1_MaskedOf.f
 repeat' first
   | (with_reducible exact ih0 _ _ _)
   | (with_reducible exact ih1 _ _ _ _ _)
   | (with_reducible exact ih2 _ _ _ _ _)
   | (with_reducible exact ih3 _ _ _ _ _ _)
   | (with_reducible exact ih4 _ _ _ _ _)
   | (with_reducible exact ih5 _ _ _ _ _ _ _)
   | (with_reducible exact portref1_luhn.mono _ _)
   | (with_reducible exact LeO.refl _)
   | (with_reducible exact LeO.none _)
   | (with_reducible refine LeO.ite ?_ ?_)
   | (with_reducible refine LeO.bind ?_ (fun _ => ?_))
def portref1_MaskedOf.T14 : Bool × List (List Nat × List Nat) := (true, [([], []), ([], []), ([1], [1]), ([0, 2], [0, 2]), ([], []), ([], []), ([], []), ([], []), ([7], [7]), ([5, 6, 8], [5, 6, 8]), ([4, 9], [4, 9]), ([3, 3, 0, 1, 2, 3], [0, 3]), ([10, 11, 0, 1, 2, 3, 4, 5, 6, 7, 8, 9, 10, 11], [4, 10])])
def portref1_MaskedOf.B14 : List Nat := [0, 0, 2, 7, 0, 0, 0, 0, 128, 480, 1008, 15, 4095]
theorem portref1_MaskedOf.tab14 : rtab .any (opsOf Tryd.f44 14) = portref1_MaskedOf.T14 := by kernel_rfl
theorem portref1_MaskedOf.bits14 : waitsOk portref1_MaskedOf.T14.2 portref1_MaskedOf.B14 = true := by kernel_rfl
set_option maxHeartbeats 8000000 in
set_option maxRecDepth 100000 in
theorem portref1_MaskedOf.calls (k : Nat) (a0 : ByteArray) (r : ByteArray) (w : World) (h : portref1_MaskedOf.f k a0 = some r) :
  Calls Tryd.prog 44 #[.string a0] w fun e w' => e = .returned (.string r) ∧ Below w.heap.size w w' := by
 have HB := Aside0.mk (Below.refl w.heap.size w)
 have H : (if (a0.size : Int) ≤ 140737488355328 then (portref1_MaskedOf.l0 k a0 (numsOf a0) 0) else (none)) = some r := h
 clear h
 by_cases c2 : (a0.size : Int) ≤ 140737488355328
 ·rw [if_pos c2] at H
  have c2b0 := eq_true c2
  have c2b1 : decide ((a0.size : Int) ≤ 140737488355328) = true := decide_eq_true c2
  clear c2
  obtain ⟨y157, hy157⟩ : ∃ y_ : List Int, y_ = (numsOf a0) := ⟨_, rfl⟩
  replace H : (portref1_MaskedOf.l0 k a0 y157 0) = some r := by first | (rw [hy157]; with_reducible exact H) | (have H2_ := (Option.bind_some _ _).symm.trans H; rw [hy157]; with_reducible exact H2_) | (have H2_ := (Option.bind_some _ _).symm.trans H; with_reducible exact H2_) | with_reducible exact H | (rw [hy157]; exact H) | exact H
  have Ny157 := Aside0.mk hy157
  clear hy157
  have H' := Aside0.mk H
  clear H
  go_enter Tryd.func44, Tryd.ntmps44
  go_wp2_with (first | ((with_reducible refine gate_dst (N := 12) rfl ?_); (try (refine gate_guard (by rfl) ?_; dsimp only)); refine Kd.B_conv _ 5 rfl (N := 12) rfl 9 77 _ rfl a0 rfl Tryd.underlying9 Tryd.underlying77 Tryd.underlying5 (ok := fun _ => True) (okp := fun _ => True) (fun _ hk => hk) trivial (of_decide_eq_true (by first | (with_reducible assumption) | assumption)) (Below.refl _ _) (Nat.le_refl _) ?_; intro v158 w3 ho4 hb hg_ hnew_; clear hg_ hnew_; (first | rw [← Ny157.out] at ho4 | (simp only [Int.reduceToNat] at ho4; rw [← Ny157.out] at ho4)); have n0_ := Aside0.mk (Kd.B_lower ho4 (below_size (by repeat (first | (with_reducible first | exact HB.out | apply below_alloc | apply pw_below_drewN | apply below_drew1) | exact HB.out)))); have n1_ := Aside0.mk (below_step (by repeat (first | (with_reducible first | exact HB.out | apply below_alloc | apply pw_below_drewN | apply below_drew1) | exact HB.out)) hb); clear HB; have HO159 := n0_; have HB := n1_; clear n0_ n1_; clear hb ho4))
  go_loopg [4] k (fun kq v4 w' => ∃ (x3_1 : List Int) (x4_1 : Int), v4 = .int .i64 x4_1 ∧ Aside0 (portref1_MaskedOf.l0 kq a0 x3_1 x4_1 = some r) ∧ Aside0 (kq ≤ k) ∧ Aside0 (Kd.B (Kd.int .u8) 5 w' w.heap.size (fun _ => True) v158 x3_1) ∧ Aside0 (Below w.heap.size w w'))
  case atStart => exact ⟨(y157), (0), (by first | rfl | (simp; done) | (simp [*]; done)), H', ⟨Nat.le_refl _⟩, ⟨by (with_reducible repeat (first | apply Kd.B_alloc | apply Kd.B_drewN | apply Kd.B_drew)); exact HO159.out⟩, ⟨by repeat (first | (with_reducible first | exact HB.out | apply below_alloc | apply pw_below_drewN | apply below_drew1) | exact HB.out)⟩⟩
  case round =>
   clear H'
   (try clear c2); (try clear c2b0); (try clear c2b1); (try clear p2); (try clear c4)
   obtain ⟨x3_1, x4_1, rfl, HA, HK1, HO_3, HB⟩ := hrel
   cases gk with
   | zero => exact absurd HA.out (by simp [portref1_MaskedOf.l0])
   | succ k1 =>
    have H := HA.out
    clear HA
    simp only [portref1_MaskedOf.l0] at H
    by_cases c5 : x4_1 < (a0.size : Int)
    ·rw [if_pos c5] at H
     have c5b0 : decide (x4_1 < (a0.size : Int)) = true := decide_eq_true c5
     clear c5
     by_cases c6 : 0 ≤ x4_1
     ·rw [if_pos c6] at H
      have c6b0 : decide (0 ≤ x4_1) = true := decide_eq_true c6
      clear c6
      replace H := Option.bind_eq_some_iff.mp H
      obtain ⟨t160, A80, H⟩ := H
      replace H : (if t160 = true then (if x4_1 ≤ (wrap64 (x4_1 + 1)) then (if (wrap64 (x4_1 + 1)) ≤ (a0.size : Int) then (portref1_MaskedOf.l1 k1 a0 x3_1 (([x4_1] : List Int)) (a0.extract (x4_1 : Int).toNat ((wrap64 (x4_1 + 1)) : Int).toNat) (wrap64 (x4_1 + 1))) else (none)) else (none)) else (portref1_MaskedOf.l0 k1 a0 x3_1 (wrap64 (x4_1 + 1)))) = some r := H
      have A8 := Aside0.mk A80
      clear A80
      by_cases c9 : t160 = true
      ·subst c9
       have H1 : (if x4_1 ≤ (wrap64 (x4_1 + 1)) then (if (wrap64 (x4_1 + 1)) ≤ (a0.size : Int) then (portref1_MaskedOf.l1 k1 a0 x3_1 (([x4_1] : List Int)) (a0.extract (x4_1 : Int).toNat ((wrap64 (x4_1 + 1)) : Int).toNat) (wrap64 (x4_1 + 1))) else (none)) else (none)) = some r := by rw [if_pos rfl] at H; exact H
       clear H
       have H := H1
       clear H1
       obtain ⟨y161, hy161⟩ : ∃ y_ : List Int, y_ = (([x4_1] : List Int)) := ⟨_, rfl⟩
       replace H : (if x4_1 ≤ (wrap64 (x4_1 + 1)) then (if (wrap64 (x4_1 + 1)) ≤ (a0.size : Int) then (portref1_MaskedOf.l1 k1 a0 x3_1 y161 (a0.extract (x4_1 : Int).toNat ((wrap64 (x4_1 + 1)) : Int).toNat) (wrap64 (x4_1 + 1))) else (none)) else (none)) = some r := by first | (rw [hy161]; with_reducible exact H) | (have H2_ := (Option.bind_some _ _).symm.trans H; rw [hy161]; with_reducible exact H2_) | (have H2_ := (Option.bind_some _ _).symm.trans H; with_reducible exact H2_) | with_reducible exact H | (rw [hy161]; exact H) | exact H
       have Ny161 := Aside0.mk hy161
       clear hy161
       have c10b0 := eq_true (of_decide_eq_true (by first | (with_reducible assumption) | assumption) : 0 ≤ x4_1)
       by_cases c11 : x4_1 ≤ (wrap64 (x4_1 + 1))
       ·rw [if_pos c11] at H
        have c11b0 := eq_true c11
        try (have c11w0 := c11; simp only [← i64_w] at c11w0; replace c11w0 := eq_true c11w0)
        have c11b1 : decide (x4_1 ≤ (wrap64 (x4_1 + 1))) = true := decide_eq_true c11
        try (have c11w1 := c11b1; simp only [← i64_w] at c11w1)
        by_cases c12 : (wrap64 (x4_1 + 1)) ≤ (a0.size : Int)
        ·rw [if_pos c12] at H
         have c12b0 := eq_true c12
         try (have c12w0 := c12; simp only [← i64_w] at c12w0; replace c12w0 := eq_true c12w0)
         have c12b1 : decide ((wrap64 (x4_1 + 1)) ≤ (a0.size : Int)) = true := decide_eq_true c12
         try (have c12w1 := c12b1; simp only [← i64_w] at c12w1)
         have HC13 := Aside0.mk H
         clear H
         have p7 : 0 ≤ (x4_1 : Int) := of_decide_eq_true (by first | (with_reducible assumption) | assumption)
         have q7 : x4_1 < (a0.size : Int) := of_decide_eq_true (by first | (with_reducible assumption) | assumption)
         have hx7 := bt_at a0 x4_1
         replace p7 := eq_true p7
         replace q7 := eq_true q7
         go_upto_block 2 with (first | ((with_reducible refine gate_callee (f := 57) rfl ?_); refine goesL_ (some 20) rfl rfl Tryd.func57 (by kernel_rfl) rfl #[.int .u8 (bt a0 x4_1)] rfl (by (try simp only [List.map_toArray, List.map_cons, List.map_nil]); first | done | rfl | (simp only [List.length_drop, List.length_take]; rfl)) ?_; (with_reducible refine (portref1_isDigit.calls (bt a0 x4_1) true _ A8.out).mono ?_); rintro e w' ⟨rfl, ⟨nd, rfl⟩⟩; refine ⟨_, rfl, ?_⟩) | ((with_reducible refine gate_dst (N := 25) rfl ?_); (try (refine gate_guard (by rfl) ?_; dsimp only)); refine Kd.R_lit (Kd.int .i64) _ 3 ?hg (N := 25) ?hd (xs := ([x4_1] : List Int)) (inner := [.int .i64 x4_1]) (ok := fun _ => True) (okp := fun _ => True) ?hr ?hp (fun _ hk => hk) trivial (Below.refl _ _) (Nat.le_refl _) (by simp) ?_; (case hd => rfl); (case hg => rfl); (case hr => first | (go_simp; done) | (go_simp; rfl)); (case hp => exact (Reps.one (show Kd.M (Kd.int .i64) _ _ _ x4_1 [.int .i64 x4_1] from rfl) (Reps.none _ _))); intro v162 w14 ho15 hb hg_ hnew_; clear hg_ hnew_; (first | rw [← Ny161.out] at ho15 | (simp only [Int.reduceToNat] at ho15; rw [← Ny161.out] at ho15)); have n0_ := Aside0.mk (Kd.B_below (by (with_reducible repeat (first | apply Kd.B_alloc | apply Kd.B_drewN | apply Kd.B_drew)); exact HO_3.out) hb); have n1_ := Aside0.mk (Kd.R_lower ho15 (below_size (by repeat (first | (with_reducible first | exact HB.out | apply below_alloc | apply pw_below_drewN | apply below_drew1) | exact HB.out)))); have n2_ := Aside0.mk (below_step (by repeat (first | (with_reducible first | exact HB.out | apply below_alloc | apply pw_below_drewN | apply below_drew1) | exact HB.out)) hb); clear HO_3; clear HB; have HO_3 := n0_; have HO163 := n1_; have HB := n2_; clear n0_ n1_ n2_; clear hb ho15))
         (try simp only [Act.put, List.setIfInBounds_toArray, List.set_cons_zero, List.set_cons_succ])
         go_cut [5, 6, 7] (fun v5 v6 v7 wc => ∃ (kq : Nat) (x5_12 : List Int) (x6_12 : ByteArray) (x7_12 : Int), v6 = .string x6_12 ∧ v7 = .int .i64 x7_12 ∧ Aside0 (portref1_MaskedOf.j3 kq a0 x3_1 x5_12 x6_12 x7_12 = some r) ∧ Aside0 (kq ≤ k1) ∧ Aside0 (Kd.B (Kd.int .u8) 5 wc w.heap.size (fun _ => True) v158 x3_1) ∧ Aside0 (Kd.R (Kd.int .i64) 3 wc w.heap.size (fun _ => True) v5 x5_12) ∧ Aside0 (Below w.heap.size w wc))
         case first =>
          have H := HC13.out
          clear HC13
          have H' := Aside0.mk H
          clear H
          go_wp2
          go_loopg [5, 6, 7] k1 (fun kq v5 v6 v7 w' => ∃ (x5_2 : List Int) (x6_2 : ByteArray) (x7_2 : Int), v6 = .string x6_2 ∧ v7 = .int .i64 x7_2 ∧ Aside0 (portref1_MaskedOf.l1 kq a0 x3_1 x5_2 x6_2 x7_2 = some r) ∧ Aside0 (kq ≤ k1) ∧ Aside0 (Kd.B (Kd.int .u8) 5 w' w.heap.size (fun _ => True) v158 x3_1) ∧ Aside0 (Kd.R (Kd.int .i64) 3 w' w.heap.size (fun _ => True) v5 x5_2) ∧ Aside0 (Below w.heap.size w w'))
          case atStart => exact ⟨(y161), (a0.extract (x4_1 : Int).toNat ((wrap64 (x4_1 + 1)) : Int).toNat), (wrap64 (x4_1 + 1)), (by first | rfl | (simp; done) | (simp [*]; done)), (by first | rfl | (simp; done) | (simp [*]; done)), H', ⟨Nat.le_refl _⟩, ⟨by (with_reducible repeat (first | apply Kd.B_alloc | apply Kd.B_drewN | apply Kd.B_drew)); exact HO_3.out⟩, ⟨by (with_reducible repeat (first | apply Kd.R_alloc | apply Kd.R_drewN | apply Kd.R_drew)); exact HO163.out⟩, ⟨by repeat (first | (with_reducible first | exact HB.out | apply below_alloc | apply pw_below_drewN | apply below_drew1) | exact HB.out)⟩⟩
          case round =>
           clear H'
           (try clear c1); (try clear c2); (try clear c2b0); (try clear c2b1); (try clear p2); (try clear c4); (try clear c5); (try clear c5b0); (try clear c6); (try clear c6b0); (try clear p6); (try clear p7); (try clear q7); (try clear hx7); (try clear c9); (try clear c10); (try clear c10b0); (try clear c11); (try clear c11b0); (try clear c11b1); (try clear c12); (try clear c12b0); (try clear c12b1); (try clear p2); (try clear p7); (try clear q7)
           obtain ⟨x5_2, x6_2, x7_2, rfl, rfl, HA, HK2, HO_3, HO_5, HB⟩ := hrel
           cases gk with
           | zero => exact absurd HA.out (by simp [portref1_MaskedOf.l1])
           | succ k2 =>
            have H := HA.out
            clear HA
            simp only [portref1_MaskedOf.l1] at H
            by_cases c16 : x7_2 < (a0.size : Int)
            ·rw [if_pos c16] at H
             have c16b0 : decide (x7_2 < (a0.size : Int)) = true := decide_eq_true c16
             clear c16
             (first | rw [c16b0] | (simp only [i64_w, i32_w]; rw [c16b0]) | skip)
             have HC17 := Aside0.mk H
             clear H
             go_upto_region 11 with (fail)
             go_cut [47] (fun v47 wc => ∃ (kq : Nat) (x47_16 : Bool), v47 = .bool x47_16 ∧ Aside0 (portref1_MaskedOf.j2 kq a0 x3_1 x5_2 x6_2 x7_2 x7_2 x47_16 = some r) ∧ Aside0 (kq ≤ k2) ∧ Aside0 (Kd.B (Kd.int .u8) 5 wc w.heap.size (fun _ => True) v158 x3_1) ∧ Aside0 (Kd.R (Kd.int .i64) 3 wc w.heap.size (fun _ => True) u5 x5_2) ∧ Aside0 (Below w.heap.size w wc))
             case first =>
              have H := HC17.out
              clear HC17
              by_cases c18 : 0 ≤ x7_2
              ·rw [if_pos c18] at H
               have c18b0 : decide (0 ≤ x7_2) = true := decide_eq_true c18
               clear c18
               (first | rw [c18b0] | (simp only [i64_w, i32_w]; rw [c18b0]) | skip)
               by_cases c20 : (bt a0 x7_2) = 32
               ·rw [if_pos c20] at H
                have c20b0 : ((bt a0 x7_2) == 32) = true := beq_iff_eq.mpr c20
                have c20b1 : ((bt a0 x7_2) != 32) = false := bne_eq_false_iff_eq.mpr c20
                clear c20
                have H' := Aside0.mk H
                clear H
                have p19 : 0 ≤ (x7_2 : Int) := of_decide_eq_true (by first | (with_reducible assumption) | assumption)
                have q19 : x7_2 < (a0.size : Int) := of_decide_eq_true (by first | (with_reducible assumption) | assumption)
                have hx19 := bt_at a0 x7_2
                replace p19 := eq_true p19
                replace q19 := eq_true q19
                go_wp2
                go_meet
                case rel => exact ⟨_, (true), (by first | rfl | (simp; done) | (simp [*]; done)), H', ⟨by have := HK1.out; have := HK2.out; first | omega | exact Nat.le_refl _⟩, ⟨by (with_reducible repeat (first | apply Kd.B_alloc | apply Kd.B_drewN | apply Kd.B_drew)); exact HO_3.out⟩, ⟨by (with_reducible repeat (first | apply Kd.R_alloc | apply Kd.R_drewN | apply Kd.R_drew)); exact HO_5.out⟩, ⟨by repeat (first | (with_reducible first | exact HB.out | apply below_alloc | apply pw_below_drewN | apply below_drew1) | exact HB.out)⟩⟩
               ·rw [if_neg c20] at H
                have c20b0 : ((bt a0 x7_2) == 32) = false := beq_eq_false_iff_ne.mpr c20
                have c20b1 : ((bt a0 x7_2) != 32) = true := bne_iff_ne.mpr c20
                have H' := Aside0.mk H
                clear H
                have p19 : 0 ≤ (x7_2 : Int) := of_decide_eq_true (by first | (with_reducible assumption) | assumption)
                have q19 : x7_2 < (a0.size : Int) := of_decide_eq_true (by first | (with_reducible assumption) | assumption)
                have hx19 := bt_at a0 x7_2
                replace p19 := eq_true p19
                replace q19 := eq_true q19
                have p21 : 0 ≤ (x7_2 : Int) := of_decide_eq_true (by first | (with_reducible assumption) | assumption)
                have q21 : x7_2 < (a0.size : Int) := of_decide_eq_true (by first | (with_reducible assumption) | assumption)
                have hx21 := bt_at a0 x7_2
                replace p21 := eq_true p21
                replace q21 := eq_true q21
                go_wp2
                go_meet
                case rel => exact ⟨_, (((bt a0 x7_2) == 45)), (by first | rfl | (simp; done) | (simp [*]; done)), H', ⟨by have := HK1.out; have := HK2.out; first | omega | exact Nat.le_refl _⟩, ⟨by (with_reducible repeat (first | apply Kd.B_alloc | apply Kd.B_drewN | apply Kd.B_drew)); exact HO_3.out⟩, ⟨by (with_reducible repeat (first | apply Kd.R_alloc | apply Kd.R_drewN | apply Kd.R_drew)); exact HO_5.out⟩, ⟨by repeat (first | (with_reducible first | exact HB.out | apply below_alloc | apply pw_below_drewN | apply below_drew1) | exact HB.out)⟩⟩
              ·rw [if_neg c18] at H
               exact absurd H (by simp)
             case rest =>
              clear HC17
              (try clear c1); (try clear p1); (try clear q1); (try clear hx1); (try clear c2); (try clear c2b0); (try clear c2b1); (try clear p2); (try clear q2); (try clear hx2); (try clear c4); (try clear c5); (try clear c5b0); (try clear c6); (try clear c6b0); (try clear p6); (try clear p7); (try clear q7); (try clear hx7); (try clear c9); (try clear c10); (try clear c10b0); (try clear c11); (try clear c11b0); (try clear c11b1); (try clear c12); (try clear c12b0); (try clear c12b1); (try clear c16); (try clear c16b0); (try clear c18); (try clear c18b0); (try clear p19); (try clear q19); (try clear hx19); (try clear c20); (try clear c20b0); (try clear c20b1); (try clear p21); (try clear q21); (try clear hx21); (try clear p19); (try clear p2); (try clear p21); (try clear p6); (try clear p7); (try clear q19); (try clear q21); (try clear q7)
              obtain ⟨kq, x47_16, rfl, HA, HJ16, HO_3, HO_5, HB⟩ := hcut
              cases kq with
              | zero => exact absurd HA.out (by simp [portref1_MaskedOf.j2])
              | succ kj16 =>
               have H := HA.out
               clear HA
               simp only [portref1_MaskedOf.j2] at H
               by_cases c22 : x47_16 = true
               ·subst c22
                have H1 : (if (wrap64 (x7_2 + 1)) = (a0.size : Int) then (portref1_MaskedOf.j3 kj16 a0 x3_1 x5_2 x6_2 x7_2) else (if 0 ≤ (wrap64 (x7_2 + 1)) then (if (wrap64 (x7_2 + 1)) < (a0.size : Int) then ((portref1_isDigit.f (bt a0 (wrap64 (x7_2 + 1)))).bind fun t164 => (if t164 = true then (if x5_2.length < 17592186044416 then (if (wrap64 (x7_2 + 1)) ≤ (wrap64 ((wrap64 (x7_2 + 1)) + 1)) then (if (wrap64 ((wrap64 (x7_2 + 1)) + 1)) ≤ (a0.size : Int) then (if x6_2.size + (a0.extract ((wrap64 (x7_2 + 1)) : Int).toNat ((wrap64 ((wrap64 (x7_2 + 1)) + 1)) : Int).toNat).size ≤ 9223372036854775807 then (portref1_MaskedOf.l1 kj16 a0 x3_1 (x5_2 ++ [wrap64 (x7_2 + 1)]) (x6_2 ++ (a0.extract ((wrap64 (x7_2 + 1)) : Int).toNat ((wrap64 ((wrap64 (x7_2 + 1)) + 1)) : Int).toNat)) (wrap64 ((wrap64 (x7_2 + 1)) + 1))) else (none)) else (none)) else (none)) else (none)) else (portref1_MaskedOf.j3 kj16 a0 x3_1 x5_2 x6_2 x7_2))) else (none)) else (none))) = some r := by rw [if_pos rfl] at H; exact H
                clear H
                have H := H1
                clear H1
                by_cases c23 : (wrap64 (x7_2 + 1)) = (a0.size : Int)
                ·rw [if_pos c23] at H
                 have c23b0 : ((wrap64 (x7_2 + 1)) == (a0.size : Int)) = true := beq_iff_eq.mpr c23
                 try (have c23w0 := c23b0; simp only [← i64_w] at c23w0)
                 have c23b1 : ((wrap64 (x7_2 + 1)) != (a0.size : Int)) = false := bne_eq_false_iff_eq.mpr c23
                 try (have c23w1 := c23b1; simp only [← i64_w] at c23w1)
                 clear c23
                 have H' := Aside0.mk H
                 clear H
                 go_wp2
                 go_meet
                 case rel => exact ⟨_, (x5_2), (x6_2), (x7_2), (by first | rfl | (simp; done) | (simp [*]; done)), (by first | rfl | (simp; done) | (simp [*]; done)), H', ⟨by have := HK1.out; have := HK2.out; have := HJ16.out; first | omega | exact Nat.le_refl _⟩, ⟨by (with_reducible repeat (first | apply Kd.B_alloc | apply Kd.B_drewN | apply Kd.B_drew)); exact HO_3.out⟩, ⟨by (with_reducible repeat (first | apply Kd.R_alloc | apply Kd.R_drewN | apply Kd.R_drew)); exact HO_5.out⟩, ⟨by repeat (first | (with_reducible first | exact HB.out | apply below_alloc | apply pw_below_drewN | apply below_drew1) | exact HB.out)⟩⟩
                ·rw [if_neg c23] at H
                 have c23b0 : ((wrap64 (x7_2 + 1)) == (a0.size : Int)) = false := beq_eq_false_iff_ne.mpr c23
                 try (have c23w0 := c23b0; simp only [← i64_w] at c23w0)
                 have c23b1 : ((wrap64 (x7_2 + 1)) != (a0.size : Int)) = true := bne_iff_ne.mpr c23
                 try (have c23w1 := c23b1; simp only [← i64_w] at c23w1)
                 obtain ⟨ji24, hji24⟩ : ∃ j_ : Int, (wrap64 (x7_2 + 1)) = j_ := ⟨_, rfl⟩
                 replace H : (if 0 ≤ (ji24) then (if (ji24) < (a0.size : Int) then ((portref1_isDigit.f (bt a0 (ji24))).bind fun t164 => (if t164 = true then (if x5_2.length < 17592186044416 then (if (ji24) ≤ (wrap64 ((ji24) + 1)) then (if (wrap64 ((ji24) + 1)) ≤ (a0.size : Int) then (if x6_2.size + (a0.extract ((ji24) : Int).toNat ((wrap64 ((ji24) + 1)) : Int).toNat).size ≤ 9223372036854775807 then (portref1_MaskedOf.l1 kj16 a0 x3_1 (x5_2 ++ [ji24]) (x6_2 ++ (a0.extract ((ji24) : Int).toNat ((wrap64 ((ji24) + 1)) : Int).toNat)) (wrap64 ((ji24) + 1))) else (none)) else (none)) else (none)) else (none)) else (portref1_MaskedOf.j3 kj16 a0 x3_1 x5_2 x6_2 x7_2))) else (none)) else (none)) = some r := by first | (rw [hji24] at H; exact H) | (simp only [hji24] at H ⊢; exact H)
                 (try rw [hji24] at c23b0)
                 (try rw [hji24] at c23b1)
                 have hji24w : (IntKind.i64.wrap (x7_2 + 1)) = ji24 := (i64_w _).trans hji24
                 by_cases c25 : 0 ≤ (ji24)
                 ·rw [if_pos c25] at H
                  have c25b0 : decide (0 ≤ (ji24)) = true := decide_eq_true c25
                  clear c25
                  by_cases c26 : (ji24) < (a0.size : Int)
                  ·rw [if_pos c26] at H
                   have c26b0 : decide ((ji24) < (a0.size : Int)) = true := decide_eq_true c26
                   clear c26
                   replace H := Option.bind_eq_some_iff.mp H
                   obtain ⟨t164, A280, H⟩ := H
                   replace H : (if t164 = true then (if x5_2.length < 17592186044416 then (if (ji24) ≤ (wrap64 ((ji24) + 1)) then (if (wrap64 ((ji24) + 1)) ≤ (a0.size : Int) then (if x6_2.size + (a0.extract ((ji24) : Int).toNat ((wrap64 ((ji24) + 1)) : Int).toNat).size ≤ 9223372036854775807 then (portref1_MaskedOf.l1 kj16 a0 x3_1 (x5_2 ++ [ji24]) (x6_2 ++ (a0.extract ((ji24) : Int).toNat ((wrap64 ((ji24) + 1)) : Int).toNat)) (wrap64 ((ji24) + 1))) else (none)) else (none)) else (none)) else (none)) else (portref1_MaskedOf.j3 kj16 a0 x3_1 x5_2 x6_2 x7_2)) = some r := H
                   have A28 := Aside0.mk A280
                   clear A280
                   by_cases c29 : t164 = true
                   ·subst c29
                    have H1 : (if x5_2.length < 17592186044416 then (if (ji24) ≤ (wrap64 ((ji24) + 1)) then (if (wrap64 ((ji24) + 1)) ≤ (a0.size : Int) then (if x6_2.size + (a0.extract ((ji24) : Int).toNat ((wrap64 ((ji24) + 1)) : Int).toNat).size ≤ 9223372036854775807 then (portref1_MaskedOf.l1 kj16 a0 x3_1 (x5_2 ++ [ji24]) (x6_2 ++ (a0.extract ((ji24) : Int).toNat ((wrap64 ((ji24) + 1)) : Int).toNat)) (wrap64 ((ji24) + 1))) else (none)) else (none)) else (none)) else (none)) = some r := by rw [if_pos rfl] at H; exact H
                    clear H
                    have H := H1
                    clear H1
                    by_cases c30 : x5_2.length < 17592186044416
                    ·rw [if_pos c30] at H
                     have LMc30 := Aside0.mk c30
                     clear c30
                     obtain ⟨y165, hy165⟩ : ∃ y_ : List Int, y_ = (x5_2 ++ [ji24]) := ⟨_, rfl⟩
                     replace H : (if (ji24) ≤ (wrap64 ((ji24) + 1)) then (if (wrap64 ((ji24) + 1)) ≤ (a0.size : Int) then (if x6_2.size + (a0.extract ((ji24) : Int).toNat ((wrap64 ((ji24) + 1)) : Int).toNat).size ≤ 9223372036854775807 then (portref1_MaskedOf.l1 kj16 a0 x3_1 y165 (x6_2 ++ (a0.extract ((ji24) : Int).toNat ((wrap64 ((ji24) + 1)) : Int).toNat)) (wrap64 ((ji24) + 1))) else (none)) else (none)) else (none)) = some r := by first | (rw [hy165]; with_reducible exact H) | (have H2_ := (Option.bind_some _ _).symm.trans H; rw [hy165]; with_reducible exact H2_) | (have H2_ := (Option.bind_some _ _).symm.trans H; with_reducible exact H2_) | with_reducible exact H | (rw [hy165]; exact H) | exact H
                     have Ny165 := Aside0.mk hy165
                     clear hy165
                     have c31b0 := eq_true (of_decide_eq_true (by first | (with_reducible assumption) | assumption) : 0 ≤ (ji24))
                     by_cases c32 : (ji24) ≤ (wrap64 ((ji24) + 1))
                     ·rw [if_pos c32] at H
                      have c32b0 := eq_true c32
                      try (have c32w0 := c32; simp only [← i64_w] at c32w0; replace c32w0 := eq_true c32w0)
                      have c32b1 : decide ((ji24) ≤ (wrap64 ((ji24) + 1))) = true := decide_eq_true c32
                      try (have c32w1 := c32b1; simp only [← i64_w] at c32w1)
                      by_cases c33 : (wrap64 ((ji24) + 1)) ≤ (a0.size : Int)
                      ·rw [if_pos c33] at H
                       have c33b0 := eq_true c33
                       try (have c33w0 := c33; simp only [← i64_w] at c33w0; replace c33w0 := eq_true c33w0)
                       have c33b1 : decide ((wrap64 ((ji24) + 1)) ≤ (a0.size : Int)) = true := decide_eq_true c33
                       try (have c33w1 := c33b1; simp only [← i64_w] at c33w1)
                       by_cases c34 : x6_2.size + (a0.extract ((ji24) : Int).toNat ((wrap64 ((ji24) + 1)) : Int).toNat).size ≤ 9223372036854775807
                       ·rw [if_pos c34] at H
                        have c34b0 := eq_true c34
                        try (have c34x0 := c34; simp only [ByteArray.size_extract, Nat.min_self] at c34x0; replace c34x0 := eq_true c34x0)
                        try (have c34w0 := c34; simp only [← i64_w] at c34w0; replace c34w0 := eq_true c34w0)
                        have c34b1 : decide (x6_2.size + (a0.extract ((ji24) : Int).toNat ((wrap64 ((ji24) + 1)) : Int).toNat).size ≤ 9223372036854775807) = true := decide_eq_true c34
                        try (have c34x1 := c34b1; simp only [ByteArray.size_extract, Nat.min_self] at c34x1)
                        try (have c34z1 := of_decide_eq_true c34b1; rw [ByteArray.size_extract, Nat.min_eq_left (by have h_ := of_decide_eq_true c33b1; omega)] at c34z1; have c34y1 := eq_false (Nat.not_lt.2 c34z1))
                        try (have c34w1 := c34b1; simp only [← i64_w] at c34w1)
                        try have c34b2 : (9223372036854775807 < x6_2.size + (a0.extract ((ji24) : Int).toNat ((wrap64 ((ji24) + 1)) : Int).toNat).size) = False := eq_false (Nat.not_lt.2 c34)
                        try (have c34b3 := c34; simp at c34b3)
                        have H' := Aside0.mk H
                        clear H
                        have p27 : 0 ≤ ((ji24) : Int) := of_decide_eq_true (by first | (with_reducible assumption) | assumption)
                        have q27 : (ji24) < (a0.size : Int) := of_decide_eq_true (by first | (with_reducible assumption) | assumption)
                        have hx27 := bt_at a0 (ji24)
                        replace p27 := eq_true p27
                        replace q27 := eq_true q27
                        try go_wp2_with (first | (go_at_call 57; (with_reducible refine (portref1_isDigit.calls (bt a0 (ji24)) true _ A28.out).mono ?_); rintro e w' ⟨rfl, ⟨nd, rfl⟩⟩))
                        (try (rw [drewN_self wc]; generalize hq_ : World.drewN wc _ = wc; have n0_ : Aside0 (Kd.B (Kd.int .u8) 5 wc w.heap.size (fun _ => True) v158 x3_1) := ⟨by rw [← hq_]; exact (by (with_reducible repeat (first | apply Kd.B_alloc | apply Kd.B_drewN | apply Kd.B_drew)); exact HO_3.out)⟩; have n1_ : Aside0 (Kd.R (Kd.int .i64) 3 wc w.heap.size (fun _ => True) u5 x5_2) := ⟨by rw [← hq_]; exact (by (with_reducible repeat (first | apply Kd.R_alloc | apply Kd.R_drewN | apply Kd.R_drew)); exact HO_5.out)⟩; have n2_ : Aside0 (Below w.heap.size w wc) := ⟨by rw [← hq_]; exact (by repeat (first | (with_reducible first | exact HB.out | apply below_alloc | apply pw_below_drewN | apply below_drew1) | exact HB.out))⟩; clear HO_3 HO_5 HB hq_; have HO_3 := n0_; have HO_5 := n1_; have HB := n2_; clear n0_ n1_ n2_))
                        have n0_ := Aside0.mk (Kd.B_drew HO_3.out)
                        have n1_ := Aside0.mk (Kd.R_drew HO_5.out)
                        have n2_ := Aside0.mk (below_drew1 HB.out)
                        clear HO_3
                        clear HO_5
                        clear HB
                        have HO_3 := n0_
                        have HO_5 := n1_
                        have HB := n2_
                        clear n0_ n1_ n2_
                        refine start_ (n := 13) (S := fun w' => True) (ds := []) #[false, false, false, false, false, false, false, false, false, false, false, false, false] (by kernel_rfl) rfl rfl trivial (fun hHeld => ?_); refine with_tabW portref1_MaskedOf.tab14 portref1_MaskedOf.bits14 (fun HT_ HW_ => ?_)
                        generalize wc.drew = w35 at HO_3 HO_5 HB hHeld ⊢
                        refine pure_ (i := 0) (N := some 61) (v := ?_) (a' := ?_) #[true, false, false, false, false, false, false, false, false, false, false, false, false] rfl rfl (any_of HT_.out (by kernel_rfl)) (fun _ _ _ h => h) (Or.inl ⟨by rfl, ?_⟩) ?_ ?_
                        rotate_left
                        ·intro w'
                         go_simp
                         with_reducible rfl
                        rotate_left
                        ·simp only [Act.put, List.setIfInBounds_toArray, List.set_cons_zero, List.set_cons_succ, i64_w, i32_w]
                         rfl
                        refine pure_ (i := 1) (N := some 62) (v := ?_) (a' := ?_) #[true, true, false, false, false, false, false, false, false, false, false, false, false] rfl rfl (any_of HT_.out (by kernel_rfl)) (fun _ _ _ h => h) (Or.inl ⟨by rfl, ?_⟩) ?_ ?_
                        rotate_left
                        ·intro w'
                         go_simp
                         with_reducible rfl
                        rotate_left
                        ·simp only [Act.put, List.setIfInBounds_toArray, List.set_cons_zero, List.set_cons_succ, i64_w, i32_w]
                         rfl
                        refine pure_ (i := 4) (N := some 65) (v := ?_) (a' := ?_) #[true, true, false, false, true, false, false, false, false, false, false, false, false] rfl rfl (any_of HT_.out (by kernel_rfl)) (fun _ _ _ h => h) (Or.inl ⟨by rfl, ?_⟩) ?_ ?_
                        rotate_left
                        ·intro w'
                         go_simp
                         with_reducible rfl
                        rotate_left
                        ·simp only [Act.put, List.setIfInBounds_toArray, List.set_cons_zero, List.set_cons_succ, i64_w, i32_w]
                         rfl
                        refine pure_ (i := 5) (N := some 66) (v := ?_) (a' := ?_) #[true, true, false, false, true, true, false, false, false, false, false, false, false] rfl rfl (any_of HT_.out (by kernel_rfl)) (fun _ _ _ h => h) (Or.inl ⟨by rfl, ?_⟩) ?_ ?_
                        rotate_left
                        ·intro w'
                         go_simp
                         with_reducible rfl
                        rotate_left
                        ·simp only [Act.put, List.setIfInBounds_toArray, List.set_cons_zero, List.set_cons_succ, i64_w, i32_w]
                         rfl
                        refine pure_ (i := 6) (N := some 67) (v := ?_) (a' := ?_) #[true, true, false, false, true, true, true, false, false, false, false, false, false] rfl rfl (any_of HT_.out (by kernel_rfl)) (fun _ _ _ h => h) (Or.inl ⟨by rfl, ?_⟩) ?_ ?_
                        rotate_left
                        ·intro w'
                         go_simp
                         with_reducible rfl
                        rotate_left
                        ·simp only [Act.put, List.setIfInBounds_toArray, List.set_cons_zero, List.set_cons_succ, i64_w, i32_w]
                         rfl
                        refine pure_ (i := 7) (N := some 68) (v := ?_) (a' := ?_) #[true, true, false, false, true, true, true, true, false, false, false, false, false] rfl rfl (any_of HT_.out (by kernel_rfl)) (fun _ _ _ h => h) (Or.inl ⟨by rfl, ?_⟩) ?_ ?_
                        rotate_left
                        ·intro w'
                         go_simp
                         with_reducible rfl
                        rotate_left
                        ·simp only [Act.put, List.setIfInBounds_toArray, List.set_cons_zero, List.set_cons_succ, i64_w, i32_w]
                         rfl
                        refine pure_ (i := 8) (N := some 69) (v := ?_) (a' := ?_) #[true, true, false, false, true, true, true, true, true, false, false, false, false] rfl rfl (any_of HT_.out (by kernel_rfl)) (fun _ _ _ h => h) (Or.inl ⟨by rfl, ?_⟩) ?_ ?_
                        rotate_left
                        ·intro w'
                         go_simp
                         with_reducible rfl
                        rotate_left
                        ·simp only [Act.put, List.setIfInBounds_toArray, List.set_cons_zero, List.set_cons_succ, i64_w, i32_w]
                         rfl
                        refine pure_ (i := 9) (N := some 70) (v := ?_) (a' := ?_) #[true, true, false, false, true, true, true, true, true, true, false, false, false] rfl rfl (any_of HT_.out (by kernel_rfl)) (fun _ _ _ h => h) (Or.inl ⟨by rfl, ?_⟩) ?_ ?_
                        rotate_left
                        ·intro w'
                         go_simp
                         with_reducible rfl
                        rotate_left
                        ·simp only [Act.put, List.setIfInBounds_toArray, List.set_cons_zero, List.set_cons_succ, i64_w, i32_w]
                         rfl
                        refine pure_ (i := 10) (N := some 71) (v := ?_) (a' := ?_) #[true, true, false, false, true, true, true, true, true, true, true, false, false] rfl rfl (any_of HT_.out (by kernel_rfl)) (fun _ _ _ h => h) (Or.inl ⟨by rfl, ?_⟩) ?_ ?_
                        rotate_left
                        ·intro w'
                         go_simp
                         with_reducible rfl
                        rotate_left
                        ·simp only [Act.put, List.setIfInBounds_toArray, List.set_cons_zero, List.set_cons_succ, i64_w, i32_w]
                         rfl
                        refine one_ (i := 2) (N := some 63) #[true, true, true, false, true, true, true, true, true, true, true, false, false] rfl rfl (one_of HT_.out (by kernel_rfl)) (by decide) (fun K hK => ?_)
                        refine value_ (w1 := ?_) (v := ?_) (by rfl) rfl ?_ ?_
                        rotate_left 2
                        ·go_simp
                         constructor
                         ·rfl
                         ·rfl
                        refine hK.out _ _ trivial (fun hHeld => ?_)
                        clear hK K
                        refine norm_ (a' := ?_) ?_ ?_
                        rotate_left
                        ·show Act.put _ (some 63) _ = _
                         simp only [Act.put, List.setIfInBounds_toArray, List.set_cons_zero, List.set_cons_succ, i64_w, i32_w]
                         rfl
                        refine one_ (i := 3) (N := some 64) #[true, true, true, true, true, true, true, true, true, true, true, false, false] rfl rfl (one_of HT_.out (by kernel_rfl)) (by decide) (fun K hK => ?_)
                        refine Kd.R_append_step (Kd.int .i64) (w0 := w) w.heap.size (by rfl) (.tmp 61) (.tmp 63) 35 3 (.int .i64 0) 8 rfl Tryd.underlying35 info3 rfl (by decide) (by omega) u5 x5_2 ji24 [.int .i64 ji24] (fun _ => True) (fun _ => False) rfl rfl ?aP (fun _ hk => hk.elim) ?aF ?aO ?aB ?aS ?aL ?_
                        (case aP => exact rfl)
                        (case aB => exact (by repeat (first | (with_reducible first | exact HB.out | apply below_alloc | apply pw_below_drewN | apply below_drew1) | exact HB.out)))
                        (case aF => exact (fun _ _ => trivial))
                        (case aO => exact (by (with_reducible repeat (first | apply Kd.R_alloc | apply Kd.R_drewN | apply Kd.R_drew)); exact HO_5.out))
                        (case aS => exact (below_size (by repeat (first | (with_reducible first | exact HB.out | apply below_alloc | apply pw_below_drewN | apply below_drew1) | exact HB.out))))
                        (case aL => have := LMc30.out; omega)
                        intro v166 w36 ho hb hg hat
                        rw [← Ny165.out] at ho
                        have n0_ := Aside0.mk (Kd.B_over' (by (with_reducible repeat (first | apply Kd.B_alloc | apply Kd.B_drewN | apply Kd.B_drew)); exact HO_3.out) (Kd.R_typed (by (with_reducible repeat (first | apply Kd.R_alloc | apply Kd.R_drewN | apply Kd.R_drew)); exact HO_5.out)) (by decide) hg)
                        have n1_ := Aside0.mk (hb)
                        have n2_ := Aside0.mk (ho)
                        clear HO_3
                        clear HB
                        clear HO_5
                        have HO_3 := n0_
                        have HB := n1_
                        have HO167 := n2_
                        clear n0_ n1_ n2_
                        clear ho hb hg hat
                        refine hK.out _ _ trivial (fun hHeld => ?_)
                        clear hK K
                        refine norm_ (a' := ?_) ?_ ?_
                        rotate_left
                        ·show Act.put _ (some 64) _ = _
                         simp only [Act.put, List.setIfInBounds_toArray, List.set_cons_zero, List.set_cons_succ, i64_w, i32_w]
                         rfl
                        refine pure_ (i := 11) (N := some 5) (v := ?_) (a' := ?_) #[true, true, true, true, true, true, true, true, true, true, true, true, false] rfl rfl (any_of HT_.out (by kernel_rfl)) (fun _ _ _ h => h) (Or.inl ⟨by rfl, ?_⟩) ?_ ?_
                        rotate_left
                        ·intro w'
                         go_simp
                         with_reducible rfl
                        rotate_left
                        ·simp only [Act.put, List.setIfInBounds_toArray, List.set_cons_zero, List.set_cons_succ, i64_w, i32_w]
                         rfl
                        refine pure_ (i := 12) (N := some 6) (v := ?_) (a' := ?_) #[true, true, true, true, true, true, true, true, true, true, true, true, true] rfl rfl (any_of HT_.out (by kernel_rfl)) (fun _ _ _ h => h) (Or.inl ⟨by rfl, ?_⟩) ?_ ?_
                        rotate_left
                        ·intro w'
                         go_simp
                         with_reducible rfl
                        rotate_left
                        ·simp only [Act.put, List.setIfInBounds_toArray, List.set_cons_zero, List.set_cons_succ, i64_w, i32_w]
                         rfl
                        refine done_ (done_of HT_.out (by kernel_rfl)) ?_
                        try go_wp2
                        go_roundg kj16
                        case measure => have := HK1.out; have := HK2.out; have := HJ16.out; omega
                        case rel => exact ⟨(y165), (x6_2 ++ (a0.extract ((ji24) : Int).toNat ((wrap64 ((ji24) + 1)) : Int).toNat)), (wrap64 ((ji24) + 1)), (by first | rfl | (simp; done) | (simp only [← hji24] <;> (first | rfl | simp)) | (simp [*]; done)), (by first | rfl | (simp; done) | (simp only [← hji24] <;> (first | rfl | simp)) | (simp [*]; done)), H', ⟨by have := HK1.out; have := HK2.out; have := HJ16.out; omega⟩, ⟨by (with_reducible repeat (first | apply Kd.B_alloc | apply Kd.B_drewN | apply Kd.B_drew)); exact HO_3.out⟩, ⟨by (with_reducible repeat (first | apply Kd.R_alloc | apply Kd.R_drewN | apply Kd.R_drew)); exact HO167.out⟩, ⟨by repeat (first | (with_reducible first | exact HB.out | apply below_alloc | apply pw_below_drewN | apply below_drew1) | exact HB.out)⟩⟩
                       ·rw [if_neg c34] at H
                        exact absurd H (by simp)
                      ·rw [if_neg c33] at H
                       exact absurd H (by simp)
                     ·rw [if_neg c32] at H
                      exact absurd H (by simp)
                    ·rw [if_neg c30] at H
                     exact absurd H (by simp)
                   ·replace c29 := Bool.eq_false_iff.mpr c29
                    subst c29
                    have H1 : (portref1_MaskedOf.j3 kj16 a0 x3_1 x5_2 x6_2 x7_2) = some r := by rw [if_neg (show ¬ (false = true) by decide)] at H; exact H
                    clear H
                    have H := H1
                    clear H1
                    have H' := Aside0.mk H
                    clear H
                    have p27 : 0 ≤ ((ji24) : Int) := of_decide_eq_true (by first | (with_reducible assumption) | assumption)
                    have q27 : (ji24) < (a0.size : Int) := of_decide_eq_true (by first | (with_reducible assumption) | assumption)
                    have hx27 := bt_at a0 (ji24)
                    replace p27 := eq_true p27
                    replace q27 := eq_true q27
                    go_wp2_with (first | (go_at_call 57; (with_reducible refine (portref1_isDigit.calls (bt a0 (ji24)) false _ A28.out).mono ?_); rintro e w' ⟨rfl, ⟨nd, rfl⟩⟩))
                    go_meet
                    case rel => exact ⟨_, (x5_2), (x6_2), (x7_2), (by first | rfl | (simp; done) | (simp [*]; done)), (by first | rfl | (simp; done) | (simp [*]; done)), H', ⟨by have := HK1.out; have := HK2.out; have := HJ16.out; first | omega | exact Nat.le_refl _⟩, ⟨by (with_reducible repeat (first | apply Kd.B_alloc | apply Kd.B_drewN | apply Kd.B_drew)); exact HO_3.out⟩, ⟨by (with_reducible repeat (first | apply Kd.R_alloc | apply Kd.R_drewN | apply Kd.R_drew)); exact HO_5.out⟩, ⟨by repeat (first | (with_reducible first | exact HB.out | apply below_alloc | apply pw_below_drewN | apply below_drew1) | exact HB.out)⟩⟩
                  ·rw [if_neg c26] at H
                   exact absurd H (by simp)
                 ·rw [if_neg c25] at H
                  exact absurd H (by simp)
               ·replace c22 := Bool.eq_false_iff.mpr c22
                subst c22
                have H1 : (if x7_2 = (a0.size : Int) then (portref1_MaskedOf.j3 kj16 a0 x3_1 x5_2 x6_2 x7_2) else (if 0 ≤ x7_2 then (if x7_2 < (a0.size : Int) then ((portref1_isDigit.f (bt a0 x7_2)).bind fun t168 => (if t168 = true then (if x5_2.length < 17592186044416 then (if x7_2 ≤ (wrap64 (x7_2 + 1)) then (if (wrap64 (x7_2 + 1)) ≤ (a0.size : Int) then (if x6_2.size + (a0.extract (x7_2 : Int).toNat ((wrap64 (x7_2 + 1)) : Int).toNat).size ≤ 9223372036854775807 then (portref1_MaskedOf.l1 kj16 a0 x3_1 (x5_2 ++ [x7_2]) (x6_2 ++ (a0.extract (x7_2 : Int).toNat ((wrap64 (x7_2 + 1)) : Int).toNat)) (wrap64 (x7_2 + 1))) else (none)) else (none)) else (none)) else (none)) else (portref1_MaskedOf.j3 kj16 a0 x3_1 x5_2 x6_2 x7_2))) else (none)) else (none))) = some r := by rw [if_neg (show ¬ (false = true) by decide)] at H; exact H
                clear H
                have H := H1
                clear H1
                by_cases c37 : x7_2 = (a0.size : Int)
                ·rw [if_pos c37] at H
                 have c37b0 : (x7_2 == (a0.size : Int)) = true := beq_iff_eq.mpr c37
                 have c37b1 : (x7_2 != (a0.size : Int)) = false := bne_eq_false_iff_eq.mpr c37
                 clear c37
                 have H' := Aside0.mk H
                 clear H
                 go_wp2
                 go_meet
                 case rel => exact ⟨_, (x5_2), (x6_2), (x7_2), (by first | rfl | (simp; done) | (simp [*]; done)), (by first | rfl | (simp; done) | (simp [*]; done)), H', ⟨by have := HK1.out; have := HK2.out; have := HJ16.out; first | omega | exact Nat.le_refl _⟩, ⟨by (with_reducible repeat (first | apply Kd.B_alloc | apply Kd.B_drewN | apply Kd.B_drew)); exact HO_3.out⟩, ⟨by (with_reducible repeat (first | apply Kd.R_alloc | apply Kd.R_drewN | apply Kd.R_drew)); exact HO_5.out⟩, ⟨by repeat (first | (with_reducible first | exact HB.out | apply below_alloc | apply pw_below_drewN | apply below_drew1) | exact HB.out)⟩⟩
                ·rw [if_neg c37] at H
                 have c37b0 : (x7_2 == (a0.size : Int)) = false := beq_eq_false_iff_ne.mpr c37
                 have c37b1 : (x7_2 != (a0.size : Int)) = true := bne_iff_ne.mpr c37
                 by_cases c38 : 0 ≤ x7_2
                 ·rw [if_pos c38] at H
                  have c38b0 : decide (0 ≤ x7_2) = true := decide_eq_true c38
                  clear c38
                  by_cases c39 : x7_2 < (a0.size : Int)
                  ·rw [if_pos c39] at H
                   have c39b0 : decide (x7_2 < (a0.size : Int)) = true := decide_eq_true c39
                   clear c39
                   replace H := Option.bind_eq_some_iff.mp H
                   obtain ⟨t168, A410, H⟩ := H
                   replace H : (if t168 = true then (if x5_2.length < 17592186044416 then (if x7_2 ≤ (wrap64 (x7_2 + 1)) then (if (wrap64 (x7_2 + 1)) ≤ (a0.size : Int) then (if x6_2.size + (a0.extract (x7_2 : Int).toNat ((wrap64 (x7_2 + 1)) : Int).toNat).size ≤ 9223372036854775807 then (portref1_MaskedOf.l1 kj16 a0 x3_1 (x5_2 ++ [x7_2]) (x6_2 ++ (a0.extract (x7_2 : Int).toNat ((wrap64 (x7_2 + 1)) : Int).toNat)) (wrap64 (x7_2 + 1))) else (none)) else (none)) else (none)) else (none)) else (portref1_MaskedOf.j3 kj16 a0 x3_1 x5_2 x6_2 x7_2)) = some r := H
                   have A41 := Aside0.mk A410
                   clear A410
                   by_cases c42 : t168 = true
                   ·subst c42
                    have H1 : (if x5_2.length < 17592186044416 then (if x7_2 ≤ (wrap64 (x7_2 + 1)) then (if (wrap64 (x7_2 + 1)) ≤ (a0.size : Int) then (if x6_2.size + (a0.extract (x7_2 : Int).toNat ((wrap64 (x7_2 + 1)) : Int).toNat).size ≤ 9223372036854775807 then (portref1_MaskedOf.l1 kj16 a0 x3_1 (x5_2 ++ [x7_2]) (x6_2 ++ (a0.extract (x7_2 : Int).toNat ((wrap64 (x7_2 + 1)) : Int).toNat)) (wrap64 (x7_2 + 1))) else (none)) else (none)) else (none)) else (none)) = some r := by rw [if_pos rfl] at H; exact H
                    clear H
                    have H := H1
                    clear H1
                    by_cases c43 : x5_2.length < 17592186044416
                    ·rw [if_pos c43] at H
                     have LMc43 := Aside0.mk c43
                     clear c43
                     obtain ⟨y169, hy169⟩ : ∃ y_ : List Int, y_ = (x5_2 ++ [x7_2]) := ⟨_, rfl⟩
                     replace H : (if x7_2 ≤ (wrap64 (x7_2 + 1)) then (if (wrap64 (x7_2 + 1)) ≤ (a0.size : Int) then (if x6_2.size + (a0.extract (x7_2 : Int).toNat ((wrap64 (x7_2 + 1)) : Int).toNat).size ≤ 9223372036854775807 then (portref1_MaskedOf.l1 kj16 a0 x3_1 y169 (x6_2 ++ (a0.extract (x7_2 : Int).toNat ((wrap64 (x7_2 + 1)) : Int).toNat)) (wrap64 (x7_2 + 1))) else (none)) else (none)) else (none)) = some r := by first | (rw [hy169]; with_reducible exact H) | (have H2_ := (Option.bind_some _ _).symm.trans H; rw [hy169]; with_reducible exact H2_) | (have H2_ := (Option.bind_some _ _).symm.trans H; with_reducible exact H2_) | with_reducible exact H | (rw [hy169]; exact H) | exact H
                     have Ny169 := Aside0.mk hy169
                     clear hy169
                     have c44b0 := eq_true (of_decide_eq_true (by first | (with_reducible assumption) | assumption) : 0 ≤ x7_2)
                     by_cases c45 : x7_2 ≤ (wrap64 (x7_2 + 1))
                     ·rw [if_pos c45] at H
                      have c45b0 := eq_true c45
                      try (have c45w0 := c45; simp only [← i64_w] at c45w0; replace c45w0 := eq_true c45w0)
                      have c45b1 : decide (x7_2 ≤ (wrap64 (x7_2 + 1))) = true := decide_eq_true c45
                      try (have c45w1 := c45b1; simp only [← i64_w] at c45w1)
                      by_cases c46 : (wrap64 (x7_2 + 1)) ≤ (a0.size : Int)
                      ·rw [if_pos c46] at H
                       have c46b0 := eq_true c46
                       try (have c46w0 := c46; simp only [← i64_w] at c46w0; replace c46w0 := eq_true c46w0)
                       have c46b1 : decide ((wrap64 (x7_2 + 1)) ≤ (a0.size : Int)) = true := decide_eq_true c46
                       try (have c46w1 := c46b1; simp only [← i64_w] at c46w1)
                       by_cases c47 : x6_2.size + (a0.extract (x7_2 : Int).toNat ((wrap64 (x7_2 + 1)) : Int).toNat).size ≤ 9223372036854775807
                       ·rw [if_pos c47] at H
                        have c47b0 := eq_true c47
                        try (have c47x0 := c47; simp only [ByteArray.size_extract, Nat.min_self] at c47x0; replace c47x0 := eq_true c47x0)
                        try (have c47w0 := c47; simp only [← i64_w] at c47w0; replace c47w0 := eq_true c47w0)
                        have c47b1 : decide (x6_2.size + (a0.extract (x7_2 : Int).toNat ((wrap64 (x7_2 + 1)) : Int).toNat).size ≤ 9223372036854775807) = true := decide_eq_true c47
                        try (have c47x1 := c47b1; simp only [ByteArray.size_extract, Nat.min_self] at c47x1)
                        try (have c47z1 := of_decide_eq_true c47b1; rw [ByteArray.size_extract, Nat.min_eq_left (by have h_ := of_decide_eq_true c46b1; omega)] at c47z1; have c47y1 := eq_false (Nat.not_lt.2 c47z1))
                        try (have c47w1 := c47b1; simp only [← i64_w] at c47w1)
                        try have c47b2 : (9223372036854775807 < x6_2.size + (a0.extract (x7_2 : Int).toNat ((wrap64 (x7_2 + 1)) : Int).toNat).size) = False := eq_false (Nat.not_lt.2 c47)
                        try (have c47b3 := c47; simp at c47b3)
                        have H' := Aside0.mk H
                        clear H
                        have p40 : 0 ≤ (x7_2 : Int) := of_decide_eq_true (by first | (with_reducible assumption) | assumption)
                        have q40 : x7_2 < (a0.size : Int) := of_decide_eq_true (by first | (with_reducible assumption) | assumption)
                        have hx40 := bt_at a0 x7_2
                        replace p40 := eq_true p40
                        replace q40 := eq_true q40
                        try go_wp2_with (first | (go_at_call 57; (with_reducible refine (portref1_isDigit.calls (bt a0 x7_2) true _ A41.out).mono ?_); rintro e w' ⟨rfl, ⟨nd, rfl⟩⟩))
                        (try (rw [drewN_self wc]; generalize hq_ : World.drewN wc _ = wc; have n0_ : Aside0 (Kd.B (Kd.int .u8) 5 wc w.heap.size (fun _ => True) v158 x3_1) := ⟨by rw [← hq_]; exact (by (with_reducible repeat (first | apply Kd.B_alloc | apply Kd.B_drewN | apply Kd.B_drew)); exact HO_3.out)⟩; have n1_ : Aside0 (Kd.R (Kd.int .i64) 3 wc w.heap.size (fun _ => True) u5 x5_2) := ⟨by rw [← hq_]; exact (by (with_reducible repeat (first | apply Kd.R_alloc | apply Kd.R_drewN | apply Kd.R_drew)); exact HO_5.out)⟩; have n2_ : Aside0 (Below w.heap.size w wc) := ⟨by rw [← hq_]; exact (by repeat (first | (with_reducible first | exact HB.out | apply below_alloc | apply pw_below_drewN | apply below_drew1) | exact HB.out))⟩; clear HO_3 HO_5 HB hq_; have HO_3 := n0_; have HO_5 := n1_; have HB := n2_; clear n0_ n1_ n2_))
                        have n0_ := Aside0.mk (Kd.B_drew HO_3.out)
                        have n1_ := Aside0.mk (Kd.R_drew HO_5.out)
                        have n2_ := Aside0.mk (below_drew1 HB.out)
                        clear HO_3
                        clear HO_5
                        clear HB
                        have HO_3 := n0_
                        have HO_5 := n1_
                        have HB := n2_
                        clear n0_ n1_ n2_
                        refine start_ (n := 13) (S := fun w' => True) (ds := []) #[false, false, false, false, false, false, false, false, false, false, false, false, false] (by kernel_rfl) rfl rfl trivial (fun hHeld => ?_); refine with_tabW portref1_MaskedOf.tab14 portref1_MaskedOf.bits14 (fun HT_ HW_ => ?_)
                        generalize wc.drew = w48 at HO_3 HO_5 HB hHeld ⊢
                        refine pure_ (i := 0) (N := some 61) (v := ?_) (a' := ?_) #[true, false, false, false, false, false, false, false, false, false, false, false, false] rfl rfl (any_of HT_.out (by kernel_rfl)) (fun _ _ _ h => h) (Or.inl ⟨by rfl, ?_⟩) ?_ ?_
                        rotate_left
                        ·intro w'
                         go_simp
                         with_reducible rfl
                        rotate_left
                        ·simp only [Act.put, List.setIfInBounds_toArray, List.set_cons_zero, List.set_cons_succ, i64_w, i32_w]
                         rfl
                        refine pure_ (i := 1) (N := some 62) (v := ?_) (a' := ?_) #[true, true, false, false, false, false, false, false, false, false, false, false, false] rfl rfl (any_of HT_.out (by kernel_rfl)) (fun _ _ _ h => h) (Or.inl ⟨by rfl, ?_⟩) ?_ ?_
                        rotate_left
                        ·intro w'
                         go_simp
                         with_reducible rfl
                        rotate_left
                        ·simp only [Act.put, List.setIfInBounds_toArray, List.set_cons_zero, List.set_cons_succ, i64_w, i32_w]
                         rfl
                        refine pure_ (i := 4) (N := some 65) (v := ?_) (a' := ?_) #[true, true, false, false, true, false, false, false, false, false, false, false, false] rfl rfl (any_of HT_.out (by kernel_rfl)) (fun _ _ _ h => h) (Or.inl ⟨by rfl, ?_⟩) ?_ ?_
                        rotate_left
                        ·intro w'
                         go_simp
                         with_reducible rfl
                        rotate_left
                        ·simp only [Act.put, List.setIfInBounds_toArray, List.set_cons_zero, List.set_cons_succ, i64_w, i32_w]
                         rfl
                        refine pure_ (i := 5) (N := some 66) (v := ?_) (a' := ?_) #[true, true, false, false, true, true, false, false, false, false, false, false, false] rfl rfl (any_of HT_.out (by kernel_rfl)) (fun _ _ _ h => h) (Or.inl ⟨by rfl, ?_⟩) ?_ ?_
                        rotate_left
                        ·intro w'
                         go_simp
                         with_reducible rfl
                        rotate_left
                        ·simp only [Act.put, List.setIfInBounds_toArray, List.set_cons_zero, List.set_cons_succ, i64_w, i32_w]
                         rfl
                        refine pure_ (i := 6) (N := some 67) (v := ?_) (a' := ?_) #[true, true, false, false, true, true, true, false, false, false, false, false, false] rfl rfl (any_of HT_.out (by kernel_rfl)) (fun _ _ _ h => h) (Or.inl ⟨by rfl, ?_⟩) ?_ ?_
                        rotate_left
                        ·intro w'
                         go_simp
                         with_reducible rfl
                        rotate_left
                        ·simp only [Act.put, List.setIfInBounds_toArray, List.set_cons_zero, List.set_cons_succ, i64_w, i32_w]
                         rfl
                        refine pure_ (i := 7) (N := some 68) (v := ?_) (a' := ?_) #[true, true, false, false, true, true, true, true, false, false, false, false, false] rfl rfl (any_of HT_.out (by kernel_rfl)) (fun _ _ _ h => h) (Or.inl ⟨by rfl, ?_⟩) ?_ ?_
                        rotate_left
                        ·intro w'
                         go_simp
                         with_reducible rfl
                        rotate_left
                        ·simp only [Act.put, List.setIfInBounds_toArray, List.set_cons_zero, List.set_cons_succ, i64_w, i32_w]
                         rfl
                        refine pure_ (i := 8) (N := some 69) (v := ?_) (a' := ?_) #[true, true, false, false, true, true, true, true, true, false, false, false, false] rfl rfl (any_of HT_.out (by kernel_rfl)) (fun _ _ _ h => h) (Or.inl ⟨by rfl, ?_⟩) ?_ ?_
                        rotate_left
                        ·intro w'
                         go_simp
                         with_reducible rfl
                        rotate_left
                        ·simp only [Act.put, List.setIfInBounds_toArray, List.set_cons_zero, List.set_cons_succ, i64_w, i32_w]
                         rfl
                        refine pure_ (i := 9) (N := some 70) (v := ?_) (a' := ?_) #[true, true, false, false, true, true, true, true, true, true, false, false, false] rfl rfl (any_of HT_.out (by kernel_rfl)) (fun _ _ _ h => h) (Or.inl ⟨by rfl, ?_⟩) ?_ ?_
                        rotate_left
                        ·intro w'
                         go_simp
                         with_reducible rfl
                        rotate_left
                        ·simp only [Act.put, List.setIfInBounds_toArray, List.set_cons_zero, List.set_cons_succ, i64_w, i32_w]
                         rfl
                        refine pure_ (i := 10) (N := some 71) (v := ?_) (a' := ?_) #[true, true, false, false, true, true, true, true, true, true, true, false, false] rfl rfl (any_of HT_.out (by kernel_rfl)) (fun _ _ _ h => h) (Or.inl ⟨by rfl, ?_⟩) ?_ ?_
                        rotate_left
                        ·intro w'
                         go_simp
                         with_reducible rfl
                        rotate_left
                        ·simp only [Act.put, List.setIfInBounds_toArray, List.set_cons_zero, List.set_cons_succ, i64_w, i32_w]
                         rfl
                        refine one_ (i := 2) (N := some 63) #[true, true, true, false, true, true, true, true, true, true, true, false, false] rfl rfl (one_of HT_.out (by kernel_rfl)) (by decide) (fun K hK => ?_)
                        refine value_ (w1 := ?_) (v := ?_) (by rfl) rfl ?_ ?_
                        rotate_left 2
                        ·go_simp
                         constructor
                         ·rfl
                         ·rfl
                        refine hK.out _ _ trivial (fun hHeld => ?_)
                        clear hK K
                        refine norm_ (a' := ?_) ?_ ?_
                        rotate_left
                        ·show Act.put _ (some 63) _ = _
                         simp only [Act.put, List.setIfInBounds_toArray, List.set_cons_zero, List.set_cons_succ, i64_w, i32_w]
                         rfl
                        refine one_ (i := 3) (N := some 64) #[true, true, true, true, true, true, true, true, true, true, true, false, false] rfl rfl (one_of HT_.out (by kernel_rfl)) (by decide) (fun K hK => ?_)
                        refine Kd.R_append_step (Kd.int .i64) (w0 := w) w.heap.size (by rfl) (.tmp 61) (.tmp 63) 35 3 (.int .i64 0) 8 rfl Tryd.underlying35 info3 rfl (by decide) (by omega) u5 x5_2 x7_2 [.int .i64 x7_2] (fun _ => True) (fun _ => False) rfl rfl ?aP (fun _ hk => hk.elim) ?aF ?aO ?aB ?aS ?aL ?_
                        (case aP => exact rfl)
                        (case aB => exact (by repeat (first | (with_reducible first | exact HB.out | apply below_alloc | apply pw_below_drewN | apply below_drew1) | exact HB.out)))
                        (case aF => exact (fun _ _ => trivial))
                        (case aO => exact (by (with_reducible repeat (first | apply Kd.R_alloc | apply Kd.R_drewN | apply Kd.R_drew)); exact HO_5.out))
                        (case aS => exact (below_size (by repeat (first | (with_reducible first | exact HB.out | apply below_alloc | apply pw_below_drewN | apply below_drew1) | exact HB.out))))
                        (case aL => have := LMc43.out; omega)
                        intro v170 w49 ho hb hg hat
                        rw [← Ny169.out] at ho
                        have n0_ := Aside0.mk (Kd.B_over' (by (with_reducible repeat (first | apply Kd.B_alloc | apply Kd.B_drewN | apply Kd.B_drew)); exact HO_3.out) (Kd.R_typed (by (with_reducible repeat (first | apply Kd.R_alloc | apply Kd.R_drewN | apply Kd.R_drew)); exact HO_5.out)) (by decide) hg)
                        have n1_ := Aside0.mk (hb)
                        have n2_ := Aside0.mk (ho)
                        clear HO_3
                        clear HB
                        clear HO_5
                        have HO_3 := n0_
                        have HB := n1_
                        have HO171 := n2_
                        clear n0_ n1_ n2_
                        clear ho hb hg hat
                        refine hK.out _ _ trivial (fun hHeld => ?_)
                        clear hK K
                        refine norm_ (a' := ?_) ?_ ?_
                        rotate_left
                        ·show Act.put _ (some 64) _ = _
                         simp only [Act.put, List.setIfInBounds_toArray, List.set_cons_zero, List.set_cons_succ, i64_w, i32_w]
                         rfl
                        refine pure_ (i := 11) (N := some 5) (v := ?_) (a' := ?_) #[true, true, true, true, true, true, true, true, true, true, true, true, false] rfl rfl (any_of HT_.out (by kernel_rfl)) (fun _ _ _ h => h) (Or.inl ⟨by rfl, ?_⟩) ?_ ?_
                        rotate_left
                        ·intro w'
                         go_simp
                         with_reducible rfl
                        rotate_left
                        ·simp only [Act.put, List.setIfInBounds_toArray, List.set_cons_zero, List.set_cons_succ, i64_w, i32_w]
                         rfl
                        refine pure_ (i := 12) (N := some 6) (v := ?_) (a' := ?_) #[true, true, true, true, true, true, true, true, true, true, true, true, true] rfl rfl (any_of HT_.out (by kernel_rfl)) (fun _ _ _ h => h) (Or.inl ⟨by rfl, ?_⟩) ?_ ?_
                        rotate_left
                        ·intro w'
                         go_simp
                         with_reducible rfl
                        rotate_left
                        ·simp only [Act.put, List.setIfInBounds_toArray, List.set_cons_zero, List.set_cons_succ, i64_w, i32_w]
                         rfl
                        refine done_ (done_of HT_.out (by kernel_rfl)) ?_
                        try go_wp2
                        go_roundg kj16
                        case measure => have := HK1.out; have := HK2.out; have := HJ16.out; omega
                        case rel => exact ⟨(y169), (x6_2 ++ (a0.extract (x7_2 : Int).toNat ((wrap64 (x7_2 + 1)) : Int).toNat)), (wrap64 (x7_2 + 1)), (by first | rfl | (simp; done) | (simp [*]; done)), (by first | rfl | (simp; done) | (simp [*]; done)), H', ⟨by have := HK1.out; have := HK2.out; have := HJ16.out; omega⟩, ⟨by (with_reducible repeat (first | apply Kd.B_alloc | apply Kd.B_drewN | apply Kd.B_drew)); exact HO_3.out⟩, ⟨by (with_reducible repeat (first | apply Kd.R_alloc | apply Kd.R_drewN | apply Kd.R_drew)); exact HO171.out⟩, ⟨by repeat (first | (with_reducible first | exact HB.out | apply below_alloc | apply pw_below_drewN | apply below_drew1) | exact HB.out)⟩⟩
                       ·rw [if_neg c47] at H
                        exact absurd H (by simp)
                      ·rw [if_neg c46] at H
                       exact absurd H (by simp)
                     ·rw [if_neg c45] at H
                      exact absurd H (by simp)
                    ·rw [if_neg c43] at H
                     exact absurd H (by simp)
                   ·replace c42 := Bool.eq_false_iff.mpr c42
                    subst c42
                    have H1 : (portref1_MaskedOf.j3 kj16 a0 x3_1 x5_2 x6_2 x7_2) = some r := by rw [if_neg (show ¬ (false = true) by decide)] at H; exact H
                    clear H
                    have H := H1
                    clear H1
                    have H' := Aside0.mk H
                    clear H
                    have p40 : 0 ≤ (x7_2 : Int) := of_decide_eq_true (by first | (with_reducible assumption) | assumption)
                    have q40 : x7_2 < (a0.size : Int) := of_decide_eq_true (by first | (with_reducible assumption) | assumption)
                    have hx40 := bt_at a0 x7_2
                    replace p40 := eq_true p40
                    replace q40 := eq_true q40
                    go_wp2_with (first | (go_at_call 57; (with_reducible refine (portref1_isDigit.calls (bt a0 x7_2) false _ A41.out).mono ?_); rintro e w' ⟨rfl, ⟨nd, rfl⟩⟩))
                    go_meet
                    case rel => exact ⟨_, (x5_2), (x6_2), (x7_2), (by first | rfl | (simp; done) | (simp [*]; done)), (by first | rfl | (simp; done) | (simp [*]; done)), H', ⟨by have := HK1.out; have := HK2.out; have := HJ16.out; first | omega | exact Nat.le_refl _⟩, ⟨by (with_reducible repeat (first | apply Kd.B_alloc | apply Kd.B_drewN | apply Kd.B_drew)); exact HO_3.out⟩, ⟨by (with_reducible repeat (first | apply Kd.R_alloc | apply Kd.R_drewN | apply Kd.R_drew)); exact HO_5.out⟩, ⟨by repeat (first | (with_reducible first | exact HB.out | apply below_alloc | apply pw_below_drewN | apply below_drew1) | exact HB.out)⟩⟩
                  ·rw [if_neg c39] at H
                   exact absurd H (by simp)
                 ·rw [if_neg c38] at H
                  exact absurd H (by simp)
            ·rw [if_neg c16] at H
             have c16b0 : decide (x7_2 < (a0.size : Int)) = false := decide_eq_false c16
             clear c16
             (first | rw [c16b0] | (simp only [i64_w, i32_w]; rw [c16b0]) | skip)
             have H' := Aside0.mk H
             clear H
             go_wp2
             go_meet
             case rel => exact ⟨_, (x5_2), (x6_2), (x7_2), (by first | rfl | (simp; done) | (simp [*]; done)), (by first | rfl | (simp; done) | (simp [*]; done)), H', ⟨by have := HK1.out; have := HK2.out; first | omega | exact Nat.le_refl _⟩, ⟨by (with_reducible repeat (first | apply Kd.B_alloc | apply Kd.B_drewN | apply Kd.B_drew)); exact HO_3.out⟩, ⟨by (with_reducible repeat (first | apply Kd.R_alloc | apply Kd.R_drewN | apply Kd.R_drew)); exact HO_5.out⟩, ⟨by repeat (first | (with_reducible first | exact HB.out | apply below_alloc | apply pw_below_drewN | apply below_drew1) | exact HB.out)⟩⟩
         case rest =>
          clear HC13
          (try clear c1); (try clear p1); (try clear q1); (try clear hx1); (try clear c2); (try clear c2b0); (try clear c2b1); (try clear p2); (try clear q2); (try clear hx2); (try clear c3); (try clear c4); (try clear p4); (try clear q4); (try clear hx4); (try clear c5); (try clear c5b0); (try clear c6); (try clear c6b0); (try clear p6); (try clear p7); (try clear q7); (try clear hx7); (try clear c9); (try clear c10); (try clear c10b0); (try clear c11); (try clear c11b0); (try clear c11b1); (try clear c12); (try clear c12b0); (try clear c12b1); (try clear c16); (try clear c16b0); (try clear c18); (try clear c18b0); (try clear p19); (try clear q19); (try clear hx19); (try clear c20); (try clear c20b0); (try clear c20b1); (try clear p21); (try clear q21); (try clear hx21); (try clear c22); (try clear c23); (try clear c23b0); (try clear c23b1); (try clear c25); (try clear c25b0); (try clear c26); (try clear c26b0); (try clear p27); (try clear q27); (try clear hx27); (try clear c29); (try clear c30); (try clear c31); (try clear c31b0); (try clear c32); (try clear c32b0); (try clear c32b1); (try clear c33); (try clear c33b0); (try clear c33b1); (try clear c34); (try clear c34b0); (try clear c34b1); (try clear c34b2); (try clear c37); (try clear c37b0); (try clear c37b1); (try clear c38); (try clear c38b0); (try clear c39); (try clear c39b0); (try clear p40); (try clear q40); (try clear hx40); (try clear c42); (try clear c43); (try clear c44); (try clear c44b0); (try clear c45); (try clear c45b0); (try clear c45b1); (try clear c46); (try clear c46b0); (try clear c46b1); (try clear c47); (try clear c47b0); (try clear c47b1); (try clear c47b2); (try clear p1); (try clear p19); (try clear p2); (try clear p21); (try clear p27); (try clear p40); (try clear p6); (try clear p7); (try clear q1); (try clear q19); (try clear q2); (try clear q21); (try clear q27); (try clear q40); (try clear q7)
          obtain ⟨kq, x5_12, x6_12, x7_12, rfl, rfl, HA, HJ12, HO_3, HO_5, HB⟩ := hcut
          cases kq with
          | zero => exact absurd HA.out (by simp [portref1_MaskedOf.j3])
          | succ kj12 =>
           have H := HA.out
           clear HA
           simp only [portref1_MaskedOf.j3] at H
           have HC50 := Aside0.mk H
           clear H
           go_upto_region 16 with (fail)
           go_cut [85] (fun v85 wc => ∃ (kq : Nat) (x85_49 : Bool), v85 = .bool x85_49 ∧ Aside0 (portref1_MaskedOf.j4 kq a0 x3_1 x5_12 x7_12 x85_49 = some r) ∧ Aside0 (kq ≤ kj12) ∧ Aside0 (Kd.B (Kd.int .u8) 5 wc w.heap.size (fun _ => True) v158 x3_1) ∧ Aside0 (Kd.R (Kd.int .i64) 3 wc w.heap.size (fun _ => True) u5 x5_12) ∧ Aside0 (Below w.heap.size w wc))
           case first =>
            have H := HC50.out
            clear HC50
            by_cases c51 : (x5_12.length : Int) ≥ 13
            ·rw [if_pos c51] at H
             have c51b0 : decide (13 ≤ (x5_12.length : Int)) = true := decide_eq_true c51
             have c51b1 : decide (13 ≤ x5_12.length) = true := decide_eq_true (by omega)
             clear c51
             (first | rw [c51b0] | (simp only [i64_w, i32_w]; rw [c51b0]) | skip)
             by_cases c52 : (x5_12.length : Int) ≤ 19
             ·rw [if_pos c52] at H
              have c52b0 : decide ((x5_12.length : Int) ≤ 19) = true := decide_eq_true c52
              have c52b1 : decide (x5_12.length ≤ 19) = true := decide_eq_true (by omega)
              clear c52
              replace H := Option.bind_eq_some_iff.mp H
              obtain ⟨t172, A530, H⟩ := H
              replace H : (portref1_MaskedOf.j4 kj12 a0 x3_1 x5_12 x7_12 t172) = some r := H
              have A53 := Aside0.mk A530
              clear A530
              have H' := Aside0.mk H
              clear H
              obtain ⟨Ao54, co54, eo54⟩ := Kd.R_slice HO_5.out
              subst eo54
              go_wp2_with (first | (go_at_call 97; (with_reducible refine (portref1_luhn.calls kj12 x6_12 t172 _ A53.out).mono ?_); rintro e w' ⟨rfl, ⟨nd, rfl⟩⟩))
              go_meet
              case rel => exact ⟨_, (t172), (by first | rfl | (simp; done) | (simp [*]; done)), H', ⟨by have := HK1.out; have := HJ12.out; first | omega | exact Nat.le_refl _⟩, ⟨by (with_reducible repeat (first | apply Kd.B_alloc | apply Kd.B_drewN | apply Kd.B_drew)); exact HO_3.out⟩, ⟨by (with_reducible repeat (first | apply Kd.R_alloc | apply Kd.R_drewN | apply Kd.R_drew)); exact HO_5.out⟩, ⟨by repeat (first | (with_reducible first | exact HB.out | apply below_alloc | apply pw_below_drewN | apply below_drew1) | exact HB.out)⟩⟩
             ·rw [if_neg c52] at H
              have c52b0 : decide ((x5_12.length : Int) ≤ 19) = false := decide_eq_false c52
              have c52b1 : decide (x5_12.length ≤ 19) = false := decide_eq_false (by omega)
              clear c52
              have H' := Aside0.mk H
              clear H
              obtain ⟨Ao55, co55, eo55⟩ := Kd.R_slice HO_5.out
              subst eo55
              go_wp2
              go_meet
              case rel => exact ⟨_, (false), (by first | rfl | (simp; done) | (simp [*]; done)), H', ⟨by have := HK1.out; have := HJ12.out; first | omega | exact Nat.le_refl _⟩, ⟨by (with_reducible repeat (first | apply Kd.B_alloc | apply Kd.B_drewN | apply Kd.B_drew)); exact HO_3.out⟩, ⟨by (with_reducible repeat (first | apply Kd.R_alloc | apply Kd.R_drewN | apply Kd.R_drew)); exact HO_5.out⟩, ⟨by repeat (first | (with_reducible first | exact HB.out | apply below_alloc | apply pw_below_drewN | apply below_drew1) | exact HB.out)⟩⟩
            ·rw [if_neg c51] at H
             have c51b0 : decide (13 ≤ (x5_12.length : Int)) = false := decide_eq_false c51
             have c51b1 : decide (13 ≤ x5_12.length) = false := decide_eq_false (by omega)
             clear c51
             (first | rw [c51b0] | (simp only [i64_w, i32_w]; rw [c51b0]) | skip)
             have H' := Aside0.mk H
             clear H
             obtain ⟨Ao56, co56, eo56⟩ := Kd.R_slice HO_5.out
             subst eo56
             go_wp2
             go_meet
             case rel => exact ⟨_, (false), (by first | rfl | (simp; done) | (simp [*]; done)), H', ⟨by have := HK1.out; have := HJ12.out; first | omega | exact Nat.le_refl _⟩, ⟨by (with_reducible repeat (first | apply Kd.B_alloc | apply Kd.B_drewN | apply Kd.B_drew)); exact HO_3.out⟩, ⟨by (with_reducible repeat (first | apply Kd.R_alloc | apply Kd.R_drewN | apply Kd.R_drew)); exact HO_5.out⟩, ⟨by repeat (first | (with_reducible first | exact HB.out | apply below_alloc | apply pw_below_drewN | apply below_drew1) | exact HB.out)⟩⟩
           case rest =>
            clear HC50
            (try clear c1); (try clear p1); (try clear q1); (try clear hx1); (try clear c2); (try clear c2b0); (try clear c2b1); (try clear p2); (try clear q2); (try clear hx2); (try clear c3); (try clear c4); (try clear p4); (try clear q4); (try clear hx4); (try clear c5); (try clear c5b0); (try clear c6); (try clear c6b0); (try clear p6); (try clear p7); (try clear q7); (try clear hx7); (try clear c9); (try clear c10); (try clear c10b0); (try clear c11); (try clear c11b0); (try clear c11b1); (try clear c12); (try clear c12b0); (try clear c12b1); (try clear c16); (try clear c16b0); (try clear c18); (try clear c18b0); (try clear p19); (try clear q19); (try clear hx19); (try clear c20); (try clear c20b0); (try clear c20b1); (try clear p21); (try clear q21); (try clear hx21); (try clear c22); (try clear c23); (try clear c23b0); (try clear c23b1); (try clear c25); (try clear c25b0); (try clear c26); (try clear c26b0); (try clear p27); (try clear q27); (try clear hx27); (try clear c29); (try clear c30); (try clear c31); (try clear c31b0); (try clear c32); (try clear c32b0); (try clear c32b1); (try clear c33); (try clear c33b0); (try clear c33b1); (try clear c34); (try clear c34b0); (try clear c34b1); (try clear c34b2); (try clear c37); (try clear c37b0); (try clear c37b1); (try clear c38); (try clear c38b0); (try clear c39); (try clear c39b0); (try clear p40); (try clear q40); (try clear hx40); (try clear c42); (try clear c43); (try clear c44); (try clear c44b0); (try clear c45); (try clear c45b0); (try clear c45b1); (try clear c46); (try clear c46b0); (try clear c46b1); (try clear c47); (try clear c47b0); (try clear c47b1); (try clear c47b2); (try clear c51); (try clear c51b0); (try clear c51b1); (try clear c52); (try clear c52b0); (try clear c52b1); (try clear p1); (try clear p19); (try clear p2); (try clear p21); (try clear p27); (try clear p4); (try clear p40); (try clear p6); (try clear p7); (try clear q1); (try clear q19); (try clear q2); (try clear q21); (try clear q27); (try clear q4); (try clear q40); (try clear q7)
            obtain ⟨kq, x85_49, rfl, HA, HJ49, HO_3, HO_5, HB⟩ := hcut
            cases kq with
            | zero => exact absurd HA.out (by simp [portref1_MaskedOf.j4])
            | succ kj49 =>
             have H := HA.out
             clear HA
             simp only [portref1_MaskedOf.j4] at H
             by_cases c57 : x85_49 = true
             ·subst c57
              have H1 : (if 0 ≤ (wrap64 ((x5_12.length : Int) - 4)) then (if (wrap64 ((x5_12.length : Int) - 4)) ≤ (x5_12.length : Int) then ((some (x5_12.take ((wrap64 ((x5_12.length : Int) - 4)) : Int).toNat : List Int)).bind fun y173 => (portref1_MaskedOf.l2 kj49 a0 x3_1 x7_12 y173 (y173.length : Int) 0)) else (none)) else (none)) = some r := by rw [if_pos rfl] at H; exact H
              clear H
              have H := H1
              clear H1
              obtain ⟨ji58, hji58⟩ : ∃ j_ : Int, (wrap64 ((x5_12.length : Int) - 4)) = j_ := ⟨_, rfl⟩
              replace H : (if 0 ≤ (ji58) then (if (ji58) ≤ (x5_12.length : Int) then ((some (x5_12.take ((ji58) : Int).toNat : List Int)).bind fun y173 => (portref1_MaskedOf.l2 kj49 a0 x3_1 x7_12 y173 (y173.length : Int) 0)) else (none)) else (none)) = some r := by first | (rw [hji58] at H; exact H) | (simp only [hji58] at H ⊢; exact H)
              have hji58w : (IntKind.i64.wrap ((x5_12.length : Int) - 4)) = ji58 := (i64_w _).trans hji58
              by_cases c59 : 0 ≤ (ji58)
              ·rw [if_pos c59] at H
               have c59b0 := eq_true c59
               have c59b1 : decide (0 ≤ (ji58)) = true := decide_eq_true c59
               clear c59
               by_cases c60 : (ji58) ≤ (x5_12.length : Int)
               ·rw [if_pos c60] at H
                have c60b0 := eq_true c60
                have c60b1 : decide ((ji58) ≤ (x5_12.length : Int)) = true := decide_eq_true c60
                clear c60
                obtain ⟨y173, hy173⟩ : ∃ y_ : List Int, y_ = (x5_12.take ((ji58) : Int).toNat) := ⟨_, rfl⟩
                replace H : (portref1_MaskedOf.l2 kj49 a0 x3_1 x7_12 y173 (y173.length : Int) 0) = some r := by first | (rw [hy173]; with_reducible exact H) | (have H2_ := (Option.bind_some _ _).symm.trans H; rw [hy173]; with_reducible exact H2_) | (have H2_ := (Option.bind_some _ _).symm.trans H; with_reducible exact H2_) | with_reducible exact H | (rw [hy173]; exact H) | exact H
                have Ny173 := Aside0.mk hy173
                clear hy173
                have H' := Aside0.mk H
                clear H
                obtain ⟨Ao61, co61, eo61⟩ := Kd.R_slice HO_5.out
                subst eo61
                have q62 : ((ji58) : Int) ≤ ((x5_12.length : Int) : Int) := of_decide_eq_true (by first | (with_reducible assumption) | assumption)
                obtain ⟨i062, hi062, _, hsz62, _⟩ := info_parts info3
                have hroom62 : x5_12.length ≤ co61 := (Kd.R_reads' HO_5.out).2.1
                have hC62 : Kd.C (Kd.int .i64) _ Ao61 x5_12.length x5_12 := (Kd.R_reads' HO_5.out).2.2
                have hcut62 := cut_to (P := Tryd.prog) 35 3 .i64 Tryd.underlying35 hi062 Ao61 x5_12.length co61 (ji58) (of_decide_eq_true (by first | (with_reducible assumption) | assumption)) q62 hroom62
                have hr62 := Kd.C_take (m := ((ji58) : Int).toNat) hC62 (by omega)
                have hy62 : y173.length = ((ji58) : Int).toNat := (by rw [Ny173.out, List.length_take]; omega)
                rw [← Ny173.out] at hr62
                rw [← hy62] at hcut62
                have HR176 := Aside0.mk hr62
                have HC176 := Aside0.mk (show y173.length ≤ co61 from by omega)
                clear hr62 hC62 hroom62 hi062 hsz62
                have KY62 := Aside0.mk hy62
                clear hy62
                have KL62 := Aside0.mk (show ((ji58) : Int).toNat ≤ x5_12.length from by omega)
                replace q62 := eq_true q62
                go_wp2
                go_loopg [92] kj49 (fun kq v92 w' => ∃ (x3_4 : List Int) (x92_4 : Int), v92 = .int .i64 x92_4 ∧ Aside0 (portref1_MaskedOf.l2 kq a0 x3_4 x7_12 y173 (y173.length : Int) x92_4 = some r) ∧ Aside0 (kq ≤ kj49) ∧ Aside0 (Kd.B (Kd.int .u8) 5 w' w.heap.size (fun _ => True) v158 x3_4) ∧ Aside0 (Kd.R (Kd.int .i64) 3 w' w.heap.size (fun _ => True) (.slice Ao61 x5_12.length co61) x5_12) ∧ Aside0 (Kd.C (Kd.int .i64) w' Ao61 y173.length y173) ∧ Aside0 (Below w.heap.size w w'))
                case atStart => exact ⟨(x3_1), (0), (by first | rfl | (simp; done) | (simp [*]; done)), H', ⟨Nat.le_refl _⟩, ⟨by (with_reducible repeat (first | apply Kd.B_alloc | apply Kd.B_drewN | apply Kd.B_drew)); exact HO_3.out⟩, ⟨by (with_reducible repeat (first | apply Kd.R_alloc | apply Kd.R_drewN | apply Kd.R_drew)); exact HO_5.out⟩, ⟨by repeat (first | (with_reducible exact HR176.out) | (with_reducible refine Kd.C_alloc ?_ _) | (with_reducible refine Kd.C_drewN ?_ _) | (with_reducible refine Kd.C_drew ?_) | exact HR176.out)⟩, ⟨by repeat (first | (with_reducible first | exact HB.out | apply below_alloc | apply pw_below_drewN | apply below_drew1) | exact HB.out)⟩⟩
                case round =>
                 clear H'
                 (try clear c1); (try clear p1); (try clear q1); (try clear hx1); (try clear c2); (try clear c2b0); (try clear c2b1); (try clear p2); (try clear q2); (try clear hx2); (try clear c3); (try clear c4); (try clear p4); (try clear q4); (try clear hx4); (try clear c5); (try clear c5b0); (try clear c6); (try clear c6b0); (try clear p6); (try clear q6); (try clear p7); (try clear q7); (try clear hx7); (try clear c9); (try clear c10); (try clear c10b0); (try clear c11); (try clear c11b0); (try clear c11b1); (try clear c12); (try clear c12b0); (try clear c12b1); (try clear c16); (try clear c16b0); (try clear c18); (try clear c18b0); (try clear p19); (try clear q19); (try clear hx19); (try clear c20); (try clear c20b0); (try clear c20b1); (try clear p21); (try clear q21); (try clear hx21); (try clear c22); (try clear c23); (try clear c23b0); (try clear c23b1); (try clear c25); (try clear c25b0); (try clear c26); (try clear c26b0); (try clear p27); (try clear q27); (try clear hx27); (try clear c29); (try clear c30); (try clear c31); (try clear c31b0); (try clear c32); (try clear c32b0); (try clear c32b1); (try clear c33); (try clear c33b0); (try clear c33b1); (try clear c34); (try clear c34b0); (try clear c34b1); (try clear c34b2); (try clear c37); (try clear c37b0); (try clear c37b1); (try clear c38); (try clear c38b0); (try clear c39); (try clear c39b0); (try clear p40); (try clear q40); (try clear hx40); (try clear c42); (try clear c43); (try clear c44); (try clear c44b0); (try clear c45); (try clear c45b0); (try clear c45b1); (try clear c46); (try clear c46b0); (try clear c46b1); (try clear c47); (try clear c47b0); (try clear c47b1); (try clear c47b2); (try clear c51); (try clear c51b0); (try clear c51b1); (try clear c52); (try clear c52b0); (try clear c52b1); (try clear c57); (try clear c59); (try clear c59b0); (try clear c59b1); (try clear c60); (try clear c60b0); (try clear c60b1); (try clear q62); (try clear p1); (try clear p19); (try clear p2); (try clear p21); (try clear p27); (try clear p4); (try clear p40); (try clear p6); (try clear p7); (try clear q1); (try clear q19); (try clear q2); (try clear q21); (try clear q27); (try clear q4); (try clear q40); (try clear q62); (try clear q7)
                 obtain ⟨x3_4, x92_4, rfl, HA, HK4, HO_3, HO_5, HR176, HB⟩ := hrel
                 cases gk with
                 | zero => exact absurd HA.out (by simp [portref1_MaskedOf.l2])
                 | succ k4 =>
                  have H := HA.out
                  clear HA
                  simp only [portref1_MaskedOf.l2] at H
                  by_cases c63 : x92_4 < (y173.length : Int)
                  ·rw [if_pos c63] at H
                   have c63b0 : decide (x92_4 < (y173.length : Int)) = true := decide_eq_true c63
                   clear c63
                   by_cases c64 : 0 ≤ x92_4
                   ·rw [if_pos c64] at H
                    have c64b0 : decide (0 ≤ x92_4) = true := decide_eq_true c64
                    clear c64
                    by_cases c65 : x92_4 < (y173.length : Int)
                    ·rw [if_pos c65] at H
                     have c65b0 : decide (x92_4 < (y173.length : Int)) = true := decide_eq_true c65
                     clear c65
                     by_cases c66 : 0 ≤ (rd y173 x92_4)
                     ·rw [if_pos c66] at H
                      have c66b0 : decide (0 ≤ (rd y173 x92_4)) = true := decide_eq_true c66
                      clear c66
                      by_cases c67 : (rd y173 x92_4) < (x3_4.length : Int)
                      ·rw [if_pos c67] at H
                       have c67b0 : decide ((rd y173 x92_4) < (x3_4.length : Int)) = true := decide_eq_true c67
                       clear c67
                       obtain ⟨y178, hy178⟩ : ∃ y_ : List Int, y_ = (x3_4.set ((rd y173 x92_4) : Int).toNat 42) := ⟨_, rfl⟩
                       replace H : (portref1_MaskedOf.l2 k4 a0 y178 x7_12 y173 (y173.length : Int) (wrap64 (x92_4 + 1))) = some r := by first | (rw [hy178]; with_reducible exact H) | (have H2_ := (Option.bind_some _ _).symm.trans H; rw [hy178]; with_reducible exact H2_) | (have H2_ := (Option.bind_some _ _).symm.trans H; with_reducible exact H2_) | with_reducible exact H | (rw [hy178]; exact H) | exact H
                       have Ny178 := Aside0.mk hy178
                       clear hy178
                       have H' := Aside0.mk H
                       clear H
                       have p177 : 0 ≤ (x92_4 : Int) := of_decide_eq_true (by first | (with_reducible assumption) | assumption)
                       have q177 : x92_4 < (y173.length : Int) := of_decide_eq_true (by first | (with_reducible assumption) | assumption)
                       obtain ⟨ad177, e177, hx177_0⟩ := Kd.at_int HR176.out x92_4 p177 q177
                       cases e177
                       replace p177 := eq_true p177
                       replace q177 := eq_true q177
                       have p68 : 0 ≤ ((rd y173 x92_4) : Int) := of_decide_eq_true (by first | (with_reducible assumption) | assumption)
                       have q68 : ((rd y173 x92_4) : Int) < ((x3_4.length : Int) : Int) := of_decide_eq_true (by first | (with_reducible assumption) | assumption)
                       obtain ⟨go68, co68, eo68, gb68, gl68, cl68, HG68⟩ := Kd.B_form HO_3.out (by omega)
                       (first | cases eo68 | (injection eo68 with ea_ en_ ec_; (first | subst ea_ | (injection ea_ with ea_; subst ea_)); subst ec_; clear en_))
                       have GB68 := Aside0.mk gb68
                       have GG68 := Aside0.mk HG68
                       clear gb68 gl68 HG68
                       obtain ⟨hx68_0, hf68_0⟩ := Kd.B_celln 0 HO_3.out ((rd y173 x92_4) : Int) p68 q68
                       replace p68 := eq_true p68
                       replace q68 := eq_true q68
                       have HP69 := Kd.B_putg HO_3.out ((rd y173 x92_4) : Int) 42
                       go_wp2_with (first | ((with_reducible refine gate_store (t := 5) (p := 98) rfl ?_); refine store_event (t := 5) (p := 98) (v := ?vo_w70) (w1 := (wr.setCell ⟨go68, ((rd y173 x92_4) : Int).toNat, none⟩ (.int .u8 42))) ?hg ?ho ?hn ?hr ?_; (case ho => rfl); (case hg => rfl); (case hn => rfl); (case hr => first | (go_simp; done) | (go_simp; rfl)); intro w70 hw; have hg : wr.grownBy w70 (some go68) := (by rw [hw]; exact HP69.2); have hp_ : Kd.B (Kd.int .u8) 5 w70 w.heap.size (fun _ => True) (.slice (some ⟨go68, 0, none⟩) x3_4.length co68) y178 := (by rw [hw, Ny178.out]; exact HP69.1); clear HP69; have n0_ := Aside0.mk (hp_); have n1_ := Aside0.mk ((by rw [hw]; exact below_set (HB.out) GB68.out : Below w.heap.size w w70)); have n5_ := Aside0.mk (Kd.R_overB (by (with_reducible repeat (first | apply Kd.R_alloc | apply Kd.R_drewN | apply Kd.R_drew)); exact HO_5.out) HO_3.out hg); have n6_ := Aside0.mk (Kd.C_apart HR176.out hg (Kd.far_R HO_3.out HO_5.out)); clear HO_3; clear HO_5; clear HR176; clear HB; have HO_3 := n0_; have HB := n1_; have HO_5 := n5_; have HR176 := n6_; clear n0_ n1_ n5_ n6_; clear hg hw hp_))
                       go_roundg k4
                       case measure => have := HK1.out; have := HJ12.out; have := HJ49.out; have := HK4.out; omega
                       case rel => exact ⟨(y178), (wrap64 (x92_4 + 1)), (by first | rfl | (simp; done) | (simp [*]; done)), H', ⟨by have := HK1.out; have := HJ12.out; have := HJ49.out; have := HK4.out; omega⟩, ⟨by (with_reducible repeat (first | apply Kd.B_alloc | apply Kd.B_drewN | apply Kd.B_drew)); exact HO_3.out⟩, ⟨by (with_reducible repeat (first | apply Kd.R_alloc | apply Kd.R_drewN | apply Kd.R_drew)); exact HO_5.out⟩, ⟨by repeat (first | (with_reducible exact HR176.out) | (with_reducible refine Kd.C_alloc ?_ _) | (with_reducible refine Kd.C_drewN ?_ _) | (with_reducible refine Kd.C_drew ?_) | exact HR176.out)⟩, ⟨by repeat (first | (with_reducible first | exact HB.out | apply below_alloc | apply pw_below_drewN | apply below_drew1) | exact HB.out)⟩⟩
                      ·rw [if_neg c67] at H
                       exact absurd H (by simp)
                     ·rw [if_neg c66] at H
                      exact absurd H (by simp)
                    ·rw [if_neg c65] at H
                     exact absurd H (by simp)
                   ·rw [if_neg c64] at H
                    exact absurd H (by simp)
                  ·rw [if_neg c63] at H
                   have c63b0 : decide (x92_4 < (y173.length : Int)) = false := decide_eq_false c63
                   clear c63
                   have H' := Aside0.mk H
                   clear H
                   go_wp2
                   go_roundg k4
                   case measure => have := HK1.out; have := HJ12.out; have := HJ49.out; have := HK4.out; omega
                   case rel => exact ⟨(x3_4), (x7_12), (by first | rfl | (simp; done) | (simp [*]; done)), H', ⟨by have := HK1.out; have := HJ12.out; have := HJ49.out; have := HK4.out; omega⟩, ⟨by (with_reducible repeat (first | apply Kd.B_alloc | apply Kd.B_drewN | apply Kd.B_drew)); exact HO_3.out⟩, ⟨by repeat (first | (with_reducible first | exact HB.out | apply below_alloc | apply pw_below_drewN | apply below_drew1) | exact HB.out)⟩⟩
               ·rw [if_neg c60] at H
                exact absurd H (by simp)
              ·rw [if_neg c59] at H
               exact absurd H (by simp)
             ·replace c57 := Bool.eq_false_iff.mpr c57
              subst c57
              have H1 : (portref1_MaskedOf.l0 kj49 a0 x3_1 x7_12) = some r := by rw [if_neg (show ¬ (false = true) by decide)] at H; exact H
              clear H
              have H := H1
              clear H1
              have H' := Aside0.mk H
              clear H
              go_wp2
              go_roundg kj49
              case measure => have := HK1.out; have := HJ12.out; have := HJ49.out; omega
              case rel => exact ⟨(x3_1), (x7_12), (by first | rfl | (simp; done) | (simp [*]; done)), H', ⟨by have := HK1.out; have := HJ12.out; have := HJ49.out; omega⟩, ⟨by (with_reducible repeat (first | apply Kd.B_alloc | apply Kd.B_drewN | apply Kd.B_drew)); exact HO_3.out⟩, ⟨by repeat (first | (with_reducible first | exact HB.out | apply below_alloc | apply pw_below_drewN | apply below_drew1) | exact HB.out)⟩⟩
        ·rw [if_neg c12] at H
         exact absurd H (by simp)
       ·rw [if_neg c11] at H
        exact absurd H (by simp)
      ·replace c9 := Bool.eq_false_iff.mpr c9
       subst c9
       have H1 : (portref1_MaskedOf.l0 k1 a0 x3_1 (wrap64 (x4_1 + 1))) = some r := by rw [if_neg (show ¬ (false = true) by decide)] at H; exact H
       clear H
       have H := H1
       clear H1
       have H' := Aside0.mk H
       clear H
       have p7 : 0 ≤ (x4_1 : Int) := of_decide_eq_true (by first | (with_reducible assumption) | assumption)
       have q7 : x4_1 < (a0.size : Int) := of_decide_eq_true (by first | (with_reducible assumption) | assumption)
       have hx7 := bt_at a0 x4_1
       replace p7 := eq_true p7
       replace q7 := eq_true q7
       go_wp2_with (first | ((with_reducible refine gate_callee (f := 57) rfl ?_); refine goesL_ (some 20) rfl rfl Tryd.func57 (by kernel_rfl) rfl #[.int .u8 (bt a0 x4_1)] rfl (by (try simp only [List.map_toArray, List.map_cons, List.map_nil]); first | done | rfl | (simp only [List.length_drop, List.length_take]; rfl)) ?_; (with_reducible refine (portref1_isDigit.calls (bt a0 x4_1) false _ A8.out).mono ?_); rintro e w' ⟨rfl, ⟨nd, rfl⟩⟩; refine ⟨_, rfl, ?_⟩))
       go_roundg k1
       case measure => have := HK1.out; omega
       case rel => exact ⟨(x3_1), (wrap64 (x4_1 + 1)), (by first | rfl | (simp; done) | (simp [*]; done)), H', ⟨by have := HK1.out; omega⟩, ⟨by (with_reducible repeat (first | apply Kd.B_alloc | apply Kd.B_drewN | apply Kd.B_drew)); exact HO_3.out⟩, ⟨by repeat (first | (with_reducible first | exact HB.out | apply below_alloc | apply pw_below_drewN | apply below_drew1) | exact HB.out)⟩⟩
     ·rw [if_neg c6] at H
      exact absurd H (by simp)
    ·rw [if_neg c5] at H
     have c5b0 : decide (x4_1 < (a0.size : Int)) = false := decide_eq_false c5
     clear c5
     obtain rfl := Option.some.inj H
     have hcv71 := Kd.B_string (P := Tryd.prog) Tryd.underlying77 Tryd.underlying5 Tryd.underlying9 HO_3.out
     go_wp2
     go_ret
     exact ⟨by first | rfl | (simp [errW_none, errW_some] <;> rfl) | (simp [*, errW_none, errW_some] <;> rfl), by repeat (first | (with_reducible first | exact HB.out | apply below_alloc | apply pw_below_drewN | apply below_drew1) | exact HB.out)⟩
 ·rw [if_neg c2] at H
  exact absurd H (by simp)

end Go.Proofs.YtcljkhhjondhcaaDoor.Ix
