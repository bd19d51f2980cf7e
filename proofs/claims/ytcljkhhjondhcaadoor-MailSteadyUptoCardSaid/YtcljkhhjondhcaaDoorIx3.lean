/- Functions of the program as plain functions, and that each call returns what they say, wherever they answer: written by a program of this session over the kit's printer; conditions: those in each statement. -/
import Derived.Test.YtcljkhhjondhcaaDoorIx0
namespace Go.Proofs.YtcljkhhjondhcaaDoor.Ix
open Go.RowKit Go.Proofs.YtcljkhhjondhcaaDoorW.PrintWords Go.Proofs.YtcljkhhjondhcaaDoorW.PrintLast Go.Proofs.YtcljkhhjondhcaaDoorW.PrintMore Go.Proofs.YtcljkhhjondhcaaDoor.Ext
attribute [local go_sem] max2_int min2_int max_two min_two max_three min_three max_four min_four   -- for this text's walks alone
set_option linter.unusedVariables false
set_option linter.unusedSimpArgs false

/-! ### portref1_isDigit: function 57 -/
def portref1_isDigit.f (a0 : Int) : Option (Bool) := if a0 ≥ 48 then (some (decide (a0 ≤ 57))) else (some false)
set_option maxHeartbeats 8000000 in
set_option maxRecDepth 100000 in
theorem portref1_isDigit.calls (a0 : Int) (r : Bool) (w : World) (h : portref1_isDigit.f a0 = some r) :
  Calls Tryd.prog 57 #[.int .u8 a0] w fun e w' => e = .returned (.bool r) ∧ Drawn0 w w' := by
 have H : (if a0 ≥ 48 then (some (decide (a0 ≤ 57))) else (some false)) = some r := h
 clear h
 by_cases c2 : a0 ≥ 48
 ·rw [if_pos c2] at H
  have c2b0 : decide (48 ≤ a0) = true := decide_eq_true c2
  clear c2
  obtain rfl := Option.some.inj H
  go_enter Tryd.func57, Tryd.ntmps57
  go_wp2
  go_ret
  exact ⟨by first | rfl | (simp; done) | (simp [*]; done), by repeat (first | exact Drawn0.refl _ | apply Drawn0.step)⟩
 ·rw [if_neg c2] at H
  have c2b0 : decide (48 ≤ a0) = false := decide_eq_false c2
  clear c2
  obtain rfl := Option.some.inj H
  go_enter Tryd.func57, Tryd.ntmps57
  go_wp2
  go_ret
  exact ⟨by first | rfl | (simp; done) | (simp [*]; done), by repeat (first | exact Drawn0.refl _ | apply Drawn0.step)⟩

/-! ### portref1_luhn: function 97 -/
def portref1_luhn.l0 : Nat → ByteArray → Int → Int → Option (Bool)
 | 0, _, _, _ => none
 | k + 1, x0, x3, x4 => if x4 ≥ 0 then (if 0 ≤ x4 then (if x4 < (x0.size : Int) then (if (Int.tmod (wrap64 ((wrap64 ((x0.size : Int) - 1)) - x4)) 2) = 1 then (if ((((bt x0 x4) - 48) % 256) * 2) > 9 then (portref1_luhn.l0 k x0 (wrap64 (x3 + (((((bt x0 x4) - 48) % 256) * 2) - 9))) (wrap64 (x4 - 1))) else (portref1_luhn.l0 k x0 (wrap64 (x3 + ((((bt x0 x4) - 48) % 256) * 2))) (wrap64 (x4 - 1)))) else (portref1_luhn.l0 k x0 (wrap64 (x3 + (((bt x0 x4) - 48) % 256))) (wrap64 (x4 - 1)))) else (none)) else (none)) else (some ((Int.tmod x3 10) == 0))
def portref1_luhn.f (k : Nat) (a0 : ByteArray) : Option (Bool) := portref1_luhn.l0 k a0 0 (wrap64 ((a0.size : Int) - 1))
theorem portref1_luhn.mono_l : ∀ k, (∀ y0 y1 y2, LeO (portref1_luhn.l0 k y0 y1 y2) (portref1_luhn.l0 (k + 1) y0 y1 y2))
 | 0 => fun _ _ _ r h => by simp [portref1_luhn.l0] at h
 | k + 1 => by
  have ih0 := portref1_luhn.mono_l k
  ·intro y0 y1 y2
   unfold portref1_luhn.l0
   repeat' first
   | (with_reducible exact ih0 _ _ _)
   | (with_reducible exact LeO.refl _)
   | (with_reducible exact LeO.none _)
   | (with_reducible refine LeO.ite ?_ ?_)
   | (with_reducible refine LeO.bind ?_ (fun _ => ?_))
theorem portref1_luhn.mono : ∀ a0 k, LeO (portref1_luhn.f k a0) (portref1_luhn.f (k + 1) a0) := by
 intro a0 k
 have ih0 := portref1_luhn.mono_l k
 unfold portref1_luhn.f
 repeat' first
   | (with_reducible exact ih0 _ _ _)
   | (with_reducible exact LeO.refl _)
   | (with_reducible exact LeO.none _)
   | (with_reducible refine LeO.ite ?_ ?_)
   | (with_reducible refine LeO.bind ?_ (fun _ => ?_))
set_option maxHeartbeats 8000000 in
set_option maxRecDepth 100000 in
theorem portref1_luhn.calls (k : Nat) (a0 : ByteArray) (r : Bool) (w : World) (h : portref1_luhn.f k a0 = some r) :
  Calls Tryd.prog 97 #[.string a0] w fun e w' => e = .returned (.bool r) ∧ Drawn0 w w' := by
 have H : (portref1_luhn.l0 k a0 0 (wrap64 ((a0.size : Int) - 1))) = some r := h
 clear h
 have H' := Aside0.mk H
 clear H
 go_enter Tryd.func97, Tryd.ntmps97
 go_wp2
 go_loopg [3, 4] k (fun kq v3 v4 w' => ∃ (x3_1 : Int) (x4_1 : Int), v3 = .int .i64 x3_1 ∧ v4 = .int .i64 x4_1 ∧ Aside0 (portref1_luhn.l0 kq a0 x3_1 x4_1 = some r) ∧ Aside0 (kq ≤ k) ∧ Drawn0 w w')
 case atStart => exact ⟨(0), (wrap64 ((a0.size : Int) - 1)), (by first | rfl | (simp; done) | (simp [*]; done)), (by first | rfl | (simp; done) | (simp [*]; done)), H', ⟨Nat.le_refl _⟩, by repeat (first | exact Drawn0.refl _ | apply Drawn0.step)⟩
 case round =>
  clear H'
  obtain ⟨x3_1, x4_1, rfl, rfl, HA, HK1, ⟨m1, rfl⟩⟩ := hrel
  cases gk with
  | zero => exact absurd HA.out (by simp [portref1_luhn.l0])
  | succ k1 =>
   have H := HA.out
   clear HA
   simp only [portref1_luhn.l0] at H
   by_cases c2 : x4_1 ≥ 0
   ·rw [if_pos c2] at H
    have c2b0 : decide (0 ≤ x4_1) = true := decide_eq_true c2
    clear c2
    by_cases c3 : 0 ≤ x4_1
    ·rw [if_pos c3] at H
     have c3b0 : decide (0 ≤ x4_1) = true := decide_eq_true c3
     clear c3
     by_cases c4 : x4_1 < (a0.size : Int)
     ·rw [if_pos c4] at H
      have c4b0 : decide (x4_1 < (a0.size : Int)) = true := decide_eq_true c4
      clear c4
      by_cases c6 : (Int.tmod (wrap64 ((wrap64 ((a0.size : Int) - 1)) - x4_1)) 2) = 1
      ·rw [if_pos c6] at H
       have c6b0 : ((Int.tmod (wrap64 ((wrap64 ((a0.size : Int) - 1)) - x4_1)) 2) == 1) = true := beq_iff_eq.mpr c6
       try (have c6w0 := c6b0; simp only [← i64_w] at c6w0)
       have c6b1 : ((Int.tmod (wrap64 ((wrap64 ((a0.size : Int) - 1)) - x4_1)) 2) != 1) = false := bne_eq_false_iff_eq.mpr c6
       try (have c6w1 := c6b1; simp only [← i64_w] at c6w1)
       clear c6
       by_cases c7 : ((((bt a0 x4_1) - 48) % 256) * 2) > 9
       ·rw [if_pos c7] at H
        have c7b0 : decide (9 < ((((bt a0 x4_1) - 48) % 256) * 2)) = true := decide_eq_true c7
        clear c7
        have H' := Aside0.mk H
        clear H
        have p5 : 0 ≤ (x4_1 : Int) := of_decide_eq_true (by first | (with_reducible assumption) | assumption)
        have q5 : x4_1 < (a0.size : Int) := of_decide_eq_true (by first | (with_reducible assumption) | assumption)
        have hx5 := bt_at a0 x4_1
        replace p5 := eq_true p5
        replace q5 := eq_true q5
        go_wp2
        go_roundg k1
        case measure => have := HK1.out; omega
        case rel => exact ⟨(wrap64 (x3_1 + (((((bt a0 x4_1) - 48) % 256) * 2) - 9))), (wrap64 (x4_1 - 1)), (by first | rfl | (simp; done) | (simp [*]; done)), (by first | rfl | (simp; done) | (simp [*]; done)), H', ⟨by have := HK1.out; omega⟩, by repeat (first | exact Drawn0.refl _ | apply Drawn0.step)⟩
       ·rw [if_neg c7] at H
        have c7b0 : decide (9 < ((((bt a0 x4_1) - 48) % 256) * 2)) = false := decide_eq_false c7
        clear c7
        have H' := Aside0.mk H
        clear H
        have p5 : 0 ≤ (x4_1 : Int) := of_decide_eq_true (by first | (with_reducible assumption) | assumption)
        have q5 : x4_1 < (a0.size : Int) := of_decide_eq_true (by first | (with_reducible assumption) | assumption)
        have hx5 := bt_at a0 x4_1
        replace p5 := eq_true p5
        replace q5 := eq_true q5
        go_wp2
        go_roundg k1
        case measure => have := HK1.out; omega
        case rel => exact ⟨(wrap64 (x3_1 + ((((bt a0 x4_1) - 48) % 256) * 2))), (wrap64 (x4_1 - 1)), (by first | rfl | (simp; done) | (simp [*]; done)), (by first | rfl | (simp; done) | (simp [*]; done)), H', ⟨by have := HK1.out; omega⟩, by repeat (first | exact Drawn0.refl _ | apply Drawn0.step)⟩
      ·rw [if_neg c6] at H
       have c6b0 : ((Int.tmod (wrap64 ((wrap64 ((a0.size : Int) - 1)) - x4_1)) 2) == 1) = false := beq_eq_false_iff_ne.mpr c6
       try (have c6w0 := c6b0; simp only [← i64_w] at c6w0)
       have c6b1 : ((Int.tmod (wrap64 ((wrap64 ((a0.size : Int) - 1)) - x4_1)) 2) != 1) = true := bne_iff_ne.mpr c6
       try (have c6w1 := c6b1; simp only [← i64_w] at c6w1)
       have H' := Aside0.mk H
       clear H
       have p5 : 0 ≤ (x4_1 : Int) := of_decide_eq_true (by first | (with_reducible assumption) | assumption)
       have q5 : x4_1 < (a0.size : Int) := of_decide_eq_true (by first | (with_reducible assumption) | assumption)
       have hx5 := bt_at a0 x4_1
       replace p5 := eq_true p5
       replace q5 := eq_true q5
       go_wp2
       go_roundg k1
       case measure => have := HK1.out; omega
       case rel => exact ⟨(wrap64 (x3_1 + (((bt a0 x4_1) - 48) % 256))), (wrap64 (x4_1 - 1)), (by first | rfl | (simp; done) | (simp [*]; done)), (by first | rfl | (simp; done) | (simp [*]; done)), H', ⟨by have := HK1.out; omega⟩, by repeat (first | exact Drawn0.refl _ | apply Drawn0.step)⟩
     ·rw [if_neg c4] at H
      exact absurd H (by simp)
    ·rw [if_neg c3] at H
     exact absurd H (by simp)
   ·rw [if_neg c2] at H
    have c2b0 : decide (0 ≤ x4_1) = false := decide_eq_false c2
    clear c2
    obtain rfl := Option.some.inj H
    go_wp2
    go_ret
    exact ⟨by first | rfl | (simp; done) | (simp [*]; done), by repeat (first | exact Drawn0.refl _ | apply Drawn0.step)⟩

end Go.Proofs.YtcljkhhjondhcaaDoor.Ix
