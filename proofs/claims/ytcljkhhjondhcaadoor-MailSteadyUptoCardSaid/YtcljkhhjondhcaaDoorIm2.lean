/- Functions of the program as plain functions, and that each call returns what they say, wherever they answer: written by a program of this session over the kit's printer; conditions: those in each statement. -/
import Derived.Test.YtcljkhhjondhcaaDoorIm0
import Derived.Test.YtcljkhhjondhcaaDoorIm1
namespace Go.Proofs.YtcljkhhjondhcaaDoor.Im
open Go.RowKit Go.Proofs.YtcljkhhjondhcaaDoorW.PrintWords Go.Proofs.YtcljkhhjondhcaaDoorW.PrintLast Go.Proofs.YtcljkhhjondhcaaDoorW.PrintMore Go.Proofs.YtcljkhhjondhcaaDoor.Ext
attribute [local go_sem] max2_int min2_int max_two min_two max_three min_three max_four min_four   -- for this text's walks alone
set_option linter.unusedVariables false
set_option linter.unusedSimpArgs false

/-! ### mail_marked: function 59 -/
mutual
def mail_marked.l0 : Nat → ByteArray → List ByteArray → Int → Int → Option (Int)
  | 0, _, _, _, _ => none
  | k + 1, x0, x8, x9, x10 => if x10 < x9 then (if 0 ≤ x10 then (if x10 < (x8.length : Int) then (if (x0.size : Int) ≤ ((rdOf ByteArray.empty x8 x10).size : Int) then (mail_marked.j1 k x0 (rdOf ByteArray.empty x8 x10) x8 x9 x10 true) else (if 0 ≤ ((rdOf ByteArray.empty x8 x10).size : Int) then (if ((rdOf ByteArray.empty x8 x10).size : Int) ≤ (x0.size : Int) then ((mail_lower.f (x0.extract 0 (rdOf ByteArray.empty x8 x10).size)).bind fun t106 => (mail_marked.j1 k x0 (rdOf ByteArray.empty x8 x10) x8 x9 x10 (t106.toList != (rdOf ByteArray.empty x8 x10).toList))) else (none)) else (none))) else (none)) else (none)) else (if x0.toList = ([] : List UInt8) then (mail_marked.j3 k x0 false) else (if 0 < (x0.size : Int) then (mail_marked.j3 k x0 ((bt x0 0) == 91)) else (none)))
def mail_marked.j1 : Nat → ByteArray → ByteArray → List ByteArray → Int → Int → Bool → Option (Int)
  | 0, _, _, _, _, _, _ => none
  | k + 1, x0, x4, x8, x9, x10, x27 => if x27 = true then (mail_marked.l0 k x0 x8 x9 (wrap64 (x10 + 1))) else (if 0 ≤ (x4.size : Int) then (if (x4.size : Int) ≤ (x0.size : Int) then (if 0 < ((x0.extract x4.size x0.size).size : Int) then (if (bt (x0.extract x4.size x0.size) 0) = 58 then (some (wrap64 ((x4.size : Int) + 1))) else (mail_marked.l1 k x0 x4 (x0.extract x4.size x0.size) 1 x8 x9 x10)) else (none)) else (none)) else (none))
def mail_marked.l1 : Nat → ByteArray → ByteArray → ByteArray → Int → List ByteArray → Int → Int → Option (Int)
  | 0, _, _, _, _, _, _, _ => none
  | k + 1, x0, x4, x5, x6, x8, x9, x10 => if x6 < (x5.size : Int) then (if 0 ≤ x6 then ((mail_digit.f (bt x5 x6)).bind fun t107 => (if t107 = true then (mail_marked.l1 k x0 x4 x5 (wrap64 (x6 + 1)) x8 x9 x10) else (if 0 < (x5.size : Int) then (if (bt x5 0) = 91 then (if x6 ≥ 2 then (if x6 ≤ 4 then (if x6 ≤ (x5.size : Int) then ((strings_HasPrefix.f (x5.extract (x6 : Int).toNat x5.size) (⟨#[93, 58]⟩ : ByteArray)).bind fun t108 => (if t108 = true then (some (wrap64 ((wrap64 ((x4.size : Int) + x6)) + 2))) else (mail_marked.l0 k x0 x8 x9 (wrap64 (x10 + 1))))) else (none)) else (mail_marked.l0 k x0 x8 x9 (wrap64 (x10 + 1)))) else (mail_marked.l0 k x0 x8 x9 (wrap64 (x10 + 1)))) else (mail_marked.l0 k x0 x8 x9 (wrap64 (x10 + 1)))) else (none)))) else (none)) else (if 0 < (x5.size : Int) then (if (bt x5 0) = 91 then (if x6 ≥ 2 then (if x6 ≤ 4 then (if 0 ≤ x6 then (if x6 ≤ (x5.size : Int) then ((strings_HasPrefix.f (x5.extract (x6 : Int).toNat x5.size) (⟨#[93, 58]⟩ : ByteArray)).bind fun t109 => (if t109 = true then (some (wrap64 ((wrap64 ((x4.size : Int) + x6)) + 2))) else (mail_marked.l0 k x0 x8 x9 (wrap64 (x10 + 1))))) else (none)) else (none)) else (mail_marked.l0 k x0 x8 x9 (wrap64 (x10 + 1)))) else (mail_marked.l0 k x0 x8 x9 (wrap64 (x10 + 1)))) else (mail_marked.l0 k x0 x8 x9 (wrap64 (x10 + 1)))) else (none))
def mail_marked.j3 : Nat → ByteArray → Bool → Option (Int)
  | 0, _, _ => none
  | k + 1, x0, x79 => if x79 = true then (if 1 ≤ (x0.size : Int) then ((strings_IndexAny.f (x0.extract 1 x0.size) (⟨#[91, 93]⟩ : ByteArray)).bind fun t110 => (if t110 ≥ 0 then (if 0 ≤ (wrap64 (1 + t110)) then (if (wrap64 (1 + t110)) < (x0.size : Int) then (if (bt x0 (wrap64 (1 + t110))) = 93 then (some (wrap64 (t110 + 2))) else (some 0)) else (none)) else (none)) else (some 0))) else (none)) else (some 0)
end
def mail_marked.f (k : Nat) (a0 : ByteArray) : Option (Int) := (some (([(⟨#[114, 101]⟩ : ByteArray), (⟨#[102, 119, 100]⟩ : ByteArray), (⟨#[102, 119]⟩ : ByteArray), (⟨#[97, 119]⟩ : ByteArray)] : List ByteArray) : List ByteArray)).bind fun y102 => (mail_marked.l0 k a0 y102 (y102.length : Int) 0)
theorem mail_marked.mono_l : ∀ k, (∀ y0 y1 y2 y3, LeO (mail_marked.l0 k y0 y1 y2 y3) (mail_marked.l0 (k + 1) y0 y1 y2 y3)) ∧ (∀ y0 y1 y2 y3 y4 y5, LeO (mail_marked.j1 k y0 y1 y2 y3 y4 y5) (mail_marked.j1 (k + 1) y0 y1 y2 y3 y4 y5)) ∧ (∀ y0 y1 y2 y3 y4 y5 y6, LeO (mail_marked.l1 k y0 y1 y2 y3 y4 y5 y6) (mail_marked.l1 (k + 1) y0 y1 y2 y3 y4 y5 y6)) ∧ (∀ y0 y1, LeO (mail_marked.j3 k y0 y1) (mail_marked.j3 (k + 1) y0 y1))
  | 0 => ⟨fun _ _ _ _ r h => by simp [mail_marked.l0] at h, fun _ _ _ _ _ _ r h => by simp [mail_marked.j1] at h, fun _ _ _ _ _ _ _ r h => by simp [mail_marked.l1] at h, fun _ _ r h => by simp [mail_marked.j3] at h⟩
  | k + 1 => by
    obtain ⟨ih0, ih1, ih2, ih3⟩ := mail_marked.mono_l k
    refine ⟨?_, ?_, ?_, ?_⟩
    · intro y0 y1 y2 y3
      unfold mail_marked.l0
      repeat' first
      | (with_reducible exact ih0 _ _ _ _)
      | (with_reducible exact ih1 _ _ _ _ _ _)
      | (with_reducible exact ih2 _ _ _ _ _ _ _)
      | (with_reducible exact ih3 _ _)
      | (with_reducible exact LeO.refl _)
      | (with_reducible exact LeO.none _)
      | (with_reducible refine LeO.ite ?_ ?_)
      | (with_reducible refine LeO.bind ?_ (fun _ => ?_))
      | exact ih0 _ _ _ _
      | exact ih1 _ _ _ _ _ _
      | exact ih2 _ _ _ _ _ _ _
      | exact ih3 _ _
      | exact LeO.none _
      | refine LeO.ite ?_ ?_
      | refine LeO.bind ?_ (fun _ => ?_)
    · intro y0 y1 y2 y3 y4 y5
      unfold mail_marked.j1
      repeat' first
      | (with_reducible exact ih0 _ _ _ _)
      | (with_reducible exact ih1 _ _ _ _ _ _)
      | (with_reducible exact ih2 _ _ _ _ _ _ _)
      | (with_reducible exact ih3 _ _)
      | (with_reducible exact LeO.refl _)
      | (with_reducible exact LeO.none _)
      | (with_reducible refine LeO.ite ?_ ?_)
      | (with_reducible refine LeO.bind ?_ (fun _ => ?_))
      | exact ih0 _ _ _ _
      | exact ih1 _ _ _ _ _ _
      | exact ih2 _ _ _ _ _ _ _
      | exact ih3 _ _
      | exact LeO.none _
      | refine LeO.ite ?_ ?_
      | refine LeO.bind ?_ (fun _ => ?_)
    · intro y0 y1 y2 y3 y4 y5 y6
      unfold mail_marked.l1
      repeat' first
      | (with_reducible exact ih0 _ _ _ _)
      | (with_reducible exact ih1 _ _ _ _ _ _)
      | (with_reducible exact ih2 _ _ _ _ _ _ _)
      | (with_reducible exact ih3 _ _)
      | (with_reducible exact LeO.refl _)
      | (with_reducible exact LeO.none _)
      | (with_reducible refine LeO.ite ?_ ?_)
      | (with_reducible refine LeO.bind ?_ (fun _ => ?_))
      | exact ih0 _ _ _ _
      | exact ih1 _ _ _ _ _ _
      | exact ih2 _ _ _ _ _ _ _
      | exact ih3 _ _
      | exact LeO.none _
      | refine LeO.ite ?_ ?_
      | refine LeO.bind ?_ (fun _ => ?_)
    · intro y0 y1
      unfold mail_marked.j3
      repeat' first
      | (with_reducible exact ih0 _ _ _ _)
      | (with_reducible exact ih1 _ _ _ _ _ _)
      | (with_reducible exact ih2 _ _ _ _ _ _ _)
      | (with_reducible exact ih3 _ _)
      | (with_reducible exact LeO.refl _)
      | (with_reducible exact LeO.none _)
      | (with_reducible refine LeO.ite ?_ ?_)
      | (with_reducible refine LeO.bind ?_ (fun _ => ?_))
      | exact ih0 _ _ _ _
      | exact ih1 _ _ _ _ _ _
      | exact ih2 _ _ _ _ _ _ _
      | exact ih3 _ _
      | exact LeO.none _
      | refine LeO.ite ?_ ?_
      | refine LeO.bind ?_ (fun _ => ?_)
theorem mail_marked.mono : ∀ a0 k, LeO (mail_marked.f k a0) (mail_marked.f (k + 1) a0) := by
  intro a0 k
  obtain ⟨ih0, ih1, ih2, ih3⟩ := mail_marked.mono_l k
  unfold mail_marked.f
  repeat' first
      | (with_reducible exact ih0 _ _ _ _)
      | (with_reducible exact ih1 _ _ _ _ _ _)
      | (with_reducible exact ih2 _ _ _ _ _ _ _)
      | (with_reducible exact ih3 _ _)
      | (with_reducible exact LeO.refl _)
      | (with_reducible exact LeO.none _)
      | (with_reducible refine LeO.ite ?_ ?_)
      | (with_reducible refine LeO.bind ?_ (fun _ => ?_))
      | exact ih0 _ _ _ _
      | exact ih1 _ _ _ _ _ _
      | exact ih2 _ _ _ _ _ _ _
      | exact ih3 _ _
      | exact LeO.none _
      | refine LeO.ite ?_ ?_
      | refine LeO.bind ?_ (fun _ => ?_)
set_option maxHeartbeats 8000000 in
set_option maxRecDepth 100000 in
theorem mail_marked.calls (k : Nat) (a0 : ByteArray) (r : Int) (w : World) (h : mail_marked.f k a0 = some r) :
    Calls Tryd.prog 59 #[.string a0] w fun e w' => e = .returned (.int .i64 r) ∧ Below w.heap.size w w' := by
  have HB := Aside0.mk (Below.refl w.heap.size w)
  have H : ((some (([(⟨#[114, 101]⟩ : ByteArray), (⟨#[102, 119, 100]⟩ : ByteArray), (⟨#[102, 119]⟩ : ByteArray), (⟨#[97, 119]⟩ : ByteArray)] : List ByteArray) : List ByteArray)).bind fun y102 => (mail_marked.l0 k a0 y102 (y102.length : Int) 0)) = some r := h
  clear h
  obtain ⟨y102, hy102⟩ : ∃ y_ : List ByteArray, y_ = (([(⟨#[114, 101]⟩ : ByteArray), (⟨#[102, 119, 100]⟩ : ByteArray), (⟨#[102, 119]⟩ : ByteArray), (⟨#[97, 119]⟩ : ByteArray)] : List ByteArray)) := ⟨_, rfl⟩
  replace H : (mail_marked.l0 k a0 y102 (y102.length : Int) 0) = some r := by first | (rw [hy102]; with_reducible exact H) | (have H2_ := (Option.bind_some _ _).symm.trans H; rw [hy102]; with_reducible exact H2_) | (have H2_ := (Option.bind_some _ _).symm.trans H; with_reducible exact H2_) | with_reducible exact H | (rw [hy102]; exact H) | exact H
  have Ny102 := Aside0.mk hy102
  clear hy102
  have H' := Aside0.mk H
  clear H
  go_enter Tryd.func59, Tryd.ntmps59
  go_wp2_with (first | ((with_reducible refine gate_dst (N := 8) rfl ?_); (try (refine gate_guard (by rfl) ?_; dsimp only)); refine Kd.R_lit Kd.string _ 9 ?hg (N := 8) ?hd (xs := ([(⟨#[114, 101]⟩ : ByteArray), (⟨#[102, 119, 100]⟩ : ByteArray), (⟨#[102, 119]⟩ : ByteArray), (⟨#[97, 119]⟩ : ByteArray)] : List ByteArray)) (inner := [.string (⟨#[114, 101]⟩ : ByteArray), .string (⟨#[102, 119, 100]⟩ : ByteArray), .string (⟨#[102, 119]⟩ : ByteArray), .string (⟨#[97, 119]⟩ : ByteArray)]) (ok := fun _ => True) (okp := fun _ => True) ?hr ?hp (fun _ hk => hk) trivial (Below.refl _ _) (Nat.le_refl _) (by simp) ?_; (case hd => rfl); (case hg => rfl); (case hr => first | (go_simp; done) | (go_simp; rfl)); (case hp => exact (Reps.one (show Kd.M Kd.string _ _ _ (⟨#[114, 101]⟩ : ByteArray) [.string (⟨#[114, 101]⟩ : ByteArray)] from rfl) (Reps.one (show Kd.M Kd.string _ _ _ (⟨#[102, 119, 100]⟩ : ByteArray) [.string (⟨#[102, 119, 100]⟩ : ByteArray)] from rfl) (Reps.one (show Kd.M Kd.string _ _ _ (⟨#[102, 119]⟩ : ByteArray) [.string (⟨#[102, 119]⟩ : ByteArray)] from rfl) (Reps.one (show Kd.M Kd.string _ _ _ (⟨#[97, 119]⟩ : ByteArray) [.string (⟨#[97, 119]⟩ : ByteArray)] from rfl) (Reps.none _ _)))))); intro v103 w2 ho3 hb hg_ hnew_; clear hg_ hnew_; (first | rw [← Ny102.out] at ho3 | (simp only [Int.reduceToNat] at ho3; rw [← Ny102.out] at ho3)); have n0_ := Aside0.mk (Kd.R_lower ho3 (below_size (by repeat (first | (with_reducible first | exact HB.out | apply below_alloc | apply pw_below_drewN | apply below_drew1) | exact HB.out)))); have n1_ := Aside0.mk (below_step (by repeat (first | (with_reducible first | exact HB.out | apply below_alloc | apply pw_below_drewN | apply below_drew1) | exact HB.out)) hb); clear HB; have HO104 := n0_; have HB := n1_; clear n0_ n1_; clear hb ho3; obtain ⟨Ao4, co4, eo4⟩ := Kd.R_slice HO104.out; subst eo4))
  go_loopg [10] k (fun kq v10 w' => ∃ (x10_1 : Int), v10 = .int .i64 x10_1 ∧ Aside0 (mail_marked.l0 kq a0 y102 (y102.length : Int) x10_1 = some r) ∧ Aside0 (kq ≤ k) ∧ Aside0 (Kd.R Kd.string 9 w' w.heap.size (fun _ => True) (.slice Ao4 y102.length co4) y102) ∧ Aside0 (Below w.heap.size w w'))
  case atStart => exact ⟨(0), (by first | rfl | (simp; done) | (simp [*]; done)), H', ⟨Nat.le_refl _⟩, ⟨by (with_reducible repeat (first | apply Kd.R_alloc | apply Kd.R_drewN | apply Kd.R_drew)); exact HO104.out⟩, ⟨by repeat (first | (with_reducible first | exact HB.out | apply below_alloc | apply pw_below_drewN | apply below_drew1) | exact HB.out)⟩⟩
  case round =>
    clear H'
    try clear p2
    obtain ⟨x10_1, rfl, HA, HK1, HO_8, HB⟩ := hrel
    cases gk with
    | zero => exact absurd HA.out (by simp [mail_marked.l0])
    | succ k1 =>
      have H := HA.out
      clear HA
      simp only [mail_marked.l0] at H
      by_cases c5 : x10_1 < (y102.length : Int)
      · rw [if_pos c5] at H
        have c5b0 : decide (x10_1 < (y102.length : Int)) = true := decide_eq_true c5
        clear c5
        by_cases c6 : 0 ≤ x10_1
        · rw [if_pos c6] at H
          have c6b0 : decide (0 ≤ x10_1) = true := decide_eq_true c6
          clear c6
          by_cases c7 : x10_1 < (y102.length : Int)
          · rw [if_pos c7] at H
            have c7b0 : decide (x10_1 < (y102.length : Int)) = true := decide_eq_true c7
            clear c7
            have HC8 := Aside0.mk H
            clear H
            have p105 : 0 ≤ (x10_1 : Int) := of_decide_eq_true (by first | (with_reducible assumption) | assumption)
            have q105 : x10_1 < (y102.length : Int) := of_decide_eq_true (by first | (with_reducible assumption) | assumption)
            obtain ⟨ad105, e105, hx105_0⟩ := Kd.at_string (Kd.R_reads' HO_8.out).2.2 x10_1 p105 q105
            cases e105
            replace p105 := eq_true p105
            replace q105 := eq_true q105
            go_upto_region 4 with (fail)
            go_cut [27] (fun v27 wc => ∃ (kq : Nat) (x27_7 : Bool), v27 = .bool x27_7 ∧ Aside0 (mail_marked.j1 kq a0 (rdOf ByteArray.empty y102 x10_1) y102 (y102.length : Int) x10_1 x27_7 = some r) ∧ Aside0 (kq ≤ k1) ∧ Aside0 (Kd.R Kd.string 9 wc w.heap.size (fun _ => True) (.slice (some ad105) y102.length co4) y102) ∧ Aside0 (Below w.heap.size w wc))
            case first =>
              have H := HC8.out
              clear HC8
              by_cases c9 : (a0.size : Int) ≤ ((rdOf ByteArray.empty y102 x10_1).size : Int)
              · rw [if_pos c9] at H
                have c9b0 : decide ((a0.size : Int) ≤ ((rdOf ByteArray.empty y102 x10_1).size : Int)) = true := decide_eq_true c9
                have c9b1 : decide (a0.size ≤ (rdOf ByteArray.empty y102 x10_1).size) = true := decide_eq_true (Int.ofNat_le.mp c9)
                clear c9
                (first | rw [c9b0] | (simp only [i64_w, i32_w]; rw [c9b0]) | skip)
                have H' := Aside0.mk H
                clear H
                go_wp2
                go_meet
                case rel => exact ⟨_, (true), (by first | rfl | (simp; done) | (simp [*]; done)), H', ⟨by have := HK1.out; first | omega | exact Nat.le_refl _⟩, ⟨by (with_reducible repeat (first | apply Kd.R_alloc | apply Kd.R_drewN | apply Kd.R_drew)); exact HO_8.out⟩, ⟨by repeat (first | (with_reducible first | exact HB.out | apply below_alloc | apply pw_below_drewN | apply below_drew1) | exact HB.out)⟩⟩
              · rw [if_neg c9] at H
                have c9b0 : decide ((a0.size : Int) ≤ ((rdOf ByteArray.empty y102 x10_1).size : Int)) = false := decide_eq_false c9
                have c9b1 : decide (a0.size ≤ (rdOf ByteArray.empty y102 x10_1).size) = false := decide_eq_false (fun h => c9 (Int.ofNat_le.mpr h))
                clear c9
                (first | rw [c9b0] | (simp only [i64_w, i32_w]; rw [c9b0]) | skip)
                by_cases c10 : 0 ≤ ((rdOf ByteArray.empty y102 x10_1).size : Int)
                · rw [if_pos c10] at H
                  have c10b0 := eq_true c10
                  have c10b1 : decide (0 ≤ ((rdOf ByteArray.empty y102 x10_1).size : Int)) = true := decide_eq_true c10
                  clear c10
                  by_cases c11 : ((rdOf ByteArray.empty y102 x10_1).size : Int) ≤ (a0.size : Int)
                  · rw [if_pos c11] at H
                    have c11b0 := eq_true c11
                    have c11b1 : decide (((rdOf ByteArray.empty y102 x10_1).size : Int) ≤ (a0.size : Int)) = true := decide_eq_true c11
                    clear c11
                    replace H := Option.bind_eq_some_iff.mp H
                    obtain ⟨t106, A120, H⟩ := H
                    replace H : (mail_marked.j1 k1 a0 (rdOf ByteArray.empty y102 x10_1) y102 (y102.length : Int) x10_1 (t106.toList != (rdOf ByteArray.empty y102 x10_1).toList)) = some r := H
                    have A12 := Aside0.mk A120
                    clear A120
                    have H' := Aside0.mk H
                    clear H
                    go_wp2_with (first | (go_at_call 69; (first | (with_reducible refine (mail_lower.calls (a0.extract 0 (rdOf ByteArray.empty y102 x10_1).size) t106 _ A12.out).mono ?_) | (with_reducible refine (mail_lower.calls _ t106 _ (by simpa only [ByteArray.size_extract, Nat.min_self] using A12.out)).mono ?_)); rintro e w13 ⟨rfl, hb⟩; have n0_ := Aside0.mk (Kd.R_below (by (with_reducible repeat (first | apply Kd.R_alloc | apply Kd.R_drewN | apply Kd.R_drew)); exact HO_8.out) hb); have n1_ := Aside0.mk (below_step (by repeat (first | (with_reducible first | exact HB.out | apply below_alloc | apply pw_below_drewN | apply below_drew1) | exact HB.out)) hb); clear HO_8; clear HB; have HO_8 := n0_; have HB := n1_; clear n0_ n1_; (try clear hb); (try clear hb2); (try clear hk); (try clear hi)))
                    go_meet
                    case rel => exact ⟨_, ((t106.toList != (rdOf ByteArray.empty y102 x10_1).toList)), (by first | rfl | (simp; done) | (simp [*]; done)), H', ⟨by have := HK1.out; first | omega | exact Nat.le_refl _⟩, ⟨by (with_reducible repeat (first | apply Kd.R_alloc | apply Kd.R_drewN | apply Kd.R_drew)); exact HO_8.out⟩, ⟨by repeat (first | (with_reducible first | exact HB.out | apply below_alloc | apply pw_below_drewN | apply below_drew1) | exact HB.out)⟩⟩
                  · rw [if_neg c11] at H
                    exact absurd H (by simp)
                · rw [if_neg c10] at H
                  exact absurd H (by simp)
            case rest =>
              clear HC8
              try clear c1
              try clear p1
              try clear q1
              try clear hx1
              try clear p2
              try clear c5
              try clear c5b0
              try clear c6
              try clear c6b0
              try clear c7
              try clear c7b0
              try clear c9
              try clear c9b0
              try clear c9b1
              try clear c10
              try clear c10b0
              try clear c10b1
              try clear p10
              try clear q10
              try clear hx10
              try clear c11
              try clear c11b0
              try clear c11b1
              try clear hx105_0
              try clear p105
              try clear p2
              try clear q105
              obtain ⟨kq, x27_7, rfl, HA, HJ7, HO_8, HB⟩ := hcut
              cases kq with
              | zero => exact absurd HA.out (by simp [mail_marked.j1])
              | succ kj7 =>
                have H := HA.out
                clear HA
                simp only [mail_marked.j1] at H
                by_cases c14 : x27_7 = true
                · subst c14
                  have H1 : (mail_marked.l0 kj7 a0 y102 (y102.length : Int) (wrap64 (x10_1 + 1))) = some r := by rw [if_pos rfl] at H; exact H
                  clear H
                  have H := H1
                  clear H1
                  have H' := Aside0.mk H
                  clear H
                  go_wp2
                  go_roundg kj7
                  case measure => have := HK1.out; have := HJ7.out; omega
                  case rel => exact ⟨(wrap64 (x10_1 + 1)), (by first | rfl | (simp; done) | (simp [*]; done)), H', ⟨by have := HK1.out; have := HJ7.out; omega⟩, ⟨by (with_reducible repeat (first | apply Kd.R_alloc | apply Kd.R_drewN | apply Kd.R_drew)); exact HO_8.out⟩, ⟨by repeat (first | (with_reducible first | exact HB.out | apply below_alloc | apply pw_below_drewN | apply below_drew1) | exact HB.out)⟩⟩
                · replace c14 := Bool.eq_false_iff.mpr c14
                  subst c14
                  have H1 : (if 0 ≤ ((rdOf ByteArray.empty y102 x10_1).size : Int) then (if ((rdOf ByteArray.empty y102 x10_1).size : Int) ≤ (a0.size : Int) then (if 0 < ((a0.extract (rdOf ByteArray.empty y102 x10_1).size a0.size).size : Int) then (if (bt (a0.extract (rdOf ByteArray.empty y102 x10_1).size a0.size) 0) = 58 then (some (wrap64 (((rdOf ByteArray.empty y102 x10_1).size : Int) + 1))) else (mail_marked.l1 kj7 a0 (rdOf ByteArray.empty y102 x10_1) (a0.extract (rdOf ByteArray.empty y102 x10_1).size a0.size) 1 y102 (y102.length : Int) x10_1)) else (none)) else (none)) else (none)) = some r := by rw [if_neg (show ¬ (false = true) by decide)] at H; exact H
                  clear H
                  have H := H1
                  clear H1
                  by_cases c15 : 0 ≤ ((rdOf ByteArray.empty y102 x10_1).size : Int)
                  · rw [if_pos c15] at H
                    have c15b0 := eq_true c15
                    have c15b1 : decide (0 ≤ ((rdOf ByteArray.empty y102 x10_1).size : Int)) = true := decide_eq_true c15
                    clear c15
                    by_cases c16 : ((rdOf ByteArray.empty y102 x10_1).size : Int) ≤ (a0.size : Int)
                    · rw [if_pos c16] at H
                      have c16b0 := eq_true c16
                      have c16b1 : decide (((rdOf ByteArray.empty y102 x10_1).size : Int) ≤ (a0.size : Int)) = true := decide_eq_true c16
                      clear c16
                      by_cases c17 : 0 < ((a0.extract (rdOf ByteArray.empty y102 x10_1).size a0.size).size : Int)
                      · rw [if_pos c17] at H
                        have c17b0 : decide (0 < ((a0.extract (rdOf ByteArray.empty y102 x10_1).size a0.size).size : Int)) = true := decide_eq_true c17
                        try (have c17x0 := c17b0; simp only [ByteArray.size_extract, Nat.min_self] at c17x0)
                        have c17b1 : decide (0 < (a0.extract (rdOf ByteArray.empty y102 x10_1).size a0.size).size) = true := decide_eq_true (by omega)
                        try (have c17x1 := c17b1; simp only [ByteArray.size_extract, Nat.min_self] at c17x1)
                        clear c17
                        by_cases c19 : (bt (a0.extract (rdOf ByteArray.empty y102 x10_1).size a0.size) 0) = 58
                        · rw [if_pos c19] at H
                          have c19b0 : ((bt (a0.extract (rdOf ByteArray.empty y102 x10_1).size a0.size) 0) == 58) = true := beq_iff_eq.mpr c19
                          try (have c19x0 := c19b0; simp only [ByteArray.size_extract, Nat.min_self] at c19x0)
                          have c19b1 : ((bt (a0.extract (rdOf ByteArray.empty y102 x10_1).size a0.size) 0) != 58) = false := bne_eq_false_iff_eq.mpr c19
                          try (have c19x1 := c19b1; simp only [ByteArray.size_extract, Nat.min_self] at c19x1)
                          clear c19
                          obtain rfl := Option.some.inj H
                          have p18 : 0 ≤ (0 : Int) := (by omega)
                          have q18 : 0 < (a0.extract (rdOf ByteArray.empty y102 x10_1).size a0.size).size := (by have : (0 : Int) < ((a0.extract (rdOf ByteArray.empty y102 x10_1).size a0.size).size : Int) := of_decide_eq_true (by first | (with_reducible assumption) | assumption); omega)
                          have hx18 : ∀ h : 0 < (a0.extract (rdOf ByteArray.empty y102 x10_1).size a0.size).size, (((a0.extract (rdOf ByteArray.empty y102 x10_1).size a0.size)[0]'h).toNat : Int) = bt (a0.extract (rdOf ByteArray.empty y102 x10_1).size a0.size) 0 := bt_at (a0.extract (rdOf ByteArray.empty y102 x10_1).size a0.size) 0
                          clear p18
                          have qi18 : (0 < ((a0.extract (rdOf ByteArray.empty y102 x10_1).size a0.size).size : Int)) = True := eq_true (of_decide_eq_true (by first | (with_reducible assumption) | assumption))
                          replace q18 := eq_true q18; (try (have q18x := of_eq_true q18; simp only [ByteArray.size_extract, Nat.min_self] at q18x; replace q18x := eq_true q18x))
                          go_wp2
                          go_ret
                          exact ⟨by first | rfl | (simp [errW_none, errW_some] <;> rfl) | (simp [*, errW_none, errW_some] <;> rfl), by repeat (first | (with_reducible first | exact HB.out | apply below_alloc | apply pw_below_drewN | apply below_drew1) | exact HB.out)⟩
                        · rw [if_neg c19] at H
                          have c19b0 : ((bt (a0.extract (rdOf ByteArray.empty y102 x10_1).size a0.size) 0) == 58) = false := beq_eq_false_iff_ne.mpr c19
                          try (have c19x0 := c19b0; simp only [ByteArray.size_extract, Nat.min_self] at c19x0)
                          have c19b1 : ((bt (a0.extract (rdOf ByteArray.empty y102 x10_1).size a0.size) 0) != 58) = true := bne_iff_ne.mpr c19
                          try (have c19x1 := c19b1; simp only [ByteArray.size_extract, Nat.min_self] at c19x1)
                          have H' := Aside0.mk H
                          clear H
                          have p18 : 0 ≤ (0 : Int) := (by omega)
                          have q18 : 0 < (a0.extract (rdOf ByteArray.empty y102 x10_1).size a0.size).size := (by have : (0 : Int) < ((a0.extract (rdOf ByteArray.empty y102 x10_1).size a0.size).size : Int) := of_decide_eq_true (by first | (with_reducible assumption) | assumption); omega)
                          have hx18 : ∀ h : 0 < (a0.extract (rdOf ByteArray.empty y102 x10_1).size a0.size).size, (((a0.extract (rdOf ByteArray.empty y102 x10_1).size a0.size)[0]'h).toNat : Int) = bt (a0.extract (rdOf ByteArray.empty y102 x10_1).size a0.size) 0 := bt_at (a0.extract (rdOf ByteArray.empty y102 x10_1).size a0.size) 0
                          clear p18
                          have qi18 : (0 < ((a0.extract (rdOf ByteArray.empty y102 x10_1).size a0.size).size : Int)) = True := eq_true (of_decide_eq_true (by first | (with_reducible assumption) | assumption))
                          replace q18 := eq_true q18; (try (have q18x := of_eq_true q18; simp only [ByteArray.size_extract, Nat.min_self] at q18x; replace q18x := eq_true q18x))
                          go_wp2
                          go_loopg [6] kj7 (fun kq v6 w' => ∃ (x6_3 : Int), v6 = .int .i64 x6_3 ∧ Aside0 (mail_marked.l1 kq a0 (rdOf ByteArray.empty y102 x10_1) (a0.extract (rdOf ByteArray.empty y102 x10_1).size a0.size) x6_3 y102 (y102.length : Int) x10_1 = some r) ∧ Aside0 (kq ≤ kj7) ∧ Aside0 (Kd.R Kd.string 9 w' w.heap.size (fun _ => True) (.slice (some ad105) y102.length co4) y102) ∧ Aside0 (Below w.heap.size w w'))
                          case atStart => exact ⟨(1), (by first | rfl | (simp; done) | (simp [*]; done)), H', ⟨Nat.le_refl _⟩, ⟨by (with_reducible repeat (first | apply Kd.R_alloc | apply Kd.R_drewN | apply Kd.R_drew)); exact HO_8.out⟩, ⟨by repeat (first | (with_reducible first | exact HB.out | apply below_alloc | apply pw_below_drewN | apply below_drew1) | exact HB.out)⟩⟩
                          case round =>
                            clear H'
                            try clear c1
                            try clear p1
                            try clear q1
                            try clear hx1
                            try clear qi1
                            try clear p2
                            try clear c5
                            try clear c5b0
                            try clear c6
                            try clear c6b0
                            try clear p6
                            try clear c7
                            try clear c7b0
                            try clear c9
                            try clear c9b0
                            try clear c9b1
                            try clear c10
                            try clear c10b0
                            try clear c10b1
                            try clear p10
                            try clear q10
                            try clear hx10
                            try clear c11
                            try clear c11b0
                            try clear c11b1
                            try clear c14
                            try clear c15
                            try clear c15b0
                            try clear c15b1
                            try clear c16
                            try clear c16b0
                            try clear c16b1
                            try clear c17
                            try clear c17b0
                            try clear c17b1
                            try clear p18
                            try clear q18
                            try clear hx18
                            try clear qi18
                            try clear c19
                            try clear c19b0
                            try clear c19b1
                            try clear hx105_0
                            try clear p1
                            try clear p10
                            try clear p105
                            try clear p18
                            try clear p2
                            try clear q1
                            try clear q10
                            try clear q105
                            try clear q18
                            obtain ⟨x6_3, rfl, HA, HK3, HO_8, HB⟩ := hrel
                            cases gk with
                            | zero => exact absurd HA.out (by simp [mail_marked.l1])
                            | succ k3 =>
                              have H := HA.out
                              clear HA
                              simp only [mail_marked.l1] at H
                              by_cases c20 : x6_3 < ((a0.extract (rdOf ByteArray.empty y102 x10_1).size a0.size).size : Int)
                              · rw [if_pos c20] at H
                                have c20b0 : decide (x6_3 < ((a0.extract (rdOf ByteArray.empty y102 x10_1).size a0.size).size : Int)) = true := decide_eq_true c20
                                try (have c20x0 := c20b0; simp only [ByteArray.size_extract, Nat.min_self] at c20x0)
                                clear c20
                                by_cases c21 : 0 ≤ x6_3
                                · rw [if_pos c21] at H
                                  have c21b0 : decide (0 ≤ x6_3) = true := decide_eq_true c21
                                  clear c21
                                  replace H := Option.bind_eq_some_iff.mp H
                                  obtain ⟨t107, A230, H⟩ := H
                                  replace H : (if t107 = true then (mail_marked.l1 k3 a0 (rdOf ByteArray.empty y102 x10_1) (a0.extract (rdOf ByteArray.empty y102 x10_1).size a0.size) (wrap64 (x6_3 + 1)) y102 (y102.length : Int) x10_1) else (if 0 < ((a0.extract (rdOf ByteArray.empty y102 x10_1).size a0.size).size : Int) then (if (bt (a0.extract (rdOf ByteArray.empty y102 x10_1).size a0.size) 0) = 91 then (if x6_3 ≥ 2 then (if x6_3 ≤ 4 then (if x6_3 ≤ ((a0.extract (rdOf ByteArray.empty y102 x10_1).size a0.size).size : Int) then ((strings_HasPrefix.f ((a0.extract (rdOf ByteArray.empty y102 x10_1).size a0.size).extract (x6_3 : Int).toNat (a0.extract (rdOf ByteArray.empty y102 x10_1).size a0.size).size) (⟨#[93, 58]⟩ : ByteArray)).bind fun t108 => (if t108 = true then (some (wrap64 ((wrap64 (((rdOf ByteArray.empty y102 x10_1).size : Int) + x6_3)) + 2))) else (mail_marked.l0 k3 a0 y102 (y102.length : Int) (wrap64 (x10_1 + 1))))) else (none)) else (mail_marked.l0 k3 a0 y102 (y102.length : Int) (wrap64 (x10_1 + 1)))) else (mail_marked.l0 k3 a0 y102 (y102.length : Int) (wrap64 (x10_1 + 1)))) else (mail_marked.l0 k3 a0 y102 (y102.length : Int) (wrap64 (x10_1 + 1)))) else (none))) = some r := H
                                  have A23 := Aside0.mk A230
                                  clear A230
                                  by_cases c24 : t107 = true
                                  · subst c24
                                    have H1 : (mail_marked.l1 k3 a0 (rdOf ByteArray.empty y102 x10_1) (a0.extract (rdOf ByteArray.empty y102 x10_1).size a0.size) (wrap64 (x6_3 + 1)) y102 (y102.length : Int) x10_1) = some r := by rw [if_pos rfl] at H; exact H
                                    clear H
                                    have H := H1
                                    clear H1
                                    have H' := Aside0.mk H
                                    clear H
                                    have p22 : 0 ≤ (x6_3 : Int) := of_decide_eq_true (by first | (with_reducible assumption) | assumption)
                                    have q22 : x6_3 < ((a0.extract (rdOf ByteArray.empty y102 x10_1).size a0.size).size : Int) := of_decide_eq_true (by first | (with_reducible assumption) | assumption)
                                    have hx22 := bt_at (a0.extract (rdOf ByteArray.empty y102 x10_1).size a0.size) x6_3
                                    replace p22 := eq_true p22
                                    replace q22 := eq_true q22; (try (have q22x := of_eq_true q22; simp only [ByteArray.size_extract, Nat.min_self] at q22x; replace q22x := eq_true q22x))
                                    go_wp2_with (first | (go_at_call 56; (first | (with_reducible refine (mail_digit.calls (bt (a0.extract (rdOf ByteArray.empty y102 x10_1).size a0.size) x6_3) true _ A23.out).mono ?_) | (with_reducible refine (mail_digit.calls _ true _ (by simpa only [ByteArray.size_extract, Nat.min_self] using A23.out)).mono ?_)); rintro e w' ⟨rfl, ⟨nd, rfl⟩⟩))
                                    go_roundg k3
                                    case measure => have := HK1.out; have := HJ7.out; have := HK3.out; omega
                                    case rel => exact ⟨(wrap64 (x6_3 + 1)), (by first | rfl | (simp; done) | (simp [*]; done)), H', ⟨by have := HK1.out; have := HJ7.out; have := HK3.out; omega⟩, ⟨by (with_reducible repeat (first | apply Kd.R_alloc | apply Kd.R_drewN | apply Kd.R_drew)); exact HO_8.out⟩, ⟨by repeat (first | (with_reducible first | exact HB.out | apply below_alloc | apply pw_below_drewN | apply below_drew1) | exact HB.out)⟩⟩
                                  · replace c24 := Bool.eq_false_iff.mpr c24
                                    subst c24
                                    have H1 : (if 0 < ((a0.extract (rdOf ByteArray.empty y102 x10_1).size a0.size).size : Int) then (if (bt (a0.extract (rdOf ByteArray.empty y102 x10_1).size a0.size) 0) = 91 then (if x6_3 ≥ 2 then (if x6_3 ≤ 4 then (if x6_3 ≤ ((a0.extract (rdOf ByteArray.empty y102 x10_1).size a0.size).size : Int) then ((strings_HasPrefix.f ((a0.extract (rdOf ByteArray.empty y102 x10_1).size a0.size).extract (x6_3 : Int).toNat (a0.extract (rdOf ByteArray.empty y102 x10_1).size a0.size).size) (⟨#[93, 58]⟩ : ByteArray)).bind fun t108 => (if t108 = true then (some (wrap64 ((wrap64 (((rdOf ByteArray.empty y102 x10_1).size : Int) + x6_3)) + 2))) else (mail_marked.l0 k3 a0 y102 (y102.length : Int) (wrap64 (x10_1 + 1))))) else (none)) else (mail_marked.l0 k3 a0 y102 (y102.length : Int) (wrap64 (x10_1 + 1)))) else (mail_marked.l0 k3 a0 y102 (y102.length : Int) (wrap64 (x10_1 + 1)))) else (mail_marked.l0 k3 a0 y102 (y102.length : Int) (wrap64 (x10_1 + 1)))) else (none)) = some r := by rw [if_neg (show ¬ (false = true) by decide)] at H; exact H
                                    clear H
                                    have H := H1
                                    clear H1
                                    by_cases c25 : 0 < ((a0.extract (rdOf ByteArray.empty y102 x10_1).size a0.size).size : Int)
                                    · rw [if_pos c25] at H
                                      have c25b0 : decide (0 < ((a0.extract (rdOf ByteArray.empty y102 x10_1).size a0.size).size : Int)) = true := decide_eq_true c25
                                      try (have c25x0 := c25b0; simp only [ByteArray.size_extract, Nat.min_self] at c25x0)
                                      have c25b1 : decide (0 < (a0.extract (rdOf ByteArray.empty y102 x10_1).size a0.size).size) = true := decide_eq_true (by omega)
                                      try (have c25x1 := c25b1; simp only [ByteArray.size_extract, Nat.min_self] at c25x1)
                                      clear c25
                                      by_cases c27 : (bt (a0.extract (rdOf ByteArray.empty y102 x10_1).size a0.size) 0) = 91
                                      · rw [if_pos c27] at H
                                        have c27b0 : ((bt (a0.extract (rdOf ByteArray.empty y102 x10_1).size a0.size) 0) == 91) = true := beq_iff_eq.mpr c27
                                        try (have c27x0 := c27b0; simp only [ByteArray.size_extract, Nat.min_self] at c27x0)
                                        have c27b1 : ((bt (a0.extract (rdOf ByteArray.empty y102 x10_1).size a0.size) 0) != 91) = false := bne_eq_false_iff_eq.mpr c27
                                        try (have c27x1 := c27b1; simp only [ByteArray.size_extract, Nat.min_self] at c27x1)
                                        clear c27
                                        by_cases c28 : x6_3 ≥ 2
                                        · rw [if_pos c28] at H
                                          have c28b0 : decide (2 ≤ x6_3) = true := decide_eq_true c28
                                          clear c28
                                          by_cases c29 : x6_3 ≤ 4
                                          · rw [if_pos c29] at H
                                            have c29b0 : decide (x6_3 ≤ 4) = true := decide_eq_true c29
                                            clear c29
                                            have c30b0 := eq_true (of_decide_eq_true (by first | (with_reducible assumption) | assumption) : 0 ≤ x6_3)
                                            by_cases c31 : x6_3 ≤ ((a0.extract (rdOf ByteArray.empty y102 x10_1).size a0.size).size : Int)
                                            · rw [if_pos c31] at H
                                              have c31b0 := eq_true c31
                                              try (have c31x0 := c31; simp only [ByteArray.size_extract, Nat.min_self] at c31x0; replace c31x0 := eq_true c31x0)
                                              have c31b1 : decide (x6_3 ≤ ((a0.extract (rdOf ByteArray.empty y102 x10_1).size a0.size).size : Int)) = true := decide_eq_true c31
                                              try (have c31x1 := c31b1; simp only [ByteArray.size_extract, Nat.min_self] at c31x1)
                                              clear c31
                                              replace H := Option.bind_eq_some_iff.mp H
                                              obtain ⟨t108, A320, H⟩ := H
                                              replace H : (if t108 = true then (some (wrap64 ((wrap64 (((rdOf ByteArray.empty y102 x10_1).size : Int) + x6_3)) + 2))) else (mail_marked.l0 k3 a0 y102 (y102.length : Int) (wrap64 (x10_1 + 1)))) = some r := H
                                              have A32 := Aside0.mk A320
                                              clear A320
                                              by_cases c33 : t108 = true
                                              · subst c33
                                                have H1 : (some (wrap64 ((wrap64 (((rdOf ByteArray.empty y102 x10_1).size : Int) + x6_3)) + 2))) = some r := by rw [if_pos rfl] at H; exact H
                                                clear H
                                                have H := H1
                                                clear H1
                                                obtain rfl := Option.some.inj H
                                                have p22 : 0 ≤ (x6_3 : Int) := of_decide_eq_true (by first | (with_reducible assumption) | assumption)
                                                have q22 : x6_3 < ((a0.extract (rdOf ByteArray.empty y102 x10_1).size a0.size).size : Int) := of_decide_eq_true (by first | (with_reducible assumption) | assumption)
                                                have hx22 := bt_at (a0.extract (rdOf ByteArray.empty y102 x10_1).size a0.size) x6_3
                                                replace p22 := eq_true p22
                                                replace q22 := eq_true q22; (try (have q22x := of_eq_true q22; simp only [ByteArray.size_extract, Nat.min_self] at q22x; replace q22x := eq_true q22x))
                                                go_wp2_with (first | (go_at_call 56; (first | (with_reducible refine (mail_digit.calls (bt (a0.extract (rdOf ByteArray.empty y102 x10_1).size a0.size) x6_3) false _ A23.out).mono ?_) | (with_reducible refine (mail_digit.calls _ false _ (by simpa only [ByteArray.size_extract, Nat.min_self] using A23.out)).mono ?_)); rintro e w' ⟨rfl, ⟨nd, rfl⟩⟩; have p26 : 0 ≤ (0 : Int) := (by omega); have q26 : 0 < (a0.extract (rdOf ByteArray.empty y102 x10_1).size a0.size).size := (by have : (0 : Int) < ((a0.extract (rdOf ByteArray.empty y102 x10_1).size a0.size).size : Int) := of_decide_eq_true (by first | (with_reducible assumption) | assumption); omega); have hx26 : ∀ h : 0 < (a0.extract (rdOf ByteArray.empty y102 x10_1).size a0.size).size, (((a0.extract (rdOf ByteArray.empty y102 x10_1).size a0.size)[0]'h).toNat : Int) = bt (a0.extract (rdOf ByteArray.empty y102 x10_1).size a0.size) 0 := bt_at (a0.extract (rdOf ByteArray.empty y102 x10_1).size a0.size) 0; clear p26; have qi26 : (0 < ((a0.extract (rdOf ByteArray.empty y102 x10_1).size a0.size).size : Int)) = True := eq_true (of_decide_eq_true (by first | (with_reducible assumption) | assumption)); replace q26 := eq_true q26; (try (have q26x := of_eq_true q26; simp only [ByteArray.size_extract, Nat.min_self] at q26x; replace q26x := eq_true q26x))) | (go_at_call 41; (first | (with_reducible refine (strings_HasPrefix.calls ((a0.extract (rdOf ByteArray.empty y102 x10_1).size a0.size).extract (x6_3 : Int).toNat (a0.extract (rdOf ByteArray.empty y102 x10_1).size a0.size).size) (⟨#[93, 58]⟩ : ByteArray) true _ A32.out).mono ?_) | (with_reducible refine (strings_HasPrefix.calls _ (⟨#[93, 58]⟩ : ByteArray) true _ (by simpa only [ByteArray.size_extract, Nat.min_self] using A32.out)).mono ?_)); rintro e w' ⟨rfl, ⟨nd, rfl⟩⟩))
                                                go_ret
                                                exact ⟨by first | rfl | (simp [errW_none, errW_some] <;> rfl) | (simp [*, errW_none, errW_some] <;> rfl), by repeat (first | (with_reducible first | exact HB.out | apply below_alloc | apply pw_below_drewN | apply below_drew1) | exact HB.out)⟩
                                              · replace c33 := Bool.eq_false_iff.mpr c33
                                                subst c33
                                                have H1 : (mail_marked.l0 k3 a0 y102 (y102.length : Int) (wrap64 (x10_1 + 1))) = some r := by rw [if_neg (show ¬ (false = true) by decide)] at H; exact H
                                                clear H
                                                have H := H1
                                                clear H1
                                                have H' := Aside0.mk H
                                                clear H
                                                have p22 : 0 ≤ (x6_3 : Int) := of_decide_eq_true (by first | (with_reducible assumption) | assumption)
                                                have q22 : x6_3 < ((a0.extract (rdOf ByteArray.empty y102 x10_1).size a0.size).size : Int) := of_decide_eq_true (by first | (with_reducible assumption) | assumption)
                                                have hx22 := bt_at (a0.extract (rdOf ByteArray.empty y102 x10_1).size a0.size) x6_3
                                                replace p22 := eq_true p22
                                                replace q22 := eq_true q22; (try (have q22x := of_eq_true q22; simp only [ByteArray.size_extract, Nat.min_self] at q22x; replace q22x := eq_true q22x))
                                                go_wp2_with (first | (go_at_call 56; (first | (with_reducible refine (mail_digit.calls (bt (a0.extract (rdOf ByteArray.empty y102 x10_1).size a0.size) x6_3) false _ A23.out).mono ?_) | (with_reducible refine (mail_digit.calls _ false _ (by simpa only [ByteArray.size_extract, Nat.min_self] using A23.out)).mono ?_)); rintro e w' ⟨rfl, ⟨nd, rfl⟩⟩; have p26 : 0 ≤ (0 : Int) := (by omega); have q26 : 0 < (a0.extract (rdOf ByteArray.empty y102 x10_1).size a0.size).size := (by have : (0 : Int) < ((a0.extract (rdOf ByteArray.empty y102 x10_1).size a0.size).size : Int) := of_decide_eq_true (by first | (with_reducible assumption) | assumption); omega); have hx26 : ∀ h : 0 < (a0.extract (rdOf ByteArray.empty y102 x10_1).size a0.size).size, (((a0.extract (rdOf ByteArray.empty y102 x10_1).size a0.size)[0]'h).toNat : Int) = bt (a0.extract (rdOf ByteArray.empty y102 x10_1).size a0.size) 0 := bt_at (a0.extract (rdOf ByteArray.empty y102 x10_1).size a0.size) 0; clear p26; have qi26 : (0 < ((a0.extract (rdOf ByteArray.empty y102 x10_1).size a0.size).size : Int)) = True := eq_true (of_decide_eq_true (by first | (with_reducible assumption) | assumption)); replace q26 := eq_true q26; (try (have q26x := of_eq_true q26; simp only [ByteArray.size_extract, Nat.min_self] at q26x; replace q26x := eq_true q26x))) | (go_at_call 41; (first | (with_reducible refine (strings_HasPrefix.calls ((a0.extract (rdOf ByteArray.empty y102 x10_1).size a0.size).extract (x6_3 : Int).toNat (a0.extract (rdOf ByteArray.empty y102 x10_1).size a0.size).size) (⟨#[93, 58]⟩ : ByteArray) false _ A32.out).mono ?_) | (with_reducible refine (strings_HasPrefix.calls _ (⟨#[93, 58]⟩ : ByteArray) false _ (by simpa only [ByteArray.size_extract, Nat.min_self] using A32.out)).mono ?_)); rintro e w' ⟨rfl, ⟨nd, rfl⟩⟩))
                                                go_roundg k3
                                                case measure => have := HK1.out; have := HJ7.out; have := HK3.out; omega
                                                case rel => exact ⟨(wrap64 (x10_1 + 1)), (by first | rfl | (simp; done) | (simp [*]; done)), H', ⟨by have := HK1.out; have := HJ7.out; have := HK3.out; omega⟩, ⟨by (with_reducible repeat (first | apply Kd.R_alloc | apply Kd.R_drewN | apply Kd.R_drew)); exact HO_8.out⟩, ⟨by repeat (first | (with_reducible first | exact HB.out | apply below_alloc | apply pw_below_drewN | apply below_drew1) | exact HB.out)⟩⟩
                                            · rw [if_neg c31] at H
                                              exact absurd H (by simp)
                                          · rw [if_neg c29] at H
                                            have c29b0 : decide (x6_3 ≤ 4) = false := decide_eq_false c29
                                            clear c29
                                            have H' := Aside0.mk H
                                            clear H
                                            have p22 : 0 ≤ (x6_3 : Int) := of_decide_eq_true (by first | (with_reducible assumption) | assumption)
                                            have q22 : x6_3 < ((a0.extract (rdOf ByteArray.empty y102 x10_1).size a0.size).size : Int) := of_decide_eq_true (by first | (with_reducible assumption) | assumption)
                                            have hx22 := bt_at (a0.extract (rdOf ByteArray.empty y102 x10_1).size a0.size) x6_3
                                            replace p22 := eq_true p22
                                            replace q22 := eq_true q22; (try (have q22x := of_eq_true q22; simp only [ByteArray.size_extract, Nat.min_self] at q22x; replace q22x := eq_true q22x))
                                            go_wp2_with (first | (go_at_call 56; (first | (with_reducible refine (mail_digit.calls (bt (a0.extract (rdOf ByteArray.empty y102 x10_1).size a0.size) x6_3) false _ A23.out).mono ?_) | (with_reducible refine (mail_digit.calls _ false _ (by simpa only [ByteArray.size_extract, Nat.min_self] using A23.out)).mono ?_)); rintro e w' ⟨rfl, ⟨nd, rfl⟩⟩; have p26 : 0 ≤ (0 : Int) := (by omega); have q26 : 0 < (a0.extract (rdOf ByteArray.empty y102 x10_1).size a0.size).size := (by have : (0 : Int) < ((a0.extract (rdOf ByteArray.empty y102 x10_1).size a0.size).size : Int) := of_decide_eq_true (by first | (with_reducible assumption) | assumption); omega); have hx26 : ∀ h : 0 < (a0.extract (rdOf ByteArray.empty y102 x10_1).size a0.size).size, (((a0.extract (rdOf ByteArray.empty y102 x10_1).size a0.size)[0]'h).toNat : Int) = bt (a0.extract (rdOf ByteArray.empty y102 x10_1).size a0.size) 0 := bt_at (a0.extract (rdOf ByteArray.empty y102 x10_1).size a0.size) 0; clear p26; have qi26 : (0 < ((a0.extract (rdOf ByteArray.empty y102 x10_1).size a0.size).size : Int)) = True := eq_true (of_decide_eq_true (by first | (with_reducible assumption) | assumption)); replace q26 := eq_true q26; (try (have q26x := of_eq_true q26; simp only [ByteArray.size_extract, Nat.min_self] at q26x; replace q26x := eq_true q26x))))
                                            go_roundg k3
                                            case measure => have := HK1.out; have := HJ7.out; have := HK3.out; omega
                                            case rel => exact ⟨(wrap64 (x10_1 + 1)), (by first | rfl | (simp; done) | (simp [*]; done)), H', ⟨by have := HK1.out; have := HJ7.out; have := HK3.out; omega⟩, ⟨by (with_reducible repeat (first | apply Kd.R_alloc | apply Kd.R_drewN | apply Kd.R_drew)); exact HO_8.out⟩, ⟨by repeat (first | (with_reducible first | exact HB.out | apply below_alloc | apply pw_below_drewN | apply below_drew1) | exact HB.out)⟩⟩
                                        · rw [if_neg c28] at H
                                          have c28b0 : decide (2 ≤ x6_3) = false := decide_eq_false c28
                                          clear c28
                                          have H' := Aside0.mk H
                                          clear H
                                          have p22 : 0 ≤ (x6_3 : Int) := of_decide_eq_true (by first | (with_reducible assumption) | assumption)
                                          have q22 : x6_3 < ((a0.extract (rdOf ByteArray.empty y102 x10_1).size a0.size).size : Int) := of_decide_eq_true (by first | (with_reducible assumption) | assumption)
                                          have hx22 := bt_at (a0.extract (rdOf ByteArray.empty y102 x10_1).size a0.size) x6_3
                                          replace p22 := eq_true p22
                                          replace q22 := eq_true q22; (try (have q22x := of_eq_true q22; simp only [ByteArray.size_extract, Nat.min_self] at q22x; replace q22x := eq_true q22x))
                                          go_wp2_with (first | (go_at_call 56; (first | (with_reducible refine (mail_digit.calls (bt (a0.extract (rdOf ByteArray.empty y102 x10_1).size a0.size) x6_3) false _ A23.out).mono ?_) | (with_reducible refine (mail_digit.calls _ false _ (by simpa only [ByteArray.size_extract, Nat.min_self] using A23.out)).mono ?_)); rintro e w' ⟨rfl, ⟨nd, rfl⟩⟩; have p26 : 0 ≤ (0 : Int) := (by omega); have q26 : 0 < (a0.extract (rdOf ByteArray.empty y102 x10_1).size a0.size).size := (by have : (0 : Int) < ((a0.extract (rdOf ByteArray.empty y102 x10_1).size a0.size).size : Int) := of_decide_eq_true (by first | (with_reducible assumption) | assumption); omega); have hx26 : ∀ h : 0 < (a0.extract (rdOf ByteArray.empty y102 x10_1).size a0.size).size, (((a0.extract (rdOf ByteArray.empty y102 x10_1).size a0.size)[0]'h).toNat : Int) = bt (a0.extract (rdOf ByteArray.empty y102 x10_1).size a0.size) 0 := bt_at (a0.extract (rdOf ByteArray.empty y102 x10_1).size a0.size) 0; clear p26; have qi26 : (0 < ((a0.extract (rdOf ByteArray.empty y102 x10_1).size a0.size).size : Int)) = True := eq_true (of_decide_eq_true (by first | (with_reducible assumption) | assumption)); replace q26 := eq_true q26; (try (have q26x := of_eq_true q26; simp only [ByteArray.size_extract, Nat.min_self] at q26x; replace q26x := eq_true q26x))))
                                          go_roundg k3
                                          case measure => have := HK1.out; have := HJ7.out; have := HK3.out; omega
                                          case rel => exact ⟨(wrap64 (x10_1 + 1)), (by first | rfl | (simp; done) | (simp [*]; done)), H', ⟨by have := HK1.out; have := HJ7.out; have := HK3.out; omega⟩, ⟨by (with_reducible repeat (first | apply Kd.R_alloc | apply Kd.R_drewN | apply Kd.R_drew)); exact HO_8.out⟩, ⟨by repeat (first | (with_reducible first | exact HB.out | apply below_alloc | apply pw_below_drewN | apply below_drew1) | exact HB.out)⟩⟩
                                      · rw [if_neg c27] at H
                                        have c27b0 : ((bt (a0.extract (rdOf ByteArray.empty y102 x10_1).size a0.size) 0) == 91) = false := beq_eq_false_iff_ne.mpr c27
                                        try (have c27x0 := c27b0; simp only [ByteArray.size_extract, Nat.min_self] at c27x0)
                                        have c27b1 : ((bt (a0.extract (rdOf ByteArray.empty y102 x10_1).size a0.size) 0) != 91) = true := bne_iff_ne.mpr c27
                                        try (have c27x1 := c27b1; simp only [ByteArray.size_extract, Nat.min_self] at c27x1)
                                        have H' := Aside0.mk H
                                        clear H
                                        have p22 : 0 ≤ (x6_3 : Int) := of_decide_eq_true (by first | (with_reducible assumption) | assumption)
                                        have q22 : x6_3 < ((a0.extract (rdOf ByteArray.empty y102 x10_1).size a0.size).size : Int) := of_decide_eq_true (by first | (with_reducible assumption) | assumption)
                                        have hx22 := bt_at (a0.extract (rdOf ByteArray.empty y102 x10_1).size a0.size) x6_3
                                        replace p22 := eq_true p22
                                        replace q22 := eq_true q22; (try (have q22x := of_eq_true q22; simp only [ByteArray.size_extract, Nat.min_self] at q22x; replace q22x := eq_true q22x))
                                        go_wp2_with (first | (go_at_call 56; (first | (with_reducible refine (mail_digit.calls (bt (a0.extract (rdOf ByteArray.empty y102 x10_1).size a0.size) x6_3) false _ A23.out).mono ?_) | (with_reducible refine (mail_digit.calls _ false _ (by simpa only [ByteArray.size_extract, Nat.min_self] using A23.out)).mono ?_)); rintro e w' ⟨rfl, ⟨nd, rfl⟩⟩; have p26 : 0 ≤ (0 : Int) := (by omega); have q26 : 0 < (a0.extract (rdOf ByteArray.empty y102 x10_1).size a0.size).size := (by have : (0 : Int) < ((a0.extract (rdOf ByteArray.empty y102 x10_1).size a0.size).size : Int) := of_decide_eq_true (by first | (with_reducible assumption) | assumption); omega); have hx26 : ∀ h : 0 < (a0.extract (rdOf ByteArray.empty y102 x10_1).size a0.size).size, (((a0.extract (rdOf ByteArray.empty y102 x10_1).size a0.size)[0]'h).toNat : Int) = bt (a0.extract (rdOf ByteArray.empty y102 x10_1).size a0.size) 0 := bt_at (a0.extract (rdOf ByteArray.empty y102 x10_1).size a0.size) 0; clear p26; have qi26 : (0 < ((a0.extract (rdOf ByteArray.empty y102 x10_1).size a0.size).size : Int)) = True := eq_true (of_decide_eq_true (by first | (with_reducible assumption) | assumption)); replace q26 := eq_true q26; (try (have q26x := of_eq_true q26; simp only [ByteArray.size_extract, Nat.min_self] at q26x; replace q26x := eq_true q26x))))
                                        go_roundg k3
                                        case measure => have := HK1.out; have := HJ7.out; have := HK3.out; omega
                                        case rel => exact ⟨(wrap64 (x10_1 + 1)), (by first | rfl | (simp; done) | (simp [*]; done)), H', ⟨by have := HK1.out; have := HJ7.out; have := HK3.out; omega⟩, ⟨by (with_reducible repeat (first | apply Kd.R_alloc | apply Kd.R_drewN | apply Kd.R_drew)); exact HO_8.out⟩, ⟨by repeat (first | (with_reducible first | exact HB.out | apply below_alloc | apply pw_below_drewN | apply below_drew1) | exact HB.out)⟩⟩
                                    · rw [if_neg c25] at H
                                      exact absurd H (by simp)
                                · rw [if_neg c21] at H
                                  exact absurd H (by simp)
                              · rw [if_neg c20] at H
                                have c20b0 : decide (x6_3 < ((a0.extract (rdOf ByteArray.empty y102 x10_1).size a0.size).size : Int)) = false := decide_eq_false c20
                                try (have c20x0 := c20b0; simp only [ByteArray.size_extract, Nat.min_self] at c20x0)
                                clear c20
                                by_cases c34 : 0 < ((a0.extract (rdOf ByteArray.empty y102 x10_1).size a0.size).size : Int)
                                · rw [if_pos c34] at H
                                  have c34b0 : decide (0 < ((a0.extract (rdOf ByteArray.empty y102 x10_1).size a0.size).size : Int)) = true := decide_eq_true c34
                                  try (have c34x0 := c34b0; simp only [ByteArray.size_extract, Nat.min_self] at c34x0)
                                  have c34b1 : decide (0 < (a0.extract (rdOf ByteArray.empty y102 x10_1).size a0.size).size) = true := decide_eq_true (by omega)
                                  try (have c34x1 := c34b1; simp only [ByteArray.size_extract, Nat.min_self] at c34x1)
                                  clear c34
                                  by_cases c36 : (bt (a0.extract (rdOf ByteArray.empty y102 x10_1).size a0.size) 0) = 91
                                  · rw [if_pos c36] at H
                                    have c36b0 : ((bt (a0.extract (rdOf ByteArray.empty y102 x10_1).size a0.size) 0) == 91) = true := beq_iff_eq.mpr c36
                                    try (have c36x0 := c36b0; simp only [ByteArray.size_extract, Nat.min_self] at c36x0)
                                    have c36b1 : ((bt (a0.extract (rdOf ByteArray.empty y102 x10_1).size a0.size) 0) != 91) = false := bne_eq_false_iff_eq.mpr c36
                                    try (have c36x1 := c36b1; simp only [ByteArray.size_extract, Nat.min_self] at c36x1)
                                    clear c36
                                    by_cases c37 : x6_3 ≥ 2
                                    · rw [if_pos c37] at H
                                      have c37b0 : decide (2 ≤ x6_3) = true := decide_eq_true c37
                                      clear c37
                                      by_cases c38 : x6_3 ≤ 4
                                      · rw [if_pos c38] at H
                                        have c38b0 : decide (x6_3 ≤ 4) = true := decide_eq_true c38
                                        clear c38
                                        by_cases c39 : 0 ≤ x6_3
                                        · rw [if_pos c39] at H
                                          have c39b0 := eq_true c39
                                          have c39b1 : decide (0 ≤ x6_3) = true := decide_eq_true c39
                                          clear c39
                                          by_cases c40 : x6_3 ≤ ((a0.extract (rdOf ByteArray.empty y102 x10_1).size a0.size).size : Int)
                                          · rw [if_pos c40] at H
                                            have c40b0 := eq_true c40
                                            try (have c40x0 := c40; simp only [ByteArray.size_extract, Nat.min_self] at c40x0; replace c40x0 := eq_true c40x0)
                                            have c40b1 : decide (x6_3 ≤ ((a0.extract (rdOf ByteArray.empty y102 x10_1).size a0.size).size : Int)) = true := decide_eq_true c40
                                            try (have c40x1 := c40b1; simp only [ByteArray.size_extract, Nat.min_self] at c40x1)
                                            clear c40
                                            replace H := Option.bind_eq_some_iff.mp H
                                            obtain ⟨t109, A410, H⟩ := H
                                            replace H : (if t109 = true then (some (wrap64 ((wrap64 (((rdOf ByteArray.empty y102 x10_1).size : Int) + x6_3)) + 2))) else (mail_marked.l0 k3 a0 y102 (y102.length : Int) (wrap64 (x10_1 + 1)))) = some r := H
                                            have A41 := Aside0.mk A410
                                            clear A410
                                            by_cases c42 : t109 = true
                                            · subst c42
                                              have H1 : (some (wrap64 ((wrap64 (((rdOf ByteArray.empty y102 x10_1).size : Int) + x6_3)) + 2))) = some r := by rw [if_pos rfl] at H; exact H
                                              clear H
                                              have H := H1
                                              clear H1
                                              obtain rfl := Option.some.inj H
                                              have p35 : 0 ≤ (0 : Int) := (by omega)
                                              have q35 : 0 < (a0.extract (rdOf ByteArray.empty y102 x10_1).size a0.size).size := (by have : (0 : Int) < ((a0.extract (rdOf ByteArray.empty y102 x10_1).size a0.size).size : Int) := of_decide_eq_true (by first | (with_reducible assumption) | assumption); omega)
                                              have hx35 : ∀ h : 0 < (a0.extract (rdOf ByteArray.empty y102 x10_1).size a0.size).size, (((a0.extract (rdOf ByteArray.empty y102 x10_1).size a0.size)[0]'h).toNat : Int) = bt (a0.extract (rdOf ByteArray.empty y102 x10_1).size a0.size) 0 := bt_at (a0.extract (rdOf ByteArray.empty y102 x10_1).size a0.size) 0
                                              clear p35
                                              have qi35 : (0 < ((a0.extract (rdOf ByteArray.empty y102 x10_1).size a0.size).size : Int)) = True := eq_true (of_decide_eq_true (by first | (with_reducible assumption) | assumption))
                                              replace q35 := eq_true q35; (try (have q35x := of_eq_true q35; simp only [ByteArray.size_extract, Nat.min_self] at q35x; replace q35x := eq_true q35x))
                                              go_wp2_with (first | (go_at_call 41; (first | (with_reducible refine (strings_HasPrefix.calls ((a0.extract (rdOf ByteArray.empty y102 x10_1).size a0.size).extract (x6_3 : Int).toNat (a0.extract (rdOf ByteArray.empty y102 x10_1).size a0.size).size) (⟨#[93, 58]⟩ : ByteArray) true _ A41.out).mono ?_) | (with_reducible refine (strings_HasPrefix.calls _ (⟨#[93, 58]⟩ : ByteArray) true _ (by simpa only [ByteArray.size_extract, Nat.min_self] using A41.out)).mono ?_)); rintro e w' ⟨rfl, ⟨nd, rfl⟩⟩))
                                              go_ret
                                              exact ⟨by first | rfl | (simp [errW_none, errW_some] <;> rfl) | (simp [*, errW_none, errW_some] <;> rfl), by repeat (first | (with_reducible first | exact HB.out | apply below_alloc | apply pw_below_drewN | apply below_drew1) | exact HB.out)⟩
                                            · replace c42 := Bool.eq_false_iff.mpr c42
                                              subst c42
                                              have H1 : (mail_marked.l0 k3 a0 y102 (y102.length : Int) (wrap64 (x10_1 + 1))) = some r := by rw [if_neg (show ¬ (false = true) by decide)] at H; exact H
                                              clear H
                                              have H := H1
                                              clear H1
                                              have H' := Aside0.mk H
                                              clear H
                                              have p35 : 0 ≤ (0 : Int) := (by omega)
                                              have q35 : 0 < (a0.extract (rdOf ByteArray.empty y102 x10_1).size a0.size).size := (by have : (0 : Int) < ((a0.extract (rdOf ByteArray.empty y102 x10_1).size a0.size).size : Int) := of_decide_eq_true (by first | (with_reducible assumption) | assumption); omega)
                                              have hx35 : ∀ h : 0 < (a0.extract (rdOf ByteArray.empty y102 x10_1).size a0.size).size, (((a0.extract (rdOf ByteArray.empty y102 x10_1).size a0.size)[0]'h).toNat : Int) = bt (a0.extract (rdOf ByteArray.empty y102 x10_1).size a0.size) 0 := bt_at (a0.extract (rdOf ByteArray.empty y102 x10_1).size a0.size) 0
                                              clear p35
                                              have qi35 : (0 < ((a0.extract (rdOf ByteArray.empty y102 x10_1).size a0.size).size : Int)) = True := eq_true (of_decide_eq_true (by first | (with_reducible assumption) | assumption))
                                              replace q35 := eq_true q35; (try (have q35x := of_eq_true q35; simp only [ByteArray.size_extract, Nat.min_self] at q35x; replace q35x := eq_true q35x))
                                              go_wp2_with (first | (go_at_call 41; (first | (with_reducible refine (strings_HasPrefix.calls ((a0.extract (rdOf ByteArray.empty y102 x10_1).size a0.size).extract (x6_3 : Int).toNat (a0.extract (rdOf ByteArray.empty y102 x10_1).size a0.size).size) (⟨#[93, 58]⟩ : ByteArray) false _ A41.out).mono ?_) | (with_reducible refine (strings_HasPrefix.calls _ (⟨#[93, 58]⟩ : ByteArray) false _ (by simpa only [ByteArray.size_extract, Nat.min_self] using A41.out)).mono ?_)); rintro e w' ⟨rfl, ⟨nd, rfl⟩⟩))
                                              go_roundg k3
                                              case measure => have := HK1.out; have := HJ7.out; have := HK3.out; omega
                                              case rel => exact ⟨(wrap64 (x10_1 + 1)), (by first | rfl | (simp; done) | (simp [*]; done)), H', ⟨by have := HK1.out; have := HJ7.out; have := HK3.out; omega⟩, ⟨by (with_reducible repeat (first | apply Kd.R_alloc | apply Kd.R_drewN | apply Kd.R_drew)); exact HO_8.out⟩, ⟨by repeat (first | (with_reducible first | exact HB.out | apply below_alloc | apply pw_below_drewN | apply below_drew1) | exact HB.out)⟩⟩
                                          · rw [if_neg c40] at H
                                            exact absurd H (by simp)
                                        · rw [if_neg c39] at H
                                          exact absurd H (by simp)
                                      · rw [if_neg c38] at H
                                        have c38b0 : decide (x6_3 ≤ 4) = false := decide_eq_false c38
                                        clear c38
                                        have H' := Aside0.mk H
                                        clear H
                                        have p35 : 0 ≤ (0 : Int) := (by omega)
                                        have q35 : 0 < (a0.extract (rdOf ByteArray.empty y102 x10_1).size a0.size).size := (by have : (0 : Int) < ((a0.extract (rdOf ByteArray.empty y102 x10_1).size a0.size).size : Int) := of_decide_eq_true (by first | (with_reducible assumption) | assumption); omega)
                                        have hx35 : ∀ h : 0 < (a0.extract (rdOf ByteArray.empty y102 x10_1).size a0.size).size, (((a0.extract (rdOf ByteArray.empty y102 x10_1).size a0.size)[0]'h).toNat : Int) = bt (a0.extract (rdOf ByteArray.empty y102 x10_1).size a0.size) 0 := bt_at (a0.extract (rdOf ByteArray.empty y102 x10_1).size a0.size) 0
                                        clear p35
                                        have qi35 : (0 < ((a0.extract (rdOf ByteArray.empty y102 x10_1).size a0.size).size : Int)) = True := eq_true (of_decide_eq_true (by first | (with_reducible assumption) | assumption))
                                        replace q35 := eq_true q35; (try (have q35x := of_eq_true q35; simp only [ByteArray.size_extract, Nat.min_self] at q35x; replace q35x := eq_true q35x))
                                        go_wp2
                                        go_roundg k3
                                        case measure => have := HK1.out; have := HJ7.out; have := HK3.out; omega
                                        case rel => exact ⟨(wrap64 (x10_1 + 1)), (by first | rfl | (simp; done) | (simp [*]; done)), H', ⟨by have := HK1.out; have := HJ7.out; have := HK3.out; omega⟩, ⟨by (with_reducible repeat (first | apply Kd.R_alloc | apply Kd.R_drewN | apply Kd.R_drew)); exact HO_8.out⟩, ⟨by repeat (first | (with_reducible first | exact HB.out | apply below_alloc | apply pw_below_drewN | apply below_drew1) | exact HB.out)⟩⟩
                                    · rw [if_neg c37] at H
                                      have c37b0 : decide (2 ≤ x6_3) = false := decide_eq_false c37
                                      clear c37
                                      have H' := Aside0.mk H
                                      clear H
                                      have p35 : 0 ≤ (0 : Int) := (by omega)
                                      have q35 : 0 < (a0.extract (rdOf ByteArray.empty y102 x10_1).size a0.size).size := (by have : (0 : Int) < ((a0.extract (rdOf ByteArray.empty y102 x10_1).size a0.size).size : Int) := of_decide_eq_true (by first | (with_reducible assumption) | assumption); omega)
                                      have hx35 : ∀ h : 0 < (a0.extract (rdOf ByteArray.empty y102 x10_1).size a0.size).size, (((a0.extract (rdOf ByteArray.empty y102 x10_1).size a0.size)[0]'h).toNat : Int) = bt (a0.extract (rdOf ByteArray.empty y102 x10_1).size a0.size) 0 := bt_at (a0.extract (rdOf ByteArray.empty y102 x10_1).size a0.size) 0
                                      clear p35
                                      have qi35 : (0 < ((a0.extract (rdOf ByteArray.empty y102 x10_1).size a0.size).size : Int)) = True := eq_true (of_decide_eq_true (by first | (with_reducible assumption) | assumption))
                                      replace q35 := eq_true q35; (try (have q35x := of_eq_true q35; simp only [ByteArray.size_extract, Nat.min_self] at q35x; replace q35x := eq_true q35x))
                                      go_wp2
                                      go_roundg k3
                                      case measure => have := HK1.out; have := HJ7.out; have := HK3.out; omega
                                      case rel => exact ⟨(wrap64 (x10_1 + 1)), (by first | rfl | (simp; done) | (simp [*]; done)), H', ⟨by have := HK1.out; have := HJ7.out; have := HK3.out; omega⟩, ⟨by (with_reducible repeat (first | apply Kd.R_alloc | apply Kd.R_drewN | apply Kd.R_drew)); exact HO_8.out⟩, ⟨by repeat (first | (with_reducible first | exact HB.out | apply below_alloc | apply pw_below_drewN | apply below_drew1) | exact HB.out)⟩⟩
                                  · rw [if_neg c36] at H
                                    have c36b0 : ((bt (a0.extract (rdOf ByteArray.empty y102 x10_1).size a0.size) 0) == 91) = false := beq_eq_false_iff_ne.mpr c36
                                    try (have c36x0 := c36b0; simp only [ByteArray.size_extract, Nat.min_self] at c36x0)
                                    have c36b1 : ((bt (a0.extract (rdOf ByteArray.empty y102 x10_1).size a0.size) 0) != 91) = true := bne_iff_ne.mpr c36
                                    try (have c36x1 := c36b1; simp only [ByteArray.size_extract, Nat.min_self] at c36x1)
                                    have H' := Aside0.mk H
                                    clear H
                                    have p35 : 0 ≤ (0 : Int) := (by omega)
                                    have q35 : 0 < (a0.extract (rdOf ByteArray.empty y102 x10_1).size a0.size).size := (by have : (0 : Int) < ((a0.extract (rdOf ByteArray.empty y102 x10_1).size a0.size).size : Int) := of_decide_eq_true (by first | (with_reducible assumption) | assumption); omega)
                                    have hx35 : ∀ h : 0 < (a0.extract (rdOf ByteArray.empty y102 x10_1).size a0.size).size, (((a0.extract (rdOf ByteArray.empty y102 x10_1).size a0.size)[0]'h).toNat : Int) = bt (a0.extract (rdOf ByteArray.empty y102 x10_1).size a0.size) 0 := bt_at (a0.extract (rdOf ByteArray.empty y102 x10_1).size a0.size) 0
                                    clear p35
                                    have qi35 : (0 < ((a0.extract (rdOf ByteArray.empty y102 x10_1).size a0.size).size : Int)) = True := eq_true (of_decide_eq_true (by first | (with_reducible assumption) | assumption))
                                    replace q35 := eq_true q35; (try (have q35x := of_eq_true q35; simp only [ByteArray.size_extract, Nat.min_self] at q35x; replace q35x := eq_true q35x))
                                    go_wp2
                                    go_roundg k3
                                    case measure => have := HK1.out; have := HJ7.out; have := HK3.out; omega
                                    case rel => exact ⟨(wrap64 (x10_1 + 1)), (by first | rfl | (simp; done) | (simp [*]; done)), H', ⟨by have := HK1.out; have := HJ7.out; have := HK3.out; omega⟩, ⟨by (with_reducible repeat (first | apply Kd.R_alloc | apply Kd.R_drewN | apply Kd.R_drew)); exact HO_8.out⟩, ⟨by repeat (first | (with_reducible first | exact HB.out | apply below_alloc | apply pw_below_drewN | apply below_drew1) | exact HB.out)⟩⟩
                                · rw [if_neg c34] at H
                                  exact absurd H (by simp)
                      · rw [if_neg c17] at H
                        exact absurd H (by simp)
                    · rw [if_neg c16] at H
                      exact absurd H (by simp)
                  · rw [if_neg c15] at H
                    exact absurd H (by simp)
          · rw [if_neg c7] at H
            exact absurd H (by simp)
        · rw [if_neg c6] at H
          exact absurd H (by simp)
      · rw [if_neg c5] at H
        have c5b0 : decide (x10_1 < (y102.length : Int)) = false := decide_eq_false c5
        clear c5
        have HC43 := Aside0.mk H
        clear H
        go_upto_region 14 with (fail)
        go_cut [79] (fun v79 wc => ∃ (kq : Nat) (x79_42 : Bool), v79 = .bool x79_42 ∧ Aside0 (mail_marked.j3 kq a0 x79_42 = some r) ∧ Aside0 (kq ≤ k1) ∧ Aside0 (Below w.heap.size w wc))
        case first =>
          have H := HC43.out
          clear HC43
          by_cases c44 : a0.toList = ([] : List UInt8)
          · rw [if_pos c44] at H
            have c44b0 : (a0.toList == ([] : List UInt8)) = true := beq_iff_eq.mpr c44
            have c44b1 : (a0.toList != ([] : List UInt8)) = false := bne_eq_false_iff_eq.mpr c44
            clear c44
            (first | rw [c44b0] | (simp only [i64_w, i32_w]; rw [c44b0]) | skip)
            have H' := Aside0.mk H
            clear H
            go_wp2
            go_meet
            case rel => exact ⟨_, (false), (by first | rfl | (simp; done) | (simp [*]; done)), H', ⟨by have := HK1.out; first | omega | exact Nat.le_refl _⟩, ⟨by repeat (first | (with_reducible first | exact HB.out | apply below_alloc | apply pw_below_drewN | apply below_drew1) | exact HB.out)⟩⟩
          · rw [if_neg c44] at H
            have c44b0 : (a0.toList == ([] : List UInt8)) = false := beq_eq_false_iff_ne.mpr c44
            have c44b1 : (a0.toList != ([] : List UInt8)) = true := bne_iff_ne.mpr c44
            (first | rw [c44b0] | (simp only [i64_w, i32_w]; rw [c44b0]) | skip)
            by_cases c45 : 0 < (a0.size : Int)
            · rw [if_pos c45] at H
              have c45b0 : decide (0 < (a0.size : Int)) = true := decide_eq_true c45
              have c45b1 : decide (0 < a0.size) = true := decide_eq_true (by omega)
              clear c45
              have H' := Aside0.mk H
              clear H
              have p46 : 0 ≤ (0 : Int) := (by omega)
              have q46 : 0 < a0.size := (by have : (0 : Int) < (a0.size : Int) := of_decide_eq_true (by first | (with_reducible assumption) | assumption); omega)
              have hx46 : ∀ h : 0 < a0.size, ((a0[0]'h).toNat : Int) = bt a0 0 := bt_at a0 0
              clear p46
              have qi46 : (0 < (a0.size : Int)) = True := eq_true (of_decide_eq_true (by first | (with_reducible assumption) | assumption))
              replace q46 := eq_true q46
              go_wp2
              go_meet
              case rel => exact ⟨_, (((bt a0 0) == 91)), (by first | rfl | (simp; done) | (simp [*]; done)), H', ⟨by have := HK1.out; first | omega | exact Nat.le_refl _⟩, ⟨by repeat (first | (with_reducible first | exact HB.out | apply below_alloc | apply pw_below_drewN | apply below_drew1) | exact HB.out)⟩⟩
            · rw [if_neg c45] at H
              exact absurd H (by simp)
        case rest =>
          clear HC43
          try clear c1
          try clear p1
          try clear q1
          try clear hx1
          try clear qi1
          try clear c2
          try clear p2
          try clear q2
          try clear hx2
          try clear qi2
          try clear c3
          try clear p3
          try clear q3
          try clear hx3
          try clear qi3
          try clear c4
          try clear p4
          try clear q4
          try clear hx4
          try clear qi4
          try clear c5
          try clear c5b0
          try clear c6
          try clear c6b0
          try clear p6
          try clear c7
          try clear c7b0
          try clear c9
          try clear c9b0
          try clear c9b1
          try clear c10
          try clear c10b0
          try clear c10b1
          try clear p10
          try clear q10
          try clear hx10
          try clear c11
          try clear c11b0
          try clear c11b1
          try clear c14
          try clear c15
          try clear c15b0
          try clear c15b1
          try clear c16
          try clear c16b0
          try clear c16b1
          try clear c17
          try clear c17b0
          try clear c17b1
          try clear p18
          try clear q18
          try clear hx18
          try clear qi18
          try clear c19
          try clear c19b0
          try clear c19b1
          try clear c20
          try clear c20b0
          try clear c21
          try clear c21b0
          try clear p22
          try clear q22
          try clear hx22
          try clear c24
          try clear c25
          try clear c25b0
          try clear c25b1
          try clear p26
          try clear q26
          try clear hx26
          try clear qi26
          try clear c27
          try clear c27b0
          try clear c27b1
          try clear c28
          try clear c28b0
          try clear c29
          try clear c29b0
          try clear c30
          try clear c30b0
          try clear c31
          try clear c31b0
          try clear c31b1
          try clear c33
          try clear c34
          try clear c34b0
          try clear c34b1
          try clear p35
          try clear q35
          try clear hx35
          try clear qi35
          try clear c36
          try clear c36b0
          try clear c36b1
          try clear c37
          try clear c37b0
          try clear c38
          try clear c38b0
          try clear c39
          try clear c39b0
          try clear c39b1
          try clear c40
          try clear c40b0
          try clear c40b1
          try clear c42
          try clear c44
          try clear c44b0
          try clear c44b1
          try clear c45
          try clear c45b0
          try clear c45b1
          try clear p46
          try clear q46
          try clear hx46
          try clear qi46
          try clear hx105_0
          try clear p1
          try clear p10
          try clear p105
          try clear p18
          try clear p2
          try clear p22
          try clear p26
          try clear p35
          try clear p46
          try clear p6
          try clear q1
          try clear q10
          try clear q105
          try clear q18
          try clear q22
          try clear q26
          try clear q35
          try clear q46
          obtain ⟨kq, x79_42, rfl, HA, HJ42, HB⟩ := hcut
          cases kq with
          | zero => exact absurd HA.out (by simp [mail_marked.j3])
          | succ kj42 =>
            have H := HA.out
            clear HA
            simp only [mail_marked.j3] at H
            by_cases c47 : x79_42 = true
            · subst c47
              have H1 : (if 1 ≤ (a0.size : Int) then ((strings_IndexAny.f (a0.extract 1 a0.size) (⟨#[91, 93]⟩ : ByteArray)).bind fun t110 => (if t110 ≥ 0 then (if 0 ≤ (wrap64 (1 + t110)) then (if (wrap64 (1 + t110)) < (a0.size : Int) then (if (bt a0 (wrap64 (1 + t110))) = 93 then (some (wrap64 (t110 + 2))) else (some 0)) else (none)) else (none)) else (some 0))) else (none)) = some r := by rw [if_pos rfl] at H; exact H
              clear H
              have H := H1
              clear H1
              by_cases c48 : 1 ≤ (a0.size : Int)
              · rw [if_pos c48] at H
                have c48b0 := eq_true c48
                have c48b1 : decide (1 ≤ (a0.size : Int)) = true := decide_eq_true c48
                clear c48
                replace H := Option.bind_eq_some_iff.mp H
                obtain ⟨t110, A490, H⟩ := H
                replace H : (if t110 ≥ 0 then (if 0 ≤ (wrap64 (1 + t110)) then (if (wrap64 (1 + t110)) < (a0.size : Int) then (if (bt a0 (wrap64 (1 + t110))) = 93 then (some (wrap64 (t110 + 2))) else (some 0)) else (none)) else (none)) else (some 0)) = some r := H
                have A49 := Aside0.mk A490
                clear A490
                by_cases c50 : t110 ≥ 0
                · rw [if_pos c50] at H
                  have c50b0 : decide (0 ≤ t110) = true := decide_eq_true c50
                  clear c50
                  obtain ⟨ji51, hji51⟩ : ∃ j_ : Int, (wrap64 (1 + t110)) = j_ := ⟨_, rfl⟩
                  replace H : (if 0 ≤ (ji51) then (if (ji51) < (a0.size : Int) then (if (bt a0 (ji51)) = 93 then (some (wrap64 (t110 + 2))) else (some 0)) else (none)) else (none)) = some r := by first | (rw [hji51] at H; exact H) | (simp only [hji51] at H ⊢; exact H)
                  (try rw [hji51] at A49)
                  have hji51w : (IntKind.i64.wrap (1 + t110)) = ji51 := (i64_w _).trans hji51
                  by_cases c52 : 0 ≤ (ji51)
                  · rw [if_pos c52] at H
                    have c52b0 : decide (0 ≤ (ji51)) = true := decide_eq_true c52
                    clear c52
                    by_cases c53 : (ji51) < (a0.size : Int)
                    · rw [if_pos c53] at H
                      have c53b0 : decide ((ji51) < (a0.size : Int)) = true := decide_eq_true c53
                      clear c53
                      by_cases c55 : (bt a0 (ji51)) = 93
                      · rw [if_pos c55] at H
                        have c55b0 : ((bt a0 (ji51)) == 93) = true := beq_iff_eq.mpr c55
                        have c55b1 : ((bt a0 (ji51)) != 93) = false := bne_eq_false_iff_eq.mpr c55
                        clear c55
                        obtain rfl := Option.some.inj H
                        go_wp2_with (first | ((with_reducible refine gate_callee (f := 113) rfl ?_); refine goesL_ (some 82) rfl rfl Tryd.func113 (by kernel_rfl) rfl #[.string (a0.extract 1 a0.size), .string (⟨#[91, 93]⟩ : ByteArray)] rfl (by (try simp only [List.map_toArray, List.map_cons, List.map_nil]); first | done | rfl | (simp only [List.length_drop, List.length_take]; rfl)) ?_; (first | (with_reducible refine (strings_IndexAny.calls (a0.extract 1 a0.size) (⟨#[91, 93]⟩ : ByteArray) t110 _ A49.out).mono ?_) | (with_reducible refine (strings_IndexAny.calls _ (⟨#[91, 93]⟩ : ByteArray) t110 _ (by simpa only [ByteArray.size_extract, Nat.min_self] using A49.out)).mono ?_)); rintro e w56 ⟨rfl, hb⟩; refine ⟨_, rfl, ?_⟩; have n0_ := Aside0.mk (below_step (by repeat (first | (with_reducible first | exact HB.out | apply below_alloc | apply pw_below_drewN | apply below_drew1) | exact HB.out)) hb); clear HB; have HB := n0_; clear n0_; (try clear hb); (try clear hb2); (try clear hk); (try clear hi); have p54 : 0 ≤ ((ji51) : Int) := of_decide_eq_true (by first | (with_reducible assumption) | assumption); have q54 : (ji51) < (a0.size : Int) := of_decide_eq_true (by first | (with_reducible assumption) | assumption); have hx54 := bt_at a0 (ji51); replace p54 := eq_true p54; replace q54 := eq_true q54))
                        go_ret
                        exact ⟨by first | rfl | (simp [errW_none, errW_some] <;> rfl) | (simp only [← hji51]; first | rfl | (simp [errW_none, errW_some] <;> rfl)) | (simp [*, errW_none, errW_some] <;> rfl), by repeat (first | (with_reducible first | exact HB.out | apply below_alloc | apply pw_below_drewN | apply below_drew1) | exact HB.out)⟩
                      · rw [if_neg c55] at H
                        have c55b0 : ((bt a0 (ji51)) == 93) = false := beq_eq_false_iff_ne.mpr c55
                        have c55b1 : ((bt a0 (ji51)) != 93) = true := bne_iff_ne.mpr c55
                        obtain rfl := Option.some.inj H
                        go_wp2_with (first | ((with_reducible refine gate_callee (f := 113) rfl ?_); refine goesL_ (some 82) rfl rfl Tryd.func113 (by kernel_rfl) rfl #[.string (a0.extract 1 a0.size), .string (⟨#[91, 93]⟩ : ByteArray)] rfl (by (try simp only [List.map_toArray, List.map_cons, List.map_nil]); first | done | rfl | (simp only [List.length_drop, List.length_take]; rfl)) ?_; (first | (with_reducible refine (strings_IndexAny.calls (a0.extract 1 a0.size) (⟨#[91, 93]⟩ : ByteArray) t110 _ A49.out).mono ?_) | (with_reducible refine (strings_IndexAny.calls _ (⟨#[91, 93]⟩ : ByteArray) t110 _ (by simpa only [ByteArray.size_extract, Nat.min_self] using A49.out)).mono ?_)); rintro e w57 ⟨rfl, hb⟩; refine ⟨_, rfl, ?_⟩; have n0_ := Aside0.mk (below_step (by repeat (first | (with_reducible first | exact HB.out | apply below_alloc | apply pw_below_drewN | apply below_drew1) | exact HB.out)) hb); clear HB; have HB := n0_; clear n0_; (try clear hb); (try clear hb2); (try clear hk); (try clear hi); have p54 : 0 ≤ ((ji51) : Int) := of_decide_eq_true (by first | (with_reducible assumption) | assumption); have q54 : (ji51) < (a0.size : Int) := of_decide_eq_true (by first | (with_reducible assumption) | assumption); have hx54 := bt_at a0 (ji51); replace p54 := eq_true p54; replace q54 := eq_true q54))
                        go_ret
                        exact ⟨by first | rfl | (simp [errW_none, errW_some] <;> rfl) | (simp only [← hji51]; first | rfl | (simp [errW_none, errW_some] <;> rfl)) | (simp [*, errW_none, errW_some] <;> rfl), by repeat (first | (with_reducible first | exact HB.out | apply below_alloc | apply pw_below_drewN | apply below_drew1) | exact HB.out)⟩
                    · rw [if_neg c53] at H
                      exact absurd H (by simp)
                  · rw [if_neg c52] at H
                    exact absurd H (by simp)
                · rw [if_neg c50] at H
                  have c50b0 : decide (0 ≤ t110) = false := decide_eq_false c50
                  clear c50
                  obtain rfl := Option.some.inj H
                  go_wp2_with (first | ((with_reducible refine gate_callee (f := 113) rfl ?_); refine goesL_ (some 82) rfl rfl Tryd.func113 (by kernel_rfl) rfl #[.string (a0.extract 1 a0.size), .string (⟨#[91, 93]⟩ : ByteArray)] rfl (by (try simp only [List.map_toArray, List.map_cons, List.map_nil]); first | done | rfl | (simp only [List.length_drop, List.length_take]; rfl)) ?_; (first | (with_reducible refine (strings_IndexAny.calls (a0.extract 1 a0.size) (⟨#[91, 93]⟩ : ByteArray) t110 _ A49.out).mono ?_) | (with_reducible refine (strings_IndexAny.calls _ (⟨#[91, 93]⟩ : ByteArray) t110 _ (by simpa only [ByteArray.size_extract, Nat.min_self] using A49.out)).mono ?_)); rintro e w58 ⟨rfl, hb⟩; refine ⟨_, rfl, ?_⟩; have n0_ := Aside0.mk (below_step (by repeat (first | (with_reducible first | exact HB.out | apply below_alloc | apply pw_below_drewN | apply below_drew1) | exact HB.out)) hb); clear HB; have HB := n0_; clear n0_; (try clear hb); (try clear hb2); (try clear hk); (try clear hi)))
                  go_ret
                  exact ⟨by first | rfl | (simp [errW_none, errW_some] <;> rfl) | (simp [*, errW_none, errW_some] <;> rfl), by repeat (first | (with_reducible first | exact HB.out | apply below_alloc | apply pw_below_drewN | apply below_drew1) | exact HB.out)⟩
              · rw [if_neg c48] at H
                exact absurd H (by simp)
            · replace c47 := Bool.eq_false_iff.mpr c47
              subst c47
              have H1 : (some 0) = some r := by rw [if_neg (show ¬ (false = true) by decide)] at H; exact H
              clear H
              have H := H1
              clear H1
              obtain rfl := Option.some.inj H
              go_wp2
              go_ret
              exact ⟨by first | rfl | (simp [errW_none, errW_some] <;> rfl) | (simp [*, errW_none, errW_some] <;> rfl), by repeat (first | (with_reducible first | exact HB.out | apply below_alloc | apply pw_below_drewN | apply below_drew1) | exact HB.out)⟩

end Go.Proofs.YtcljkhhjondhcaaDoor.Im
