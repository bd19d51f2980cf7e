/- Functions of the program as plain functions, and that each call returns what they say, wherever they answer: written by a program of this session over the kit's printer; conditions: those in each statement. -/
import Derived.Test.YtijajimooldhiaaDoorKr0
import Derived.Test.YtijajimooldhiaaDoorKr2
namespace Go.Proofs.YtijajimooldhiaaDoor.Kr
open Go.RowKit Go.Proofs.YtijajimooldhiaaDoorW.PrintWords Go.Proofs.YtijajimooldhiaaDoorW.PrintLast Go.Proofs.YtijajimooldhiaaDoorW.PrintMore Go.Proofs.YtijajimooldhiaaDoor.Ext Go.Proofs.YtijajimooldhiaaDoor.ExtV
attribute [local go_sem] max2_int min2_int max_two min_two max_three min_three max_four min_four   -- for this text's walks alone
set_option linter.unusedVariables false
set_option linter.unusedSimpArgs false

/-! ### portref1_FormError: function 40 -/
mutual
def portref1_FormError.l0 : Nat → List (S32) → Int → Int → List (S32) → Option (Int)
 | 0, _, _, _, _ => none
 | k + 1, x14, x15, x16, x105000 => if x16 < x15 then (if 0 ≤ x16 then (if x16 < (x14.length : Int) then ((portref1_isName.f k ((rd_T32 x14 x16).f0)).bind fun t107 => (if t107 = true then (if x16 ≤ (x105000.length : Int) then ((some (x105000.take (x16 : Int).toNat : List (S32))).bind fun y108 => (portref1_FormError.l1 k x14 x15 x16 y108 (y108.length : Int) 0 x105000 ((rd_T32 x14 x16).f0) ((rd_T32 x14 x16).f1) ((rd_T32 x14 x16).f2) ((rd_T32 x14 x16).f3))) else (none)) else (some 3))) else (none)) else (none)) else (some 0)
def portref1_FormError.l1 : Nat → List (S32) → Int → Int → List (S32) → Int → Int → List (S32) → ByteArray → Int → List ByteArray → Int → Option (Int)
 | 0, _, _, _, _, _, _, _, _, _, _, _ => none
 | k + 1, x14, x15, x16, x28, x29, x30, x105000, x107000, x107001, x107002, x107003 => if x30 < x29 then (if 0 ≤ x30 then (if x30 < (x28.length : Int) then (if ((rd_T32 x28 x30).f0).toList = x107000.toList then (some 6) else (portref1_FormError.l1 k x14 x15 x16 x28 x29 (wrap64 (x30 + 1)) x105000 x107000 x107001 x107002 x107003)) else (none)) else (none)) else ((portref1_inRange.f x107001 1 6).bind fun t114 => (if t114 = true then (if ((x107001 == 4) != (decide ((x107002.length : Int) > 0))) = true then (some 1) else (if (x107002.length : Int) > 20 then (some 4) else (portref1_FormError.l2 k x14 x15 x16 x107002 (x107002.length : Int) 0 x105000 x107000 x107001 x107002 x107003))) else (some 10)))
def portref1_FormError.l2 : Nat → List (S32) → Int → Int → List ByteArray → Int → Int → List (S32) → ByteArray → Int → List ByteArray → Int → Option (Int)
 | 0, _, _, _, _, _, _, _, _, _, _, _ => none
 | k + 1, x14, x15, x16, x57, x58, x59, x105000, x107000, x107001, x107002, x107003 => if x59 < x58 then (if 0 ≤ x59 then (if x59 < (x57.length : Int) then ((portref1_isName.f k (rdOf ByteArray.empty x57 x59)).bind fun t117 => (if t117 = true then (if x59 ≤ (x107002.length : Int) then ((portref1_has.f k (x107002.take (x59 : Int).toNat) (rdOf ByteArray.empty x57 x59)).bind fun t119 => (if t119 = true then (some 6) else (portref1_FormError.l2 k x14 x15 x16 x57 x58 (wrap64 (x59 + 1)) x105000 x107000 x107001 x107002 x107003))) else (none)) else (some 3))) else (none)) else (none)) else ((portref1_inRange.f x107003 0 6).bind fun t115 => (if t115 = true then (portref1_FormError.l0 k x14 x15 (wrap64 (x16 + 1)) x105000) else (some 2)))
end
def portref1_FormError.f (k : Nat) (l0_0 : List (S32)) : Option (Int) := if (l0_0.length : Int) > 20 then (some 4) else (portref1_FormError.l0 k l0_0 (l0_0.length : Int) 0 l0_0)
theorem portref1_FormError.mono_l : ∀ k, (∀ y0 y1 y2 y3, LeO (portref1_FormError.l0 k y0 y1 y2 y3) (portref1_FormError.l0 (k + 1) y0 y1 y2 y3)) ∧ (∀ y0 y1 y2 y3 y4 y5 y6 y7 y8 y9 y10, LeO (portref1_FormError.l1 k y0 y1 y2 y3 y4 y5 y6 y7 y8 y9 y10) (portref1_FormError.l1 (k + 1) y0 y1 y2 y3 y4 y5 y6 y7 y8 y9 y10)) ∧ (∀ y0 y1 y2 y3 y4 y5 y6 y7 y8 y9 y10, LeO (portref1_FormError.l2 k y0 y1 y2 y3 y4 y5 y6 y7 y8 y9 y10) (portref1_FormError.l2 (k + 1) y0 y1 y2 y3 y4 y5 y6 y7 y8 y9 y10))
 | 0 => ⟨fun _ _ _ _ r h => by simp [portref1_FormError.l0] at h, fun _ _ _ _ _ _ _ _ _ _ _ r h => by simp [portref1_FormError.l1] at h, fun _ _ _ _ _ _ _ _ _ _ _ r h => by simp [portref1_FormError.l2] at h⟩
 | k + 1 => by
  obtain ⟨ih0, ih1, ih2⟩ := portref1_FormError.mono_l k
  refine ⟨?_, ?_, ?_⟩
  ·intro y0 y1 y2 y3
   unfold portref1_FormError.l0
   repeat' first
   | (with_reducible exact ih0 _ _ _ _)
   | (with_reducible exact ih1 _ _ _ _ _ _ _ _ _ _ _)
   | (with_reducible exact ih2 _ _ _ _ _ _ _ _ _ _ _)
   | (with_reducible exact portref1_has.mono _ _ _)
   | (with_reducible exact portref1_isName.mono _ _)
   | (with_reducible exact LeO.refl _)
   | (with_reducible exact LeO.none _)
   | (with_reducible refine LeO.ite ?_ ?_)
   | (with_reducible refine LeO.bind ?_ (fun _ => ?_))
  ·intro y0 y1 y2 y3 y4 y5 y6 y7 y8 y9 y10
   unfold portref1_FormError.l1
   repeat' first
   | (with_reducible exact ih0 _ _ _ _)
   | (with_reducible exact ih1 _ _ _ _ _ _ _ _ _ _ _)
   | (with_reducible exact ih2 _ _ _ _ _ _ _ _ _ _ _)
   | (with_reducible exact portref1_has.mono _ _ _)
   | (with_reducible exact portref1_isName.mono _ _)
   | (with_reducible exact LeO.refl _)
   | (with_reducible exact LeO.none _)
   | (with_reducible refine LeO.ite ?_ ?_)
   | (with_reducible refine LeO.bind ?_ (fun _ => ?_))
  ·intro y0 y1 y2 y3 y4 y5 y6 y7 y8 y9 y10
   unfold portref1_FormError.l2
   repeat' first
   | (with_reducible exact ih0 _ _ _ _)
   | (with_reducible exact ih1 _ _ _ _ _ _ _ _ _ _ _)
   | (with_reducible exact ih2 _ _ _ _ _ _ _ _ _ _ _)
   | (with_reducible exact portref1_has.mono _ _ _)
   | (with_reducible exact portref1_isName.mono _ _)
   | (with_reducible exact LeO.refl _)
   | (with_reducible exact LeO.none _)
   | (with_reducible refine LeO.ite ?_ ?_)
   | (with_reducible refine LeO.bind ?_ (fun _ => ?_))
theorem portref1_FormError.mono : ∀ a0 k, LeO (portref1_FormError.f k a0) (portref1_FormError.f (k + 1) a0) := by
 intro a0 k
 obtain ⟨ih0, ih1, ih2⟩ := portref1_FormError.mono_l k
 unfold portref1_FormError.f
 repeat' first
   | (with_reducible exact ih0 _ _ _ _)
   | (with_reducible exact ih1 _ _ _ _ _ _ _ _ _ _ _)
   | (with_reducible exact ih2 _ _ _ _ _ _ _ _ _ _ _)
   | (with_reducible exact portref1_has.mono _ _ _)
   | (with_reducible exact portref1_isName.mono _ _)
   | (with_reducible exact LeO.refl _)
   | (with_reducible exact LeO.none _)
   | (with_reducible refine LeO.ite ?_ ?_)
   | (with_reducible refine LeO.bind ?_ (fun _ => ?_))
set_option maxHeartbeats 8000000 in
set_option maxRecDepth 100000 in
theorem portref1_FormError.calls (k : Nat) (A0_0 : Option Addr) (c0_0 : Nat) (l0_0 : List (S32)) (r : Int) (w : World) (hr0_0 : Kd.C k32 w A0_0 l0_0.length l0_0) (hc0_0 : l0_0.length ≤ c0_0) (h : portref1_FormError.f k l0_0 = some r) :
  Calls Tryd.prog 40 #[.agg #[.slice A0_0 l0_0.length c0_0]] w fun e w' => e = .returned (.int .i64 r) ∧ Below w.heap.size w w' := by
 have hu24 := Tryd.underlying24
 have hu32 := Tryd.underlying32
 have HR0_0 := Aside0.mk hr0_0
 have HC0_0 := Aside0.mk hc0_0
 clear hr0_0 hc0_0
 have HB := Aside0.mk (Below.refl w.heap.size w)
 have H : (if (l0_0.length : Int) > 20 then (some 4) else (portref1_FormError.l0 k l0_0 (l0_0.length : Int) 0 l0_0)) = some r := h
 clear h
 by_cases c2 : (l0_0.length : Int) > 20
 ·rw [if_pos c2] at H
  have c2b0 : decide (20 < (l0_0.length : Int)) = true := decide_eq_true c2
  have c2b1 : decide (20 < l0_0.length) = true := decide_eq_true (by omega)
  clear c2
  obtain rfl := Option.some.inj H
  go_enter Tryd.func40, Tryd.ntmps40
  go_wp2_with (first | ((with_reducible refine gate_dst (N := 1) rfl ?_); refine box_event ?hg (N := 1) ?hd (cs := #[.slice A0_0 l0_0.length c0_0]) (t := 24) ?hr ?_; (case hd => rfl); (case hg => rfl); (case hr => first | (go_simp; done) | (go_simp; rfl)); intro gb104 hg w3 hbox hb; have n0_ := Aside0.mk (below_step (by repeat (first | (with_reducible first | exact HB.out | apply below_alloc | apply pw_below_drewN | apply below_drew1) | exact HB.out)) hb); have n1_ := Aside0.mk (hbox); have n2_ := Aside0.mk ((by rw [hg]; exact (below_size (by repeat (first | (with_reducible first | exact HB.out | apply below_alloc | apply pw_below_drewN | apply below_drew1) | exact HB.out))) : w.heap.size ≤ gb104)); have n3_ := Aside0.mk ((by rw [hg]; exact (below_size (by repeat (first | (with_reducible first | exact HB.out | apply below_alloc | apply pw_below_drewN | apply below_drew1) | exact HB.out))) : w.heap.size ≤ gb104)); clear HB; have HB := n0_; have BK104 := n1_; have GW104 := n2_; have GE104 := n3_; clear n0_ n1_ n2_ n3_; clear hb hbox hg; have hcz4_0 : w3.cell? ⟨gb104, 0, none⟩ = some (.slice A0_0 l0_0.length c0_0) := (blk_cell BK104.out 0).trans rfl; have hfz4_0 := blk_frozen BK104.out 0))
  go_ret
  exact ⟨by first | rfl | (simp [*] <;> rfl), by repeat (first | (with_reducible first | exact HB.out | apply below_alloc | apply pw_below_drewN | apply below_drew1 | refine below_set ?_ GE104.out) | exact HB.out)⟩
 ·rw [if_neg c2] at H
  have c2b0 : decide (20 < (l0_0.length : Int)) = false := decide_eq_false c2
  have c2b1 : decide (20 < l0_0.length) = false := decide_eq_false (by omega)
  clear c2
  have H' := Aside0.mk H
  clear H
  go_enter Tryd.func40, Tryd.ntmps40
  go_wp2_with (first | ((with_reducible refine gate_dst (N := 1) rfl ?_); refine box_event ?hg (N := 1) ?hd (cs := #[.slice A0_0 l0_0.length c0_0]) (t := 24) ?hr ?_; (case hd => rfl); (case hg => rfl); (case hr => first | (go_simp; done) | (go_simp; rfl)); intro gb104 hg w5 hbox hb; have n0_ := Aside0.mk (below_step (by repeat (first | (with_reducible first | exact HB.out | apply below_alloc | apply pw_below_drewN | apply below_drew1) | exact HB.out)) hb); have n1_ := Aside0.mk (hbox); have n2_ := Aside0.mk ((by rw [hg]; exact (below_size (by repeat (first | (with_reducible first | exact HB.out | apply below_alloc | apply pw_below_drewN | apply below_drew1) | exact HB.out))) : w.heap.size ≤ gb104)); have n3_ := Aside0.mk ((by rw [hg]; exact (below_size (by repeat (first | (with_reducible first | exact HB.out | apply below_alloc | apply pw_below_drewN | apply below_drew1) | exact HB.out))) : w.heap.size ≤ gb104)); clear HB; have HB := n0_; have BK104 := n1_; have GW104 := n2_; have GE104 := n3_; clear n0_ n1_ n2_ n3_; clear hb hbox hg; have hcz6_0 : w5.cell? ⟨gb104, 0, none⟩ = some (.slice A0_0 l0_0.length c0_0) := (blk_cell BK104.out 0).trans rfl; have hfz6_0 := blk_frozen BK104.out 0))
  go_loopg [16] k (fun kq v16 w' => ∃ (x16_1 : Int), v16 = .int .i64 x16_1 ∧ Aside0 (portref1_FormError.l0 kq l0_0 (l0_0.length : Int) x16_1 l0_0 = some r) ∧ Aside0 (kq ≤ k) ∧ Aside0 (w'.heap[gb104]? = some (.cells #[(.slice A0_0 l0_0.length c0_0)] 24 (0, 0))) ∧ Aside0 (Below w.heap.size w w'))
  case atStart => exact ⟨(0), (by first | rfl | (simp; done) | (simp [*]; done)), H', ⟨Nat.le_refl _⟩, ⟨by (with_reducible repeat (first | apply blk_drewN | apply blk_drew | apply blk_alloc)); exact BK104.out⟩, ⟨by repeat (first | (with_reducible first | exact HB.out | apply below_alloc | apply pw_below_drewN | apply below_drew1 | refine below_set ?_ GE104.out) | exact HB.out)⟩⟩
  case round =>
   clear H'
   (try clear c2); (try clear c2b0); (try clear c2b1); (try clear p2); (try clear c4); (try clear hcz4_0); (try clear hcz6_0); (try clear hfz4_0); (try clear hfz6_0)
   obtain ⟨x16_1, rfl, HA, HK1, BK104, HB⟩ := hrel
   cases gk with
   | zero => exact absurd HA.out (by simp [portref1_FormError.l0])
   | succ k1 =>
    have H := HA.out
    clear HA
    simp only [portref1_FormError.l0] at H
    by_cases c7 : x16_1 < (l0_0.length : Int)
    ·rw [if_pos c7] at H
     have c7b0 : decide (x16_1 < (l0_0.length : Int)) = true := decide_eq_true c7
     clear c7
     by_cases c8 : 0 ≤ x16_1
     ·rw [if_pos c8] at H
      have c8b0 : decide (0 ≤ x16_1) = true := decide_eq_true c8
      clear c8
      by_cases c9 : x16_1 < (l0_0.length : Int)
      ·rw [if_pos c9] at H
       have c9b0 : decide (x16_1 < (l0_0.length : Int)) = true := decide_eq_true c9
       clear c9
       replace H := Option.bind_eq_some_iff.mp H
       obtain ⟨t107, A100, H⟩ := H
       replace H : (if t107 = true then (if x16_1 ≤ (l0_0.length : Int) then ((some (l0_0.take (x16_1 : Int).toNat : List (S32))).bind fun y108 => (portref1_FormError.l1 k1 l0_0 (l0_0.length : Int) x16_1 y108 (y108.length : Int) 0 l0_0 ((rd_T32 l0_0 x16_1).f0) ((rd_T32 l0_0 x16_1).f1) ((rd_T32 l0_0 x16_1).f2) ((rd_T32 l0_0 x16_1).f3))) else (none)) else (some 3)) = some r := H
       have A10 := Aside0.mk A100
       clear A100
       by_cases c11 : t107 = true
       ·subst c11
        have H1 : (if x16_1 ≤ (l0_0.length : Int) then ((some (l0_0.take (x16_1 : Int).toNat : List (S32))).bind fun y108 => (portref1_FormError.l1 k1 l0_0 (l0_0.length : Int) x16_1 y108 (y108.length : Int) 0 l0_0 ((rd_T32 l0_0 x16_1).f0) ((rd_T32 l0_0 x16_1).f1) ((rd_T32 l0_0 x16_1).f2) ((rd_T32 l0_0 x16_1).f3))) else (none)) = some r := by rw [if_pos rfl] at H; exact H
        clear H
        have H := H1
        clear H1
        have c12b0 := eq_true (of_decide_eq_true (by first | (with_reducible assumption) | assumption) : 0 ≤ x16_1)
        by_cases c13 : x16_1 ≤ (l0_0.length : Int)
        ·rw [if_pos c13] at H
         have c13b0 := eq_true c13
         have c13b1 : decide (x16_1 ≤ (l0_0.length : Int)) = true := decide_eq_true c13
         clear c13
         obtain ⟨y108, hy108⟩ : ∃ y_ : List (S32), y_ = (l0_0.take (x16_1 : Int).toNat) := ⟨_, rfl⟩
         replace H : (portref1_FormError.l1 k1 l0_0 (l0_0.length : Int) x16_1 y108 (y108.length : Int) 0 l0_0 ((rd_T32 l0_0 x16_1).f0) ((rd_T32 l0_0 x16_1).f1) ((rd_T32 l0_0 x16_1).f2) ((rd_T32 l0_0 x16_1).f3)) = some r := by first | (rw [hy108]; with_reducible exact H) | (have H2_ := (Option.bind_some _ _).symm.trans H; rw [hy108]; with_reducible exact H2_) | (have H2_ := (Option.bind_some _ _).symm.trans H; with_reducible exact H2_) | with_reducible exact H | (rw [hy108]; exact H) | exact H
         have Ny108 := Aside0.mk hy108
         clear hy108
         have H' := Aside0.mk H
         clear H
         have p105 : 0 ≤ (x16_1 : Int) := of_decide_eq_true (by first | (with_reducible assumption) | assumption)
         have q105 : x16_1 < (l0_0.length : Int) := of_decide_eq_true (by first | (with_reducible assumption) | assumption)
         obtain ⟨ad105, A105_2, c105_2, e105, hx105_0, hx105_1, hx105_2, hx105_3, hl105_2, hi105_2⟩ := at_T32 HR0_0.out x16_1 p105 q105
         cases e105
         replace hx105_0 := (HB.out.cell (World.block_lt_of_cell? w _ hx105_0)).trans hx105_0
         replace hx105_1 := (HB.out.cell (World.block_lt_of_cell? w _ hx105_1)).trans hx105_1
         replace hx105_2 := (HB.out.cell (World.block_lt_of_cell? w _ hx105_2)).trans hx105_2
         replace hx105_3 := (HB.out.cell (World.block_lt_of_cell? w _ hx105_3)).trans hx105_3
         have HR105_2 := Aside0.mk hi105_2
         have HC105_2 := Aside0.mk hl105_2
         clear hi105_2 hl105_2
         replace p105 := eq_true p105
         replace q105 := eq_true q105
         go_wp2_with (first | ((with_reducible refine gate_dst (N := 4) rfl ?_); refine box_event ?hg (N := 4) ?hd (cs := #[.string (⟨#[]⟩ : ByteArray), .int .i64 0, .slice none 0 0, .int .i64 0]) (t := 32) ?hr ?_; (case hd => rfl); (case hg => rfl); (case hr => first | (go_simp; done) | (go_simp; rfl)); intro gb106 hg w14 hbox hb; have n0_ := Aside0.mk (blk_below (g := gb104) (o := .cells #[.slice (some ad105) l0_0.length c0_0] 24 (0, 0)) (by (with_reducible repeat (first | apply blk_drewN | apply blk_drew | apply blk_alloc)); exact BK104.out) hb); have n1_ := Aside0.mk (below_step (by repeat (first | (with_reducible first | exact HB.out | apply below_alloc | apply pw_below_drewN | apply below_drew1 | refine below_set ?_ GE104.out) | exact HB.out)) hb); have n2_ := Aside0.mk (hbox); have n3_ := Aside0.mk ((by rw [hg]; exact (below_size (by repeat (first | (with_reducible first | exact HB.out | apply below_alloc | apply pw_below_drewN | apply below_drew1 | refine below_set ?_ GE104.out) | exact HB.out))) : w.heap.size ≤ gb106)); have n4_ := Aside0.mk ((by rw [hg]; exact (below_size (by repeat (first | (with_reducible first | exact HB.out | apply below_alloc | apply pw_below_drewN | apply below_drew1 | refine below_set ?_ GE104.out) | exact HB.out))) : w.heap.size ≤ gb106)); have n5_ := Aside0.mk ((by rw [hg]; exact Nat.ne_of_lt (blk_lt (g := gb104) (o := .cells #[.slice (some ad105) l0_0.length c0_0] 24 (0, 0)) (by (with_reducible repeat (first | apply blk_drewN | apply blk_drew | apply blk_alloc)); exact BK104.out)) : gb104 ≠ gb106)); have n6_ := Aside0.mk ((by rw [hg]; exact Nat.ne_of_gt (blk_lt (g := gb104) (o := .cells #[.slice (some ad105) l0_0.length c0_0] 24 (0, 0)) (by (with_reducible repeat (first | apply blk_drewN | apply blk_drew | apply blk_alloc)); exact BK104.out)) : gb106 ≠ gb104)); clear BK104; clear HB; have BK104 := n0_; have HB := n1_; have BK106 := n2_; have GW106 := n3_; have GE106 := n4_; have NB104_106 := n5_; have NB106_104 := n6_; clear n0_ n1_ n2_ n3_ n4_ n5_ n6_; clear hb hbox hg; have hnb15 := NB106_104.out; have hnc15 := NB104_106.out; have hcz16_0 : w14.cell? ⟨gb106, 0, none⟩ = some (.string (⟨#[]⟩ : ByteArray)) := (blk_cell BK106.out 0).trans rfl; have hcz16_1 : w14.cell? ⟨gb106, 1, none⟩ = some (.int .i64 0) := (blk_cell BK106.out 1).trans rfl; have hcz16_2 : w14.cell? ⟨gb106, 2, none⟩ = some (.slice none 0 0) := (blk_cell BK106.out 2).trans rfl; have hcz16_3 : w14.cell? ⟨gb106, 3, none⟩ = some (.int .i64 0) := (blk_cell BK106.out 3).trans rfl; have hfz16_0 := blk_frozen BK106.out 0; have hfz16_1 := blk_frozen BK106.out 1; have hfz16_2 := blk_frozen BK106.out 2; have hfz16_3 := blk_frozen BK106.out 3) | ((with_reducible refine gate_store (t := 32) (p := 4) rfl ?_); refine store_event (t := 32) (p := 4) (v := ?vo_w17) (w1 := ((((w14.setCell ⟨gb106, 0, none⟩ (.string ((rd_T32 l0_0 x16_1).f0))).setCell ⟨gb106, 1, none⟩ (.int .i64 ((rd_T32 l0_0 x16_1).f1))).setCell ⟨gb106, 2, none⟩ (.slice A105_2 ((rd_T32 l0_0 x16_1).f2).length c105_2)).setCell ⟨gb106, 3, none⟩ (.int .i64 ((rd_T32 l0_0 x16_1).f3)))) ?hg ?ho ?hn ?hr ?_; (case ho => rfl); (case hg => rfl); (case hn => rfl); (case hr => first | (go_simp; done) | (go_simp; rfl)); intro w17 hw; have n0_ : Aside0 (w17.heap[gb104]? = some (.cells #[.slice (some ad105) l0_0.length c0_0] 24 (0, 0))) := ⟨(by rw [hw]; exact (by (with_reducible repeat (first | apply blk_drewN | apply blk_drew | apply blk_alloc)); refine blk_far ?_ NB104_106.out _; (with_reducible repeat (first | apply blk_drewN | apply blk_drew | apply blk_alloc)); refine blk_far ?_ NB104_106.out _; (with_reducible repeat (first | apply blk_drewN | apply blk_drew | apply blk_alloc)); refine blk_far ?_ NB104_106.out _; (with_reducible repeat (first | apply blk_drewN | apply blk_drew | apply blk_alloc)); refine blk_far ?_ NB104_106.out _; (with_reducible repeat (first | apply blk_drewN | apply blk_drew | apply blk_alloc)); exact BK104.out))⟩; have n1_ : Aside0 (w17.heap[gb106]? = some (.cells #[.string ((rd_T32 l0_0 x16_1).f0), .int .i64 ((rd_T32 l0_0 x16_1).f1), .slice A105_2 ((rd_T32 l0_0 x16_1).f2).length c105_2, .int .i64 ((rd_T32 l0_0 x16_1).f3)] 32 (0, 0))) := ⟨(by rw [hw]; exact (by (with_reducible repeat (first | apply blk_drewN | apply blk_drew | apply blk_alloc)); refine blk_put (cs := #[.string ((rd_T32 l0_0 x16_1).f0), .int .i64 ((rd_T32 l0_0 x16_1).f1), .slice A105_2 ((rd_T32 l0_0 x16_1).f2).length c105_2, .int .i64 0]) ?_ 3 _ rfl; (with_reducible repeat (first | apply blk_drewN | apply blk_drew | apply blk_alloc)); refine blk_put (cs := #[.string ((rd_T32 l0_0 x16_1).f0), .int .i64 ((rd_T32 l0_0 x16_1).f1), .slice none 0 0, .int .i64 0]) ?_ 2 _ rfl; (with_reducible repeat (first | apply blk_drewN | apply blk_drew | apply blk_alloc)); refine blk_put (cs := #[.string ((rd_T32 l0_0 x16_1).f0), .int .i64 0, .slice none 0 0, .int .i64 0]) ?_ 1 _ rfl; (with_reducible repeat (first | apply blk_drewN | apply blk_drew | apply blk_alloc)); refine blk_put (cs := #[.string (⟨#[]⟩ : ByteArray), .int .i64 0, .slice none 0 0, .int .i64 0]) ?_ 0 _ rfl; (with_reducible repeat (first | apply blk_drewN | apply blk_drew | apply blk_alloc)); exact BK106.out))⟩; have n2_ : Aside0 (Below w.heap.size w w17) := ⟨(by rw [hw]; exact (by repeat (first | (with_reducible first | exact HB.out | apply below_alloc | apply pw_below_drewN | apply below_drew1 | refine below_set ?_ GE104.out | refine below_set ?_ GE106.out) | exact HB.out)))⟩; clear hw; clear BK104; clear BK106; clear HB; have BK104 := n0_; have BK106 := n1_; have HB := n2_; clear n0_ n1_ n2_; have hcz18_0 : w17.cell? ⟨gb106, 0, none⟩ = some (.string ((rd_T32 l0_0 x16_1).f0)) := (blk_cell BK106.out 0).trans rfl; have hcz18_1 : w17.cell? ⟨gb106, 1, none⟩ = some (.int .i64 ((rd_T32 l0_0 x16_1).f1)) := (blk_cell BK106.out 1).trans rfl; have hcz18_2 : w17.cell? ⟨gb106, 2, none⟩ = some (.slice A105_2 ((rd_T32 l0_0 x16_1).f2).length c105_2) := (blk_cell BK106.out 2).trans rfl; have hcz18_3 : w17.cell? ⟨gb106, 3, none⟩ = some (.int .i64 ((rd_T32 l0_0 x16_1).f3)) := (blk_cell BK106.out 3).trans rfl; have hfz18_0 := blk_frozen BK106.out 0; have hfz18_1 := blk_frozen BK106.out 1; have hfz18_2 := blk_frozen BK106.out 2; have hfz18_3 := blk_frozen BK106.out 3) | ((with_reducible refine gate_callee (f := 105) rfl ?_); refine goesL_ (some 23) rfl rfl Tryd.func105 (by kernel_rfl) rfl #[.string ((rd_T32 l0_0 x16_1).f0)] rfl (by (try simp only [List.map_toArray, List.map_cons, List.map_nil]); first | done | rfl | (simp only [List.length_drop, List.length_take]; rfl)) ?_; (with_reducible refine (portref1_isName.calls k1 ((rd_T32 l0_0 x16_1).f0) true _ A10.out).mono ?_); rintro e w' ⟨rfl, ⟨nd, rfl⟩⟩; refine ⟨_, rfl, ?_⟩; have hcz19_0 : w17.cell? ⟨gb104, 0, none⟩ = some (.slice (some ad105) l0_0.length c0_0) := (blk_cell BK104.out 0).trans rfl; have hfz19_0 := blk_frozen BK104.out 0; have q20 : (x16_1 : Int) ≤ ((l0_0.length : Int) : Int) := of_decide_eq_true (by first | (with_reducible assumption) | assumption); obtain ⟨i020, hi020, _, hsz20, _⟩ := info_parts info32; have hroom20 : l0_0.length ≤ c0_0 := HC0_0.out; have hC20 : Kd.C k32 _ (some ad105) l0_0.length l0_0 := HR0_0.out; have hcut20 := cut_to (P := Tryd.prog) 22 32 .i64 Tryd.underlying22 hi020 (some ad105) l0_0.length c0_0 x16_1 (of_decide_eq_true (by first | (with_reducible assumption) | assumption)) q20 hroom20; have hr20 := Kd.C_take (m := (x16_1 : Int).toNat) hC20 (by omega); have hy20 : y108.length = (x16_1 : Int).toNat := (by rw [Ny108.out, List.length_take]; omega); rw [← Ny108.out] at hr20; rw [← hy20] at hcut20; have HR111 := Aside0.mk hr20; have HC111 := Aside0.mk (show y108.length ≤ c0_0 from by omega); clear hr20 hC20 hroom20 hi020 hsz20; have KY20 := Aside0.mk hy20; clear hy20; replace q20 := eq_true q20))
         go_loopg [30] k1 (fun kq v30 w' => ∃ (x30_2 : Int), v30 = .int .i64 x30_2 ∧ Aside0 (portref1_FormError.l1 kq l0_0 (l0_0.length : Int) x16_1 y108 (y108.length : Int) x30_2 l0_0 ((rd_T32 l0_0 x16_1).f0) ((rd_T32 l0_0 x16_1).f1) ((rd_T32 l0_0 x16_1).f2) ((rd_T32 l0_0 x16_1).f3) = some r) ∧ Aside0 (kq ≤ k1) ∧ Aside0 (w'.heap[gb104]? = some (.cells #[(.slice (some ad105) l0_0.length c0_0)] 24 (0, 0))) ∧ Aside0 (w'.heap[gb106]? = some (.cells #[.string ((rd_T32 l0_0 x16_1).f0), .int .i64 ((rd_T32 l0_0 x16_1).f1), (.slice A105_2 ((rd_T32 l0_0 x16_1).f2).length c105_2), .int .i64 ((rd_T32 l0_0 x16_1).f3)] 32 (0, 0))) ∧ Aside0 (Below w.heap.size w w'))
         case atStart => exact ⟨(0), (by first | rfl | (simp; done) | (simp [*]; done)), H', ⟨Nat.le_refl _⟩, ⟨by (with_reducible repeat (first | apply blk_drewN | apply blk_drew | apply blk_alloc)); exact BK104.out⟩, ⟨by (with_reducible repeat (first | apply blk_drewN | apply blk_drew | apply blk_alloc)); exact BK106.out⟩, ⟨by repeat (first | (with_reducible first | exact HB.out | apply below_alloc | apply pw_below_drewN | apply below_drew1 | refine below_set ?_ GE104.out | refine below_set ?_ GE106.out) | exact HB.out)⟩⟩
         case round =>
          clear H'
          (try clear c1); (try clear p1); (try clear q1); (try clear hx1); (try clear c2); (try clear c2b0); (try clear c2b1); (try clear p2); (try clear q2); (try clear c4); (try clear c7); (try clear c7b0); (try clear c8); (try clear c8b0); (try clear c9); (try clear c9b0); (try clear c10); (try clear p10); (try clear q10); (try clear hx10); (try clear c11); (try clear c12); (try clear c12b0); (try clear c13); (try clear c13b0); (try clear c13b1); (try clear c15); (try clear q20); (try clear hcz16_0); (try clear hcz16_1); (try clear hcz16_2); (try clear hcz16_3); (try clear hcz18_0); (try clear hcz18_1); (try clear hcz18_2); (try clear hcz18_3); (try clear hcz19_0); (try clear hcz4_0); (try clear hcz6_0); (try clear hfz16_0); (try clear hfz16_1); (try clear hfz16_2); (try clear hfz16_3); (try clear hfz18_0); (try clear hfz18_1); (try clear hfz18_2); (try clear hfz18_3); (try clear hfz19_0); (try clear hfz4_0); (try clear hfz6_0); (try clear hx105_0); (try clear hx105_1); (try clear hx105_2); (try clear hx105_3); (try clear p105); (try clear p2); (try clear q105); (try clear q20)
          obtain ⟨x30_2, rfl, HA, HK2, BK104, BK106, HB⟩ := hrel
          cases gk with
          | zero => exact absurd HA.out (by simp [portref1_FormError.l1])
          | succ k2 =>
           have H := HA.out
           clear HA
           simp only [portref1_FormError.l1] at H
           by_cases c21 : x30_2 < (y108.length : Int)
           ·rw [if_pos c21] at H
            have c21b0 : decide (x30_2 < (y108.length : Int)) = true := decide_eq_true c21
            clear c21
            by_cases c22 : 0 ≤ x30_2
            ·rw [if_pos c22] at H
             have c22b0 : decide (0 ≤ x30_2) = true := decide_eq_true c22
             clear c22
             by_cases c23 : x30_2 < (y108.length : Int)
             ·rw [if_pos c23] at H
              have c23b0 : decide (x30_2 < (y108.length : Int)) = true := decide_eq_true c23
              clear c23
              by_cases c24 : ((rd_T32 y108 x30_2).f0).toList = ((rd_T32 l0_0 x16_1).f0).toList
              ·rw [if_pos c24] at H
               have c24b0 : (((rd_T32 y108 x30_2).f0).toList == ((rd_T32 l0_0 x16_1).f0).toList) = true := beq_iff_eq.mpr c24
               have c24b1 : (((rd_T32 y108 x30_2).f0).toList != ((rd_T32 l0_0 x16_1).f0).toList) = false := bne_eq_false_iff_eq.mpr c24
               clear c24
               obtain rfl := Option.some.inj H
               have p112 : 0 ≤ (x30_2 : Int) := of_decide_eq_true (by first | (with_reducible assumption) | assumption)
               have q112 : x30_2 < (y108.length : Int) := of_decide_eq_true (by first | (with_reducible assumption) | assumption)
               obtain ⟨ad112, A112_2, c112_2, e112, hx112_0, hx112_1, hx112_2, hx112_3, hl112_2, hi112_2⟩ := at_T32 HR111.out x30_2 p112 q112
               obtain rfl : ad105 = ad112 := (by injection e112)
               replace hx112_0 := (HB.out.cell (World.block_lt_of_cell? w _ hx112_0)).trans hx112_0
               replace hx112_1 := (HB.out.cell (World.block_lt_of_cell? w _ hx112_1)).trans hx112_1
               replace hx112_2 := (HB.out.cell (World.block_lt_of_cell? w _ hx112_2)).trans hx112_2
               replace hx112_3 := (HB.out.cell (World.block_lt_of_cell? w _ hx112_3)).trans hx112_3
               have HR112_2 := Aside0.mk hi112_2
               have HC112_2 := Aside0.mk hl112_2
               clear hi112_2 hl112_2
               replace p112 := eq_true p112
               replace q112 := eq_true q112
               go_wp2_with (first | ((with_reducible refine gate_dst (N := 6) rfl ?_); refine box_event ?hg (N := 6) ?hd (cs := #[.string (⟨#[]⟩ : ByteArray), .int .i64 0, .slice none 0 0, .int .i64 0]) (t := 32) ?hr ?_; (case hd => rfl); (case hg => rfl); (case hr => first | (go_simp; done) | (go_simp; rfl)); intro gb113 hg w25 hbox hb; have n0_ := Aside0.mk (blk_below (g := gb104) (o := .cells #[.slice (some ad105) l0_0.length c0_0] 24 (0, 0)) (by (with_reducible repeat (first | apply blk_drewN | apply blk_drew | apply blk_alloc)); exact BK104.out) hb); have n1_ := Aside0.mk (blk_below (g := gb106) (o := .cells #[.string ((rd_T32 l0_0 x16_1).f0), .int .i64 ((rd_T32 l0_0 x16_1).f1), .slice A105_2 ((rd_T32 l0_0 x16_1).f2).length c105_2, .int .i64 ((rd_T32 l0_0 x16_1).f3)] 32 (0, 0)) (by (with_reducible repeat (first | apply blk_drewN | apply blk_drew | apply blk_alloc)); exact BK106.out) hb); have n2_ := Aside0.mk (below_step (by repeat (first | (with_reducible first | exact HB.out | apply below_alloc | apply pw_below_drewN | apply below_drew1 | refine below_set ?_ GE104.out | refine below_set ?_ GE106.out) | exact HB.out)) hb); have n3_ := Aside0.mk (hbox); have n4_ := Aside0.mk ((by rw [hg]; exact (below_size (by repeat (first | (with_reducible first | exact HB.out | apply below_alloc | apply pw_below_drewN | apply below_drew1 | refine below_set ?_ GE104.out | refine below_set ?_ GE106.out) | exact HB.out))) : w.heap.size ≤ gb113)); have n5_ := Aside0.mk ((by rw [hg]; exact (below_size (by repeat (first | (with_reducible first | exact HB.out | apply below_alloc | apply pw_below_drewN | apply below_drew1 | refine below_set ?_ GE104.out | refine below_set ?_ GE106.out) | exact HB.out))) : w.heap.size ≤ gb113)); have n6_ := Aside0.mk ((by rw [hg]; exact Nat.ne_of_lt (blk_lt (g := gb104) (o := .cells #[.slice (some ad105) l0_0.length c0_0] 24 (0, 0)) (by (with_reducible repeat (first | apply blk_drewN | apply blk_drew | apply blk_alloc)); exact BK104.out)) : gb104 ≠ gb113)); have n7_ := Aside0.mk ((by rw [hg]; exact Nat.ne_of_gt (blk_lt (g := gb104) (o := .cells #[.slice (some ad105) l0_0.length c0_0] 24 (0, 0)) (by (with_reducible repeat (first | apply blk_drewN | apply blk_drew | apply blk_alloc)); exact BK104.out)) : gb113 ≠ gb104)); have n8_ := Aside0.mk ((by rw [hg]; exact Nat.ne_of_lt (blk_lt (g := gb106) (o := .cells #[.string ((rd_T32 l0_0 x16_1).f0), .int .i64 ((rd_T32 l0_0 x16_1).f1), .slice A105_2 ((rd_T32 l0_0 x16_1).f2).length c105_2, .int .i64 ((rd_T32 l0_0 x16_1).f3)] 32 (0, 0)) (by (with_reducible repeat (first | apply blk_drewN | apply blk_drew | apply blk_alloc)); exact BK106.out)) : gb106 ≠ gb113)); have n9_ := Aside0.mk ((by rw [hg]; exact Nat.ne_of_gt (blk_lt (g := gb106) (o := .cells #[.string ((rd_T32 l0_0 x16_1).f0), .int .i64 ((rd_T32 l0_0 x16_1).f1), .slice A105_2 ((rd_T32 l0_0 x16_1).f2).length c105_2, .int .i64 ((rd_T32 l0_0 x16_1).f3)] 32 (0, 0)) (by (with_reducible repeat (first | apply blk_drewN | apply blk_drew | apply blk_alloc)); exact BK106.out)) : gb113 ≠ gb106)); clear BK104; clear BK106; clear HB; have BK104 := n0_; have BK106 := n1_; have HB := n2_; have BK113 := n3_; have GW113 := n4_; have GE113 := n5_; have NB104_113 := n6_; have NB113_104 := n7_; have NB106_113 := n8_; have NB113_106 := n9_; clear n0_ n1_ n2_ n3_ n4_ n5_ n6_ n7_ n8_ n9_; clear hb hbox hg; have hnb26 := NB113_104.out; have hnc26 := NB104_113.out; have hnb27 := NB113_106.out; have hnc27 := NB106_113.out; have hcz28_0 : w25.cell? ⟨gb113, 0, none⟩ = some (.string (⟨#[]⟩ : ByteArray)) := (blk_cell BK113.out 0).trans rfl; have hcz28_1 : w25.cell? ⟨gb113, 1, none⟩ = some (.int .i64 0) := (blk_cell BK113.out 1).trans rfl; have hcz28_2 : w25.cell? ⟨gb113, 2, none⟩ = some (.slice none 0 0) := (blk_cell BK113.out 2).trans rfl; have hcz28_3 : w25.cell? ⟨gb113, 3, none⟩ = some (.int .i64 0) := (blk_cell BK113.out 3).trans rfl; have hfz28_0 := blk_frozen BK113.out 0; have hfz28_1 := blk_frozen BK113.out 1; have hfz28_2 := blk_frozen BK113.out 2; have hfz28_3 := blk_frozen BK113.out 3; have hnb29 := NB106_104.out; have hnc29 := NB104_106.out; have hcz30_0 : w25.cell? ⟨gb106, 0, none⟩ = some (.string ((rd_T32 l0_0 x16_1).f0)) := (blk_cell BK106.out 0).trans rfl; have hcz30_1 : w25.cell? ⟨gb106, 1, none⟩ = some (.int .i64 ((rd_T32 l0_0 x16_1).f1)) := (blk_cell BK106.out 1).trans rfl; have hcz30_2 : w25.cell? ⟨gb106, 2, none⟩ = some (.slice A105_2 ((rd_T32 l0_0 x16_1).f2).length c105_2) := (blk_cell BK106.out 2).trans rfl; have hcz30_3 : w25.cell? ⟨gb106, 3, none⟩ = some (.int .i64 ((rd_T32 l0_0 x16_1).f3)) := (blk_cell BK106.out 3).trans rfl; have hfz30_0 := blk_frozen BK106.out 0; have hfz30_1 := blk_frozen BK106.out 1; have hfz30_2 := blk_frozen BK106.out 2; have hfz30_3 := blk_frozen BK106.out 3))
               go_ret
               exact ⟨by first | rfl | (simp [*] <;> rfl), by repeat (first | (with_reducible first | exact HB.out | apply below_alloc | apply pw_below_drewN | apply below_drew1 | refine below_set ?_ GE104.out | refine below_set ?_ GE106.out | refine below_set ?_ GE113.out) | exact HB.out)⟩
              ·rw [if_neg c24] at H
               have c24b0 : (((rd_T32 y108 x30_2).f0).toList == ((rd_T32 l0_0 x16_1).f0).toList) = false := beq_eq_false_iff_ne.mpr c24
               have c24b1 : (((rd_T32 y108 x30_2).f0).toList != ((rd_T32 l0_0 x16_1).f0).toList) = true := bne_iff_ne.mpr c24
               have H' := Aside0.mk H
               clear H
               have p112 : 0 ≤ (x30_2 : Int) := of_decide_eq_true (by first | (with_reducible assumption) | assumption)
               have q112 : x30_2 < (y108.length : Int) := of_decide_eq_true (by first | (with_reducible assumption) | assumption)
               obtain ⟨ad112, A112_2, c112_2, e112, hx112_0, hx112_1, hx112_2, hx112_3, hl112_2, hi112_2⟩ := at_T32 HR111.out x30_2 p112 q112
               obtain rfl : ad105 = ad112 := (by injection e112)
               replace hx112_0 := (HB.out.cell (World.block_lt_of_cell? w _ hx112_0)).trans hx112_0
               replace hx112_1 := (HB.out.cell (World.block_lt_of_cell? w _ hx112_1)).trans hx112_1
               replace hx112_2 := (HB.out.cell (World.block_lt_of_cell? w _ hx112_2)).trans hx112_2
               replace hx112_3 := (HB.out.cell (World.block_lt_of_cell? w _ hx112_3)).trans hx112_3
               have HR112_2 := Aside0.mk hi112_2
               have HC112_2 := Aside0.mk hl112_2
               clear hi112_2 hl112_2
               replace p112 := eq_true p112
               replace q112 := eq_true q112
               go_wp2_with (first | ((with_reducible refine gate_dst (N := 6) rfl ?_); refine box_event ?hg (N := 6) ?hd (cs := #[.string (⟨#[]⟩ : ByteArray), .int .i64 0, .slice none 0 0, .int .i64 0]) (t := 32) ?hr ?_; (case hd => rfl); (case hg => rfl); (case hr => first | (go_simp; done) | (go_simp; rfl)); intro gb113 hg w31 hbox hb; have n0_ := Aside0.mk (blk_below (g := gb104) (o := .cells #[.slice (some ad105) l0_0.length c0_0] 24 (0, 0)) (by (with_reducible repeat (first | apply blk_drewN | apply blk_drew | apply blk_alloc)); exact BK104.out) hb); have n1_ := Aside0.mk (blk_below (g := gb106) (o := .cells #[.string ((rd_T32 l0_0 x16_1).f0), .int .i64 ((rd_T32 l0_0 x16_1).f1), .slice A105_2 ((rd_T32 l0_0 x16_1).f2).length c105_2, .int .i64 ((rd_T32 l0_0 x16_1).f3)] 32 (0, 0)) (by (with_reducible repeat (first | apply blk_drewN | apply blk_drew | apply blk_alloc)); exact BK106.out) hb); have n2_ := Aside0.mk (below_step (by repeat (first | (with_reducible first | exact HB.out | apply below_alloc | apply pw_below_drewN | apply below_drew1 | refine below_set ?_ GE104.out | refine below_set ?_ GE106.out) | exact HB.out)) hb); have n3_ := Aside0.mk (hbox); have n4_ := Aside0.mk ((by rw [hg]; exact (below_size (by repeat (first | (with_reducible first | exact HB.out | apply below_alloc | apply pw_below_drewN | apply below_drew1 | refine below_set ?_ GE104.out | refine below_set ?_ GE106.out) | exact HB.out))) : w.heap.size ≤ gb113)); have n5_ := Aside0.mk ((by rw [hg]; exact (below_size (by repeat (first | (with_reducible first | exact HB.out | apply below_alloc | apply pw_below_drewN | apply below_drew1 | refine below_set ?_ GE104.out | refine below_set ?_ GE106.out) | exact HB.out))) : w.heap.size ≤ gb113)); have n6_ := Aside0.mk ((by rw [hg]; exact Nat.ne_of_lt (blk_lt (g := gb104) (o := .cells #[.slice (some ad105) l0_0.length c0_0] 24 (0, 0)) (by (with_reducible repeat (first | apply blk_drewN | apply blk_drew | apply blk_alloc)); exact BK104.out)) : gb104 ≠ gb113)); have n7_ := Aside0.mk ((by rw [hg]; exact Nat.ne_of_gt (blk_lt (g := gb104) (o := .cells #[.slice (some ad105) l0_0.length c0_0] 24 (0, 0)) (by (with_reducible repeat (first | apply blk_drewN | apply blk_drew | apply blk_alloc)); exact BK104.out)) : gb113 ≠ gb104)); have n8_ := Aside0.mk ((by rw [hg]; exact Nat.ne_of_lt (blk_lt (g := gb106) (o := .cells #[.string ((rd_T32 l0_0 x16_1).f0), .int .i64 ((rd_T32 l0_0 x16_1).f1), .slice A105_2 ((rd_T32 l0_0 x16_1).f2).length c105_2, .int .i64 ((rd_T32 l0_0 x16_1).f3)] 32 (0, 0)) (by (with_reducible repeat (first | apply blk_drewN | apply blk_drew | apply blk_alloc)); exact BK106.out)) : gb106 ≠ gb113)); have n9_ := Aside0.mk ((by rw [hg]; exact Nat.ne_of_gt (blk_lt (g := gb106) (o := .cells #[.string ((rd_T32 l0_0 x16_1).f0), .int .i64 ((rd_T32 l0_0 x16_1).f1), .slice A105_2 ((rd_T32 l0_0 x16_1).f2).length c105_2, .int .i64 ((rd_T32 l0_0 x16_1).f3)] 32 (0, 0)) (by (with_reducible repeat (first | apply blk_drewN | apply blk_drew | apply blk_alloc)); exact BK106.out)) : gb113 ≠ gb106)); clear BK104; clear BK106; clear HB; have BK104 := n0_; have BK106 := n1_; have HB := n2_; have BK113 := n3_; have GW113 := n4_; have GE113 := n5_; have NB104_113 := n6_; have NB113_104 := n7_; have NB106_113 := n8_; have NB113_106 := n9_; clear n0_ n1_ n2_ n3_ n4_ n5_ n6_ n7_ n8_ n9_; clear hb hbox hg; have hnb32 := NB113_104.out; have hnc32 := NB104_113.out; have hnb33 := NB113_106.out; have hnc33 := NB106_113.out; have hcz34_0 : w31.cell? ⟨gb113, 0, none⟩ = some (.string (⟨#[]⟩ : ByteArray)) := (blk_cell BK113.out 0).trans rfl; have hcz34_1 : w31.cell? ⟨gb113, 1, none⟩ = some (.int .i64 0) := (blk_cell BK113.out 1).trans rfl; have hcz34_2 : w31.cell? ⟨gb113, 2, none⟩ = some (.slice none 0 0) := (blk_cell BK113.out 2).trans rfl; have hcz34_3 : w31.cell? ⟨gb113, 3, none⟩ = some (.int .i64 0) := (blk_cell BK113.out 3).trans rfl; have hfz34_0 := blk_frozen BK113.out 0; have hfz34_1 := blk_frozen BK113.out 1; have hfz34_2 := blk_frozen BK113.out 2; have hfz34_3 := blk_frozen BK113.out 3; have hnb35 := NB106_104.out; have hnc35 := NB104_106.out; have hcz36_0 : w31.cell? ⟨gb106, 0, none⟩ = some (.string ((rd_T32 l0_0 x16_1).f0)) := (blk_cell BK106.out 0).trans rfl; have hcz36_1 : w31.cell? ⟨gb106, 1, none⟩ = some (.int .i64 ((rd_T32 l0_0 x16_1).f1)) := (blk_cell BK106.out 1).trans rfl; have hcz36_2 : w31.cell? ⟨gb106, 2, none⟩ = some (.slice A105_2 ((rd_T32 l0_0 x16_1).f2).length c105_2) := (blk_cell BK106.out 2).trans rfl; have hcz36_3 : w31.cell? ⟨gb106, 3, none⟩ = some (.int .i64 ((rd_T32 l0_0 x16_1).f3)) := (blk_cell BK106.out 3).trans rfl; have hfz36_0 := blk_frozen BK106.out 0; have hfz36_1 := blk_frozen BK106.out 1; have hfz36_2 := blk_frozen BK106.out 2; have hfz36_3 := blk_frozen BK106.out 3))
               go_roundg k2
               case measure => have := HK1.out; have := HK2.out; omega
               case rel => exact ⟨(wrap64 (x30_2 + 1)), (by first | rfl | (simp; done) | (simp [*]; done)), H', ⟨by have := HK1.out; have := HK2.out; omega⟩, ⟨by (with_reducible repeat (first | apply blk_drewN | apply blk_drew | apply blk_alloc)); refine blk_far ?_ NB104_113.out _; (with_reducible repeat (first | apply blk_drewN | apply blk_drew | apply blk_alloc)); refine blk_far ?_ NB104_113.out _; (with_reducible repeat (first | apply blk_drewN | apply blk_drew | apply blk_alloc)); refine blk_far ?_ NB104_113.out _; (with_reducible repeat (first | apply blk_drewN | apply blk_drew | apply blk_alloc)); refine blk_far ?_ NB104_113.out _; (with_reducible repeat (first | apply blk_drewN | apply blk_drew | apply blk_alloc)); exact BK104.out⟩, ⟨by (with_reducible repeat (first | apply blk_drewN | apply blk_drew | apply blk_alloc)); refine blk_far ?_ NB106_113.out _; (with_reducible repeat (first | apply blk_drewN | apply blk_drew | apply blk_alloc)); refine blk_far ?_ NB106_113.out _; (with_reducible repeat (first | apply blk_drewN | apply blk_drew | apply blk_alloc)); refine blk_far ?_ NB106_113.out _; (with_reducible repeat (first | apply blk_drewN | apply blk_drew | apply blk_alloc)); refine blk_far ?_ NB106_113.out _; (with_reducible repeat (first | apply blk_drewN | apply blk_drew | apply blk_alloc)); exact BK106.out⟩, ⟨by repeat (first | (with_reducible first | exact HB.out | apply below_alloc | apply pw_below_drewN | apply below_drew1 | refine below_set ?_ GE104.out | refine below_set ?_ GE106.out | refine below_set ?_ GE113.out) | exact HB.out)⟩⟩
             ·rw [if_neg c23] at H
              exact absurd H (by simp)
            ·rw [if_neg c22] at H
             exact absurd H (by simp)
           ·rw [if_neg c21] at H
            have c21b0 : decide (x30_2 < (y108.length : Int)) = false := decide_eq_false c21
            clear c21
            replace H := Option.bind_eq_some_iff.mp H
            obtain ⟨t114, A370, H⟩ := H
            replace H : (if t114 = true then (if ((((rd_T32 l0_0 x16_1).f1) == 4) != (decide ((((rd_T32 l0_0 x16_1).f2).length : Int) > 0))) = true then (some 1) else (if (((rd_T32 l0_0 x16_1).f2).length : Int) > 20 then (some 4) else (portref1_FormError.l2 k2 l0_0 (l0_0.length : Int) x16_1 ((rd_T32 l0_0 x16_1).f2) (((rd_T32 l0_0 x16_1).f2).length : Int) 0 l0_0 ((rd_T32 l0_0 x16_1).f0) ((rd_T32 l0_0 x16_1).f1) ((rd_T32 l0_0 x16_1).f2) ((rd_T32 l0_0 x16_1).f3)))) else (some 10)) = some r := H
            have A37 := Aside0.mk A370
            clear A370
            by_cases c38 : t114 = true
            ·subst c38
             have H1 : (if ((((rd_T32 l0_0 x16_1).f1) == 4) != (decide ((((rd_T32 l0_0 x16_1).f2).length : Int) > 0))) = true then (some 1) else (if (((rd_T32 l0_0 x16_1).f2).length : Int) > 20 then (some 4) else (portref1_FormError.l2 k2 l0_0 (l0_0.length : Int) x16_1 ((rd_T32 l0_0 x16_1).f2) (((rd_T32 l0_0 x16_1).f2).length : Int) 0 l0_0 ((rd_T32 l0_0 x16_1).f0) ((rd_T32 l0_0 x16_1).f1) ((rd_T32 l0_0 x16_1).f2) ((rd_T32 l0_0 x16_1).f3)))) = some r := by rw [if_pos rfl] at H; exact H
             clear H
             have H := H1
             clear H1
             by_cases c39 : ((((rd_T32 l0_0 x16_1).f1) == 4) != (decide ((((rd_T32 l0_0 x16_1).f2).length : Int) > 0))) = true
             ·rw [if_pos c39] at H
              have c39b0 : ((((rd_T32 l0_0 x16_1).f1) == 4) != (decide ((((rd_T32 l0_0 x16_1).f2).length : Int) > 0))) = true := c39
              (try (have c39b0n := c39b0; simp only [gt_iff_lt, Int.natCast_pos] at c39b0n)); (try (have c39b0m := c39b0; simp only [gt_iff_lt] at c39b0m))
              (try (have c39b1 : decide ((((rd_T32 l0_0 x16_1).f1) == 4) = (decide ((((rd_T32 l0_0 x16_1).f2).length : Int) > 0))) = false := by simpa using c39))
              (try (have c39b1n := c39b1; simp only [gt_iff_lt, Int.natCast_pos] at c39b1n)); (try (have c39b1m := c39b1; simp only [gt_iff_lt] at c39b1m))
              (try (have c39b2 : ((((rd_T32 l0_0 x16_1).f1) == 4) == (decide ((((rd_T32 l0_0 x16_1).f2).length : Int) > 0))) = false := by simpa using c39))
              (try (have c39b2n := c39b2; simp only [gt_iff_lt, Int.natCast_pos] at c39b2n)); (try (have c39b2m := c39b2; simp only [gt_iff_lt] at c39b2m))
              (try (have c39b3 : ¬ ((((rd_T32 l0_0 x16_1).f1) == 4) = (decide ((((rd_T32 l0_0 x16_1).f2).length : Int) > 0))) := by simpa using c39))
              (try (have c39b3n := c39b3; simp only [gt_iff_lt, Int.natCast_pos] at c39b3n)); (try (have c39b3m := c39b3; simp only [gt_iff_lt] at c39b3m))
              clear c39
              obtain rfl := Option.some.inj H
              have hnb40 := NB106_104.out
              have hnc40 := NB104_106.out
              have hcz41_0 : wr.cell? ⟨gb106, 0, none⟩ = some (.string ((rd_T32 l0_0 x16_1).f0)) := (blk_cell BK106.out 0).trans rfl
              have hcz41_1 : wr.cell? ⟨gb106, 1, none⟩ = some (.int .i64 ((rd_T32 l0_0 x16_1).f1)) := (blk_cell BK106.out 1).trans rfl
              have hcz41_2 : wr.cell? ⟨gb106, 2, none⟩ = some (.slice A105_2 ((rd_T32 l0_0 x16_1).f2).length c105_2) := (blk_cell BK106.out 2).trans rfl
              have hcz41_3 : wr.cell? ⟨gb106, 3, none⟩ = some (.int .i64 ((rd_T32 l0_0 x16_1).f3)) := (blk_cell BK106.out 3).trans rfl
              have hfz41_0 := blk_frozen BK106.out 0
              have hfz41_1 := blk_frozen BK106.out 1
              have hfz41_2 := blk_frozen BK106.out 2
              have hfz41_3 := blk_frozen BK106.out 3
              go_wp2_with (first | ((with_reducible refine gate_callee (f := 42) rfl ?_); refine goesL_ (some 42) rfl rfl Tryd.func42 (by kernel_rfl) rfl #[.int .i64 ((rd_T32 l0_0 x16_1).f1), .int .i64 1, .int .i64 6] rfl (by (try simp only [List.map_toArray, List.map_cons, List.map_nil]); first | done | rfl | (simp only [List.length_drop, List.length_take]; rfl)) ?_; (with_reducible refine (portref1_inRange.calls ((rd_T32 l0_0 x16_1).f1) 1 6 true _ A37.out).mono ?_); rintro e w' ⟨rfl, ⟨nd, rfl⟩⟩; refine ⟨_, rfl, ?_⟩))
              go_ret
              exact ⟨by first | rfl | (simp [*] <;> rfl), by repeat (first | (with_reducible first | exact HB.out | apply below_alloc | apply pw_below_drewN | apply below_drew1 | refine below_set ?_ GE104.out | refine below_set ?_ GE106.out) | exact HB.out)⟩
             ·rw [if_neg c39] at H
              have c39b0 : ((((rd_T32 l0_0 x16_1).f1) == 4) != (decide ((((rd_T32 l0_0 x16_1).f2).length : Int) > 0))) = false := by simpa using c39
              (try (have c39b0n := c39b0; simp only [gt_iff_lt, Int.natCast_pos] at c39b0n)); (try (have c39b0m := c39b0; simp only [gt_iff_lt] at c39b0m))
              (try (have c39b1 : decide ((((rd_T32 l0_0 x16_1).f1) == 4) = (decide ((((rd_T32 l0_0 x16_1).f2).length : Int) > 0))) = true := by simpa using c39))
              (try (have c39b1n := c39b1; simp only [gt_iff_lt, Int.natCast_pos] at c39b1n)); (try (have c39b1m := c39b1; simp only [gt_iff_lt] at c39b1m))
              (try (have c39b2 : ((((rd_T32 l0_0 x16_1).f1) == 4) == (decide ((((rd_T32 l0_0 x16_1).f2).length : Int) > 0))) = true := by simpa using c39))
              (try (have c39b2n := c39b2; simp only [gt_iff_lt, Int.natCast_pos] at c39b2n)); (try (have c39b2m := c39b2; simp only [gt_iff_lt] at c39b2m))
              clear c39
              by_cases c42 : (((rd_T32 l0_0 x16_1).f2).length : Int) > 20
              ·rw [if_pos c42] at H
               have c42b0 : decide (20 < (((rd_T32 l0_0 x16_1).f2).length : Int)) = true := decide_eq_true c42
               have c42b1 : decide (20 < ((rd_T32 l0_0 x16_1).f2).length) = true := decide_eq_true (by omega)
               clear c42
               obtain rfl := Option.some.inj H
               have hnb43 := NB106_104.out
               have hnc43 := NB104_106.out
               have hcz44_0 : wr.cell? ⟨gb106, 0, none⟩ = some (.string ((rd_T32 l0_0 x16_1).f0)) := (blk_cell BK106.out 0).trans rfl
               have hcz44_1 : wr.cell? ⟨gb106, 1, none⟩ = some (.int .i64 ((rd_T32 l0_0 x16_1).f1)) := (blk_cell BK106.out 1).trans rfl
               have hcz44_2 : wr.cell? ⟨gb106, 2, none⟩ = some (.slice A105_2 ((rd_T32 l0_0 x16_1).f2).length c105_2) := (blk_cell BK106.out 2).trans rfl
               have hcz44_3 : wr.cell? ⟨gb106, 3, none⟩ = some (.int .i64 ((rd_T32 l0_0 x16_1).f3)) := (blk_cell BK106.out 3).trans rfl
               have hfz44_0 := blk_frozen BK106.out 0
               have hfz44_1 := blk_frozen BK106.out 1
               have hfz44_2 := blk_frozen BK106.out 2
               have hfz44_3 := blk_frozen BK106.out 3
               go_wp2_with (first | ((with_reducible refine gate_callee (f := 42) rfl ?_); refine goesL_ (some 42) rfl rfl Tryd.func42 (by kernel_rfl) rfl #[.int .i64 ((rd_T32 l0_0 x16_1).f1), .int .i64 1, .int .i64 6] rfl (by (try simp only [List.map_toArray, List.map_cons, List.map_nil]); first | done | rfl | (simp only [List.length_drop, List.length_take]; rfl)) ?_; (with_reducible refine (portref1_inRange.calls ((rd_T32 l0_0 x16_1).f1) 1 6 true _ A37.out).mono ?_); rintro e w' ⟨rfl, ⟨nd, rfl⟩⟩; refine ⟨_, rfl, ?_⟩))
               go_ret
               exact ⟨by first | rfl | (simp [*] <;> rfl), by repeat (first | (with_reducible first | exact HB.out | apply below_alloc | apply pw_below_drewN | apply below_drew1 | refine below_set ?_ GE104.out | refine below_set ?_ GE106.out) | exact HB.out)⟩
              ·rw [if_neg c42] at H
               have c42b0 : decide (20 < (((rd_T32 l0_0 x16_1).f2).length : Int)) = false := decide_eq_false c42
               have c42b1 : decide (20 < ((rd_T32 l0_0 x16_1).f2).length) = false := decide_eq_false (by omega)
               clear c42
               have H' := Aside0.mk H
               clear H
               have hnb45 := NB106_104.out
               have hnc45 := NB104_106.out
               have hcz46_0 : wr.cell? ⟨gb106, 0, none⟩ = some (.string ((rd_T32 l0_0 x16_1).f0)) := (blk_cell BK106.out 0).trans rfl
               have hcz46_1 : wr.cell? ⟨gb106, 1, none⟩ = some (.int .i64 ((rd_T32 l0_0 x16_1).f1)) := (blk_cell BK106.out 1).trans rfl
               have hcz46_2 : wr.cell? ⟨gb106, 2, none⟩ = some (.slice A105_2 ((rd_T32 l0_0 x16_1).f2).length c105_2) := (blk_cell BK106.out 2).trans rfl
               have hcz46_3 : wr.cell? ⟨gb106, 3, none⟩ = some (.int .i64 ((rd_T32 l0_0 x16_1).f3)) := (blk_cell BK106.out 3).trans rfl
               have hfz46_0 := blk_frozen BK106.out 0
               have hfz46_1 := blk_frozen BK106.out 1
               have hfz46_2 := blk_frozen BK106.out 2
               have hfz46_3 := blk_frozen BK106.out 3
               go_wp2_with (first | ((with_reducible refine gate_callee (f := 42) rfl ?_); refine goesL_ (some 42) rfl rfl Tryd.func42 (by kernel_rfl) rfl #[.int .i64 ((rd_T32 l0_0 x16_1).f1), .int .i64 1, .int .i64 6] rfl (by (try simp only [List.map_toArray, List.map_cons, List.map_nil]); first | done | rfl | (simp only [List.length_drop, List.length_take]; rfl)) ?_; (with_reducible refine (portref1_inRange.calls ((rd_T32 l0_0 x16_1).f1) 1 6 true _ A37.out).mono ?_); rintro e w' ⟨rfl, ⟨nd, rfl⟩⟩; refine ⟨_, rfl, ?_⟩))
               go_loopg [59] k2 (fun kq v59 w' => ∃ (x59_3 : Int), v59 = .int .i64 x59_3 ∧ Aside0 (portref1_FormError.l2 kq l0_0 (l0_0.length : Int) x16_1 ((rd_T32 l0_0 x16_1).f2) (((rd_T32 l0_0 x16_1).f2).length : Int) x59_3 l0_0 ((rd_T32 l0_0 x16_1).f0) ((rd_T32 l0_0 x16_1).f1) ((rd_T32 l0_0 x16_1).f2) ((rd_T32 l0_0 x16_1).f3) = some r) ∧ Aside0 (kq ≤ k2) ∧ Aside0 (w'.heap[gb104]? = some (.cells #[(.slice (some ad105) l0_0.length c0_0)] 24 (0, 0))) ∧ Aside0 (w'.heap[gb106]? = some (.cells #[.string ((rd_T32 l0_0 x16_1).f0), .int .i64 ((rd_T32 l0_0 x16_1).f1), (.slice A105_2 ((rd_T32 l0_0 x16_1).f2).length c105_2), .int .i64 ((rd_T32 l0_0 x16_1).f3)] 32 (0, 0))) ∧ Aside0 (Below w.heap.size w w'))
               case atStart => exact ⟨(0), (by first | rfl | (simp; done) | (simp [*]; done)), H', ⟨Nat.le_refl _⟩, ⟨by (with_reducible repeat (first | apply blk_drewN | apply blk_drew | apply blk_alloc)); exact BK104.out⟩, ⟨by (with_reducible repeat (first | apply blk_drewN | apply blk_drew | apply blk_alloc)); exact BK106.out⟩, ⟨by repeat (first | (with_reducible first | exact HB.out | apply below_alloc | apply pw_below_drewN | apply below_drew1 | refine below_set ?_ GE104.out | refine below_set ?_ GE106.out) | exact HB.out)⟩⟩
               case round =>
                clear H'
                (try clear c1); (try clear p1); (try clear q1); (try clear hx1); (try clear c2); (try clear c2b0); (try clear c2b1); (try clear p2); (try clear q2); (try clear c3); (try clear c4); (try clear p6); (try clear c7); (try clear c7b0); (try clear c8); (try clear c8b0); (try clear c9); (try clear c9b0); (try clear c10); (try clear p10); (try clear q10); (try clear hx10); (try clear c11); (try clear p11); (try clear q11); (try clear hx11); (try clear c12); (try clear c12b0); (try clear c13); (try clear c13b0); (try clear c13b1); (try clear c15); (try clear q20); (try clear c21); (try clear c21b0); (try clear c22); (try clear c22b0); (try clear c23); (try clear c23b0); (try clear c24); (try clear c24b0); (try clear c24b1); (try clear c26); (try clear c27); (try clear c29); (try clear c32); (try clear c33); (try clear c35); (try clear c38); (try clear c39); (try clear c39b0); (try clear c39b1); (try clear c39b2); (try clear c40); (try clear c42); (try clear c42b0); (try clear c42b1); (try clear c43); (try clear c45); (try clear hcz16_0); (try clear hcz16_1); (try clear hcz16_2); (try clear hcz16_3); (try clear hcz18_0); (try clear hcz18_1); (try clear hcz18_2); (try clear hcz18_3); (try clear hcz19_0); (try clear hcz28_0); (try clear hcz28_1); (try clear hcz28_2); (try clear hcz28_3); (try clear hcz30_0); (try clear hcz30_1); (try clear hcz30_2); (try clear hcz30_3); (try clear hcz34_0); (try clear hcz34_1); (try clear hcz34_2); (try clear hcz34_3); (try clear hcz36_0); (try clear hcz36_1); (try clear hcz36_2); (try clear hcz36_3); (try clear hcz41_0); (try clear hcz41_1); (try clear hcz41_2); (try clear hcz41_3); (try clear hcz44_0); (try clear hcz44_1); (try clear hcz44_2); (try clear hcz44_3); (try clear hcz46_0); (try clear hcz46_1); (try clear hcz46_2); (try clear hcz46_3); (try clear hcz4_0); (try clear hcz6_0); (try clear hfz16_0); (try clear hfz16_1); (try clear hfz16_2); (try clear hfz16_3); (try clear hfz18_0); (try clear hfz18_1); (try clear hfz18_2); (try clear hfz18_3); (try clear hfz19_0); (try clear hfz28_0); (try clear hfz28_1); (try clear hfz28_2); (try clear hfz28_3); (try clear hfz30_0); (try clear hfz30_1); (try clear hfz30_2); (try clear hfz30_3); (try clear hfz34_0); (try clear hfz34_1); (try clear hfz34_2); (try clear hfz34_3); (try clear hfz36_0); (try clear hfz36_1); (try clear hfz36_2); (try clear hfz36_3); (try clear hfz41_0); (try clear hfz41_1); (try clear hfz41_2); (try clear hfz41_3); (try clear hfz44_0); (try clear hfz44_1); (try clear hfz44_2); (try clear hfz44_3); (try clear hfz46_0); (try clear hfz46_1); (try clear hfz46_2); (try clear hfz46_3); (try clear hfz4_0); (try clear hfz6_0); (try clear hx105_0); (try clear hx105_1); (try clear hx105_2); (try clear hx105_3); (try clear hx112_0); (try clear hx112_1); (try clear hx112_2); (try clear hx112_3); (try clear p1); (try clear p10); (try clear p105); (try clear p112); (try clear p2); (try clear q1); (try clear q10); (try clear q105); (try clear q112); (try clear q2); (try clear q20)
                obtain ⟨x59_3, rfl, HA, HK3, BK104, BK106, HB⟩ := hrel
                cases gk with
                | zero => exact absurd HA.out (by simp [portref1_FormError.l2])
                | succ k3 =>
                 have H := HA.out
                 clear HA
                 simp only [portref1_FormError.l2] at H
                 by_cases c47 : x59_3 < (((rd_T32 l0_0 x16_1).f2).length : Int)
                 ·rw [if_pos c47] at H
                  have c47b0 : decide (x59_3 < (((rd_T32 l0_0 x16_1).f2).length : Int)) = true := decide_eq_true c47
                  clear c47
                  by_cases c48 : 0 ≤ x59_3
                  ·rw [if_pos c48] at H
                   have c48b0 : decide (0 ≤ x59_3) = true := decide_eq_true c48
                   clear c48
                   by_cases c49 : x59_3 < (((rd_T32 l0_0 x16_1).f2).length : Int)
                   ·rw [if_pos c49] at H
                    have c49b0 : decide (x59_3 < (((rd_T32 l0_0 x16_1).f2).length : Int)) = true := decide_eq_true c49
                    clear c49
                    replace H := Option.bind_eq_some_iff.mp H
                    obtain ⟨t117, A500, H⟩ := H
                    replace H : (if t117 = true then (if x59_3 ≤ (((rd_T32 l0_0 x16_1).f2).length : Int) then ((portref1_has.f k3 (((rd_T32 l0_0 x16_1).f2).take (x59_3 : Int).toNat) (rdOf ByteArray.empty ((rd_T32 l0_0 x16_1).f2) x59_3)).bind fun t119 => (if t119 = true then (some 6) else (portref1_FormError.l2 k3 l0_0 (l0_0.length : Int) x16_1 ((rd_T32 l0_0 x16_1).f2) (((rd_T32 l0_0 x16_1).f2).length : Int) (wrap64 (x59_3 + 1)) l0_0 ((rd_T32 l0_0 x16_1).f0) ((rd_T32 l0_0 x16_1).f1) ((rd_T32 l0_0 x16_1).f2) ((rd_T32 l0_0 x16_1).f3)))) else (none)) else (some 3)) = some r := H
                    have A50 := Aside0.mk A500
                    clear A500
                    by_cases c51 : t117 = true
                    ·subst c51
                     have H1 : (if x59_3 ≤ (((rd_T32 l0_0 x16_1).f2).length : Int) then ((portref1_has.f k3 (((rd_T32 l0_0 x16_1).f2).take (x59_3 : Int).toNat) (rdOf ByteArray.empty ((rd_T32 l0_0 x16_1).f2) x59_3)).bind fun t119 => (if t119 = true then (some 6) else (portref1_FormError.l2 k3 l0_0 (l0_0.length : Int) x16_1 ((rd_T32 l0_0 x16_1).f2) (((rd_T32 l0_0 x16_1).f2).length : Int) (wrap64 (x59_3 + 1)) l0_0 ((rd_T32 l0_0 x16_1).f0) ((rd_T32 l0_0 x16_1).f1) ((rd_T32 l0_0 x16_1).f2) ((rd_T32 l0_0 x16_1).f3)))) else (none)) = some r := by rw [if_pos rfl] at H; exact H
                     clear H
                     have H := H1
                     clear H1
                     have c52b0 := eq_true (of_decide_eq_true (by first | (with_reducible assumption) | assumption) : 0 ≤ x59_3)
                     by_cases c53 : x59_3 ≤ (((rd_T32 l0_0 x16_1).f2).length : Int)
                     ·rw [if_pos c53] at H
                      have c53b0 := eq_true c53
                      have c53b1 : decide (x59_3 ≤ (((rd_T32 l0_0 x16_1).f2).length : Int)) = true := decide_eq_true c53
                      clear c53
                      replace H := Option.bind_eq_some_iff.mp H
                      obtain ⟨t119, A540, H⟩ := H
                      replace H : (if t119 = true then (some 6) else (portref1_FormError.l2 k3 l0_0 (l0_0.length : Int) x16_1 ((rd_T32 l0_0 x16_1).f2) (((rd_T32 l0_0 x16_1).f2).length : Int) (wrap64 (x59_3 + 1)) l0_0 ((rd_T32 l0_0 x16_1).f0) ((rd_T32 l0_0 x16_1).f1) ((rd_T32 l0_0 x16_1).f2) ((rd_T32 l0_0 x16_1).f3))) = some r := H
                      have A54 := Aside0.mk A540
                      clear A540
                      by_cases c55 : t119 = true
                      ·subst c55
                       have H1 : (some 6) = some r := by rw [if_pos rfl] at H; exact H
                       clear H
                       have H := H1
                       clear H1
                       obtain rfl := Option.some.inj H
                       have p116 : 0 ≤ (x59_3 : Int) := of_decide_eq_true (by first | (with_reducible assumption) | assumption)
                       have q116 : x59_3 < (((rd_T32 l0_0 x16_1).f2).length : Int) := of_decide_eq_true (by first | (with_reducible assumption) | assumption)
                       obtain ⟨ad116, e116, hx116_0⟩ := Kd.at_string HR105_2.out x59_3 p116 q116
                       cases e116
                       replace hx116_0 := (HB.out.cell (World.block_lt_of_cell? w _ hx116_0)).trans hx116_0
                       replace p116 := eq_true p116
                       replace q116 := eq_true q116
                       go_wp2_with (first | ((with_reducible refine gate_callee (f := 105) rfl ?_); refine goesL_ (some 65) rfl rfl Tryd.func105 (by kernel_rfl) rfl #[.string (rdOf ByteArray.empty ((rd_T32 l0_0 x16_1).f2) x59_3)] rfl (by (try simp only [List.map_toArray, List.map_cons, List.map_nil]); first | done | rfl | (simp only [List.length_drop, List.length_take]; rfl)) ?_; (with_reducible refine (portref1_isName.calls k3 (rdOf ByteArray.empty ((rd_T32 l0_0 x16_1).f2) x59_3) true _ A50.out).mono ?_); rintro e w' ⟨rfl, ⟨nd, rfl⟩⟩; refine ⟨_, rfl, ?_⟩; have hnb56 := NB106_104.out; have hnc56 := NB104_106.out; have hcz57_0 : wr.cell? ⟨gb106, 0, none⟩ = some (.string ((rd_T32 l0_0 x16_1).f0)) := (blk_cell BK106.out 0).trans rfl; have hcz57_1 : wr.cell? ⟨gb106, 1, none⟩ = some (.int .i64 ((rd_T32 l0_0 x16_1).f1)) := (blk_cell BK106.out 1).trans rfl; have hcz57_2 : wr.cell? ⟨gb106, 2, none⟩ = some (.slice (some ad116) ((rd_T32 l0_0 x16_1).f2).length c105_2) := (blk_cell BK106.out 2).trans rfl; have hcz57_3 : wr.cell? ⟨gb106, 3, none⟩ = some (.int .i64 ((rd_T32 l0_0 x16_1).f3)) := (blk_cell BK106.out 3).trans rfl; have hfz57_0 := blk_frozen BK106.out 0; have hfz57_1 := blk_frozen BK106.out 1; have hfz57_2 := blk_frozen BK106.out 2; have hfz57_3 := blk_frozen BK106.out 3; obtain ⟨i058, hi058, _, hsz58, _⟩ := info_parts info9; obtain ⟨hcut58, hA58, hC58⟩ := print_take_of (P := Tryd.prog) Value.string (⟨#[]⟩ : ByteArray) 30 9 .i64 Tryd.underlying30 hi058 hsz58 (some ad116) c105_2 ((rd_T32 l0_0 x16_1).f2) x59_3 (of_decide_eq_true (by first | (with_reducible assumption) | assumption)) (of_decide_eq_true (by first | (with_reducible assumption) | assumption)) HC105_2.out; have HR118 := Aside0.mk (Kd.C_of_reads (h1 := fun _ => rfl) (hA58 _ (Kd.reads_of_C HR105_2.out))); have HC118 := Aside0.mk hC58; clear hA58 hC58 hi058 hsz58) | ((with_reducible refine gate_callee (f := 94) rfl ?_); refine goesL_ (some 72) rfl rfl Tryd.func94 (by kernel_rfl) rfl #[.slice (some ad116) (((rd_T32 l0_0 x16_1).f2).take (x59_3 : Int).toNat).length c105_2, .string (rdOf ByteArray.empty ((rd_T32 l0_0 x16_1).f2) x59_3)] rfl (by (try simp only [List.map_toArray, List.map_cons, List.map_nil]); first | done | (rw [show (((rd_T32 l0_0 x16_1).f2).take (x59_3 : Int).toNat).length = x59_3.toNat from (by rw [List.length_take]; have h_ : (x59_3 : Int) ≤ (((rd_T32 l0_0 x16_1).f2).length : Int) := of_decide_eq_true (by first | (with_reducible assumption) | assumption); omega)] <;> rfl) | rfl | (simp only [List.length_drop, List.length_take]; rfl)) ?_; (with_reducible refine (portref1_has.calls k3 _ _ (((rd_T32 l0_0 x16_1).f2).take (x59_3 : Int).toNat) (rdOf ByteArray.empty ((rd_T32 l0_0 x16_1).f2) x59_3) true _ ?side1 ?side2 A54.out).mono ?_); (case side1 => repeat (first | exact (Kd.C_below HR118.out (by repeat (first | (with_reducible first | exact HB.out | apply below_alloc | apply pw_below_drewN | apply below_drew1 | refine below_set ?_ GE104.out | refine below_set ?_ GE106.out) | exact HB.out))) | (with_reducible refine Kd.C_alloc ?_ _) | (with_reducible refine Kd.C_drewN ?_ _) | (with_reducible refine Kd.C_drew ?_))); (case side2 => exact HC118.out); rintro e w' ⟨rfl, ⟨nd, rfl⟩⟩; refine ⟨_, rfl, ?_⟩))
                       go_ret
                       exact ⟨by first | rfl | (simp [*] <;> rfl), by repeat (first | (with_reducible first | exact HB.out | apply below_alloc | apply pw_below_drewN | apply below_drew1 | refine below_set ?_ GE104.out | refine below_set ?_ GE106.out) | exact HB.out)⟩
                      ·replace c55 := Bool.eq_false_iff.mpr c55
                       subst c55
                       have H1 : (portref1_FormError.l2 k3 l0_0 (l0_0.length : Int) x16_1 ((rd_T32 l0_0 x16_1).f2) (((rd_T32 l0_0 x16_1).f2).length : Int) (wrap64 (x59_3 + 1)) l0_0 ((rd_T32 l0_0 x16_1).f0) ((rd_T32 l0_0 x16_1).f1) ((rd_T32 l0_0 x16_1).f2) ((rd_T32 l0_0 x16_1).f3)) = some r := by rw [if_neg (show ¬ (false = true) by decide)] at H; exact H
                       clear H
                       have H := H1
                       clear H1
                       have H' := Aside0.mk H
                       clear H
                       have p116 : 0 ≤ (x59_3 : Int) := of_decide_eq_true (by first | (with_reducible assumption) | assumption)
                       have q116 : x59_3 < (((rd_T32 l0_0 x16_1).f2).length : Int) := of_decide_eq_true (by first | (with_reducible assumption) | assumption)
                       obtain ⟨ad116, e116, hx116_0⟩ := Kd.at_string HR105_2.out x59_3 p116 q116
                       cases e116
                       replace hx116_0 := (HB.out.cell (World.block_lt_of_cell? w _ hx116_0)).trans hx116_0
                       replace p116 := eq_true p116
                       replace q116 := eq_true q116
                       go_wp2_with (first | ((with_reducible refine gate_callee (f := 105) rfl ?_); refine goesL_ (some 65) rfl rfl Tryd.func105 (by kernel_rfl) rfl #[.string (rdOf ByteArray.empty ((rd_T32 l0_0 x16_1).f2) x59_3)] rfl (by (try simp only [List.map_toArray, List.map_cons, List.map_nil]); first | done | rfl | (simp only [List.length_drop, List.length_take]; rfl)) ?_; (with_reducible refine (portref1_isName.calls k3 (rdOf ByteArray.empty ((rd_T32 l0_0 x16_1).f2) x59_3) true _ A50.out).mono ?_); rintro e w' ⟨rfl, ⟨nd, rfl⟩⟩; refine ⟨_, rfl, ?_⟩; have hnb59 := NB106_104.out; have hnc59 := NB104_106.out; have hcz60_0 : wr.cell? ⟨gb106, 0, none⟩ = some (.string ((rd_T32 l0_0 x16_1).f0)) := (blk_cell BK106.out 0).trans rfl; have hcz60_1 : wr.cell? ⟨gb106, 1, none⟩ = some (.int .i64 ((rd_T32 l0_0 x16_1).f1)) := (blk_cell BK106.out 1).trans rfl; have hcz60_2 : wr.cell? ⟨gb106, 2, none⟩ = some (.slice (some ad116) ((rd_T32 l0_0 x16_1).f2).length c105_2) := (blk_cell BK106.out 2).trans rfl; have hcz60_3 : wr.cell? ⟨gb106, 3, none⟩ = some (.int .i64 ((rd_T32 l0_0 x16_1).f3)) := (blk_cell BK106.out 3).trans rfl; have hfz60_0 := blk_frozen BK106.out 0; have hfz60_1 := blk_frozen BK106.out 1; have hfz60_2 := blk_frozen BK106.out 2; have hfz60_3 := blk_frozen BK106.out 3; obtain ⟨i061, hi061, _, hsz61, _⟩ := info_parts info9; obtain ⟨hcut61, hA61, hC61⟩ := print_take_of (P := Tryd.prog) Value.string (⟨#[]⟩ : ByteArray) 30 9 .i64 Tryd.underlying30 hi061 hsz61 (some ad116) c105_2 ((rd_T32 l0_0 x16_1).f2) x59_3 (of_decide_eq_true (by first | (with_reducible assumption) | assumption)) (of_decide_eq_true (by first | (with_reducible assumption) | assumption)) HC105_2.out; have HR118 := Aside0.mk (Kd.C_of_reads (h1 := fun _ => rfl) (hA61 _ (Kd.reads_of_C HR105_2.out))); have HC118 := Aside0.mk hC61; clear hA61 hC61 hi061 hsz61) | ((with_reducible refine gate_callee (f := 94) rfl ?_); refine goesL_ (some 72) rfl rfl Tryd.func94 (by kernel_rfl) rfl #[.slice (some ad116) (((rd_T32 l0_0 x16_1).f2).take (x59_3 : Int).toNat).length c105_2, .string (rdOf ByteArray.empty ((rd_T32 l0_0 x16_1).f2) x59_3)] rfl (by (try simp only [List.map_toArray, List.map_cons, List.map_nil]); first | done | (rw [show (((rd_T32 l0_0 x16_1).f2).take (x59_3 : Int).toNat).length = x59_3.toNat from (by rw [List.length_take]; have h_ : (x59_3 : Int) ≤ (((rd_T32 l0_0 x16_1).f2).length : Int) := of_decide_eq_true (by first | (with_reducible assumption) | assumption); omega)] <;> rfl) | rfl | (simp only [List.length_drop, List.length_take]; rfl)) ?_; (with_reducible refine (portref1_has.calls k3 _ _ (((rd_T32 l0_0 x16_1).f2).take (x59_3 : Int).toNat) (rdOf ByteArray.empty ((rd_T32 l0_0 x16_1).f2) x59_3) false _ ?side1 ?side2 A54.out).mono ?_); (case side1 => repeat (first | exact (Kd.C_below HR118.out (by repeat (first | (with_reducible first | exact HB.out | apply below_alloc | apply pw_below_drewN | apply below_drew1 | refine below_set ?_ GE104.out | refine below_set ?_ GE106.out) | exact HB.out))) | (with_reducible refine Kd.C_alloc ?_ _) | (with_reducible refine Kd.C_drewN ?_ _) | (with_reducible refine Kd.C_drew ?_))); (case side2 => exact HC118.out); rintro e w' ⟨rfl, ⟨nd, rfl⟩⟩; refine ⟨_, rfl, ?_⟩))
                       go_roundg k3
                       case measure => have := HK1.out; have := HK2.out; have := HK3.out; omega
                       case rel => exact ⟨(wrap64 (x59_3 + 1)), (by first | rfl | (simp; done) | (simp [*]; done)), H', ⟨by have := HK1.out; have := HK2.out; have := HK3.out; omega⟩, ⟨by (with_reducible repeat (first | apply blk_drewN | apply blk_drew | apply blk_alloc)); exact BK104.out⟩, ⟨by (with_reducible repeat (first | apply blk_drewN | apply blk_drew | apply blk_alloc)); exact BK106.out⟩, ⟨by repeat (first | (with_reducible first | exact HB.out | apply below_alloc | apply pw_below_drewN | apply below_drew1 | refine below_set ?_ GE104.out | refine below_set ?_ GE106.out) | exact HB.out)⟩⟩
                     ·rw [if_neg c53] at H
                      exact absurd H (by simp)
                    ·replace c51 := Bool.eq_false_iff.mpr c51
                     subst c51
                     have H1 : (some 3) = some r := by rw [if_neg (show ¬ (false = true) by decide)] at H; exact H
                     clear H
                     have H := H1
                     clear H1
                     obtain rfl := Option.some.inj H
                     have p116 : 0 ≤ (x59_3 : Int) := of_decide_eq_true (by first | (with_reducible assumption) | assumption)
                     have q116 : x59_3 < (((rd_T32 l0_0 x16_1).f2).length : Int) := of_decide_eq_true (by first | (with_reducible assumption) | assumption)
                     obtain ⟨ad116, e116, hx116_0⟩ := Kd.at_string HR105_2.out x59_3 p116 q116
                     cases e116
                     replace hx116_0 := (HB.out.cell (World.block_lt_of_cell? w _ hx116_0)).trans hx116_0
                     replace p116 := eq_true p116
                     replace q116 := eq_true q116
                     go_wp2_with (first | ((with_reducible refine gate_callee (f := 105) rfl ?_); refine goesL_ (some 65) rfl rfl Tryd.func105 (by kernel_rfl) rfl #[.string (rdOf ByteArray.empty ((rd_T32 l0_0 x16_1).f2) x59_3)] rfl (by (try simp only [List.map_toArray, List.map_cons, List.map_nil]); first | done | rfl | (simp only [List.length_drop, List.length_take]; rfl)) ?_; (with_reducible refine (portref1_isName.calls k3 (rdOf ByteArray.empty ((rd_T32 l0_0 x16_1).f2) x59_3) false _ A50.out).mono ?_); rintro e w' ⟨rfl, ⟨nd, rfl⟩⟩; refine ⟨_, rfl, ?_⟩))
                     go_ret
                     exact ⟨by first | rfl | (simp [*] <;> rfl), by repeat (first | (with_reducible first | exact HB.out | apply below_alloc | apply pw_below_drewN | apply below_drew1 | refine below_set ?_ GE104.out | refine below_set ?_ GE106.out) | exact HB.out)⟩
                   ·rw [if_neg c49] at H
                    exact absurd H (by simp)
                  ·rw [if_neg c48] at H
                   exact absurd H (by simp)
                 ·rw [if_neg c47] at H
                  have c47b0 : decide (x59_3 < (((rd_T32 l0_0 x16_1).f2).length : Int)) = false := decide_eq_false c47
                  clear c47
                  replace H := Option.bind_eq_some_iff.mp H
                  obtain ⟨t115, A620, H⟩ := H
                  replace H : (if t115 = true then (portref1_FormError.l0 k3 l0_0 (l0_0.length : Int) (wrap64 (x16_1 + 1)) l0_0) else (some 2)) = some r := H
                  have A62 := Aside0.mk A620
                  clear A620
                  by_cases c63 : t115 = true
                  ·subst c63
                   have H1 : (portref1_FormError.l0 k3 l0_0 (l0_0.length : Int) (wrap64 (x16_1 + 1)) l0_0) = some r := by rw [if_pos rfl] at H; exact H
                   clear H
                   have H := H1
                   clear H1
                   have H' := Aside0.mk H
                   clear H
                   have hnb64 := NB106_104.out
                   have hnc64 := NB104_106.out
                   have hcz65_0 : wr.cell? ⟨gb106, 0, none⟩ = some (.string ((rd_T32 l0_0 x16_1).f0)) := (blk_cell BK106.out 0).trans rfl
                   have hcz65_1 : wr.cell? ⟨gb106, 1, none⟩ = some (.int .i64 ((rd_T32 l0_0 x16_1).f1)) := (blk_cell BK106.out 1).trans rfl
                   have hcz65_2 : wr.cell? ⟨gb106, 2, none⟩ = some (.slice A105_2 ((rd_T32 l0_0 x16_1).f2).length c105_2) := (blk_cell BK106.out 2).trans rfl
                   have hcz65_3 : wr.cell? ⟨gb106, 3, none⟩ = some (.int .i64 ((rd_T32 l0_0 x16_1).f3)) := (blk_cell BK106.out 3).trans rfl
                   have hfz65_0 := blk_frozen BK106.out 0
                   have hfz65_1 := blk_frozen BK106.out 1
                   have hfz65_2 := blk_frozen BK106.out 2
                   have hfz65_3 := blk_frozen BK106.out 3
                   go_wp2_with (first | ((with_reducible refine gate_callee (f := 42) rfl ?_); refine goesL_ (some 76) rfl rfl Tryd.func42 (by kernel_rfl) rfl #[.int .i64 ((rd_T32 l0_0 x16_1).f3), .int .i64 0, .int .i64 6] rfl (by (try simp only [List.map_toArray, List.map_cons, List.map_nil]); first | done | rfl | (simp only [List.length_drop, List.length_take]; rfl)) ?_; (with_reducible refine (portref1_inRange.calls ((rd_T32 l0_0 x16_1).f3) 0 6 true _ A62.out).mono ?_); rintro e w' ⟨rfl, ⟨nd, rfl⟩⟩; refine ⟨_, rfl, ?_⟩))
                   go_roundg k3
                   case measure => have := HK1.out; have := HK2.out; have := HK3.out; omega
                   case rel => exact ⟨(wrap64 (x16_1 + 1)), (by first | rfl | (simp; done) | (simp [*]; done)), H', ⟨by have := HK1.out; have := HK2.out; have := HK3.out; omega⟩, ⟨by (with_reducible repeat (first | apply blk_drewN | apply blk_drew | apply blk_alloc)); exact BK104.out⟩, ⟨by repeat (first | (with_reducible first | exact HB.out | apply below_alloc | apply pw_below_drewN | apply below_drew1 | refine below_set ?_ GE104.out | refine below_set ?_ GE106.out) | exact HB.out)⟩⟩
                  ·replace c63 := Bool.eq_false_iff.mpr c63
                   subst c63
                   have H1 : (some 2) = some r := by rw [if_neg (show ¬ (false = true) by decide)] at H; exact H
                   clear H
                   have H := H1
                   clear H1
                   obtain rfl := Option.some.inj H
                   have hnb66 := NB106_104.out
                   have hnc66 := NB104_106.out
                   have hcz67_0 : wr.cell? ⟨gb106, 0, none⟩ = some (.string ((rd_T32 l0_0 x16_1).f0)) := (blk_cell BK106.out 0).trans rfl
                   have hcz67_1 : wr.cell? ⟨gb106, 1, none⟩ = some (.int .i64 ((rd_T32 l0_0 x16_1).f1)) := (blk_cell BK106.out 1).trans rfl
                   have hcz67_2 : wr.cell? ⟨gb106, 2, none⟩ = some (.slice A105_2 ((rd_T32 l0_0 x16_1).f2).length c105_2) := (blk_cell BK106.out 2).trans rfl
                   have hcz67_3 : wr.cell? ⟨gb106, 3, none⟩ = some (.int .i64 ((rd_T32 l0_0 x16_1).f3)) := (blk_cell BK106.out 3).trans rfl
                   have hfz67_0 := blk_frozen BK106.out 0
                   have hfz67_1 := blk_frozen BK106.out 1
                   have hfz67_2 := blk_frozen BK106.out 2
                   have hfz67_3 := blk_frozen BK106.out 3
                   go_wp2_with (first | ((with_reducible refine gate_callee (f := 42) rfl ?_); refine goesL_ (some 76) rfl rfl Tryd.func42 (by kernel_rfl) rfl #[.int .i64 ((rd_T32 l0_0 x16_1).f3), .int .i64 0, .int .i64 6] rfl (by (try simp only [List.map_toArray, List.map_cons, List.map_nil]); first | done | rfl | (simp only [List.length_drop, List.length_take]; rfl)) ?_; (with_reducible refine (portref1_inRange.calls ((rd_T32 l0_0 x16_1).f3) 0 6 false _ A62.out).mono ?_); rintro e w' ⟨rfl, ⟨nd, rfl⟩⟩; refine ⟨_, rfl, ?_⟩))
                   go_ret
                   exact ⟨by first | rfl | (simp [*] <;> rfl), by repeat (first | (with_reducible first | exact HB.out | apply below_alloc | apply pw_below_drewN | apply below_drew1 | refine below_set ?_ GE104.out | refine below_set ?_ GE106.out) | exact HB.out)⟩
            ·replace c38 := Bool.eq_false_iff.mpr c38
             subst c38
             have H1 : (some 10) = some r := by rw [if_neg (show ¬ (false = true) by decide)] at H; exact H
             clear H
             have H := H1
             clear H1
             obtain rfl := Option.some.inj H
             have hnb68 := NB106_104.out
             have hnc68 := NB104_106.out
             have hcz69_0 : wr.cell? ⟨gb106, 0, none⟩ = some (.string ((rd_T32 l0_0 x16_1).f0)) := (blk_cell BK106.out 0).trans rfl
             have hcz69_1 : wr.cell? ⟨gb106, 1, none⟩ = some (.int .i64 ((rd_T32 l0_0 x16_1).f1)) := (blk_cell BK106.out 1).trans rfl
             have hcz69_2 : wr.cell? ⟨gb106, 2, none⟩ = some (.slice A105_2 ((rd_T32 l0_0 x16_1).f2).length c105_2) := (blk_cell BK106.out 2).trans rfl
             have hcz69_3 : wr.cell? ⟨gb106, 3, none⟩ = some (.int .i64 ((rd_T32 l0_0 x16_1).f3)) := (blk_cell BK106.out 3).trans rfl
             have hfz69_0 := blk_frozen BK106.out 0
             have hfz69_1 := blk_frozen BK106.out 1
             have hfz69_2 := blk_frozen BK106.out 2
             have hfz69_3 := blk_frozen BK106.out 3
             go_wp2_with (first | ((with_reducible refine gate_callee (f := 42) rfl ?_); refine goesL_ (some 42) rfl rfl Tryd.func42 (by kernel_rfl) rfl #[.int .i64 ((rd_T32 l0_0 x16_1).f1), .int .i64 1, .int .i64 6] rfl (by (try simp only [List.map_toArray, List.map_cons, List.map_nil]); first | done | rfl | (simp only [List.length_drop, List.length_take]; rfl)) ?_; (with_reducible refine (portref1_inRange.calls ((rd_T32 l0_0 x16_1).f1) 1 6 false _ A37.out).mono ?_); rintro e w' ⟨rfl, ⟨nd, rfl⟩⟩; refine ⟨_, rfl, ?_⟩))
             go_ret
             exact ⟨by first | rfl | (simp [*] <;> rfl), by repeat (first | (with_reducible first | exact HB.out | apply below_alloc | apply pw_below_drewN | apply below_drew1 | refine below_set ?_ GE104.out | refine below_set ?_ GE106.out) | exact HB.out)⟩
        ·rw [if_neg c13] at H
         exact absurd H (by simp)
       ·replace c11 := Bool.eq_false_iff.mpr c11
        subst c11
        have H1 : (some 3) = some r := by rw [if_neg (show ¬ (false = true) by decide)] at H; exact H
        clear H
        have H := H1
        clear H1
        obtain rfl := Option.some.inj H
        have p105 : 0 ≤ (x16_1 : Int) := of_decide_eq_true (by first | (with_reducible assumption) | assumption)
        have q105 : x16_1 < (l0_0.length : Int) := of_decide_eq_true (by first | (with_reducible assumption) | assumption)
        obtain ⟨ad105, A105_2, c105_2, e105, hx105_0, hx105_1, hx105_2, hx105_3, hl105_2, hi105_2⟩ := at_T32 HR0_0.out x16_1 p105 q105
        cases e105
        replace hx105_0 := (HB.out.cell (World.block_lt_of_cell? w _ hx105_0)).trans hx105_0
        replace hx105_1 := (HB.out.cell (World.block_lt_of_cell? w _ hx105_1)).trans hx105_1
        replace hx105_2 := (HB.out.cell (World.block_lt_of_cell? w _ hx105_2)).trans hx105_2
        replace hx105_3 := (HB.out.cell (World.block_lt_of_cell? w _ hx105_3)).trans hx105_3
        have HR105_2 := Aside0.mk hi105_2
        have HC105_2 := Aside0.mk hl105_2
        clear hi105_2 hl105_2
        replace p105 := eq_true p105
        replace q105 := eq_true q105
        go_wp2_with (first | ((with_reducible refine gate_dst (N := 4) rfl ?_); refine box_event ?hg (N := 4) ?hd (cs := #[.string (⟨#[]⟩ : ByteArray), .int .i64 0, .slice none 0 0, .int .i64 0]) (t := 32) ?hr ?_; (case hd => rfl); (case hg => rfl); (case hr => first | (go_simp; done) | (go_simp; rfl)); intro gb106 hg w70 hbox hb; have n0_ := Aside0.mk (blk_below (g := gb104) (o := .cells #[.slice (some ad105) l0_0.length c0_0] 24 (0, 0)) (by (with_reducible repeat (first | apply blk_drewN | apply blk_drew | apply blk_alloc)); exact BK104.out) hb); have n1_ := Aside0.mk (below_step (by repeat (first | (with_reducible first | exact HB.out | apply below_alloc | apply pw_below_drewN | apply below_drew1 | refine below_set ?_ GE104.out) | exact HB.out)) hb); have n2_ := Aside0.mk (hbox); have n3_ := Aside0.mk ((by rw [hg]; exact (below_size (by repeat (first | (with_reducible first | exact HB.out | apply below_alloc | apply pw_below_drewN | apply below_drew1 | refine below_set ?_ GE104.out) | exact HB.out))) : w.heap.size ≤ gb106)); have n4_ := Aside0.mk ((by rw [hg]; exact (below_size (by repeat (first | (with_reducible first | exact HB.out | apply below_alloc | apply pw_below_drewN | apply below_drew1 | refine below_set ?_ GE104.out) | exact HB.out))) : w.heap.size ≤ gb106)); have n5_ := Aside0.mk ((by rw [hg]; exact Nat.ne_of_lt (blk_lt (g := gb104) (o := .cells #[.slice (some ad105) l0_0.length c0_0] 24 (0, 0)) (by (with_reducible repeat (first | apply blk_drewN | apply blk_drew | apply blk_alloc)); exact BK104.out)) : gb104 ≠ gb106)); have n6_ := Aside0.mk ((by rw [hg]; exact Nat.ne_of_gt (blk_lt (g := gb104) (o := .cells #[.slice (some ad105) l0_0.length c0_0] 24 (0, 0)) (by (with_reducible repeat (first | apply blk_drewN | apply blk_drew | apply blk_alloc)); exact BK104.out)) : gb106 ≠ gb104)); clear BK104; clear HB; have BK104 := n0_; have HB := n1_; have BK106 := n2_; have GW106 := n3_; have GE106 := n4_; have NB104_106 := n5_; have NB106_104 := n6_; clear n0_ n1_ n2_ n3_ n4_ n5_ n6_; clear hb hbox hg; have hnb71 := NB106_104.out; have hnc71 := NB104_106.out; have hcz72_0 : w70.cell? ⟨gb106, 0, none⟩ = some (.string (⟨#[]⟩ : ByteArray)) := (blk_cell BK106.out 0).trans rfl; have hcz72_1 : w70.cell? ⟨gb106, 1, none⟩ = some (.int .i64 0) := (blk_cell BK106.out 1).trans rfl; have hcz72_2 : w70.cell? ⟨gb106, 2, none⟩ = some (.slice none 0 0) := (blk_cell BK106.out 2).trans rfl; have hcz72_3 : w70.cell? ⟨gb106, 3, none⟩ = some (.int .i64 0) := (blk_cell BK106.out 3).trans rfl; have hfz72_0 := blk_frozen BK106.out 0; have hfz72_1 := blk_frozen BK106.out 1; have hfz72_2 := blk_frozen BK106.out 2; have hfz72_3 := blk_frozen BK106.out 3) | ((with_reducible refine gate_callee (f := 105) rfl ?_); refine goesL_ (some 23) rfl rfl Tryd.func105 (by kernel_rfl) rfl #[.string ((rd_T32 l0_0 x16_1).f0)] rfl (by (try simp only [List.map_toArray, List.map_cons, List.map_nil]); first | done | rfl | (simp only [List.length_drop, List.length_take]; rfl)) ?_; (with_reducible refine (portref1_isName.calls k1 ((rd_T32 l0_0 x16_1).f0) false _ A10.out).mono ?_); rintro e w' ⟨rfl, ⟨nd, rfl⟩⟩; refine ⟨_, rfl, ?_⟩))
        go_ret
        exact ⟨by first | rfl | (simp [*] <;> rfl), by repeat (first | (with_reducible first | exact HB.out | apply below_alloc | apply pw_below_drewN | apply below_drew1 | refine below_set ?_ GE104.out | refine below_set ?_ GE106.out) | exact HB.out)⟩
      ·rw [if_neg c9] at H
       exact absurd H (by simp)
     ·rw [if_neg c8] at H
      exact absurd H (by simp)
    ·rw [if_neg c7] at H
     have c7b0 : decide (x16_1 < (l0_0.length : Int)) = false := decide_eq_false c7
     clear c7
     obtain rfl := Option.some.inj H
     go_wp2
     go_ret
     exact ⟨by first | rfl | (simp [*] <;> rfl), by repeat (first | (with_reducible first | exact HB.out | apply below_alloc | apply pw_below_drewN | apply below_drew1 | refine below_set ?_ GE104.out) | exact HB.out)⟩

end Go.Proofs.YtijajimooldhiaaDoor.Kr
