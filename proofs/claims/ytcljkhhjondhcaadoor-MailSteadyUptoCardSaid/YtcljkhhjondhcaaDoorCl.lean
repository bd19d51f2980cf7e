/- mail.Clean walked by hand: it returns what 'cleanK' says, for every string and every number of rounds at which that answers. -/
import Derived.Test.YtcljkhhjondhcaaDoorIm2
import Derived.Test.YtcljkhhjondhcaaDoorIk1
import Derived.Test.YtcljkhhjondhcaaDoorBShelf
import Derived.Test.YtcljkhhjondhcaaDoorPl
namespace Go.Proofs.YtcljkhhjondhcaaDoor.Cl
open Go.RowKit Go.Shelf Go.Proofs.YtcljkhhjondhcaaDoorW.PrintWords Go.Proofs.YtcljkhhjondhcaaDoorW.PrintLast Go.Proofs.YtcljkhhjondhcaaDoorW.PrintMore Go.Proofs.YtcljkhhjondhcaaDoor.Ext Go.Proofs.YtcljkhhjondhcaaDoor.Im Go.Proofs.YtcljkhhjondhcaaDoor.Pl
set_option linter.unusedVariables false
set_option linter.unusedSimpArgs false
/-- marks and blanks away, until nothing more goes -/
def cleanS : Nat → ByteArray → Option ByteArray
  | 0, _ => none
  | k + 1, x => (trimF x (⟨#[32, 9]⟩ : ByteArray)).bind fun t => (mail_marked.f k t).bind fun m => if 0 ≤ m then (if m ≤ (t.size : Int) then (if (t.extract m.toNat t.size).toList = x.toList then some x else cleanS k (t.extract m.toNat t.size)) else none) else none
def bk (b : UInt8) : Bool := (b == 32) || (b == 9)
/-- what one byte adds: a blank behind a blank adds nothing -/
def piece (l : List UInt8) (i : Nat) : List UInt8 := if bk (l.getD i 0) then (if bk (l.getD (i - 1) 0) then [] else [32]) else [l.getD i 0]
def sqTo (l : List UInt8) (k : Nat) : List UInt8 := (List.range k).flatMap (piece l)
theorem sqTo_succ (l : List UInt8) (k : Nat) : sqTo l (k + 1) = sqTo l k ++ piece l k := by
  unfold sqTo
  rw [List.range_succ, List.flatMap_append]; simp
theorem piece_len (l : List UInt8) (k : Nat) : (piece l k).length ≤ 1 := by
  unfold piece; split
  · split <;> simp
  · simp
theorem sqTo_len (l : List UInt8) : ∀ k, (sqTo l k).length ≤ k
  | 0 => by simp [sqTo]
  | k + 1 => by
    rw [sqTo_succ, List.length_append]
    have := sqTo_len l k
    have := piece_len l k
    omega
def cleanK (k : Nat) (x : ByteArray) : Option ByteArray := (cleanS k x).bind fun y => if y.size ≤ 35184372088832 then (if y.size = 0 ∨ bk ((bl y).getD 0 0) = false then some (ba (sqTo (bl y) y.size)) else none) else none
theorem extract_self (t : ByteArray) : t.extract 0 t.size = t := bl_inj (by rw [bl_drop, List.drop_zero])
theorem toList_inj {s t : ByteArray} (h : s.toList = t.toList) : s = t := by
  rw [toList_bl, toList_bl] at h
  exact bl_inj h
theorem byte_at {y : ByteArray} {k : Nat} (h : k < y.size) : ∃ b : UInt8, (bl y)[k]? = some b ∧ (bl y).getD k 0 = b ∧ bt y (k : Int) = (b.toNat : Int) ∧ y[k]'h = b := by
  have hl : k < (bl y).length := by rw [← bl_size]; exact h
  refine ⟨(bl y)[k], List.getElem?_eq_getElem hl, ?_, bt_nat (List.getElem?_eq_getElem hl), ?_⟩
  · rw [List.getD_eq_getElem?_getD, List.getElem?_eq_getElem hl]; rfl
  · simp; rfl
theorem bk_int (b : UInt8) : (if ((b.toNat : Nat) : Int) = 32 then (some true : Option Bool) else some (decide (((b.toNat : Nat) : Int) = 9))) = some (bk b) := by
  unfold bk
  by_cases h : b = 32
  · subst h; rfl
  · have h1 : ¬ ((b.toNat : Nat) : Int) = 32 := fun e => h (UInt8.toNat_inj.1 (by show b.toNat = 32; omega))
    rw [if_neg h1]
    congr 1
    by_cases h2 : b = 9
    · subst h2; rfl
    · have h3 : ¬ ((b.toNat : Nat) : Int) = 9 := fun e => h2 (UInt8.toNat_inj.1 (by show b.toNat = 9; omega))
      simp [h, h2, h3]
theorem blank_f (b : UInt8) : Ik.mail_blank.f (b.toNat : Int) = some (bk b) := by
  unfold Ik.mail_blank.f
  rw [← bk_int b]
  split <;> rfl

set_option maxHeartbeats 4000000 in
set_option maxRecDepth 1000000 in
theorem clean_calls (k : Nat) (a0 r : ByteArray) (w : World) (h : cleanK k a0 = some r) :
    Calls Tryd.prog 18 #[.string a0] w fun e w' => e = .returned (.string r) ∧ Below w.heap.size w w' := by
  unfold cleanK at h
  obtain ⟨y, HS, h⟩ := Option.bind_eq_some_iff.mp h
  by_cases hy : y.size ≤ 35184372088832
  · rw [if_pos hy] at h
    by_cases hf : y.size = 0 ∨ bk ((bl y).getD 0 0) = false
    · rw [if_pos hf] at h
      obtain rfl := Option.some.inj h
      clear h
      have HY := Aside0.mk hy
      have HF := Aside0.mk hf
      have HA := Aside0.mk HS
      clear hy hf HS
      go_enter Tryd.func18, Tryd.ntmps18
      go_wp2
      go_loopg [0] k (fun kq v0 w' => ∃ (x : ByteArray), v0 = .string x ∧ Aside0 (cleanS kq x = some y) ∧ Aside0 (kq ≤ k) ∧ Aside0 (Below w.heap.size w w'))
      case atStart => exact ⟨a0, (by first | rfl | (simp; done) | (simp [*]; done)), HA, ⟨Nat.le_refl _⟩, ⟨by repeat (first | exact Below.refl _ _ | apply below_alloc | apply pw_below_drewN | apply below_drew1)⟩⟩
      case round =>
        clear HA
        obtain ⟨x, rfl, HA, HK1, HB⟩ := hrel
        cases gk with
        | zero => exact absurd HA.out (by simp [cleanS])
        | succ k1 =>
          have H := HA.out
          clear HA
          simp only [cleanS] at H
          obtain ⟨t, T0, H⟩ := Option.bind_eq_some_iff.mp H
          obtain ⟨m, M0, H⟩ := Option.bind_eq_some_iff.mp H
          by_cases c1 : 0 ≤ m
          · rw [if_pos c1] at H
            by_cases c2 : m ≤ (t.size : Int)
            · rw [if_pos c2] at H
              have c1b0 : decide (0 ≤ m) = true := decide_eq_true c1
              have c2b0 : decide (m ≤ (t.size : Int)) = true := decide_eq_true c2
              have e1 := eq_true c1
              have e2 := eq_true c2
              have AT := Aside0.mk T0
              have AM := Aside0.mk M0
              clear T0 M0
              by_cases c3 : (t.extract m.toNat t.size).toList = x.toList
              · rw [if_pos c3] at H
                obtain rfl := Option.some.inj H
                have c3b0 : ((t.extract m.toNat t.size).toList == x.toList) = true := beq_iff_eq.mpr c3
                have c3b1 : ((t.extract m.toNat t.size).toList != x.toList) = false := bne_eq_false_iff_eq.mpr c3
                clear H c3
                go_wp2_with (first | (go_at_call 43; (with_reducible refine (trim_calls x (⟨#[32, 9]⟩ : ByteArray) t _ AT.out).mono ?_); rintro e w1 ⟨rfl, hb⟩; have n1_ := Aside0.mk (below_step (by repeat (first | (with_reducible first | exact HB.out | apply below_alloc | apply pw_below_drewN | apply below_drew1) | exact HB.out)) hb); clear HB; have HB := n1_; clear n1_ hb) | (go_at_call 59; (with_reducible refine (mail_marked.calls k1 t m _ AM.out).mono ?_); rintro e w2 ⟨rfl, hb⟩; have n1_ := Aside0.mk (below_step (by repeat (first | (with_reducible first | exact HB.out | apply below_alloc | apply pw_below_drewN | apply below_drew1) | exact HB.out)) hb); clear HB; have HB := n1_; clear n1_ hb))
                go_loopw [18] (fun i wr => ∃ n : Nat, n ≤ x.size ∧ i = .int .i64 n ∧ Aside0 (Lib.IsBuilder 79 5 w2.heap.size w2.heap.size (Lib.byteCells (sqTo (bl x) n)) wr) ∧ Aside0 (Below w2.heap.size w2 wr)) (fun i _ => x.size - (intOf i).toNat)
                case atStart => exact ⟨0, Nat.zero_le _, rfl, ⟨Lib.fresh_isBuilder 79 5 w2⟩, ⟨(Below.refl _ _).alloc (Nat.le_refl _) _⟩⟩
                case round =>
                  obtain ⟨n, hn, rfl, HI, HW⟩ := hrel
                  by_cases hlt : n < x.size
                  · obtain ⟨b, hbe, hgd, hbt, hat⟩ := byte_at hlt
                    have p1 : (0 ≤ (n : Int)) = True := eq_true (by omega)
                    have q1 : ((n : Int) < (x.size : Int)) = True := eq_true (by omega)
                    have hbl := blank_f b
                    have hy := HY.out
                    have HU : Aside0 (wrap64 ((n : Int) + 1) = ((n + 1 : Nat) : Int)) := ⟨by rw [w64 (by omega) (by omega)]; omega⟩
                    by_cases hbb : bk b = true
                    · rw [hbb] at hbl
                      have AB := Aside0.mk hbl
                      have hn1 : 1 ≤ n := by
                        rcases Nat.eq_zero_or_pos n with h0 | h0
                        · subst h0
                          rcases HF.out with h | h
                          · omega
                          · rw [hgd, hbb] at h; cases h
                        · exact h0
                      obtain ⟨j, hj⟩ : ∃ j, j = n - 1 := ⟨_, rfl⟩
                      have hjs : j < x.size := by omega
                      obtain ⟨b', hbe', hgd', hbt', hat'⟩ := byte_at hjs
                      have hw1 : IntKind.i64.wrap ((n : Int) - 1) = (j : Int) := by
                        have : wrap64 ((n : Int) - 1) = (j : Int) := by rw [w64 (by omega) (by omega)]; omega
                        exact (i64_w _).trans this
                      have p2 : (0 ≤ (j : Int)) = True := eq_true (by omega)
                      have q2 : ((j : Int) < (x.size : Int)) = True := eq_true (by omega)
                      have hbl2 := blank_f b'
                      by_cases hbb' : bk b' = true
                      · rw [hbb'] at hbl2
                        have AB2 := Aside0.mk hbl2
                        have hpc : piece (bl x) n = [] := by unfold piece; rw [hgd, hbb, ← hj, hgd', hbb']; rfl
                        have HP := Aside0.mk hpc
                        clear hbl hbl2 hbe hbe' hgd hgd' hbt hbt' hbb hbb' hpc hj hy
                        go_wp2_with (first | (go_at_call 60; (with_reducible refine (Ik.mail_blank.calls (b.toNat : Int) true _ AB.out).mono ?_); rintro e w' ⟨rfl, ⟨nd, rfl⟩⟩) | (go_at_call 60; (with_reducible refine (Ik.mail_blank.calls (b'.toNat : Int) true _ AB2.out).mono ?_); rintro e w' ⟨rfl, ⟨nd, rfl⟩⟩))
                        go_roundw
                        case rel => exact ⟨n + 1, by omega, by rw [HU.out], ⟨by rw [sqTo_succ, HP.out, List.append_nil]; exact HI.out⟩, ⟨by repeat (first | (with_reducible exact HW.out) | apply pw_below_drewN | apply below_drew1)⟩⟩
                        case measure => rw [HU.out]; simp [intOf]; omega
                      · rw [Bool.not_eq_true] at hbb'
                        rw [hbb'] at hbl2
                        have AB2 := Aside0.mk hbl2
                        have hpc : piece (bl x) n = [32] := by unfold piece; rw [hgd, hbb, ← hj, hgd', hbb']; rfl
                        have HP := Aside0.mk hpc
                        clear hbl hbl2 hbe hbe' hgd hgd' hbt hbt' hbb hbb' hpc hj hy
                        go_wp2_with (first | (go_at_call 60; (with_reducible refine (Ik.mail_blank.calls (b.toNat : Int) true _ AB.out).mono ?_); rintro e w' ⟨rfl, ⟨nd, rfl⟩⟩) | (go_at_call 60; (with_reducible refine (Ik.mail_blank.calls (b'.toNat : Int) false _ AB2.out).mono ?_); rintro e w' ⟨rfl, ⟨nd, rfl⟩⟩) | (go_at_call 61; refine (Tryd.Builder_WriteByte w2.heap.size w2.heap.size (Lib.byteCells (sqTo (bl x) n)) 32 _ (by exact HI.out) (by rw [Lib.byteCells_length]; have := sqTo_len (bl x) n; have := HY.out; omega) (by exact HW.out.size)).mono ?_; rintro e W1 ⟨rfl, h1, b1⟩))
                        go_roundw
                        case rel => exact ⟨n + 1, by omega, by rw [HU.out], ⟨by rw [sqTo_succ, HP.out, Lib.byteCells_append]; exact Or.inr h1⟩, ⟨Below.trans (by repeat (first | (with_reducible exact HW.out) | apply pw_below_drewN | apply below_drew1)) b1⟩⟩
                        case measure => rw [HU.out]; simp [intOf]; omega
                    · rw [Bool.not_eq_true] at hbb
                      rw [hbb] at hbl
                      have AB := Aside0.mk hbl
                      have hpc : piece (bl x) n = [b] := by unfold piece; rw [hgd, hbb]; rfl
                      have HP := Aside0.mk hpc
                      clear hbl hbe hgd hbt hbb hpc hy
                      go_wp2_with (first | (go_at_call 60; (with_reducible refine (Ik.mail_blank.calls (b.toNat : Int) false _ AB.out).mono ?_); rintro e w' ⟨rfl, ⟨nd, rfl⟩⟩) | (go_at_call 61; refine (Tryd.Builder_WriteByte w2.heap.size w2.heap.size (Lib.byteCells (sqTo (bl x) n)) (b.toNat : Int) _ (by exact HI.out) (by rw [Lib.byteCells_length]; have := sqTo_len (bl x) n; have := HY.out; omega) (by exact HW.out.size)).mono ?_; rintro e W1 ⟨rfl, h1, b1⟩))
                      go_roundw
                      case rel => exact ⟨n + 1, by omega, by rw [HU.out], ⟨by rw [sqTo_succ, HP.out, Lib.byteCells_append]; exact Or.inr h1⟩, ⟨Below.trans (by repeat (first | (with_reducible exact HW.out) | apply pw_below_drewN | apply below_drew1)) b1⟩⟩
                      case measure => rw [HU.out]; simp [intOf]; omega
                  · obtain rfl : n = x.size := by omega
                    have c9 : (((x.size : Nat) : Int) < (x.size : Int)) = False := eq_false (by omega)
                    go_wp2_with (go_at_call 62; refine (Tryd.Builder_String_any w2.heap.size w2.heap.size (sqTo (bl x) x.size) _ (by exact HI.out) (by exact HW.out.size)).mono ?_; rintro e W1 ⟨rfl, b1⟩)
                    go_ret
                    exact ⟨rfl, below_step HB.out (Below.trans (by repeat (first | (with_reducible exact HW.out) | apply pw_below_drewN | apply below_drew1)) b1)⟩
              · rw [if_neg c3] at H
                have c3b0 : ((t.extract m.toNat t.size).toList == x.toList) = false := beq_eq_false_iff_ne.mpr c3
                have c3b1 : ((t.extract m.toNat t.size).toList != x.toList) = true := bne_iff_ne.mpr c3
                clear c3
                have H' := Aside0.mk H
                clear H
                go_wp2_with (first | (go_at_call 43; (with_reducible refine (trim_calls x (⟨#[32, 9]⟩ : ByteArray) t _ AT.out).mono ?_); rintro e w1 ⟨rfl, hb⟩; have n1_ := Aside0.mk (below_step (by repeat (first | (with_reducible first | exact HB.out | apply below_alloc | apply pw_below_drewN | apply below_drew1) | exact HB.out)) hb); clear HB; have HB := n1_; clear n1_ hb) | (go_at_call 59; (with_reducible refine (mail_marked.calls k1 t m _ AM.out).mono ?_); rintro e w2 ⟨rfl, hb⟩; have n1_ := Aside0.mk (below_step (by repeat (first | (with_reducible first | exact HB.out | apply below_alloc | apply pw_below_drewN | apply below_drew1) | exact HB.out)) hb); clear HB; have HB := n1_; clear n1_ hb))
                go_roundg k1
                case measure => have := HK1.out; omega
                case rel => exact ⟨_, (by first | rfl | (simp; done) | (simp [*]; done)), H', ⟨by have := HK1.out; omega⟩, ⟨by repeat (first | (with_reducible first | exact HB.out | apply below_alloc | apply pw_below_drewN | apply below_drew1) | exact HB.out)⟩⟩
            · rw [if_neg c2] at H
              exact absurd H (by simp)
          · rw [if_neg c1] at H
            exact absurd H (by simp)
    · rw [if_neg hf] at h; cases h
  · rw [if_neg hy] at h; cases h
end Go.Proofs.YtcljkhhjondhcaaDoor.Cl
