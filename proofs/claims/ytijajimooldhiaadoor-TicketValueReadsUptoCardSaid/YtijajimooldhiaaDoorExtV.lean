/- strings.TrimLeft, strconv.Atoi, ticket.number and ticket.unquoted: each call returns what the plain function says, wherever that function answers; of the world they ask the table of powers of ten (Tp) and that the variables ErrSyntax and ErrRange hold an error or nothing (Te). -/
import Derived.Test.YtijajimooldhiaaDoorExt
import Derived.Test.YtijajimooldhiaaDoorCShelf
import Derived.Test.YtijajimooldhiaaDoorWLast
namespace Go.Proofs.YtijajimooldhiaaDoor.ExtV
open Go.RowKit Go.Shelf Go.Proofs.YtijajimooldhiaaDoorW.PrintWords Go.Proofs.YtijajimooldhiaaDoorW.PrintLast Go.Proofs.YtijajimooldhiaaDoor.Ext Go.Proofs.YtijajimooldhiaaDoor.Pl
def HoldsErr (w : World) (g : Nat) : Prop := ∃ ev, w.cell? ⟨g, 0, none⟩ = some ev ∧ (ev = .nilIface ∨ ∃ te pe, ev = .iface te pe)
def Te (w : World) : Prop := HoldsErr w 8 ∧ HoldsErr w 9
theorem holdsErr_below {w w' : World} {g : Nat} (h : HoldsErr w g) (hb : Below w.heap.size w w') : HoldsErr w' g := by
  obtain ⟨ev, h1, h2⟩ := h
  refine ⟨ev, ?_, h2⟩
  have hlt : g < w.heap.size := Lib.lt_of_cell h1
  rw [← h1]
  unfold World.cell?
  rw [hb.block g hlt]
theorem Te_below {w w' : World} (h : Te w) (hb : Below w.heap.size w w') : Te w' := ⟨holdsErr_below h.1 hb, holdsErr_below h.2 hb⟩
theorem Te_drewN {w : World} (h : Te w) (n : Nat) : Te (w.drewN n) := h
theorem Te_drew {w : World} (h : Te w) : Te w.drew := h
/-! ### strings.TrimLeft -/
def asciiB (c : ByteArray) : Bool := c.data.toList.all fun b => decide (b.toNat < 128)
theorem ascii_of {c : ByteArray} (h : asciiB c = true) : ∀ (j : Nat) (b : UInt8), c.data.toList[j]? = some b → b.toNat < 128 := fun j b hb => by
  have := List.all_eq_true.1 h b (List.mem_of_getElem? hb)
  exact of_decide_eq_true this
def trimLeftF (s c : ByteArray) : Option ByteArray := if c.size < 4294967281 then if asciiB c = true then some (ba (Lib.trimLeftS (bl s) (bl c))) else none else none
theorem trimLeft_calls (s c : ByteArray) (r : ByteArray) (w : World) (h : trimLeftF s c = some r) :
    Calls Tryd.prog 101 #[.string s, .string c] w fun e w' => e = .returned (.string r) ∧ Below w.heap.size w w' := by
  unfold trimLeftF at h
  by_cases h1 : c.size < 4294967281
  · by_cases h2 : asciiB c = true
    · rw [if_pos h1, if_pos h2] at h
      obtain rfl := Option.some.inj h
      have hc := Any.strings_TrimLeft_laid Tryd.lays161 (by kernel_rfl) s c w h1 (ascii_of h2)
      exact hc
    · rw [if_pos h1, if_neg h2] at h; cases h
  · rw [if_neg h1] at h; cases h
/-! ### strconv.Atoi -/
theorem atoi_calls (s : ByteArray) (hs : s.size ≤ 281474976710656) (w : World) (hT : Te w) :
    Calls Tryd.prog 136 #[.string s] w fun e w' => (match Lib.atoiAll (bl s) with | .ok v => e = .returned (.tuple #[.int .i64 v, .nilIface]) | _ => ∃ n N, e = .returned (.tuple #[.int .i64 n, .iface 241 (.pointer (some ⟨N, 0, none⟩))])) ∧ Below w.heap.size w w' := by
  cases h : Lib.atoiAll (bl s) with
  | ok v =>
    refine (Tryd.strconv_Atoi_ok s (by omega) v h w).mono ?_
    rintro e w' ⟨rfl, hw⟩
    refine ⟨rfl, ?_⟩
    rcases hw with rfl | ⟨t, rfl⟩
    · exact Below.refl _ _
    · exact bytes_below (Below.refl _ _) (Nat.le_refl _) _ _
  | range =>
    obtain ⟨_, ⟨ev, h1, h2⟩⟩ := hT
    refine (Tryd.strconv_Atoi_range s hs h ev w h1 h2).mono ?_
    rintro e w' ⟨N, rfl, _, _, hb⟩
    exact ⟨⟨_, N, rfl⟩, hb⟩
  | _ =>
    obtain ⟨⟨ev, h1, h2⟩, _⟩ := hT
    refine (Any.strconv_Atoi_syntax Tryd.laysC172 s hs h ev w h1 h2).mono ?_
    rintro e w' ⟨N, rfl, _, _, hb⟩
    exact ⟨⟨_, N, rfl⟩, hb⟩
/-! ### ticket.number -/
def numS (l : List UInt8) (d : Int) : Int × Bool := match Lib.atoiAll l with
  | .ok v => if Lib.itoa v = l then (if ((Lib.trimPrefix l [45]).length : Int) > d then (0, false) else (v, true)) else (0, false)
  | _ => (0, false)
def numberF (s : ByteArray) (d : Int) : Option (Int × Bool) := if s.size ≤ 281474976710656 then some (numS (bl s) d) else none
set_option maxHeartbeats 1000000 in
set_option maxRecDepth 1000000 in
theorem number_calls (a0 : ByteArray) (a1 : Int) (r1 : Int) (r2 : Bool) (w : World) (hT : Tp w) (hE : Te w) (h : numberF a0 a1 = some (r1, r2)) :
    Calls Tryd.prog 91 #[.string a0, .int .i64 a1] w fun e w' => e = .returned (.tuple #[.int .i64 r1, .bool r2]) ∧ Below w.heap.size w w' := by
  unfold numberF at h
  by_cases hs : a0.size ≤ 281474976710656
  · rw [if_pos hs] at h
    have HR := Aside0.mk (Option.some.inj h)
    have HP := Aside0.mk hT
    have HC := Aside0.mk (atoi_calls a0 hs w hE)
    clear h hs hT hE
    unfold numS at HR
    cases ha : Lib.atoiAll (bl a0) with
    | ok v =>
      rw [ha] at HR HC
      have hv := Lib.atoiAll_bounds ha
      have HV := Aside0.mk hv
      clear ha hv
      by_cases hi : Lib.itoa v = bl a0
      · have h1 : Lib.itoa v = a0.toList := hi.trans (toList_bl _).symm
        by_cases hd : ((Lib.trimPrefix (bl a0) [45]).length : Int) > a1
        · have h2 : decide (((Lib.trimPrefix (bl a0) [45]).length : Int) > a1) = true := decide_eq_true hd
          have HRR := HR.out
          simp only [if_pos hi, if_pos hd] at HRR
          obtain ⟨rfl, rfl⟩ := Prod.mk.inj HRR
          clear hi hd HRR HR
          go_enter Tryd.func91, Tryd.ntmps91
          go_wp2_with (first | (go_at_call 136; refine HC.out.mono ?_; rintro e w1 ⟨rfl, b1⟩; have B1 := Aside0.mk b1; clear b1) | (go_at_call 50; refine (Tryd.strconv_Itoa v HV.out.1 HV.out.2 _ (Tp_below HP.out B1.out)).mono ?_; rintro e w2 ⟨rfl, k, os, rfl⟩) | (go_at_call 137; refine (Tryd.strings_TrimPrefix a0 ⟨#[45]⟩ _).mono ?_; rintro e w3 ⟨rfl, rfl⟩))
          go_ret2
          exact ⟨rfl, below_then B1.out B1.out.size (below_grow w1 k os)⟩
        · have h2 : decide (((Lib.trimPrefix (bl a0) [45]).length : Int) > a1) = false := decide_eq_false hd
          have HRR := HR.out
          simp only [if_pos hi, if_neg hd] at HRR
          obtain ⟨rfl, rfl⟩ := Prod.mk.inj HRR
          clear hi hd HRR HR
          go_enter Tryd.func91, Tryd.ntmps91
          go_wp2_with (first | (go_at_call 136; refine HC.out.mono ?_; rintro e w1 ⟨rfl, b1⟩; have B1 := Aside0.mk b1; clear b1) | (go_at_call 50; refine (Tryd.strconv_Itoa v HV.out.1 HV.out.2 _ (Tp_below HP.out B1.out)).mono ?_; rintro e w2 ⟨rfl, k, os, rfl⟩) | (go_at_call 137; refine (Tryd.strings_TrimPrefix a0 ⟨#[45]⟩ _).mono ?_; rintro e w3 ⟨rfl, rfl⟩))
          go_ret2
          exact ⟨rfl, below_then B1.out B1.out.size (below_grow w1 k os)⟩
      · have h1 : ¬ Lib.itoa v = a0.toList := fun q => hi (q.trans (toList_bl _))
        have h1b : (Lib.itoa v == a0.toList) = false := beq_eq_false_iff_ne.2 h1
        have HRR := HR.out
        simp only [if_neg hi] at HRR
        obtain ⟨rfl, rfl⟩ := Prod.mk.inj HRR
        clear hi h1 HRR HR
        go_enter Tryd.func91, Tryd.ntmps91
        go_wp2_with (first | (go_at_call 136; refine HC.out.mono ?_; rintro e w1 ⟨rfl, b1⟩; have B1 := Aside0.mk b1; clear b1) | (go_at_call 50; refine (Tryd.strconv_Itoa v HV.out.1 HV.out.2 _ (Tp_below HP.out B1.out)).mono ?_; rintro e w2 ⟨rfl, k, os, rfl⟩) | (go_at_call 137; refine (Tryd.strings_TrimPrefix a0 ⟨#[45]⟩ _).mono ?_; rintro e w3 ⟨rfl, rfl⟩))
        go_ret2
        exact ⟨rfl, below_then B1.out B1.out.size (below_grow w1 k os)⟩
    | range =>
      rw [ha] at HR HC
      have HRR := HR.out
      obtain ⟨rfl, rfl⟩ := Prod.mk.inj HRR
      clear ha HR HRR
      go_enter Tryd.func91, Tryd.ntmps91
      go_wp2_with (go_at_call 136; refine HC.out.mono ?_; rintro e w1 ⟨⟨n, N, rfl⟩, b1⟩; have B1 := Aside0.mk b1; clear b1)
      go_ret2
      exact ⟨rfl, B1.out⟩
    | _ =>
      rw [ha] at HR HC
      have HRR := HR.out
      obtain ⟨rfl, rfl⟩ := Prod.mk.inj HRR
      clear ha HR HRR
      go_enter Tryd.func91, Tryd.ntmps91
      go_wp2_with (go_at_call 136; refine HC.out.mono ?_; rintro e w1 ⟨⟨n, N, rfl⟩, b1⟩; have B1 := Aside0.mk b1; clear b1)
      go_ret2
      exact ⟨rfl, B1.out⟩
  · rw [if_neg hs] at h; cases h
/-! ### ticket.unquoted -/
def unqL : List UInt8 → List UInt8
  | [] => []
  | [b] => [b]
  | b :: c :: r => if b = 92 then c :: unqL r else b :: unqL (c :: r)
theorem unqL_esc (c : UInt8) (r : List UInt8) : unqL (92 :: c :: r) = c :: unqL r := by simp [unqL]
theorem unqL_one (b : UInt8) : unqL [b] = [b] := by simp [unqL]
theorem unqL_cons (b : UInt8) (r : List UInt8) (h : b ≠ 92) : unqL (b :: r) = b :: unqL r := by
  cases r with
  | nil => simp [unqL]
  | cons c r => simp [unqL, h]
/-- what stands between the place n and the last byte -/
def rem (l : List UInt8) (n : Nat) : List UInt8 := (l.drop n).take (l.length - 1 - n)
theorem rem_end (l : List UInt8) {n : Nat} (h : l.length - 1 ≤ n) : rem l n = [] := by unfold rem; rw [show l.length - 1 - n = 0 by omega]; rfl
theorem rem_cons (l : List UInt8) {n : Nat} {b : UInt8} (h : n + 1 < l.length) (hb : l[n]? = some b) : rem l n = b :: rem l (n + 1) := by
  obtain ⟨hl, he⟩ := List.getElem?_eq_some_iff.1 hb
  unfold rem
  rw [List.drop_eq_getElem_cons hl, he, show l.length - 1 - n = (l.length - 1 - (n + 1)) + 1 by omega, List.take_succ_cons]
def unqS (l : List UInt8) : List UInt8 × Bool := if l.length < 2 then ([], false) else if l[0]? = some 34 ∧ l[l.length - 1]? = some 34 then (unqL (rem l 1), decide (34 :: qAll (unqL (rem l 1)) ++ [34] = l)) else ([], false)
def unquotedF (s : ByteArray) : Option (ByteArray × Bool) := if s.size ≤ 35184372088832 then some (ba (unqS (bl s)).1, (unqS (bl s)).2) else none
set_option maxHeartbeats 1000000 in
set_option maxRecDepth 1000000 in
theorem unquoted_calls (a0 : ByteArray) (r1 : ByteArray) (r2 : Bool) (w : World) (h : unquotedF a0 = some (r1, r2)) :
    Calls Tryd.prog 100 #[.string a0] w fun e w' => e = .returned (.tuple #[.string r1, .bool r2]) ∧ Below w.heap.size w w' := by
  unfold unquotedF at h
  by_cases hy : a0.size ≤ 35184372088832
  · rw [if_pos hy] at h
    obtain ⟨rfl, rfl⟩ := Prod.mk.inj (Option.some.inj h)
    clear h
    have HY := Aside0.mk hy
    have hal := bl_size a0
    have HA := Aside0.mk hal
    by_cases h2 : a0.size < 2
    · have c1 : ((a0.size : Int) < 2) = True := eq_true (by omega)
      have c2 : decide ((a0.size : Int) < 2) = true := decide_eq_true (by omega)
      have HS : Aside0 (unqS (bl a0) = ([], false)) := ⟨by unfold unqS; rw [if_pos (by omega)]⟩
      rw [HS.out]
      clear hy hal h2
      go_enter Tryd.func100, Tryd.ntmps100
      go_wp2
      go_ret2
      exact ⟨rfl, Below.refl _ _⟩
    · have c1 : ((a0.size : Int) < 2) = False := eq_false (by omega)
      have c2 : decide ((a0.size : Int) < 2) = false := decide_eq_false (by omega)
      obtain ⟨j, hj⟩ : ∃ j, j = a0.size - 1 := ⟨_, rfl⟩
      obtain ⟨b0, hb0⟩ : ∃ b : UInt8, (bl a0)[0]? = some b := ⟨_, List.getElem?_eq_getElem (by omega)⟩
      obtain ⟨bz, hbz⟩ : ∃ b : UInt8, (bl a0)[j]? = some b := ⟨_, List.getElem?_eq_getElem (by omega)⟩
      have hl0 : 0 < a0.size := by omega
      have hlj : j < a0.size := by omega
      have at0 : a0[0]'hl0 = b0 := by
        have h2 := (List.getElem?_eq_some_iff.1 hb0).2
        rw [← h2]; simp; rfl
      have atj : a0[j]'hlj = bz := by
        have h2 := (List.getElem?_eq_some_iff.1 hbz).2
        rw [← h2]; simp; rfl
      have hw1 : IntKind.i64.wrap ((a0.size : Int) - 1) = (j : Int) := by
        have : wrap64 ((a0.size : Int) - 1) = (j : Int) := by rw [w64 (by omega) (by omega)]; omega
        exact (i64_w _).trans this
      have p1 : (0 < (a0.size : Int)) = True := eq_true (by omega)
      have p2 : (0 ≤ (j : Int)) = True := eq_true (by omega)
      have p3 : ((j : Int) < (a0.size : Int)) = True := eq_true (by omega)
      have HS : Aside0 (unqS (bl a0) = if b0 = 34 ∧ bz = 34 then (unqL (rem (bl a0) 1), decide (34 :: qAll (unqL (rem (bl a0) 1)) ++ [34] = bl a0)) else ([], false)) := ⟨by
        unfold unqS
        rw [if_neg (by omega), hb0, ← hal, ← hj, hbz]
        simp only [Option.some.injEq]⟩
      rw [HS.out]
      have HJ := Aside0.mk hj
      have H22 := Aside0.mk h2
      have HB0 := Aside0.mk hb0
      have HBZ := Aside0.mk hbz
      clear hy hal h2 hj hb0 hbz
      by_cases e0 : b0 = 34
      · subst e0
        have t0 : ((a0[0]'hl0).toNat : Int) = 34 := by rw [at0]; rfl
        by_cases e1 : bz = 34
        · subst e1
          have t1 : ((a0[j]'hlj).toNat : Int) = 34 := by rw [atj]; rfl
          rw [if_pos ⟨rfl, rfl⟩]
          clear at0 atj
          go_enter Tryd.func100, Tryd.ntmps100
          go_wp2
          go_loopw [5] (fun i wr => ∃ n : Nat, 1 ≤ n ∧ n ≤ j ∧ i = .int .i64 n ∧ ∃ acc : List UInt8, Aside0 (acc.length ≤ n) ∧ Aside0 (acc ++ unqL (rem (bl a0) n) = unqL (rem (bl a0) 1)) ∧ Aside0 (Lib.IsBuilder 94 5 w.heap.size w.heap.size (Lib.byteCells acc) wr) ∧ Aside0 (Below w.heap.size w wr)) (fun i _ => a0.size - (intOf i).toNat)
          case atStart => exact ⟨1, Nat.le_refl _, by have := HJ.out; have := H22.out; omega, rfl, [], ⟨by simp⟩, ⟨by simp⟩, ⟨Lib.fresh_isBuilder 94 5 w⟩, ⟨(Below.refl _ _).alloc (Nat.le_refl _) _⟩⟩
          case round =>
            obtain ⟨n, hn1, hn, rfl, acc, HL, HQ, HI, HW⟩ := hrel
            by_cases hlt : n < j
            · have q0 : (0 ≤ (n : Int)) = True := eq_true (by omega)
              have q1 : ((n : Int) < (j : Int)) = True := eq_true (by omega)
              have q2 : ((n : Int) < (a0.size : Int)) = True := eq_true (by have := HJ.out; omega)
              have hln : n < a0.size := by have := HJ.out; omega
              obtain ⟨b, hb⟩ : ∃ b : UInt8, (bl a0)[n]? = some b := ⟨_, List.getElem?_eq_getElem (by have := HA.out; omega)⟩
              have atn : a0[n]'hln = b := by
                have h2 := (List.getElem?_eq_some_iff.1 hb).2
                rw [← h2]; simp; rfl
              have HR := Aside0.mk (rem_cons (bl a0) (by have := HA.out; have := HJ.out; omega) hb)
              obtain ⟨m, hm⟩ : ∃ m, m = n + 1 := ⟨_, rfl⟩
              have hw2 : IntKind.i64.wrap ((n : Int) + 1) = (m : Int) := by
                have := HY.out
                have := HJ.out
                have : wrap64 ((n : Int) + 1) = (m : Int) := by rw [w64 (by omega) (by omega)]; omega
                exact (i64_w _).trans this
              have HM := Aside0.mk hm
              by_cases hq : b = 92
              · by_cases hmj : m < j
                · have q3 : ((m : Int) < (j : Int)) = True := eq_true (by omega)
                  have q4 : (0 ≤ (m : Int)) = True := eq_true (by omega)
                  have q5 : ((m : Int) < (a0.size : Int)) = True := eq_true (by have := HJ.out; omega)
                  have hlm : m < a0.size := by have := HJ.out; omega
                  obtain ⟨c, hc⟩ : ∃ b : UInt8, (bl a0)[m]? = some b := ⟨_, List.getElem?_eq_getElem (by have := HA.out; omega)⟩
                  have atm : a0[m]'hlm = c := by
                    have h2 := (List.getElem?_eq_some_iff.1 hc).2
                    rw [← h2]; simp; rfl
                  have HR2 := Aside0.mk (rem_cons (bl a0) (by have := HA.out; have := HJ.out; omega) hc)
                  have HU : Aside0 (wrap64 ((m : Int) + 1) = ((m + 1 : Nat) : Int)) := ⟨by have := HY.out; have := HJ.out; rw [w64 (by omega) (by omega)]; omega⟩
                  subst hq
                  have t2 : ((a0[n]'hln).toNat : Int) = 92 := by rw [atn]; rfl
                  clear hb hc atn hm
                  go_wp2_with (go_at_call 111; refine (Tryd.Builder_WriteByte w.heap.size w.heap.size (Lib.byteCells acc) (c.toNat : Int) _ (by exact HI.out) (by rw [Lib.byteCells_length]; have := HL.out; have := HY.out; omega) (by exact HW.out.size)).mono ?_; rintro e w3 ⟨rfl, h1, b1⟩; have HI3 := Aside0.mk (Or.inr h1 : Lib.IsBuilder 94 5 w.heap.size w.heap.size _ w3); have HW3 := Aside0.mk (Below.trans HW.out b1 : Below w.heap.size w w3); clear h1 b1)
                  go_roundw
                  case rel => exact ⟨m + 1, by omega, by omega, by rw [HU.out], acc ++ [c], ⟨by have := HL.out; have := HM.out; rw [List.length_append, List.length_singleton]; omega⟩, ⟨by have := HQ.out; rw [HR.out, ← HM.out, HR2.out, unqL_esc] at this; rw [← this]; simp⟩, ⟨by rw [Lib.byteCells_append]; exact HI3.out⟩, HW3⟩
                  case measure => rw [HU.out]; have := HM.out; simp [intOf]; omega
                · have q3 : ((m : Int) < (j : Int)) = False := eq_false (by omega)
                  have HE := Aside0.mk (rem_end (bl a0) (n := m) (by have := HA.out; have := HJ.out; omega))
                  have HU : Aside0 (wrap64 ((n : Int) + 1) = ((n + 1 : Nat) : Int)) := ⟨by have := HY.out; have := HJ.out; rw [w64 (by omega) (by omega)]; omega⟩
                  subst hq
                  have t2 : ((a0[n]'hln).toNat : Int) = 92 := by rw [atn]; rfl
                  clear hb atn hm
                  go_wp2_with (go_at_call 111; refine (Tryd.Builder_WriteByte w.heap.size w.heap.size (Lib.byteCells acc) 92 _ (by exact HI.out) (by rw [Lib.byteCells_length]; have := HL.out; have := HY.out; omega) (by exact HW.out.size)).mono ?_; rintro e w3 ⟨rfl, h1, b1⟩; have HI3 := Aside0.mk (Or.inr h1 : Lib.IsBuilder 94 5 w.heap.size w.heap.size _ w3); have HW3 := Aside0.mk (Below.trans HW.out b1 : Below w.heap.size w w3); clear h1 b1)
                  go_roundw
                  case rel => exact ⟨m, by have := HM.out; omega, by have := HM.out; omega, rfl, acc ++ [92], ⟨by have := HL.out; have := HM.out; rw [List.length_append, List.length_singleton]; omega⟩, ⟨by have := HQ.out; rw [HR.out, ← HM.out, HE.out, unqL_one] at this; rw [HE.out, ← this]; simp [unqL]⟩, ⟨by rw [Lib.byteCells_append]; exact HI3.out⟩, HW3⟩
                  case measure => have := HM.out; simp [intOf]; omega
              · have t2 : ((b.toNat : Int) == 92) = false := beq_eq_false_iff_ne.2 (fun e => hq (UInt8.toNat_inj.1 (by show b.toNat = 92; omega)))
                have HN := Aside0.mk (unqL_cons b (rem (bl a0) (n + 1)) hq)
                clear hb hq hm
                go_wp2_with (go_at_call 111; refine (Tryd.Builder_WriteByte w.heap.size w.heap.size (Lib.byteCells acc) (b.toNat : Int) _ (by exact HI.out) (by rw [Lib.byteCells_length]; have := HL.out; have := HY.out; omega) (by exact HW.out.size)).mono ?_; rintro e w3 ⟨rfl, h1, b1⟩; have HI3 := Aside0.mk (Or.inr h1 : Lib.IsBuilder 94 5 w.heap.size w.heap.size _ w3); have HW3 := Aside0.mk (Below.trans HW.out b1 : Below w.heap.size w w3); clear h1 b1)
                go_roundw
                case rel => exact ⟨m, by have := HM.out; omega, by have := HM.out; omega, rfl, acc ++ [b], ⟨by have := HL.out; have := HM.out; rw [List.length_append, List.length_singleton]; omega⟩, ⟨by have := HQ.out; rw [HR.out, HN.out, ← HM.out] at this; rw [← this]; simp⟩, ⟨by rw [Lib.byteCells_append]; exact HI3.out⟩, HW3⟩
                case measure => have := HM.out; simp [intOf]; omega
            · obtain rfl : n = j := by omega
              have q1 : ((n : Int) < (n : Int)) = False := eq_false (by omega)
              have HE := Aside0.mk (rem_end (bl a0) (n := n) (by have := HA.out; have := HJ.out; omega))
              have hacc : acc = unqL (rem (bl a0) 1) := by have := HQ.out; rw [HE.out] at this; simpa [unqL] using this
              have HX := Aside0.mk hacc
              have hF : quotedF (ba acc) = some (ba (34 :: qAll acc ++ [34])) := by
                unfold quotedF
                rw [if_pos (by rw [ba_size]; have := HL.out; have := HY.out; have := HJ.out; omega)]
                show some (ba (34 :: qAll (bl (ba acc)) ++ [34])) = _
                rw [bl_ba]
              have HF := Aside0.mk hF
              clear hacc hF
              have HI0 := Aside0.mk (Lib.IsBuilderF.of HI.out)
              clear HI
              go_wp2_with (first | (go_at_call 53; have _t := HW4; refine (quoted_calls ⟨acc.toArray⟩ _ _ HF.out).mono ?_; rintro e w5 ⟨rfl, b5⟩; have HW5 := Aside0.mk (below_then HW4.out HW4.out.size b5); clear b5 _t) | (go_at_call 57; have _t := HI2; refine (Any.Builder_String_any_f Tryd.lays169 Tryd.Builder_Extra_169 w.heap.size w.heap.size acc _ (by exact HI2.out) (by exact HW2.out.size)).mono ?_; rintro e w4 ⟨rfl, _, b1⟩; have HW4 := Aside0.mk (Below.trans HW2.out b1 : Below w.heap.size w w4); clear b1 _t) | (go_at_call 57; refine (Any.Builder_String_any_f Tryd.lays169 Tryd.Builder_Extra_169 w.heap.size w.heap.size acc _ (by exact HI0.out) (by exact HW.out.size)).mono ?_; rintro e w3 ⟨rfl, hi, b1⟩; have HI2 := Aside0.mk hi; have HW2 := Aside0.mk (Below.trans HW.out b1 : Below w.heap.size w w3); clear b1 hi))
              go_ret2
              refine ⟨?_, HW5.out⟩
              rw [← HX.out]
              have hd : ((ba (34 :: (qAll acc ++ [34]))).toList == a0.toList) = decide (34 :: (qAll acc ++ [34]) = bl a0) := by
                rw [toList_bl, toList_bl, bl_ba, Bool.eq_iff_iff, beq_iff_eq, decide_eq_true_iff]
              show Ending.returned (.tuple #[.string ⟨acc.toArray⟩, .bool ((ba (34 :: (qAll acc ++ [34]))).toList == a0.toList)]) = _
              rw [hd]
              rfl
        · have t1 : ((bz.toNat : Int) == 34) = false := beq_eq_false_iff_ne.2 (fun e => e1 (UInt8.toNat_inj.1 (by show bz.toNat = 34; omega)))
          rw [if_neg (fun q => e1 q.2)]
          clear at0 e1
          go_enter Tryd.func100, Tryd.ntmps100
          go_wp2
          go_ret2
          exact ⟨rfl, Below.refl _ _⟩
      · have t1 : ((b0.toNat : Int) == 34) = false := beq_eq_false_iff_ne.2 (fun e => e0 (UInt8.toNat_inj.1 (by show b0.toNat = 34; omega)))
        rw [if_neg (fun q => e0 q.1)]
        clear atj e0
        go_enter Tryd.func100, Tryd.ntmps100
        go_wp2
        go_ret2
        exact ⟨rfl, Below.refl _ _⟩
  · rw [if_neg hy] at h; cases h
end Go.Proofs.YtijajimooldhiaaDoor.ExtV
