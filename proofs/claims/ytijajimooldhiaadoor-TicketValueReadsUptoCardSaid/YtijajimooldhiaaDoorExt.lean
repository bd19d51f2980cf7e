/- strconv.Itoa, strings.Join and ticket.quoted in the form in which the printed functions take them: each call returns what the plain function says, wherever that function answers; of the world they ask the table of powers of ten (Tp). -/
import Derived.Test.YtijajimooldhiaaDoorBShelf
import Derived.Test.YtijajimooldhiaaDoorPl
namespace Go.Proofs.YtijajimooldhiaaDoor.Ext
open Go.RowKit Go.Shelf Go.Proofs.YtijajimooldhiaaDoorW.PrintWords Go.Proofs.YtijajimooldhiaaDoor.Pl
def Tp (w : World) : Prop := Lib.TabIs Tryd.prog w "internal/strconv.uint64pow10" .u64 Lib.pow10Tab
theorem var_below {w w' : World} {n : String} {cs : Array Value} (hb : Below w.heap.size w w') (h : w.var? Tryd.prog n = some cs) : w'.var? Tryd.prog n = some cs := by
  unfold World.var? at h ⊢
  cases hg : Tryd.prog.globalNamed n with
  | none => simp [hg] at h
  | some g =>
    simp only [hg, Option.bind_some] at h ⊢
    have hlt : g < w.heap.size := by
      rcases Nat.lt_or_ge g w.heap.size with h' | h'
      · exact h'
      · simp [Array.getElem?_eq_none h'] at h
    rw [hb.block g hlt]
    exact h
theorem Tp_below {w w' : World} (h : Tp w) (hb : Below w.heap.size w w') : Tp w' := var_below hb h
theorem Tp_drewN {w : World} (h : Tp w) (n : Nat) : Tp (w.drewN n) := h
theorem Tp_drew {w : World} (h : Tp w) : Tp w.drew := h
def itoaF (n : Int) : Option ByteArray := if -9223372036854775808 ≤ n then if n ≤ 9223372036854775807 then some ⟨(Lib.itoa n).toArray⟩ else none else none
theorem below_grow (w : World) (q : Nat) (os : Array Obj) : Below w.heap.size w (Sort.grow (w.drewN q) os) :=
  ⟨rfl, rfl, rfl, by show w.heap.size ≤ (w.heap ++ os).size; simp, fun i hi => by
    show (w.heap ++ os)[i]? = _
    rw [Array.getElem?_append_left hi]⟩
theorem itoa_calls (n : Int) (r : ByteArray) (w : World) (hT : Tp w) (h : itoaF n = some r) :
    Calls Tryd.prog 50 #[.int .i64 n] w fun e w' => e = .returned (.string r) ∧ Below w.heap.size w w' := by
  unfold itoaF at h
  by_cases h0 : -9223372036854775808 ≤ n
  · by_cases h1 : n ≤ 9223372036854775807
    · rw [if_pos h0, if_pos h1] at h
      obtain rfl := Option.some.inj h
      refine (Tryd.strconv_Itoa n h0 h1 w hT).mono ?_
      rintro e w' ⟨rfl, k, os, rfl⟩
      exact ⟨rfl, below_grow w k os⟩
    · rw [if_pos h0, if_neg h1] at h; cases h
  · rw [if_neg h0] at h; cases h
/-! ### ticket.quoted -/
def qB (b : UInt8) : List UInt8 := if b = 34 ∨ b = 92 then [92, b] else [b]
def qAll (l : List UInt8) : List UInt8 := l.flatMap qB
theorem qAll_snoc (l : List UInt8) (k : Nat) (b : UInt8) (h : l[k]? = some b) : qAll (l.take (k + 1)) = qAll (l.take k) ++ qB b := by
  unfold qAll
  rw [List.take_add_one, h, List.flatMap_append]; simp
theorem qAll_len : ∀ l : List UInt8, (qAll l).length ≤ 2 * l.length
  | [] => Nat.le_refl _
  | b :: l => by
    have := qAll_len l
    unfold qAll at this ⊢
    rw [List.flatMap_cons, List.length_append, List.length_cons]
    have : (qB b).length ≤ 2 := by unfold qB; split <;> simp
    omega
def quotedF (s : ByteArray) : Option ByteArray := if s.size ≤ 35184372088832 then some (ba (34 :: qAll (bl s) ++ [34])) else none
set_option maxHeartbeats 1000000 in
set_option maxRecDepth 1000000 in
theorem quoted_calls (a0 r : ByteArray) (w : World) (h : quotedF a0 = some r) :
    Calls Tryd.prog 53 #[.string a0] w fun e w' => e = .returned (.string r) ∧ Below w.heap.size w w' := by
  unfold quotedF at h
  by_cases hy : a0.size ≤ 35184372088832
  · rw [if_pos hy] at h
    obtain rfl := Option.some.inj h
    clear h
    have HY := Aside0.mk hy
    have hal := bl_size a0
    have HL := Aside0.mk hal
    clear hy hal
    go_enter Tryd.func53, Tryd.ntmps53
    go_wp2_with (go_at_call 111; refine (Tryd.Builder_WriteByte w.heap.size w.heap.size (Lib.byteCells []) 34 _ (by exact Lib.fresh_isBuilder 94 5 w) (by rw [Lib.byteCells_length]; simp) (by exact ((Below.refl _ _).alloc (Nat.le_refl _) _ : Below w.heap.size w _).size)).mono ?_; rintro e w1 ⟨rfl, h1, b1⟩; have HI := Aside0.mk (Or.inr h1 : Lib.IsBuilder 94 5 w.heap.size w.heap.size _ w1); have HW := Aside0.mk (Below.trans ((Below.refl _ _).alloc (Nat.le_refl _) _) b1 : Below w.heap.size w w1); clear h1 b1)
    go_loopw [8] (fun i wr => ∃ n : Nat, n ≤ a0.size ∧ i = .int .i64 n ∧ Aside0 (Lib.IsBuilder 94 5 w.heap.size w.heap.size (Lib.byteCells (34 :: qAll ((bl a0).take n))) wr) ∧ Aside0 (Below w.heap.size w wr)) (fun i _ => a0.size - (intOf i).toNat)
    case atStart => exact ⟨0, Nat.zero_le _, rfl, ⟨HI.out⟩, HW⟩
    case round =>
      clear HI HW
      obtain ⟨n, hn, rfl, HI, HW⟩ := hrel
      have hlen := qAll_len ((bl a0).take n)
      rw [List.length_take] at hlen
      have HQ := Aside0.mk hlen
      clear hlen
      by_cases hlt : n < a0.size
      · obtain ⟨b, hbe⟩ : ∃ b : UInt8, (bl a0)[n]? = some b := ⟨_, List.getElem?_eq_getElem (by have := HL.out; omega)⟩
        have hbt := bt_nat hbe
        have hat : a0[n]'hlt = b := by
          have h2 := (List.getElem?_eq_some_iff.1 hbe).2
          rw [← h2]; simp; rfl
        have HS := Aside0.mk (qAll_snoc (bl a0) n b hbe)
        have HBE := Aside0.mk hbe
        have p1 : (0 ≤ (n : Int)) = True := eq_true (by omega)
        have q1 : ((n : Int) < (a0.size : Int)) = True := eq_true (by omega)
        have HU : Aside0 (wrap64 ((n : Int) + 1) = ((n + 1 : Nat) : Int)) := ⟨by have := HY.out; rw [w64 (by omega) (by omega)]; omega⟩
        clear hbe hbt
        by_cases hq : b = 34 ∨ b = 92
        · rcases hq with hq | hq
          · subst hq
            have hx2 : ((a0[n]'hlt).toNat : Int) = 34 := by rw [hat]; rfl
            clear hat
            have HB2 := Aside0.mk (show qB 34 = [92] ++ [34] from rfl)
            have tok1 : True := trivial
            go_wp2_with (first | (go_at_call 111; have _t := tok1; refine (Tryd.Builder_WriteByte w.heap.size w.heap.size (Lib.byteCells (34 :: qAll ((bl a0).take n))) 92 _ (by exact HI.out) (by rw [Lib.byteCells_length]; have := HQ.out; have := HY.out; simp only [List.length_cons]; omega) (by exact HW.out.size)).mono ?_; rintro e w2 ⟨rfl, h1, b1⟩; clear tok1 _t; have HI2 := Aside0.mk (Or.inr h1 : Lib.IsBuilder 94 5 w.heap.size w.heap.size _ w2); have HW2 := Aside0.mk (Below.trans HW.out b1 : Below w.heap.size w w2); clear h1 b1) | (go_at_call 111; have _t := HI2; refine (Tryd.Builder_WriteByte w.heap.size w.heap.size (Lib.byteCells (34 :: qAll ((bl a0).take n) ++ [92])) 34 _ (by rw [Lib.byteCells_append]; exact HI2.out) (by rw [Lib.byteCells_length]; have := HQ.out; have := HY.out; simp only [List.length_cons, List.length_append, List.length_nil]; omega) (by exact HW2.out.size)).mono ?_; rintro e w3 ⟨rfl, h1, b1⟩; have HI3 := Aside0.mk (Or.inr h1 : Lib.IsBuilder 94 5 w.heap.size w.heap.size _ w3); have HW3 := Aside0.mk (Below.trans HW2.out b1 : Below w.heap.size w w3); clear h1 b1))
            go_roundw
            case rel => exact ⟨n + 1, by omega, by rw [HU.out], ⟨by rw [HS.out, HB2.out, ← List.append_assoc, ← List.cons_append, ← List.cons_append, Lib.byteCells_append]; exact HI3.out⟩, HW3⟩
            case measure => rw [HU.out]; simp [intOf]; omega
          · subst hq
            have hx2 : ((a0[n]'hlt).toNat : Int) = 92 := by rw [hat]; rfl
            clear hat
            have HB2 := Aside0.mk (show qB 92 = [92] ++ [92] from rfl)
            have tok1 : True := trivial
            go_wp2_with (first | (go_at_call 111; have _t := tok1; refine (Tryd.Builder_WriteByte w.heap.size w.heap.size (Lib.byteCells (34 :: qAll ((bl a0).take n))) 92 _ (by exact HI.out) (by rw [Lib.byteCells_length]; have := HQ.out; have := HY.out; simp only [List.length_cons]; omega) (by exact HW.out.size)).mono ?_; rintro e w2 ⟨rfl, h1, b1⟩; clear tok1 _t; have HI2 := Aside0.mk (Or.inr h1 : Lib.IsBuilder 94 5 w.heap.size w.heap.size _ w2); have HW2 := Aside0.mk (Below.trans HW.out b1 : Below w.heap.size w w2); clear h1 b1) | (go_at_call 111; have _t := HI2; refine (Tryd.Builder_WriteByte w.heap.size w.heap.size (Lib.byteCells (34 :: qAll ((bl a0).take n) ++ [92])) 92 _ (by rw [Lib.byteCells_append]; exact HI2.out) (by rw [Lib.byteCells_length]; have := HQ.out; have := HY.out; simp only [List.length_cons, List.length_append, List.length_nil]; omega) (by exact HW2.out.size)).mono ?_; rintro e w3 ⟨rfl, h1, b1⟩; have HI3 := Aside0.mk (Or.inr h1 : Lib.IsBuilder 94 5 w.heap.size w.heap.size _ w3); have HW3 := Aside0.mk (Below.trans HW2.out b1 : Below w.heap.size w w3); clear h1 b1))
            go_roundw
            case rel => exact ⟨n + 1, by omega, by rw [HU.out], ⟨by rw [HS.out, HB2.out, ← List.append_assoc, ← List.cons_append, ← List.cons_append, Lib.byteCells_append]; exact HI3.out⟩, HW3⟩
            case measure => rw [HU.out]; simp [intOf]; omega
        · have HB2 := Aside0.mk (show qB b = [b] by unfold qB; rw [if_neg hq])
          have t1 : ((b.toNat : Int) == 34) = false := beq_eq_false_iff_ne.2 (fun e => hq (.inl (UInt8.toNat_inj.1 (by show b.toNat = 34; omega))))
          have t2 : ((b.toNat : Int) == 92) = false := beq_eq_false_iff_ne.2 (fun e => hq (.inr (UInt8.toNat_inj.1 (by show b.toNat = 92; omega))))
          clear hq
          go_wp2_with (go_at_call 111; refine (Tryd.Builder_WriteByte w.heap.size w.heap.size (Lib.byteCells (34 :: qAll ((bl a0).take n))) (b.toNat : Int) _ (by exact HI.out) (by rw [Lib.byteCells_length]; have := HQ.out; have := HY.out; simp only [List.length_cons]; omega) (by exact HW.out.size)).mono ?_; rintro e w3 ⟨rfl, h1, b1⟩; have HI3 := Aside0.mk (Or.inr h1 : Lib.IsBuilder 94 5 w.heap.size w.heap.size _ w3); have HW3 := Aside0.mk (Below.trans HW.out b1 : Below w.heap.size w w3); clear h1 b1)
          go_roundw
          case rel => exact ⟨n + 1, by omega, by rw [HU.out], ⟨by rw [HS.out, HB2.out, ← List.cons_append, Lib.byteCells_append]; exact HI3.out⟩, HW3⟩
          case measure => rw [HU.out]; simp [intOf]; omega
      · obtain rfl : n = a0.size := by omega
        have c9 : (((a0.size : Nat) : Int) < (a0.size : Int)) = False := eq_false (by omega)
        have HT := Aside0.mk (show (bl a0).take a0.size = bl a0 from List.take_of_length_le (by rw [HL.out]; exact Nat.le_refl _))
        go_wp2_with (first | (go_at_call 111; refine (Tryd.Builder_WriteByte w.heap.size w.heap.size (Lib.byteCells (34 :: qAll ((bl a0).take a0.size))) 34 _ (by exact HI.out) (by rw [Lib.byteCells_length]; have := HQ.out; have := HY.out; simp only [List.length_cons]; omega) (by exact HW.out.size)).mono ?_; rintro e w2 ⟨rfl, h1, b1⟩; have HI2 := Aside0.mk (Or.inr h1 : Lib.IsBuilder 94 5 w.heap.size w.heap.size _ w2); have HW2 := Aside0.mk (Below.trans HW.out b1 : Below w.heap.size w w2); clear h1 b1) | (go_at_call 57; refine (Tryd.Builder_String_any w.heap.size w.heap.size (34 :: qAll ((bl a0).take a0.size) ++ [34]) _ (by rw [Lib.byteCells_append]; exact HI2.out) (by exact HW2.out.size)).mono ?_; rintro e W1 ⟨rfl, b1⟩))
        go_ret
        exact ⟨by rw [HT.out]; rfl, Below.trans HW2.out b1⟩
  · rw [if_neg hy] at h; cases h
end Go.Proofs.YtijajimooldhiaaDoor.Ext
