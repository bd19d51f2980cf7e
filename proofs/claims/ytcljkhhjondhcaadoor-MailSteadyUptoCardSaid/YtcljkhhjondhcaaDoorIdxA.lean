/- strings.IndexRune and strings.IndexAny walked where the kit's contracts end: an ASCII string has no rune from 128 on, and IndexAny at ASCII chars finds the first byte among them, in whatever string. -/
import Derived.Test.YtcljkhhjondhcaaDoorBShelf
import Derived.Test.YtcljkhhjondhcaaDoorExt
import Derived.Laws.RangeAny
import Derived.Laws.Runes
import Derived.Deep.QuietTactic
import Derived.BigQuiet
import Derived.Outline
import Derived.IntWalk
namespace Go.Proofs.YtcljkhhjondhcaaDoor.Ext
open Go.RowKit Go.Shelf Go.Proofs.YtcljkhhjondhcaaDoorW.PrintWords
def Asc (t : ByteArray) : Prop := ∀ (j : Nat) b, t.data.toList[j]? = some b → b.toNat < 128
/-- what a rune from 128 on takes of a string: bytes from 128 on -/
theorem decode_tail (s : ByteArray) (pos : Nat) (h : pos < s.size) (ha : 128 ≤ (s[pos]'h).toNat) : pos + (Utf8.decode s pos).2 ≤ s.size ∧ ∀ (j : Nat) b, pos ≤ j → j < pos + (Utf8.decode s pos).2 → s.data.toList[j]? = some b → 128 ≤ b.toNat := by
  have hat : ∀ (j : Nat) (hj : j < s.size), (s.get! j).toNat = (s[j]'hj).toNat := fun j hj => by
    have := get_at s j hj
    rw [Nat.add_zero] at this
    rw [this]
  have hone : ∀ (j : Nat) b, pos ≤ j → j < pos + 1 → s.data.toList[j]? = some b → 128 ≤ b.toNat := fun j b h1 h2 hb => by
    obtain rfl : j = pos := by omega
    have := Lib.data_getElem? s j h
    rw [this] at hb
    injection hb with hb
    rw [← hb]; exact ha
  have hcont : ∀ k, (pos + k < s.size && (s.get! (pos + k)).toNat / 64 == 2) = true → pos + k < s.size ∧ ∀ b, s.data.toList[pos + k]? = some b → 128 ≤ b.toNat := fun k hk => by
    simp only [Bool.and_eq_true, decide_eq_true_eq, beq_iff_eq] at hk
    obtain ⟨h1, h2⟩ := hk
    refine ⟨h1, fun b hb => ?_⟩
    rw [Lib.data_getElem? s (pos + k) h1] at hb
    injection hb with hb
    rw [hat _ h1] at h2
    rw [← hb]; omega
  have hn : ¬ (s[pos]'h).toNat < 128 := by omega
  simp only [Utf8.decode, get_at s pos h, hn, if_false]
  split
  · rename_i hc
    simp only [Bool.and_eq_true] at hc
    obtain ⟨h1, h1b⟩ := hcont 1 (by simpa using hc.2)
    split
    · refine ⟨by dsimp only; omega, fun j b hj1 hj2 hb => ?_⟩
      dsimp only at hj2
      rcases Nat.lt_or_ge j (pos + 1) with hlt | hge
      · exact hone j b hj1 hlt hb
      · obtain rfl : j = pos + 1 := by omega
        exact h1b b hb
    · exact ⟨by dsimp only; omega, hone⟩
  · split
    · rename_i hc
      simp only [Bool.and_eq_true] at hc
      obtain ⟨h1, h1b⟩ := hcont 1 (by simpa using hc.1.2)
      obtain ⟨h2, h2b⟩ := hcont 2 (by simpa using hc.2)
      split
      · refine ⟨by dsimp only; omega, fun j b hj1 hj2 hb => ?_⟩
        dsimp only at hj2
        rcases Nat.lt_or_ge j (pos + 1) with hlt | hge
        · exact hone j b hj1 hlt hb
        · rcases Nat.lt_or_ge j (pos + 2) with hlt | hge2
          · obtain rfl : j = pos + 1 := by omega
            exact h1b b hb
          · obtain rfl : j = pos + 2 := by omega
            exact h2b b hb
      · exact ⟨by dsimp only; omega, hone⟩
    · split
      · rename_i hc
        simp only [Bool.and_eq_true] at hc
        obtain ⟨h1, h1b⟩ := hcont 1 (by simpa using hc.1.1.2)
        obtain ⟨h2, h2b⟩ := hcont 2 (by simpa using hc.1.2)
        obtain ⟨h3, h3b⟩ := hcont 3 (by simpa using hc.2)
        split
        · refine ⟨by dsimp only; omega, fun j b hj1 hj2 hb => ?_⟩
          dsimp only at hj2
          rcases Nat.lt_or_ge j (pos + 1) with hlt | hge
          · exact hone j b hj1 hlt hb
          · rcases Nat.lt_or_ge j (pos + 2) with hlt | hge2
            · obtain rfl : j = pos + 1 := by omega
              exact h1b b hb
            · rcases Nat.lt_or_ge j (pos + 3) with hlt | hge3
              · obtain rfl : j = pos + 2 := by omega
                exact h2b b hb
              · obtain rfl : j = pos + 3 := by omega
                exact h3b b hb
        · exact ⟨by dsimp only; omega, hone⟩
      · exact ⟨by dsimp only; omega, hone⟩
theorem quiet_add_same {P : Program} {f : FuncId} {args : Array Value} {w : World} {a n : Nat} {v : Value}
    (h : Calls P f args (w.drewN (a + n)) fun e w' => e = .returned v ∧ w' = w.drewN (a + n)) :
    Calls P f args (w.drewN (a + n)) fun e w'' => e = .returned v ∧ ∃ m, w'' = w.drewN (a + m) :=
  h.mono fun _ _ ⟨he, hm⟩ => ⟨he, n, hm⟩
theorem indexByte_asc (l : List UInt8) (c : UInt8) (hl : ∀ b ∈ l, b.toNat < 128) (hc : 128 ≤ c.toNat) : Lib.indexByte l c = -1 := by
  have h1 := Lib.contains_iff_indexByte l c
  have h2 : l.contains c = false := by
    rw [List.contains_eq_mem, decide_eq_false]
    intro h
    have := hl c h
    omega
  rw [h2] at h1
  have h3 : ¬ (0 : Int) ≤ Lib.indexByte l c := of_decide_eq_false h1.symm
  have h4 := Lib.indexByte_ge l c
  omega
set_option maxHeartbeats 4000000 in
set_option maxRecDepth 1000000 in
/-- IndexRune of U+FFFD in an ASCII string -/
theorem indexRune_bad (t : ByteArray) (w : World) (ht : Asc t) : Calls Tryd.prog 137 #[.string t, .int .i32 65533] w fun e w' => e = .returned (.int .i64 (-1)) ∧ Below w.heap.size w w' := by
  have HA := Aside0.mk ht
  clear ht
  go_enter Tryd.func137, Tryd.ntmps137
  go_wp2
  go_loopg [5, 6] t.size (fun g _ _ wx => ∃ i : Nat, i + g = t.size ∧ wx = w.iter t i)
  case atStart => exact ⟨0, by omega, rfl⟩
  case round =>
    obtain ⟨i, hig, rfl⟩ := hrel
    cases gk with
    | zero =>
      obtain rfl : i = t.size := by omega
      have hnx := run_next_end (P := Tryd.prog) w t t.size
      go_wp2
      go_ret
      exact ⟨rfl, (Below.refl _ _).alloc (Nat.le_refl _) _⟩
    | succ g =>
      have hi : i < t.size := by omega
      obtain ⟨x, hx⟩ : ∃ x : UInt8, t[i]'hi = x := ⟨_, rfl⟩
      have hxl : t.data.toList[i]? = some x := by rw [← hx]; exact Lib.data_getElem? t i hi
      have hx128 : x.toNat < 128 := HA.out i x hxl
      have hnx := fun ty => run_next_ascii (P := Tryd.prog) w t i ty hi (by rw [hx]; exact hx128)
      rw [hx] at hnx
      clear hxl hx
      have hne : ((x.toNat : Int) == 65533) = false := beq_eq_false_iff_ne.2 (by omega)
      go_wp2
      go_roundg g
      case measure => omega
      case rel => exact ⟨i + 1, by omega, rfl⟩
set_option maxHeartbeats 4000000 in
set_option maxRecDepth 1000000 in
/-- IndexRune of a rune from 128 on that is no code point -/
theorem indexRune_none (t : ByteArray) (r : Int) (w : World) (h0 : 128 ≤ r) (h1 : r ≤ 2147483647) (hn : ¬ r = 65533) (hv : Lib.validRune r = false) : Calls Tryd.prog 137 #[.string t, .int .i32 r] w fun e w' => e = .returned (.int .i64 (-1)) ∧ Below w.heap.size w w' := by
  have n1 : decide ((0 : Int) ≤ r) = true := decide_eq_true (by omega)
  have n2 : decide (r < 128) = false := decide_eq_false (by omega)
  have n3 : (r == 65533) = false := beq_eq_false_iff_ne.2 hn
  clear hn
  go_enter Tryd.func137, Tryd.ntmps137
  go_wp2_with (go_at_call 153; refine (Any.utf8_ValidRune (ρ := Tryd.lays153_ren) { Tryd.lays153 with } r _).mono ?_; rintro e w' ⟨rfl, hw⟩; rw [hw, hv])
  go_ret
  exact ⟨rfl, Below.refl _ _⟩
set_option maxHeartbeats 8000000 in
set_option maxRecDepth 1000000 in
/-- IndexRune of a rune from 128 on in an ASCII string -/
theorem indexRune_high (t : ByteArray) (r : Int) (w : World) (h0 : 128 ≤ r) (h1 : r ≤ 2147483647) (hn : ¬ r = 65533) (hv : Lib.validRune r = true) (ht : Asc t) (hs : t.size ≤ 9223372036854775807) : Calls Tryd.prog 137 #[.string t, .int .i32 r] w fun e w' => e = .returned (.int .i64 (-1)) ∧ Below w.heap.size w w' := by
  have n1 : decide ((0 : Int) ≤ r) = true := decide_eq_true (by omega)
  have n2 : decide (r < 128) = false := decide_eq_false (by omega)
  have n3 : (r == 65533) = false := beq_eq_false_iff_ne.2 hn
  clear hn
  obtain ⟨hs2, hs4, hlast⟩ := encode_facts r ((validRune_eq r).trans hv) h0
  have hconv : ∀ w, (convert 21 9 (.int .i32 r)).run Tryd.prog w = .ok (.string (Utf8.encode r)) w := fun w => run_convert_int_string w 21 9 .i32 r (by rw [Tryd.underlying21]; rfl) Tryd.underlying9
  obtain ⟨E, hE⟩ : ∃ E, Utf8.encode r = E := ⟨_, rfl⟩
  rw [hE] at hs2 hs4 hlast hconv
  clear hE
  obtain ⟨k, hk⟩ : ∃ k, E.size = k + 1 := ⟨E.size - 1, by omega⟩
  have HA := Aside0.mk ht
  clear ht
  have hEk : k < E.size := by omega
  have hlk : 128 ≤ (E[k]'hEk).toNat := by
    have h9 : E.size - 1 = k := by omega
    have := hlast (by omega)
    simpa only [h9] using this
  clear hlast
  obtain ⟨y, hy⟩ : ∃ y : UInt8, E[k]'hEk = y := ⟨_, rfl⟩
  rw [hy] at hlk
  go_enter Tryd.func137, Tryd.ntmps137
  go_wp2_with (go_at_call 153; refine (Any.utf8_ValidRune (ρ := Tryd.lays153_ren) { Tryd.lays153 with } r _).mono ?_; rintro e w' ⟨rfl, hw⟩; rw [hw, hv])
  go_step3
  go_wp2
  have HK := Aside0.mk hk
  clear hk
  go_loop [9] (fun i => i = .int .i64 k) (fun _ => 0)
  case atStart => rfl
  case round =>
    obtain rfl := hrel
    by_cases hlt : k < t.size
    · obtain ⟨x, hx⟩ : ∃ x : UInt8, t[k]'hlt = x := ⟨_, rfl⟩
      have hxl : t.data.toList[k]? = some x := by rw [← hx]; exact Lib.data_getElem? t k hlt
      have hx128 : x.toNat < 128 := HA.out k x hxl
      clear hxl
      have hne : ((x.toNat : Int) != (y.toNat : Int)) = true := bne_iff_ne.2 (by omega)
      have p0 : (0 : Int) ≤ (k : Int) := by omega
      have p1 : (k : Int) < (t.size : Int) := by omega
      have p2 : (k : Int) < (E.size : Int) := by omega
      go_wp2
      go_step3
      go_wp2
      go_quiet (fail)
      go_wp2
      have hib : ∀ w, Calls Tryd.prog 78 #[.string (t.extract (k + 1) t.size), .int .u8 (y.toNat : Int)] w fun e w' => e = .returned (.int .i64 (-1)) ∧ w' = w := fun w => by
        refine (Tryd.strings_IndexByte (t.extract (k + 1) t.size) (y.toNat : Int) w).mono ?_
        rintro e w' ⟨rfl, hw⟩
        have hb : ((y.toNat : Int)).toNat.toUInt8 = y := by simp
        rw [hb, indexByte_asc _ y (fun b hb' => ?_) hlk]
        · exact ⟨rfl, hw⟩
        · obtain ⟨j, hj⟩ := List.mem_iff_getElem?.1 (mem_extract hb')
          exact HA.out j b hj
      have HIB := Aside0.mk hib
      clear hib
      have q1 : IntKind.i64.wrap ((k : Int) + 1) = (k : Int) + 1 := IntWalk.i64_in _ ⟨by omega, by omega⟩
      have q2 : (0 : Int) ≤ (k : Int) + 1 := by omega
      have q3 : (k : Int) + 1 ≤ (t.size : Int) := by omega
      have q4 : ((k : Int) + 1).toNat = k + 1 := by omega
      go_quiet ((go_at_call 78; exact quiet_add_same (HIB.out _)))
      clear q1 q2 q3 q4
      go_wp2
      (try rw [Exit.noGoto_ret])
      change Exit.noGoto _ Exit.ret _ _
      rw [Exit.noGoto_ret]
      iterate 6 (first | (change bodyPost _ _ _ _ _ _) | (dsimp only [Exit.then, Exit.inBlock]; first | rw [Exit.noGoto_ret] | skip) | (change Exit.noGoto _ Exit.ret _ _; rw [Exit.noGoto_ret]))
      go_ret
      exact ⟨rfl, by repeat (first | exact Below.refl _ _ | apply pw_below_drewN)⟩
    · go_wp2
      go_ret
      exact ⟨rfl, Below.refl _ _⟩
theorem indexRune_up (t : ByteArray) (r : Int) (w : World) (h0 : 128 ≤ r) (h1 : r ≤ 2147483647) (ht : Asc t) (hs : t.size ≤ 9223372036854775807) : Calls Tryd.prog 137 #[.string t, .int .i32 r] w fun e w' => e = .returned (.int .i64 (-1)) ∧ Below w.heap.size w w' := by
  by_cases hn : r = 65533
  · subst hn; exact indexRune_bad t w ht
  · cases hv : Lib.validRune r with
    | false => exact indexRune_none t r w h0 h1 hn hv
    | true => exact indexRune_high t r w h0 h1 hn hv ht hs
/-! ### the iterator over a string, in whatever world it lies -/
theorem run_next_in {P : Program} (W : World) (b : Nat) (s : ByteArray) (pos : Nat) (ty : TypeId) (hW : W.heap[b]? = some (.stringIter s pos)) (h : pos < s.size) :
    (Instr.next (.pointer (some ⟨b, 0, none⟩)) true ty).run P W = .ok (.tuple #[.bool true, .int .i64 pos, .int .i32 (Utf8.decode s pos).1]) { W with heap := W.heap.setIfInBounds b (.stringIter s (pos + (Utf8.decode s pos).2)) } := by
  simp only [Instr.next, getObj, setObj, Sem.run_bind, Sem.run, hW, Result.andThen, h, if_true]
  simp [goInt]
theorem run_next_out {P : Program} (W : World) (b : Nat) (s : ByteArray) (pos : Nat) (ty : TypeId) (hW : W.heap[b]? = some (.stringIter s pos)) (h : ¬ pos < s.size) :
    (Instr.next (.pointer (some ⟨b, 0, none⟩)) true ty).run P W = .ok (.tuple #[.bool false]) W := by
  simp [Instr.next, getObj, Sem.run, hW, h]
theorem iter_set {w W : World} (b : Nat) (o : Obj) (hb : w.heap.size ≤ b) (h : Below w.heap.size w W) : Below w.heap.size w { W with heap := W.heap.setIfInBounds b o } :=
  ⟨h.os, h.tape, h.output, by show w.heap.size ≤ (W.heap.setIfInBounds b o).size; rw [Array.size_setIfInBounds]; exact h.size, fun i hi => by
    show (W.heap.setIfInBounds b o)[i]? = _
    rw [Array.getElem?_setIfInBounds_ne (by omega)]
    exact h.block i hi⟩
theorem noAny_by {s chars : List UInt8} {i n : Nat} (h : Lib.NoAny s chars i) (hn : ∀ (j : Nat) b, i ≤ j → j < i + n → s[j]? = some b → chars.contains b = false) : Lib.NoAny s chars (i + n) := fun j b hj hb => by
  rcases Nat.lt_or_ge j i with hlt | hge
  · exact h j b hlt hb
  · exact hn j b hge hj hb
set_option maxHeartbeats 8000000 in
set_option maxRecDepth 1000000 in
theorem indexAny_short_any (s chars : ByteArray) (w : World) (h2 : 2 ≤ chars.size) (h8 : s.size ≤ 8) (hc : Asc chars) (hcs : chars.size ≤ 9223372036854775807) :
    Calls Tryd.prog 113 #[.string s, .string chars] w fun e w' => e = .returned (.int .i64 (Lib.indexAny s.data.toList chars.data.toList)) ∧ Below w.heap.size w w' := by
  have HC := Aside0.mk hc
  clear hc
  have hemp : chars.toList.isEmpty = false := by
    rw [Lib.toList_data]
    cases h : chars.data.toList with
    | nil => have := Lib.size_eq chars; rw [h, List.length_nil] at this; omega
    | cons _ _ => rfl
  have hn1 : ((chars.size : Int) == 1) = false := beq_eq_false_iff_ne.2 (by omega)
  have h8z : decide ((8 : Int) < (s.size : Int)) = false := decide_eq_false (by omega)
  go_enter Tryd.func113, Tryd.ntmps113
  go_wp2_with (go_at_call 138; refine (Any.strings_shouldUseASCIISet (ρ := Tryd.lays153_ren) { Tryd.lays153 with } _ _).mono ?_; rintro e w' ⟨rfl, hw⟩; rw [hw, h8z])
  go_loopg [9, 10] s.size (fun g _ _ wx => ∃ i : Nat, i ≤ s.size ∧ s.size - i ≤ g ∧ Aside0 (wx.heap[w.heap.size]? = some (.stringIter s i)) ∧ Aside0 (Below w.heap.size w wx) ∧ Aside0 (Lib.NoAny s.data.toList chars.data.toList i))
  case atStart => exact ⟨0, Nat.zero_le _, by omega, ⟨World.iter_heap w s 0⟩, ⟨(Below.refl _ _).alloc (Nat.le_refl _) _⟩, ⟨Lib.NoAny.zero _ _⟩⟩
  case round =>
    obtain ⟨i, hi, hg, HI, HB, HN⟩ := hrel
    by_cases hlt : i < s.size
    · cases gk with
      | zero => exfalso; omega
      | succ g =>
        obtain ⟨x, hx⟩ : ∃ x : UInt8, s[i]'hlt = x := ⟨_, rfl⟩
        have hxl : s.data.toList[i]? = some x := by rw [← hx]; exact Lib.data_getElem? s i hlt
        by_cases hx128 : x.toNat < 128
        · have hdec := decode_ascii s i hlt (by rw [hx]; exact hx128)
          rw [hx] at hdec
          have hnx0 := fun ty => run_next_in (P := Tryd.prog) wr w.heap.size s i ty HI.out hlt
          rw [hdec] at hnx0
          have hin2 := iter_set (W := wr) w.heap.size (.stringIter s (i + 1)) (Nat.le_refl _) HB.out
          have hat2 : ({ wr with heap := wr.heap.setIfInBounds w.heap.size (.stringIter s (i + 1)) } : World).heap[w.heap.size]? = some (.stringIter s (i + 1)) := by
            have hlt2 := (Array.getElem?_eq_some_iff.1 HI.out).1
            show (wr.heap.setIfInBounds w.heap.size (.stringIter s (i + 1)))[w.heap.size]? = _
            rw [Array.getElem?_setIfInBounds_self_of_lt hlt2]
          obtain ⟨w2, hw2⟩ : ∃ w2 : World, { wr with heap := wr.heap.setIfInBounds w.heap.size (.stringIter s (i + 1)) } = w2 := ⟨_, rfl⟩
          rw [hw2] at hin2 hat2
          have hnx : ∀ ty, (Instr.next (.pointer (some ⟨w.heap.size, 0, none⟩)) true ty).run Tryd.prog wr = .ok (.tuple #[.bool true, .int .i64 i, .int .i32 (x.toNat : Int)]) w2 := fun ty => (hnx0 ty).trans (by rw [hw2])
          clear hnx0 hw2 hdec hx
          have H2 := Aside0.mk hin2
          have A2 := Aside0.mk hat2
          have HX := Aside0.mk hxl
          clear hin2 hat2 hxl
          have hcon := Lib.contains_iff_indexByte chars.data.toList x
          have hback : ((x.toNat : Int)).toNat.toUInt8 = x := by simp
          cases hin : chars.data.toList.contains x
          · rw [hin] at hcon
            have hlt' : ¬ ((0 : Int) ≤ Lib.indexByte chars.data.toList x) := of_decide_eq_false hcon.symm
            clear hcon
            go_wp2_with (go_at_call 137; refine (Any.strings_IndexRune_ascii (ρ := Tryd.lays153_ren) { Tryd.lays153 with } _ _ _ (by omega) (by omega)).mono ?_; rintro e w' ⟨rfl, hw⟩; rw [hw, hback])
            go_roundg g
            case measure => omega
            case rel => exact ⟨i + 1, by omega, by omega, A2, H2, ⟨HN.out.succ HX.out hin⟩⟩
          · rw [hin] at hcon
            have hge : (0 : Int) ≤ Lib.indexByte chars.data.toList x := of_decide_eq_true hcon.symm
            clear hcon
            go_wp2_with (go_at_call 137; refine (Any.strings_IndexRune_ascii (ρ := Tryd.lays153_ren) { Tryd.lays153 with } _ _ _ (by omega) (by omega)).mono ?_; rintro e w' ⟨rfl, hw⟩; rw [hw, hback])
            go_ret
            exact ⟨by rw [Lib.indexAny_hit HN.out HX.out hin]; rfl, H2.out⟩
        · have hhi := decode_high s i hlt (by rw [hx]; omega)
          have hle := decode_le s i
          have htl := decode_tail s i hlt (by rw [hx]; omega)
          have hnx0 := fun ty => run_next_in (P := Tryd.prog) wr w.heap.size s i ty HI.out hlt
          obtain ⟨c, hc⟩ : ∃ c, (Utf8.decode s i).1 = c := ⟨_, rfl⟩
          obtain ⟨n, hn⟩ : ∃ n, (Utf8.decode s i).2 = n := ⟨_, rfl⟩
          rw [hc, hn] at hnx0 hhi
          rw [hc] at hle
          rw [hn] at htl
          have hin2 := iter_set (W := wr) w.heap.size (.stringIter s (i + n)) (Nat.le_refl _) HB.out
          have hat2 : ({ wr with heap := wr.heap.setIfInBounds w.heap.size (.stringIter s (i + n)) } : World).heap[w.heap.size]? = some (.stringIter s (i + n)) := by
            have hlt2 := (Array.getElem?_eq_some_iff.1 HI.out).1
            show (wr.heap.setIfInBounds w.heap.size (.stringIter s (i + n)))[w.heap.size]? = _
            rw [Array.getElem?_setIfInBounds_self_of_lt hlt2]
          obtain ⟨w2, hw2⟩ : ∃ w2 : World, { wr with heap := wr.heap.setIfInBounds w.heap.size (.stringIter s (i + n)) } = w2 := ⟨_, rfl⟩
          rw [hw2] at hin2 hat2
          have hnx : ∀ ty, (Instr.next (.pointer (some ⟨w.heap.size, 0, none⟩)) true ty).run Tryd.prog wr = .ok (.tuple #[.bool true, .int .i64 i, .int .i32 (c : Int)]) w2 := fun ty => (hnx0 ty).trans (by rw [hw2])
          have hno : Lib.NoAny s.data.toList chars.data.toList (i + n) := noAny_by HN.out (fun j b h1 h2 hb => by
            have h3 := htl.2 j b h1 h2 hb
            rw [List.contains_eq_mem, decide_eq_false]
            intro hm
            obtain ⟨q, hq⟩ := List.mem_iff_getElem?.1 hm
            have := HC.out q b hq
            omega)
          have hin1 : i + n ≤ s.size := htl.1
          have hn1' : 1 ≤ n := hhi.2
          have hc1 : 128 ≤ c := hhi.1
          clear hnx0 hw2 hx hc hn htl hhi hxl
          have H2 := Aside0.mk hin2
          have A2 := Aside0.mk hat2
          have HN2 := Aside0.mk hno
          clear hin2 hat2 hno
          go_wp2_with (go_at_call 137; refine (indexRune_up chars (c : Int) _ (by omega) (by omega) HC.out hcs).mono ?_; rintro e w3 ⟨rfl, hb3⟩; have A3 := Aside0.mk ((hb3.block _ (Array.getElem?_eq_some_iff.1 A2.out).1).trans A2.out); have H3 := Aside0.mk (below_then H2.out H2.out.size hb3); clear hb3)
          go_roundg g
          case measure => omega
          case rel => exact ⟨i + n, hin1, by omega, A3, H3, HN2⟩
    · obtain rfl : i = s.size := by omega
      have hnx := fun ty => run_next_out (P := Tryd.prog) wr w.heap.size s s.size ty HI.out hlt
      go_wp2
      go_ret
      exact ⟨by rw [Lib.indexAny_none (by rw [← Lib.size_eq]; exact HN.out)]; rfl, HB.out⟩
end Go.Proofs.YtcljkhhjondhcaaDoor.Ext
