/- mail.lower and portref1.Lower, walked: each returns its string with every byte from A to Z raised by 32, wherever the string has at most 2^47 bytes. -/
import Derived.Test.YtcljkhhjondhcaaDoorExtB
import Derived.Laws.IdiomStrings
namespace Go.Proofs.YtcljkhhjondhcaaDoor.Ext
open Go.RowKit Go.Shelf Go.Proofs.YtcljkhhjondhcaaDoorW.PrintWords

def lowB (b : UInt8) : UInt8 := if 65 ≤ b.toNat ∧ b.toNat ≤ 90 then b + 32 else b
def lowerF (s : ByteArray) : Option ByteArray := if s.size ≤ 140737488355328 then some ⟨(s.data.toList.map lowB).toArray⟩ else none

/-- A block that a conversion of a string laid: its first cells are these bytes. -/
def BB (w : World) (g : Nat) (xs : List UInt8) : Prop := ∃ C : Array Value, w.heap[g]? = some (.cells C 5 (C.size, C.size + 1)) ∧ ∀ (j : Nat) (b : UInt8), xs[j]? = some b → C[j]? = some (.int .u8 (b.toNat : Int))
theorem BB.cell {w : World} {g : Nat} {xs : List UInt8} (h : BB w g xs) {j : Nat} {b : UInt8} (hj : xs[j]? = some b) : w.cell? ⟨g, j, none⟩ = some (.int .u8 (b.toNat : Int)) := by
  obtain ⟨C, hC, hc⟩ := h
  simp [World.cell?, hC, hc j b hj]
theorem BB.free {w : World} {g : Nat} {xs : List UInt8} (h : BB w g xs) {j : Nat} (hj : j < xs.length) : w.frozen? ⟨g, j, none⟩ = false := by
  obtain ⟨C, hC, hc⟩ := h
  have hj' := (Array.getElem?_eq_some_iff.1 (hc j _ (List.getElem?_eq_getElem hj))).1
  simp [World.frozen?, hC]
  omega
theorem BB.set_ {w : World} {g : Nat} {xs : List UInt8} (h : BB w g xs) {j : Nat} (b : UInt8) : BB (w.setCell ⟨g, j, none⟩ (.int .u8 (b.toNat : Int))) g (xs.set j b) := by
  obtain ⟨C, hC, hc⟩ := h
  refine ⟨C.setIfInBounds j (.int .u8 (b.toNat : Int)), by simp [World.setCell, Array.getElem?_modify, hC], fun i c hi => ?_⟩
  by_cases e : j = i
  · subst e
    have hl : j < (xs.set j b).length := (List.getElem?_eq_some_iff.1 hi).1
    rw [List.getElem?_set_self (by simpa using hl)] at hi
    injection hi with hi
    subst hi
    have hl' : j < xs.length := by simpa using hl
    have := (Array.getElem?_eq_some_iff.1 (hc j _ (List.getElem?_eq_getElem hl'))).1
    simp [this]
  · rw [List.getElem?_set_ne e] at hi
    rw [Array.getElem?_setIfInBounds_ne e]
    exact hc i c hi
theorem BB.drewN {w : World} {g : Nat} {xs : List UInt8} (h : BB w g xs) (n : Nat) : BB (w.drewN n) g xs := h
theorem BB.new (w : World) (s : ByteArray) : BB (Lib.bytesWorld w 5 s) w.heap.size s.data.toList := by
  refine ⟨Lib.bytesCells w 5 s, Lib.bytesWorld_at_new w 5 s, fun j b hj => ?_⟩
  obtain ⟨hl, he⟩ := List.getElem?_eq_some_iff.1 hj
  have hl' : j < s.data.size := by simpa using hl
  unfold Lib.bytesCells
  rw [Array.getElem?_append_left (by simpa using hl')]
  have hd : s.data[j]? = some s.data[j] := Array.getElem?_eq_getElem hl'
  simp [hd, ← he]
theorem below_bytes (w : World) (s : ByteArray) : Below w.heap.size w (Lib.bytesWorld w 5 s) :=
  ⟨rfl, rfl, rfl, by rw [Lib.bytesWorld_size]; omega, fun i hi => Lib.bytesWorld_at_old w 5 s i hi⟩
theorem BB.back {w : World} {g : Nat} {xs : List UInt8} (h : BB w g xs) (cap : Nat) : (convert 77 9 (.slice (some ⟨g, 0, none⟩) xs.length cap)).run Tryd.prog w = .ok (.string ⟨xs.toArray⟩) w := by
  refine run_convert_bytes_back (P := Tryd.prog) w 77 9 5 ⟨g, 0, none⟩ cap xs Tryd.underlying77 Tryd.underlying5 Tryd.underlying9 (fun j hj => ?_)
  have e : (⟨g, 0, none⟩ : Addr).add j = ⟨g, j, none⟩ := by unfold Addr.add; split <;> simp_all
  rw [e]
  exact h.cell (List.getElem?_eq_getElem hj)

def lowTo (l : List UInt8) (k : Nat) : List UInt8 := (l.take k).map lowB ++ l.drop k
theorem lowTo_zero (l : List UInt8) : lowTo l 0 = l := by simp [lowTo]
theorem lowTo_all (l : List UInt8) : lowTo l l.length = l.map lowB := by simp [lowTo]
theorem lowTo_length (l : List UInt8) (k : Nat) : (lowTo l k).length = l.length := by simp [lowTo]; omega
theorem lowTo_at (l : List UInt8) (k : Nat) (b : UInt8) (h : l[k]? = some b) : (lowTo l k)[k]? = some b := by
  have hl := (List.getElem?_eq_some_iff.1 h).1
  unfold lowTo
  rw [List.getElem?_append_right (by simp; omega), List.length_map, List.length_take, Nat.min_eq_left (Nat.le_of_lt hl), List.getElem?_drop]
  simpa using h
theorem lowTo_succ (l : List UInt8) (k : Nat) (b : UInt8) (h : l[k]? = some b) : lowTo l (k + 1) = (lowTo l k).set k (lowB b) := by
  obtain ⟨hl, he⟩ := List.getElem?_eq_some_iff.1 h
  unfold lowTo
  have e : k - ((l.take k).map lowB).length = 0 := by simp; omega
  have e2 : l.drop k = b :: l.drop (k + 1) := by rw [List.drop_eq_getElem_cons hl, he]
  rw [List.set_append_right _ _ (by simp; omega), e, e2, List.take_succ_eq_append_getElem hl, List.map_append, he]
  simp only [List.set_cons_zero, List.map_cons, List.map_nil, List.append_assoc, List.singleton_append]
theorem lowB_up {b : UInt8} (h : 65 ≤ (b.toNat : Int)) (h' : (b.toNat : Int) ≤ 90) : (((lowB b).toNat : Nat) : Int) = (b.toNat : Int) + 32 := by
  unfold lowB
  rw [if_pos (by omega), UInt8.toNat_add]
  have : (32 : UInt8).toNat = 32 := rfl
  omega
theorem lowB_id {b : UInt8} (h : ¬ (65 ≤ (b.toNat : Int) ∧ (b.toNat : Int) ≤ 90)) : lowB b = b := by
  unfold lowB
  rw [if_neg (by omega)]
theorem set_same (l : List UInt8) (k : Nat) (b : UInt8) (h : l[k]? = some b) : l.set k b = l := by
  apply List.ext_getElem?
  intro j
  by_cases e : k = j
  · subst e
    rw [List.getElem?_set_self (List.getElem?_eq_some_iff.1 h).1, h]
  · rw [List.getElem?_set_ne e]

set_option maxHeartbeats 1000000 in
set_option maxRecDepth 100000 in
theorem lower_calls69 (a0 : ByteArray) (r : ByteArray) (w : World) (h : lowerF a0 = some r) :
    Calls Tryd.prog 69 #[.string a0] w fun e w' => e = .returned (.string r) ∧ Below w.heap.size w w' := by
  unfold lowerF at h
  by_cases h0 : a0.size ≤ 140737488355328
  · rw [if_pos h0] at h
    obtain rfl := Option.some.inj h
    have hconv : (convert 9 77 (.string a0)).run Tryd.prog w = .ok (.slice (some ⟨w.heap.size, 0, none⟩) a0.size (grownCap w a0.size 0 5)) (Lib.bytesWorld w 5 a0) := Lib.run_convert_string_bytes w 9 77 5 a0 Tryd.underlying9 Tryd.underlying77 Tryd.underlying5
    have hb1 := below_bytes w a0
    have hn1 := BB.new w a0
    obtain ⟨w1, hw1⟩ : ∃ w1, Lib.bytesWorld w 5 a0 = w1 := ⟨_, rfl⟩
    obtain ⟨g, hg⟩ : ∃ g, w.heap.size = g := ⟨_, rfl⟩
    obtain ⟨cap, hcap⟩ : ∃ c, grownCap w a0.size 0 5 = c := ⟨_, rfl⟩
    rw [hw1, hcap] at hconv
    rw [hw1] at hb1 hn1
    rw [hg] at hconv hb1 hn1
    have hsz : a0.data.toList.length = a0.size := by rw [Array.length_toList]; rfl
    obtain ⟨l, hl⟩ : ∃ l, a0.data.toList = l := ⟨_, rfl⟩
    rw [hl] at hn1 hsz
    obtain ⟨n, hn⟩ : ∃ n, a0.size = n := ⟨_, rfl⟩
    rw [hn] at hconv hsz h0
    have HG := Aside0.mk hg; have HL := Aside0.mk hl; have HZ := Aside0.mk hsz; have HB := Aside0.mk hb1; have HN := Aside0.mk hn1
    clear hg hl hsz hb1 hn1 hw1 hcap hn
    have hback : ∀ (W : World), BB W g (l.map lowB) → (convert 77 9 (.slice (some ⟨g, 0, none⟩) n cap)).run Tryd.prog W = .ok (.string ⟨(l.map lowB).toArray⟩) W := fun W hW => by
      have := hW.back cap
      rwa [List.length_map, HZ.out] at this
    have HBK := Aside0.mk hback
    clear hback
    rw [HL.out, HG.out]
    go_enter Tryd.func69, Tryd.ntmps69
    go_wp2
    go_loopw [10] (fun i wr => ∃ k : Nat, k ≤ n ∧ i = .int .i64 k ∧ Aside0 (BB wr g (lowTo l k)) ∧ Aside0 (Below g w wr)) (fun i _ => n - (intOf i).toNat)
    case atStart => exact ⟨0, Nat.zero_le _, rfl, ⟨by rw [lowTo_zero]; exact HN.out⟩, HB⟩
    case round =>
      obtain ⟨k, hk, rfl, HK, HW⟩ := hrel
      by_cases hlt : k < n
      · obtain ⟨b, hbe⟩ : ∃ b, l[k]? = some b := ⟨_, List.getElem?_eq_getElem (by have := HZ.out; omega)⟩
        have hcell : wr.cell? ⟨g, k, none⟩ = some (.int .u8 (b.toNat : Int)) := HK.out.cell (lowTo_at l k b hbe)
        have hfree : wr.frozen? ⟨g, k, none⟩ = false := HK.out.free (by rw [lowTo_length]; have := HZ.out; omega)
        have hb := b.toNat_lt
        have HS := Aside0.mk (lowTo_succ l k b hbe)
        have HT := Aside0.mk (lowTo_at l k b hbe)
        clear hbe
        by_cases ht : 65 ≤ (b.toNat : Int) ∧ (b.toNat : Int) ≤ 90
        · have HU := Aside0.mk (lowB_up ht.1 ht.2)
          obtain ⟨h65, h90⟩ := ht
          go_wp2
          go_roundw
          case rel => exact ⟨k + 1, by omega, by go_num, ⟨by rw [HS.out]; have := HK.out.set_ (j := k) (lowB b); rw [HU.out] at this; first | exact this | (rw [show ((b.toNat : Int) + 97 - 65) = (b.toNat : Int) + 32 from by omega]; exact this)⟩, ⟨HW.out.setCell (Nat.le_refl _) _⟩⟩
          case measure => simp [intOf]; omega
        · have HI := Aside0.mk (lowB_id ht)
          by_cases h65 : 65 ≤ (b.toNat : Int)
          · have h90 : ¬ (b.toNat : Int) ≤ 90 := fun h => ht ⟨h65, h⟩
            clear ht
            go_wp2
            go_roundw
            case rel => exact ⟨k + 1, by omega, by go_num, ⟨by rw [HS.out, HI.out, set_same _ _ _ HT.out]; exact HK.out⟩, HW⟩
            case measure => simp [intOf]; omega
          · clear ht
            go_wp2
            go_roundw
            case rel => exact ⟨k + 1, by omega, by go_num, ⟨by rw [HS.out, HI.out, set_same _ _ _ HT.out]; exact HK.out⟩, HW⟩
            case measure => simp [intOf]; omega
      · obtain rfl : k = n := by omega
        have hbk := HBK.out wr (by have := HK.out; rwa [← HZ.out, lowTo_all] at this)
        go_wp2
        go_ret
        exact ⟨rfl, HW.out⟩
  · rw [if_neg h0] at h; cases h
set_option maxHeartbeats 1000000 in
set_option maxRecDepth 100000 in
theorem lower_calls72 (a0 : ByteArray) (r : ByteArray) (w : World) (h : lowerF a0 = some r) :
    Calls Tryd.prog 72 #[.string a0] w fun e w' => e = .returned (.string r) ∧ Below w.heap.size w w' := by
  unfold lowerF at h
  by_cases h0 : a0.size ≤ 140737488355328
  · rw [if_pos h0] at h
    obtain rfl := Option.some.inj h
    have hconv : (convert 9 77 (.string a0)).run Tryd.prog w = .ok (.slice (some ⟨w.heap.size, 0, none⟩) a0.size (grownCap w a0.size 0 5)) (Lib.bytesWorld w 5 a0) := Lib.run_convert_string_bytes w 9 77 5 a0 Tryd.underlying9 Tryd.underlying77 Tryd.underlying5
    have hb1 := below_bytes w a0
    have hn1 := BB.new w a0
    obtain ⟨w1, hw1⟩ : ∃ w1, Lib.bytesWorld w 5 a0 = w1 := ⟨_, rfl⟩
    obtain ⟨g, hg⟩ : ∃ g, w.heap.size = g := ⟨_, rfl⟩
    obtain ⟨cap, hcap⟩ : ∃ c, grownCap w a0.size 0 5 = c := ⟨_, rfl⟩
    rw [hw1, hcap] at hconv
    rw [hw1] at hb1 hn1
    rw [hg] at hconv hb1 hn1
    have hsz : a0.data.toList.length = a0.size := by rw [Array.length_toList]; rfl
    obtain ⟨l, hl⟩ : ∃ l, a0.data.toList = l := ⟨_, rfl⟩
    rw [hl] at hn1 hsz
    obtain ⟨n, hn⟩ : ∃ n, a0.size = n := ⟨_, rfl⟩
    rw [hn] at hconv hsz h0
    have HG := Aside0.mk hg; have HL := Aside0.mk hl; have HZ := Aside0.mk hsz; have HB := Aside0.mk hb1; have HN := Aside0.mk hn1
    clear hg hl hsz hb1 hn1 hw1 hcap hn
    have hback : ∀ (W : World), BB W g (l.map lowB) → (convert 77 9 (.slice (some ⟨g, 0, none⟩) n cap)).run Tryd.prog W = .ok (.string ⟨(l.map lowB).toArray⟩) W := fun W hW => by
      have := hW.back cap
      rwa [List.length_map, HZ.out] at this
    have HBK := Aside0.mk hback
    clear hback
    rw [HL.out, HG.out]
    go_enter Tryd.func72, Tryd.ntmps72
    go_wp2
    go_loopw [10] (fun i wr => ∃ k : Nat, k ≤ n ∧ i = .int .i64 k ∧ Aside0 (BB wr g (lowTo l k)) ∧ Aside0 (Below g w wr)) (fun i _ => n - (intOf i).toNat)
    case atStart => exact ⟨0, Nat.zero_le _, rfl, ⟨by rw [lowTo_zero]; exact HN.out⟩, HB⟩
    case round =>
      obtain ⟨k, hk, rfl, HK, HW⟩ := hrel
      by_cases hlt : k < n
      · obtain ⟨b, hbe⟩ : ∃ b, l[k]? = some b := ⟨_, List.getElem?_eq_getElem (by have := HZ.out; omega)⟩
        have hcell : wr.cell? ⟨g, k, none⟩ = some (.int .u8 (b.toNat : Int)) := HK.out.cell (lowTo_at l k b hbe)
        have hfree : wr.frozen? ⟨g, k, none⟩ = false := HK.out.free (by rw [lowTo_length]; have := HZ.out; omega)
        have hb := b.toNat_lt
        have HS := Aside0.mk (lowTo_succ l k b hbe)
        have HT := Aside0.mk (lowTo_at l k b hbe)
        clear hbe
        by_cases ht : 65 ≤ (b.toNat : Int) ∧ (b.toNat : Int) ≤ 90
        · have HU := Aside0.mk (lowB_up ht.1 ht.2)
          obtain ⟨h65, h90⟩ := ht
          go_wp2
          go_roundw
          case rel => exact ⟨k + 1, by omega, by go_num, ⟨by rw [HS.out]; have := HK.out.set_ (j := k) (lowB b); rw [HU.out] at this; first | exact this | (rw [show ((b.toNat : Int) + 97 - 65) = (b.toNat : Int) + 32 from by omega]; exact this)⟩, ⟨HW.out.setCell (Nat.le_refl _) _⟩⟩
          case measure => simp [intOf]; omega
        · have HI := Aside0.mk (lowB_id ht)
          by_cases h65 : 65 ≤ (b.toNat : Int)
          · have h90 : ¬ (b.toNat : Int) ≤ 90 := fun h => ht ⟨h65, h⟩
            clear ht
            go_wp2
            go_roundw
            case rel => exact ⟨k + 1, by omega, by go_num, ⟨by rw [HS.out, HI.out, set_same _ _ _ HT.out]; exact HK.out⟩, HW⟩
            case measure => simp [intOf]; omega
          · clear ht
            go_wp2
            go_roundw
            case rel => exact ⟨k + 1, by omega, by go_num, ⟨by rw [HS.out, HI.out, set_same _ _ _ HT.out]; exact HK.out⟩, HW⟩
            case measure => simp [intOf]; omega
      · obtain rfl : k = n := by omega
        have hbk := HBK.out wr (by have := HK.out; rwa [← HZ.out, lowTo_all] at this)
        go_wp2
        go_ret
        exact ⟨rfl, HW.out⟩
  · rw [if_neg h0] at h; cases h
end Go.Proofs.YtcljkhhjondhcaaDoor.Ext
