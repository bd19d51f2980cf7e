/- What comes in, opened: a slice of strings, a field of a form, a form, a value; every string that is read is one that an int can measure. No condition. -/
import Derived.Test.YtijajimooldhiaaDoorRows
import Derived.Test.YtijajimooldhiaaDoorWMore
import Derived.Test.YtijajimooldhiaaDoorTrA
import Derived.SliceStrings
import Derived.ChangeSame
import Derived.ProofKit
namespace Go.Proofs.YtijajimooldhiaaDoor.OpR
open Go.RowKit Go.ChangeShapes Go.WideShapes Go.ChangeAt Go.Proofs.YtijajimooldhiaaDoorW.PrintWords Go.Proofs.YtijajimooldhiaaDoor.Kr Go.Proofs.YtijajimooldhiaaDoor.TrA
set_option maxRecDepth 100000 in
theorem opened_strs {H : Type} {enc : TypeId × Value → H} {W : World} {t : TypeId} {base : Nat} {sp : Nat → Bool} {hd : Bool} {fuel : Nat} {cs : List Value} {x : DataW H × List MemPlace} (ht : Tryd.prog.underlying t = some (.slice 9))
    (hf : DataW.trod enc Tryd.prog W base sp hd fuel t cs = some x) :
    ∃ (A : Option Addr) (cap : Nat) (l : List ByteArray), cs = [.slice A l.length cap] ∧ l.length ≤ cap ∧ Kd.C Kd.string W A l.length l ∧ l.length ≤ 9223372036854775807 ∧ ∀ s ∈ l, s.size ≤ 9223372036854775807 := by
  rcases open_strings ht Tryd.underlying9 (by kernel_rfl) hf with ⟨rfl, hx⟩ | ⟨a, len, cap, ss, rfl, _, hl, hm, hz, hx, hcell, hsz⟩
  · exact ⟨none, 0, [], rfl, Nat.le_refl _, ⟨rfl, Nat.zero_le _, fun h => absurd h (Nat.lt_irrefl 0)⟩, by simp, by simp⟩
  · have hml : cap ≤ 9223372036854775807 := by unfold maxLen at hm; omega
    have hzl : len ≤ ss.length := by rw [hz]; split <;> omega
    have htl : (ss.take len).length = len := by rw [List.length_take]; omega
    refine ⟨some a, cap, ss.take len, by rw [htl], by omega, ⟨rfl, by rw [htl]; omega, fun _ => ⟨a, rfl, fun j s hj => ⟨[.string s], rfl, rfl, fun i u hu => ?_⟩⟩⟩, by omega, fun s hs => ?_⟩
    · have hi : i = 0 := by
        have := (List.getElem?_eq_some_iff.1 hu).1
        simpa using this
      subst hi
      injection hu with hu
      subst hu
      have hjl := (List.getElem?_eq_some_iff.1 hj).1
      rw [htl] at hjl
      rw [List.getElem?_take_of_lt hjl] at hj
      have := hcell j (by omega)
      have e : ss.getD j ByteArray.empty = s := by rw [List.getD_eq_getElem?_getD, hj]; rfl
      rw [e] at this
      show W.cell? (a.add (j * 1 + 0)) = some (.string s)
      rwa [Nat.mul_one, Nat.add_zero]
    · have := hsz s (List.mem_of_mem_take hs)
      unfold maxLen at this; omega
/-- The one cell at index i of four. -/
theorem one4 (a b c d : Value) : ([a, b, c, d].drop 0).take 1 = [a] ∧ ([a, b, c, d].drop 1).take 1 = [b] ∧ ([a, b, c, d].drop 2).take 1 = [c] ∧ ([a, b, c, d].drop 3).take 1 = [d] := ⟨rfl, rfl, rfl, rfl⟩
theorem four {α : Type} {l : List α} (h : l.length = 4) : ∃ a b c d, l = [a, b, c, d] := by
  match l, h with
  | [a, b, c, d], _ => exact ⟨a, b, c, d, rfl⟩
theorem three {α : Type} {l : List α} (h : l.length = 3) : ∃ a b c, l = [a, b, c] := by
  match l, h with
  | [a, b, c], _ => exact ⟨a, b, c, rfl⟩
set_option maxRecDepth 100000 in
theorem opened_field {H : Type} {enc : TypeId × Value → H} {W : World} {base : Nat} {sp : Nat → Bool} {hd : Bool} {fuel : Nat} {cs : List Value} {x : DataW H × List MemPlace}
    (hf : DataW.trod enc Tryd.prog W base sp hd fuel 32 cs = some x) : ∃ y : S32, k32.K W y cs ∧ Fit y ∧ y.f2.length ≤ 9223372036854775807 := by
  obtain ⟨xs, n, _, rfl, hl, hlen, hfs⟩ := DataW.trod_struct Tryd.underlying32 hf
  obtain ⟨a, b, c, d, rfl⟩ := four (hl.trans (by kernel_rfl))
  obtain ⟨x0, x1, x2, x3, rfl⟩ := four hlen
  have h0 : DataW.trod enc Tryd.prog W base sp hd n 9 (([a, b, c, d].drop 0).take (Tryd.prog.cellsOf 9)) = some x0 := hfs 0 _ rfl
  have h1 : DataW.trod enc Tryd.prog W base sp hd n 3 (([a, b, c, d].drop 1).take (Tryd.prog.cellsOf 3)) = some x1 := hfs 1 _ rfl
  have h2 : DataW.trod enc Tryd.prog W base sp hd n 30 (([a, b, c, d].drop 2).take (Tryd.prog.cellsOf 30)) = some x2 := hfs 2 _ rfl
  have h3 : DataW.trod enc Tryd.prog W base sp hd n 3 (([a, b, c, d].drop 3).take (Tryd.prog.cellsOf 3)) = some x3 := hfs 3 _ rfl
  have k9 : Tryd.prog.cellsOf 9 = 1 := by kernel_rfl
  have k3 : Tryd.prog.cellsOf 3 = 1 := by kernel_rfl
  have k30 : Tryd.prog.cellsOf 30 = 1 := by kernel_rfl
  obtain ⟨o0, o1, o2, o3⟩ := one4 a b c d
  rw [k9, o0] at h0
  rw [k3, o1] at h1
  rw [k30, o2] at h2
  rw [k3, o3] at h3
  obtain ⟨s, e0, _, hs⟩ := DataW.trod_string Tryd.underlying9 h0
  obtain ⟨m, e1, _, _⟩ := DataW.trod_int Tryd.underlying3 h1
  obtain ⟨A, cap, l, e2, hc, hC, hll, hss⟩ := opened_strs Tryd.underlying30 h2
  obtain ⟨q, e3, _, _⟩ := DataW.trod_int Tryd.underlying3 h3
  injection e0 with e0
  injection e1 with e1
  injection e2 with e2
  injection e3 with e3
  subst e0 e1 e2 e3
  exact ⟨⟨s, m, l, q⟩, k32_mk W ⟨s, m, l, q⟩ hc hC, ⟨by unfold maxLen at hs; show s.size ≤ _; omega, hss⟩, hll⟩
set_option maxRecDepth 100000 in
theorem opened_fields {H : Type} {enc : TypeId × Value → H} {W : World} {base : Nat} {sp : Nat → Bool} {hd : Bool} {fuel : Nat} {cs : List Value} {x : DataW H × List MemPlace}
    (hf : DataW.trod enc Tryd.prog W base sp hd fuel 22 cs = some x) :
    ∃ (A : Option Addr) (cap : Nat) (l : List S32), cs = [.slice A l.length cap] ∧ l.length ≤ cap ∧ Kd.C k32 W A l.length l ∧ (∀ y ∈ l, Fit y) ∧ ∀ y ∈ l, y.f2.length ≤ 9223372036854775807 := by
  have k32c : Tryd.prog.cellsOf 32 = 4 := by kernel_rfl
  rcases DataW.trod_slice Tryd.underlying22 hf with ⟨rfl, _⟩ | ⟨a, len, cap, elems, rest, n, _, rfl, rfl, hb, hl, hm, hlen, hel, _, _⟩
  · exact ⟨none, 0, [], rfl, Nat.le_refl _, ⟨rfl, Nat.zero_le _, fun h => absurd h (Nat.lt_irrefl 0)⟩, by simp, by simp⟩
  · have hml : cap ≤ 9223372036854775807 := by unfold maxLen at hm; omega
    have each : ∀ i, ∃ y : S32, i < len → (∃ c : List Value, k32.K W y c ∧ c.length = 4 ∧ ∀ j u, c[j]? = some u → W.cell? (a.add (i * 4 + j)) = some u) ∧ Fit y ∧ y.f2.length ≤ 9223372036854775807 := by
      intro i
      by_cases hi : i < len
      · have h := hel i hi
        rw [k32c, List.getElem?_eq_getElem (by omega)] at h
        obtain ⟨c, hc, hx⟩ := Option.bind_eq_some_iff.1 h
        obtain ⟨y, hK, hF, hN⟩ := opened_field hx
        obtain ⟨_, hcl, hce⟩ := World.cells?_some hc
        refine ⟨y, fun _ => ⟨⟨c, hK, hcl, fun j u hu => ?_⟩, hF, hN⟩⟩
        have hj := (List.getElem?_eq_some_iff.1 hu).1
        have := hce j (by omega)
        rw [hu] at this
        rw [← this]
        congr 1
        unfold Addr.add
        by_cases h1 : j = 0
        · subst h1; rw [Nat.add_zero, if_pos rfl]
        · rw [if_neg h1, if_neg (by omega)]
          by_cases h2 : i * 4 = 0
          · rw [if_pos h2, h2, Nat.zero_add]
          · rw [if_neg h2]; simp only [Nat.add_assoc]
      · exact ⟨z32, fun h => absurd h hi⟩
    obtain ⟨g, hg⟩ := Classical.axiomOfChoice each
    have htl : ((List.range len).map g).length = len := by simp
    have hget : ∀ j y, ((List.range len).map g)[j]? = some y → j < len ∧ y = g j := by
      intro j y h
      have hj := (List.getElem?_eq_some_iff.1 h).1
      rw [htl] at hj
      refine ⟨hj, ?_⟩
      rw [List.getElem?_map, List.getElem?_range hj] at h
      exact (Option.some.inj h).symm
    refine ⟨some a, cap, (List.range len).map g, by rw [htl], by rw [htl]; exact hl, ⟨rfl, by rw [htl]; omega, fun _ => ⟨a, rfl, fun j y hj => ?_⟩⟩, fun y hy => ?_, fun y hy => ?_⟩
    · obtain ⟨h1, rfl⟩ := hget j y hj
      obtain ⟨⟨c, hK, hcl, hce⟩, _⟩ := hg j h1
      exact ⟨c, hcl, hK, hce⟩
    · obtain ⟨j, hj⟩ := List.getElem?_of_mem hy
      obtain ⟨h1, rfl⟩ := hget j y hj
      exact (hg j h1).2.1
    · obtain ⟨j, hj⟩ := List.getElem?_of_mem hy
      obtain ⟨h1, rfl⟩ := hget j y hj
      exact (hg j h1).2.2
set_option maxRecDepth 100000 in
theorem open_form {H : Type} {enc : TypeId × Value → H} {W : World} {base : Nat} {v : Value} {d : DataW H} {p : List MemPlace}
    (hv : Value.okWide Tryd.prog W .any base 24 v) (h : DataW.Trod enc Tryd.prog W 0 (fun _ => true) true 24 v d p) :
    ∃ (A : Option Addr) (cap : Nat) (l : List S32), v = .agg #[.slice A l.length cap] ∧ l.length ≤ cap ∧ Kd.C k32 W A l.length l ∧ (∀ y ∈ l, Fit y) ∧ ∀ y ∈ l, y.f2.length ≤ 9223372036854775807 := by
  obtain ⟨cs, rfl, hs⟩ := okWide_struct Tryd.underlying24 hv
  obtain ⟨fuel, hf⟩ := h
  obtain ⟨y0, n, _, hl, h0⟩ := trod_struct1 Tryd.underlying24 hf
  obtain ⟨u, hu⟩ : ∃ u, cs.toList = [u] := by
    have : cs.toList.length = 1 := by rw [Array.length_toList, hs]; kernel_rfl
    match cs.toList, this with
    | [u], _ => exact ⟨u, rfl⟩
  have hcs : cs = #[u] := by rw [← Array.toArray_toList (xs := cs), hu]
  subst hcs
  have k22 : Tryd.prog.cellsOf 22 = 1 := by kernel_rfl
  have h0' : DataW.trod enc Tryd.prog W 0 (fun _ => true) true n 22 (([u].drop 0).take (Tryd.prog.cellsOf 22)) = some y0 := h0
  rw [k22] at h0'
  obtain ⟨A, cap, l, e, h1, h2, h3, h4⟩ := opened_fields (show DataW.trod enc Tryd.prog W 0 (fun _ => true) true n 22 [u] = some y0 from h0')
  injection e with e
  subst e
  exact ⟨A, cap, l, rfl, h1, h2, h3, h4⟩
set_option maxRecDepth 100000 in
theorem open_value {H : Type} {enc : TypeId × Value → H} {W : World} {base : Nat} {v : Value} {d : DataW H} {p : List MemPlace}
    (hv : Value.okWide Tryd.prog W .any base 26 v) (h : DataW.Trod enc Tryd.prog W 0 (fun _ => true) true 26 v d p) :
    ∃ (K I : Int) (T : ByteArray), v = .agg #[.int .i64 K, .int .i64 I, .string T] := by
  obtain ⟨cs, rfl, hs⟩ := okWide_struct Tryd.underlying26 hv
  obtain ⟨fuel, hf⟩ := h
  obtain ⟨xs, n, _, _, hl, hlen, hfs⟩ := DataW.trod_struct Tryd.underlying26 hf
  obtain ⟨a, b, c, hu⟩ := three (l := cs.toList) (by rw [Array.length_toList, hs]; kernel_rfl)
  have hcs : cs = #[a, b, c] := by rw [← Array.toArray_toList (xs := cs), hu]
  subst hcs
  obtain ⟨x0, x1, x2, rfl⟩ := three hlen
  have h0 : DataW.trod enc Tryd.prog W 0 (fun _ => true) true n 3 (([a, b, c].drop 0).take (Tryd.prog.cellsOf 3)) = some x0 := hfs 0 _ rfl
  have h1 : DataW.trod enc Tryd.prog W 0 (fun _ => true) true n 3 (([a, b, c].drop 1).take (Tryd.prog.cellsOf 3)) = some x1 := hfs 1 _ rfl
  have h2 : DataW.trod enc Tryd.prog W 0 (fun _ => true) true n 9 (([a, b, c].drop 2).take (Tryd.prog.cellsOf 9)) = some x2 := hfs 2 _ rfl
  have k9 : Tryd.prog.cellsOf 9 = 1 := by kernel_rfl
  have k3 : Tryd.prog.cellsOf 3 = 1 := by kernel_rfl
  rw [k3] at h0 h1
  rw [k9] at h2
  obtain ⟨m, e0, _, _⟩ := DataW.trod_int Tryd.underlying3 (show DataW.trod enc Tryd.prog W 0 (fun _ => true) true n 3 [a] = some x0 from h0)
  obtain ⟨q, e1, _, _⟩ := DataW.trod_int Tryd.underlying3 (show DataW.trod enc Tryd.prog W 0 (fun _ => true) true n 3 [b] = some x1 from h1)
  obtain ⟨s, e2, _, _⟩ := DataW.trod_string Tryd.underlying9 (show DataW.trod enc Tryd.prog W 0 (fun _ => true) true n 9 [c] = some x2 from h2)
  injection e0 with e0
  injection e1 with e1
  injection e2 with e2
  subst e0 e1 e2
  exact ⟨m, q, s, rfl⟩
end Go.Proofs.YtijajimooldhiaaDoor.OpR
