/- The library's contracts in the form in which the printed functions take them: each call returns what the plain function says, wherever that function answers; of the world they ask the table of powers of ten (Tp) and that bytealg.MaxLen holds some int (Tm). -/
import Derived.Test.YtcljkhhjondhcaaDoorShelf
import Derived.Test.YtcljkhhjondhcaaDoorWMore
import Derived.Shelf.Strings.SlTrimAscii
namespace Go.Proofs.YtcljkhhjondhcaaDoor.Ext
open Go.RowKit Go.Shelf Go.Proofs.YtcljkhhjondhcaaDoorW.PrintWords

/-! ### what is asked of the world -/
def Tp (w : World) : Prop := Lib.TabIs Tryd.prog w "internal/strconv.uint64pow10" .u64 Lib.pow10Tab
def Tm (w : World) : Prop := ∃ m : Int, w.cell? ⟨0, 0, none⟩ = some (.int .i64 m)
theorem var_below {w w' : World} {n : String} {cs : Array Value} (hb : Below w.heap.size w w') (h : w.var? Tryd.prog n = some cs) : w'.var? Tryd.prog n = some cs := by
  unfold World.var? at h ⊢
  cases hg : Tryd.prog.globalNamed n with
  | none => simp [hg] at h
  | some g =>
    simp only [hg, Option.bind_some] at h ⊢
    have hlt : g < w.heap.size := by
      rcases Nat.lt_or_ge g w.heap.size with h' | h'
      · exact h'
      · simp [Array.getElem?_eq_none h'] at h
    rw [hb.block g hlt]
    exact h
theorem Tp_below {w w' : World} (h : Tp w) (hb : Below w.heap.size w w') : Tp w' := var_below hb h
theorem Tm_below {w w' : World} (h : Tm w) (hb : Below w.heap.size w w') : Tm w' := by
  obtain ⟨m, hm⟩ := h
  exact ⟨m, pw_cell_below hb hm⟩
theorem Tp_drewN {w : World} (h : Tp w) (n : Nat) : Tp (w.drewN n) := h
theorem Tp_drew {w : World} (h : Tp w) : Tp w.drew := h
theorem Tm_drewN {w : World} (h : Tm w) (n : Nat) : Tm (w.drewN n) := h
theorem Tm_drew {w : World} (h : Tm w) : Tm w.drew := h

/-! ### strconv.Itoa -/
def itoaF (n : Int) : Option ByteArray := if -9223372036854775808 ≤ n then if n ≤ 9223372036854775807 then some ⟨(Lib.itoa n).toArray⟩ else none else none
theorem below_grow (w : World) (q : Nat) (os : Array Obj) : Below w.heap.size w (Sort.grow (w.drewN q) os) :=
  ⟨rfl, rfl, rfl, by show w.heap.size ≤ (w.heap ++ os).size; simp, fun i hi => by
    show (w.heap ++ os)[i]? = _
    rw [Array.getElem?_append_left hi]⟩
theorem itoa_calls (n : Int) (r : ByteArray) (w : World) (hT : Tp w) (h : itoaF n = some r) :
    Calls Tryd.prog 107 #[.int .i64 n] w fun e w' => e = .returned (.string r) ∧ Below w.heap.size w w' := by
  unfold itoaF at h
  by_cases h0 : -9223372036854775808 ≤ n
  · by_cases h1 : n ≤ 9223372036854775807
    · rw [if_pos h0, if_pos h1] at h
      obtain rfl := Option.some.inj h
      refine (Tryd.strconv_Itoa n h0 h1 w hT).mono ?_
      rintro e w' ⟨rfl, k, os, rfl⟩
      exact ⟨rfl, below_grow w k os⟩
    · rw [if_pos h0, if_neg h1] at h; cases h
  · rw [if_neg h0] at h; cases h

/-! ### strings.Trim and its like, at a cutset of ASCII bytes -/
def asciiB (c : ByteArray) : Bool := c.data.toList.all fun b => decide (b.toNat < 128)
theorem ascii_of {c : ByteArray} (h : asciiB c = true) : ∀ (j : Nat) (b : UInt8), c.data.toList[j]? = some b → b.toNat < 128 := fun j b hb => by
  have := List.all_eq_true.1 h b (List.mem_of_getElem? hb)
  exact of_decide_eq_true this
def trimG (f : List UInt8 → List UInt8 → List UInt8) (s c : ByteArray) : Option ByteArray := if s.size ≤ 9223372036854775807 then if c.size < 4294967281 then if asciiB c = true then some ⟨(f s.data.toList c.data.toList).toArray⟩ else none else none else none
theorem trimG_some {f : List UInt8 → List UInt8 → List UInt8} {s c r : ByteArray} (h : trimG f s c = some r) : s.size ≤ 9223372036854775807 ∧ c.size < 4294967281 ∧ asciiB c = true ∧ r = ⟨(f s.data.toList c.data.toList).toArray⟩ := by
  unfold trimG at h
  by_cases h0 : s.size ≤ 9223372036854775807
  · by_cases h1 : c.size < 4294967281
    · by_cases h2 : asciiB c = true
      · rw [if_pos h0, if_pos h1, if_pos h2] at h
        exact ⟨h0, h1, h2, (Option.some.inj h).symm⟩
      · rw [if_pos h0, if_pos h1, if_neg h2] at h; cases h
    · rw [if_pos h0, if_neg h1] at h; cases h
  · rw [if_neg h0] at h; cases h
def trimF (s c : ByteArray) : Option ByteArray := trimG Lib.trimS s c
def trimLeftF (s c : ByteArray) : Option ByteArray := trimG Lib.trimLeftS s c
def trimRightF (s c : ByteArray) : Option ByteArray := trimG Lib.trimRightS s c
theorem trim_calls (s c : ByteArray) (r : ByteArray) (w : World) (h : trimF s c = some r) :
    Calls Tryd.prog 43 #[.string s, .string c] w fun e w' => e = .returned (.string r) ∧ Below w.heap.size w w' := by
  obtain ⟨h0, h1, h2, rfl⟩ := trimG_some h
  have hc := Any.strings_Trim_laid Tryd.lays160 (by kernel_rfl) s c w h0 h1 (ascii_of h2)
  exact hc
theorem trimLeft_calls (s c : ByteArray) (r : ByteArray) (w : World) (h : trimLeftF s c = some r) :
    Calls Tryd.prog 125 #[.string s, .string c] w fun e w' => e = .returned (.string r) ∧ Below w.heap.size w w' := by
  obtain ⟨h0, h1, h2, rfl⟩ := trimG_some h
  have hc := Any.strings_TrimLeft_laid Tryd.lays161 (by kernel_rfl) s c w h1 (ascii_of h2)
  exact hc
theorem trimRight_calls (s c : ByteArray) (r : ByteArray) (w : World) (h : trimRightF s c = some r) :
    Calls Tryd.prog 67 #[.string s, .string c] w fun e w' => e = .returned (.string r) ∧ Below w.heap.size w w' := by
  obtain ⟨h0, h1, h2, rfl⟩ := trimG_some h
  have hc := Any.strings_TrimRight_laid Tryd.lays162 (by kernel_rfl) s c w h0 h1 (ascii_of h2)
  exact hc

/-! ### searching -/
theorem drawn_refl {w w' : World} (h : w' = w) : Drawn0 w w' := by subst h; exact Drawn0.refl _
def containsF (s c : ByteArray) : Option Bool := if s.size < 4294967281 then some (Lib.contains s.data.toList c.data.toList) else none
theorem contains_calls (s c : ByteArray) (r : Bool) (w : World) (hT : Tm w) (h : containsF s c = some r) :
    Calls Tryd.prog 42 #[.string s, .string c] w fun e w' => e = .returned (.bool r) ∧ Drawn0 w w' := by
  unfold containsF at h
  by_cases h0 : s.size < 4294967281
  · rw [if_pos h0] at h
    obtain rfl := Option.some.inj h
    obtain ⟨m, hm⟩ := hT
    refine (Tryd.strings_Contains s c m w h0 hm).mono ?_
    rintro e w' ⟨rfl, hw⟩
    exact ⟨rfl, drawn_refl hw⟩
  · rw [if_neg h0] at h; cases h
def indexF (s c : ByteArray) : Option Int := if s.size < 4294967281 then some (Lib.index s.data.toList c.data.toList) else none
theorem index_calls (s c : ByteArray) (r : Int) (w : World) (hT : Tm w) (h : indexF s c = some r) :
    Calls Tryd.prog 77 #[.string s, .string c] w fun e w' => e = .returned (.int .i64 r) ∧ Drawn0 w w' := by
  unfold indexF at h
  by_cases h0 : s.size < 4294967281
  · rw [if_pos h0] at h
    obtain rfl := Option.some.inj h
    obtain ⟨m, hm⟩ := hT
    refine (Tryd.strings_Index s c m w h0 hm).mono ?_
    rintro e w' ⟨rfl, hw⟩
    exact ⟨rfl, drawn_refl hw⟩
  · rw [if_neg h0] at h; cases h
def indexByteF (s : ByteArray) (c : Int) : Option Int := some (Lib.indexByte s.data.toList c.toNat.toUInt8)
theorem indexByte_calls (s : ByteArray) (c r : Int) (w : World) (h : indexByteF s c = some r) :
    Calls Tryd.prog 78 #[.string s, .int .u8 c] w fun e w' => e = .returned (.int .i64 r) ∧ Drawn0 w w' := by
  obtain rfl := Option.some.inj h
  refine (Tryd.strings_IndexByte s c w).mono ?_
  rintro e w' ⟨rfl, hw⟩
  exact ⟨rfl, drawn_refl hw⟩
def cutF (s c : ByteArray) : Option (ByteArray × ByteArray × Bool) := if s.size < 4294967281 then some (⟨(Lib.cut s.data.toList c.data.toList).1.toArray⟩, ⟨(Lib.cut s.data.toList c.data.toList).2.1.toArray⟩, (Lib.cut s.data.toList c.data.toList).2.2) else none
theorem cut_calls (s c r1 r2 : ByteArray) (r3 : Bool) (w : World) (hT : Tm w) (h : cutF s c = some (r1, r2, r3)) :
    Calls Tryd.prog 74 #[.string s, .string c] w fun e w' => e = .returned (.tuple #[.string r1, .string r2, .bool r3]) ∧ Drawn0 w w' := by
  unfold cutF at h
  by_cases h0 : s.size < 4294967281
  · rw [if_pos h0] at h
    have h := Option.some.inj h
    simp only [Prod.mk.injEq] at h
    obtain ⟨rfl, rfl, rfl⟩ := h
    obtain ⟨m, hm⟩ := hT
    refine (Tryd.strings_Cut s c m w h0 hm).mono ?_
    rintro e w' ⟨rfl, hw⟩
    exact ⟨rfl, ⟨hw⟩⟩
  · rw [if_neg h0] at h; cases h
end Go.Proofs.YtcljkhhjondhcaaDoor.Ext
