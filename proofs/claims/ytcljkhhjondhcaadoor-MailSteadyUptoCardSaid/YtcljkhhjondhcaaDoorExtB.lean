/- The library's contracts of strings.Repeat, Join and Split in the form in which the printed functions take them: each call returns what the plain function says, wherever that function answers. -/
import Derived.Test.YtcljkhhjondhcaaDoorExt
namespace Go.Proofs.YtcljkhhjondhcaaDoor.Ext
open Go.RowKit Go.Shelf Go.Proofs.YtcljkhhjondhcaaDoorW.PrintWords

theorem below_refl_of {w w' : World} (h : w' = w) : Below w.heap.size w w' := by subst h; exact Below.refl _ _
def repeatF (s : ByteArray) (n : Int) : Option ByteArray := if 0 ≤ n then if s.size * n.toNat ≤ 140737488355328 then if n ≤ 9223372036854775807 then some ⟨(Lib.repeatL s.data.toList n.toNat).toArray⟩ else none else none else none
theorem repeat_calls (s : ByteArray) (n : Int) (r : ByteArray) (w : World) (h : repeatF s n = some r) :
    Calls Tryd.prog 54 #[.string s, .int .i64 n] w fun e w' => e = .returned (.string r) ∧ Below w.heap.size w w' := by
  unfold repeatF at h
  by_cases h0 : 0 ≤ n
  · by_cases h1 : s.size * n.toNat ≤ 140737488355328
    · by_cases h2 : n ≤ 9223372036854775807
      · rw [if_pos h0, if_pos h1, if_pos h2] at h
        obtain rfl := Option.some.inj h
        obtain ⟨c, rfl⟩ := Int.eq_ofNat_of_zero_le h0
        exact Tryd.strings_Repeat s c w (by omega) h1
      · rw [if_pos h0, if_pos h1, if_neg h2] at h; cases h
    · rw [if_pos h0, if_neg h1] at h; cases h
  · rw [if_neg h0] at h; cases h

def joinF (l : List ByteArray) (c : ByteArray) : Option ByteArray := if l.length ≤ 140737488355328 then if (Lib.join (l.map (·.data.toList)) c.data.toList).length ≤ 140737488355328 then some ⟨(Lib.join (l.map (·.data.toList)) c.data.toList).toArray⟩ else none else none
theorem join_calls (A0 : Option Addr) (c0 : Nat) (l : List ByteArray) (c r : ByteArray) (w : World) (hr : Kd.C Kd.string w A0 l.length l) (hc : l.length ≤ c0) (h : joinF l c = some r) :
    Calls Tryd.prog 40 #[.slice A0 l.length c0, .string c] w fun e w' => e = .returned (.string r) ∧ Below w.heap.size w w' := by
  unfold joinF at h
  by_cases h0 : l.length ≤ 140737488355328
  · by_cases h1 : (Lib.join (l.map (·.data.toList)) c.data.toList).length ≤ 140737488355328
    · rw [if_pos h0, if_pos h1] at h
      obtain rfl := Option.some.inj h
      cases l with
      | nil =>
        refine (Tryd.strings_Join_none A0 c0 c w).mono ?_
        rintro e w' ⟨rfl, hw⟩
        exact ⟨rfl, below_refl_of hw⟩
      | cons x l =>
        obtain ⟨_, _, hcell0⟩ := hr
        obtain ⟨ad, rfl, hcell⟩ := hcell0 (by simp)
        have hcells : ∀ (j : Nat) (y : ByteArray), (x :: l)[j]? = some y → w.cell? (ad.add j) = some (.string y) := fun j y hy => by
          obtain ⟨cs, hl, hk, hat⟩ := hcell j y hy
          have hk : cs = [Value.string y] := hk
          subst hk
          have := hat 0 (.string y) rfl
          simpa [Kd.string, Kd.scalar] using this
        obtain ⟨bk, o, ent⟩ := ad
        cases ent with
        | some q =>
          exfalso
          have := hcells 0 x rfl
          simp [World.cell?, Addr.add] at this
          revert this
          cases w.heap[bk]? with
          | none => simp
          | some ob => cases ob <;> simp
        | none =>
          have hcells : ∀ (j : Nat) (y : ByteArray), (x :: l)[j]? = some y → w.cell? ⟨bk, o + j, none⟩ = some (.string y) := fun j y hy => by
            have := hcells j y hy
            have e : (⟨bk, o, none⟩ : Addr).add j = ⟨bk, o + j, none⟩ := by unfold Addr.add; split <;> simp_all
            rwa [e] at this
          exact Tryd.strings_Join bk o c0 (x :: l) c w hcells (World.block_lt_of_cell? w _ (hcells 0 x rfl)) h0 hc h1
    · rw [if_pos h0, if_neg h1] at h; cases h
  · rw [if_neg h0] at h; cases h

def splitF (s c : ByteArray) : Option (List ByteArray) := if s.size < 4294967281 then if 1 ≤ c.size then some (Lib.splitB c 0 (Lib.countB s c) s) else none else none
theorem split_calls (s c : ByteArray) (r : List ByteArray) (w : World) (hT : Tm w) (h : splitF s c = some r) :
    Calls Tryd.prog 82 #[.string s, .string c] w fun e w' => ∃ v0_ : Value, e = .returned (v0_) ∧ Kd.R Kd.string 9 w' w.heap.size (fun _ => True) v0_ r ∧ Below w.heap.size w w' := by
  unfold splitF at h
  by_cases h0 : s.size < 4294967281
  · by_cases h1 : 1 ≤ c.size
    · rw [if_pos h0, if_pos h1] at h
      obtain rfl := Option.some.inj h
      obtain ⟨m, hm⟩ := hT
      have hlen : (Lib.splitB c 0 (Lib.countB s c) s).length = Lib.countB s c + 1 := Lib.splitB_all c h1 0 _ s rfl
      have hcount : Lib.countB s c ≤ s.size := Lib.countB_le c h1 s.size s (Nat.le_refl _)
      refine (Tryd.strings_Split s c m w h0 hm h1).mono ?_
      rintro e w' ⟨rfl, rfl⟩
      refine ⟨_, rfl, Kd.R_of_own ?_ (fun _ _ => trivial), (Below.refl _ _).alloc (Nat.le_refl _) _⟩
      refine ⟨by simp [encs], .inr ⟨w.heap.size, Lib.countB s c + 1, _, by rw [hlen], Nat.le_refl _, heap_alloc_new w _, by omega, by unfold maxLen; omega, by simp [hlen], by rw [hlen, List.take_of_length_le (by simp [hlen])]; rfl⟩⟩
    · rw [if_pos h0, if_neg h1] at h; cases h
  · rw [if_neg h0] at h; cases h
end Go.Proofs.YtcljkhhjondhcaaDoor.Ext
