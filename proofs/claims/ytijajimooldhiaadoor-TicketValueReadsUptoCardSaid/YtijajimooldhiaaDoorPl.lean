/- Plain lemmas on bytes, numerals and 64-bit sums, in the bounds that each states: nothing of the program stands here. -/
import Derived.Test.YtijajimooldhiaaDoorWMore
import Derived.Lib.ItoaNum
import Derived.Lib.IndexBytes
import Derived.Lib.Strings
namespace Go.Proofs.YtijajimooldhiaaDoor.Pl
open Go.RowKit Go.Proofs.YtijajimooldhiaaDoorW.PrintWords

theorem w64 {x : Int} (h0 : -9223372036854775808 ≤ x) (h1 : x ≤ 9223372036854775807) : wrap64 x = x := by unfold wrap64; omega
theorem Ev.shift {α : Type} {g : Nat → Option α} {r : α} (h : Ev (fun k => g (k + 1)) r) : Ev g r := Ev.step (fun _ => rfl) h
theorem Ev.cst {α : Type} {x : Option α} {r : α} (h : x = some r) : Ev (fun _ => x) r := ⟨0, fun _ _ => h⟩

theorem Ev.pos {α : Type} {c : Prop} [Decidable c] {a b : Nat → Option α} {r : α} (h : c) (k : Ev a r) : Ev (fun n => if c then a n else b n) r := Ev.congr (fun _ => if_pos h) k
theorem Ev.neg {α : Type} {c : Prop} [Decidable c] {a b : Nat → Option α} {r : α} (h : ¬ c) (k : Ev b r) : Ev (fun n => if c then a n else b n) r := Ev.congr (fun _ => if_neg h) k
theorem Ev.bindc {α β : Type} {x : Option α} {f : Nat → α → Option β} {v : α} {r : β} (h : x = some v) (k : Ev (fun n => f n v) r) : Ev (fun n => x.bind (f n)) r := Ev.congr (fun n => by rw [h]; rfl) k
/-! ### bytes -/
abbrev bl (s : ByteArray) : List UInt8 := s.data.toList
def ba (l : List UInt8) : ByteArray := ⟨l.toArray⟩
theorem bl_ba (l : List UInt8) : bl (ba l) = l := by simp [ba]
theorem bl_size (s : ByteArray) : s.size = (bl s).length := Lib.size_eq s
theorem ba_size (l : List UInt8) : (ba l).size = l.length := by rw [bl_size, bl_ba]
theorem bl_inj {s t : ByteArray} (h : bl s = bl t) : s = t := by
  obtain ⟨⟨a⟩⟩ := s
  obtain ⟨⟨b⟩⟩ := t
  simp at h
  rw [h]
theorem eq_ba {s : ByteArray} {l : List UInt8} (h : bl s = l) : s = ba l := bl_inj (by rw [h, bl_ba])
theorem ba_bl (s : ByteArray) : ba (bl s) = s := (eq_ba rfl).symm
theorem toList_bl (s : ByteArray) : s.toList = bl s := Lib.toList_data s
theorem bl_app (s t : ByteArray) : bl (s ++ t) = bl s ++ bl t := by simp [bl]
theorem bl_drop (s : ByteArray) (i : Nat) : bl (s.extract i s.size) = (bl s).drop i := Lib.extract_to_end s i
theorem bl_take (s : ByteArray) (i : Nat) : bl (s.extract 0 i) = (bl s).take i := (Lib.extract_data s 0 i).trans (by simp)
theorem bl_cut (s : ByteArray) (i j : Nat) : bl (s.extract i j) = ((bl s).drop i).take (j - i) := Lib.extract_data s i j
theorem bt_nat {s : ByteArray} {i : Nat} {b : UInt8} (h : (bl s)[i]? = some b) : bt s (i : Int) = (b.toNat : Int) := by
  obtain ⟨hl, he⟩ := List.getElem?_eq_some_iff.1 h
  have hs : i < s.size := by rw [bl_size]; exact hl
  unfold bt
  rw [dif_pos (by simpa using hs)]
  have : s[((i : Int)).toNat]'(by simpa using hs) = b := by rw [← he]; simp; rfl
  rw [this]

/-! ### prefixes -/
def isPre (p l : List UInt8) : Bool := p.isPrefixOf l
theorem pre_take (p l : List UInt8) (h : p.length ≤ l.length) : (l.take p.length == p) = p.isPrefixOf l := by
  have := Lib.hasPrefix_of_take l p
  rw [decide_eq_true h, Bool.true_and] at this
  exact this
theorem pre_short (p l : List UInt8) (h : ¬ p.length ≤ l.length) : p.isPrefixOf l = false := by
  have := Lib.hasPrefix_of_take l p
  rw [decide_eq_false h, Bool.false_and] at this
  exact this.symm
theorem pre_iff (p l : List UInt8) : p.isPrefixOf l = true ↔ ∃ r, l = p ++ r := by
  rw [List.isPrefixOf_iff_prefix]
  constructor
  · rintro ⟨r, h⟩; exact ⟨r, h.symm⟩
  · rintro ⟨r, h⟩; exact ⟨r, h.symm⟩

/-! ### numerals -/
abbrev dec (n : Nat) : List UInt8 := Lib.decDigits n
def isD (b : UInt8) : Bool := decide (48 ≤ b.toNat) && decide (b.toNat ≤ 57)
def dval (acc : Int) : List UInt8 → Int
  | [] => acc
  | b :: l => dval (10 * acc + ((b.toNat : Int) - 48)) l
theorem dec_small {n : Nat} (h : n < 10) : dec n = [UInt8.ofNat (48 + n)] := Lib.decDigits_one h
theorem dec_big {n : Nat} (h : ¬ n < 10) : dec n = dec (n / 10) ++ [UInt8.ofNat (48 + n % 10)] := by
  show Lib.decDigits n = _
  rw [Lib.decDigits, dif_neg h]
theorem ofNat_toNat {x : Nat} (h : x < 256) : (UInt8.ofNat x).toNat = x := by simp; omega
theorem dec_digits (n : Nat) : ∀ b ∈ dec n, isD b = true := by
  induction n using Nat.strongRecOn with
  | _ n ih =>
    intro b hb
    by_cases h : n < 10
    · rw [dec_small h, List.mem_singleton] at hb
      subst hb
      unfold isD
      rw [ofNat_toNat (by omega)]
      simp; omega
    · rw [dec_big h, List.mem_append, List.mem_singleton] at hb
      rcases hb with hb | hb
      · exact ih (n / 10) (by omega) b hb
      · subst hb
        unfold isD
        rw [ofNat_toNat (by omega)]
        simp; omega
theorem dec_ne (n : Nat) : dec n ≠ [] := by
  by_cases h : n < 10
  · rw [dec_small h]; simp
  · rw [dec_big h]; simp
theorem dec_len {n k : Nat} (h : n < 10 ^ (k + 1)) : (dec n).length ≤ k + 1 := by
  induction k generalizing n with
  | zero => rw [dec_small (by simpa using h)]; simp
  | succ k ih =>
    by_cases h' : n < 10
    · rw [dec_small h']; simp
    · rw [dec_big h', List.length_append, List.length_singleton]
      have := ih (n := n / 10) (by rw [Nat.pow_succ] at h; omega)
      omega
theorem dval_app (a b : List UInt8) : ∀ acc, dval acc (a ++ b) = dval (dval acc a) b := by
  induction a with
  | nil => intro acc; rfl
  | cons x a ih => intro acc; exact ih _
theorem dval_dec (n : Nat) : dval 0 (dec n) = n := by
  induction n using Nat.strongRecOn with
  | _ n ih =>
    by_cases h : n < 10
    · rw [dec_small h]
      show 10 * 0 + (((UInt8.ofNat (48 + n)).toNat : Int) - 48) = n
      rw [ofNat_toNat (by omega)]; omega
    · rw [dec_big h, dval_app, ih (n / 10) (by omega)]
      show 10 * ((n / 10 : Nat) : Int) + (((UInt8.ofNat (48 + n % 10)).toNat : Int) - 48) = n
      rw [ofNat_toNat (by omega)]; omega
theorem dec_head {n : Nat} (h : 1 ≤ n) : (dec n).head? ≠ some 48 := by
  induction n using Nat.strongRecOn with
  | _ n ih =>
    by_cases h' : n < 10
    · rw [dec_small h']
      intro e
      have e : UInt8.ofNat (48 + n) = 48 := by simpa using e
      have := congrArg UInt8.toNat e
      rw [ofNat_toNat (by omega)] at this
      have h48 : (48 : UInt8).toNat = 48 := rfl
      omega
    · rw [dec_big h']
      cases hd : dec (n / 10) with
      | nil => exact absurd hd (dec_ne _)
      | cons x l =>
        have := ih (n / 10) (by omega) (by omega)
        rw [hd] at this
        simpa using this
/-- What stands behind the leading one of a number of five digits: four digits, filled up with zeros. -/
theorem dec_pad {c : Nat} (h : c < 10000) : (dec (10000 + c)).drop 1 = List.replicate (4 - (dec c).length) 48 ++ dec c := by
  have e1 : dec (10000 + c) = [49, UInt8.ofNat (48 + c / 1000), UInt8.ofNat (48 + c / 100 % 10), UInt8.ofNat (48 + c / 10 % 10), UInt8.ofNat (48 + c % 10)] := by
    rw [dec_big (by omega), dec_big (n := (10000 + c) / 10) (by omega), dec_big (n := (10000 + c) / 10 / 10) (by omega), dec_big (n := (10000 + c) / 10 / 10 / 10) (by omega), dec_small (by omega)]
    rw [show (10000 + c) / 10 / 10 / 10 / 10 = 1 by omega, show (10000 + c) / 10 / 10 / 10 % 10 = c / 1000 by omega, show (10000 + c) / 10 / 10 % 10 = c / 100 % 10 by omega, show (10000 + c) / 10 % 10 = c / 10 % 10 by omega, show (10000 + c) % 10 = c % 10 by omega]
    rfl
  rw [e1]
  by_cases h1 : c < 10
  · rw [dec_small h1, show c / 1000 = 0 by omega, show c / 100 % 10 = 0 by omega, show c / 10 % 10 = 0 by omega, show c % 10 = c by omega]; rfl
  · rw [dec_big h1]
    by_cases h2 : c / 10 < 10
    · rw [dec_small h2, show c / 1000 = 0 by omega, show c / 100 % 10 = 0 by omega, show c / 10 % 10 = c / 10 by omega]; rfl
    · rw [dec_big h2]
      by_cases h3 : c / 10 / 10 < 10
      · rw [dec_small h3, show c / 1000 = 0 by omega, show c / 100 % 10 = c / 10 / 10 by omega]; rfl
      · rw [dec_big h3, dec_small (by omega), show c / 1000 = c / 10 / 10 / 10 by omega, show c / 100 % 10 = c / 10 / 10 % 10 by omega]; rfl
theorem takeWhile_dec (n : Nat) (b : UInt8) (r : List UInt8) (hb : isD b = false) : (dec n ++ b :: r).takeWhile isD = dec n := by
  rw [List.takeWhile_append_of_pos (dec_digits n), List.takeWhile_cons_of_neg (by simp [hb]), List.append_nil]
end Go.Proofs.YtijajimooldhiaaDoor.Pl
