/- Numerals and quoted strings, read back: plain lemmas; nothing of the program stands here but the plain functions of number and unquoted. -/
import Derived.Test.YtijajimooldhiaaDoorExtV
import Derived.Lib.AtoiTie
import Derived.Lib.ItoaMem
import Derived.Lib.ItoaLen
namespace Go.Proofs.YtijajimooldhiaaDoor.TrP
open Go.RowKit Go.Proofs.YtijajimooldhiaaDoorW.PrintWords Go.Proofs.YtijajimooldhiaaDoor.Ext Go.Proofs.YtijajimooldhiaaDoor.ExtV Go.Proofs.YtijajimooldhiaaDoor.Pl
theorem isD_iff (b : UInt8) : isD b = true ↔ 48 ≤ b.toNat ∧ b.toNat ≤ 57 := by unfold isD; simp
theorem decFrom_dval : ∀ (l : List UInt8) (acc : Nat), (∀ b ∈ l, isD b = true) → ∃ m : Nat, dval (acc : Int) l = (m : Int) ∧ Lib.decFrom acc l = some m
  | [], acc, _ => ⟨acc, rfl, rfl⟩
  | b :: l, acc, h => by
    have hb := (isD_iff b).1 (h b (by simp))
    obtain ⟨m, h1, h2⟩ := decFrom_dval l (acc * 10 + (b.toNat - 48)) (fun x hx => h x (by simp [hx]))
    refine ⟨m, ?_, ?_⟩
    · rw [← h1]
      show dval (10 * (acc : Int) + ((b.toNat : Int) - 48)) l = _
      congr 1
      omega
    · simp only [Lib.decFrom, Lib.digitVal, if_pos hb]
      exact h2
theorem dec_cons (m : Nat) : ∃ b r, dec m = b :: r ∧ isD b = true := by
  cases h : dec m with
  | nil => exact absurd h (dec_ne m)
  | cons b r => exact ⟨b, r, rfl, dec_digits m b (by rw [h]; simp)⟩
theorem decNat_dec (m : Nat) : Lib.decNat (dec m) = some m := by
  obtain ⟨n, h1, h2⟩ := decFrom_dval (dec m) 0 (dec_digits m)
  have h3 := dval_dec m
  have h4 : dval ((0 : Nat) : Int) (dec m) = dval 0 (dec m) := rfl
  rw [h4, h3] at h1
  obtain ⟨b, r, h, _⟩ := dec_cons m
  unfold Lib.decNat
  rw [h2, h, List.isEmpty_cons, if_neg (by decide)]
  congr 1
  omega
theorem atoi_itoa (v : Int) (h0 : -100000000000 ≤ v) (h1 : v ≤ 100000000000) : Lib.atoiAll (Lib.itoa v) = .ok v := by
  by_cases h : v < 0
  · obtain ⟨m, rfl⟩ : ∃ m : Nat, v = -(m : Int) := ⟨v.natAbs, by omega⟩
    have hl : (Lib.decDigits m).length ≤ 12 := dec_len (k := 11) (by omega)
    rw [Lib.itoa_neg m (by omega), Lib.atoiAll_short _ (by rw [List.length_cons]; omega)]
    show Lib.NumEnd.ofOption ((Lib.decNat (dec m)).map fun (m : Nat) => -(m : Int)) = _
    rw [decNat_dec]; rfl
  · obtain ⟨m, rfl⟩ : ∃ m : Nat, v = (m : Int) := ⟨v.toNat, by omega⟩
    have hl : (Lib.decDigits m).length ≤ 12 := dec_len (k := 11) (by omega)
    rw [Lib.itoa_nonneg, Lib.atoiAll_short _ (by omega)]
    obtain ⟨b, r, e, hb⟩ := dec_cons m
    have hb2 := (isD_iff b).1 hb
    have n1 : (b == 45) = false := beq_eq_false_iff_ne.2 (fun q => by subst q; exact absurd hb2.1 (by decide))
    have n2 : (b == 43) = false := beq_eq_false_iff_ne.2 (fun q => by subst q; exact absurd hb2.1 (by decide))
    have : Lib.atoi (dec m) = (Lib.decNat (dec m)).map fun (m : Nat) => (m : Int) := by
      rw [e]
      simp only [Lib.atoi, n1, n2]
      rfl
    rw [this, decNat_dec]; rfl
theorem trimPre_len (l p : List UInt8) : (Lib.trimPrefix l p).length ≤ l.length := by
  unfold Lib.trimPrefix
  split
  · rw [List.length_drop]; omega
  · exact Nat.le_refl _
theorem itoa_len (v : Int) (h0 : -100000000000 ≤ v) (h1 : v ≤ 100000000000) : (Lib.itoa v).length ≤ 13 := by
  by_cases h : v < 0
  · obtain ⟨m, rfl⟩ : ∃ m : Nat, v = -(m : Int) := ⟨v.natAbs, by omega⟩
    have hl : (Lib.decDigits m).length ≤ 12 := dec_len (k := 11) (by omega)
    rw [Lib.itoa_neg m (by omega), List.length_cons]; omega
  · obtain ⟨m, rfl⟩ : ∃ m : Nat, v = (m : Int) := ⟨v.toNat, by omega⟩
    have hl : (Lib.decDigits m).length ≤ 12 := dec_len (k := 11) (by omega)
    rw [Lib.itoa_nonneg]; omega
theorem numS_itoa (v : Int) (h0 : -100000000000 ≤ v) (h1 : v ≤ 100000000000) : numS (Lib.itoa v) 18 = (v, true) := by
  unfold numS
  rw [atoi_itoa v h0 h1]
  have := trimPre_len (Lib.itoa v) [45]
  have := itoa_len v h0 h1
  simp only [if_true]
  rw [if_neg (by omega)]
/-! ### canonical numerals -/
theorem dval_nonneg : ∀ (l : List UInt8) (acc : Int), 0 ≤ acc → (∀ b ∈ l, isD b = true) → acc ≤ dval acc l
  | [], acc, h, _ => Int.le_refl _
  | b :: l, acc, h, hd => by
    have hb := (isD_iff b).1 (hd b (by simp))
    have := dval_nonneg l (10 * acc + ((b.toNat : Int) - 48)) (by omega) (fun x hx => hd x (by simp [hx]))
    show acc ≤ dval (10 * acc + ((b.toNat : Int) - 48)) l
    omega
theorem canon_snoc : ∀ (n : Nat) (l : List UInt8), l.length = n → (∀ b ∈ l, isD b = true) → l ≠ [] → (1 < l.length → l.head? ≠ some 48) → ∃ m : Nat, dval 0 l = (m : Int) ∧ l = dec m ∧ (1 < l.length → 1 ≤ m) := by
  intro n
  induction n with
  | zero => intro l hl _ hne _; exact absurd (List.eq_nil_of_length_eq_zero hl) hne
  | succ n ih =>
    intro l hl hd hne hh
    obtain ⟨l', d, rfl⟩ : ∃ l' d, l = l' ++ [d] := ⟨l.dropLast, l.getLast hne, (List.dropLast_concat_getLast hne).symm⟩
    have hdd := (isD_iff d).1 (hd d (by simp))
    have ed : dval (dval 0 l') [d] = 10 * dval 0 l' + ((d.toNat : Int) - 48) := rfl
    cases l' with
    | nil =>
      refine ⟨d.toNat - 48, ?_, ?_, fun h => by simp at h⟩
      · show 10 * 0 + ((d.toNat : Int) - 48) = _; omega
      · rw [dec_small (by omega), show 48 + (d.toNat - 48) = d.toNat by omega, UInt8.ofNat_toNat]; rfl
    | cons c r =>
      rw [List.length_append, List.length_singleton] at hl
      obtain ⟨m, h1, h2, h3⟩ := ih (c :: r) (by omega) (fun b hb => hd b (by rw [List.mem_append]; exact .inl hb)) (by simp) (fun _ => by
        have := hh (by simp)
        simpa using this)
      have hm : 1 ≤ m := by
        by_cases hr : r = []
        · subst hr
          have h4 := hh (by simp)
          have hc := (isD_iff c).1 (hd c (by simp))
          have h5 : dval 0 [c] = 10 * 0 + ((c.toNat : Int) - 48) := rfl
          rw [h1] at h5
          have : c.toNat ≠ 48 := fun q => h4 (by
            have : c = 48 := UInt8.toNat_inj.1 q
            rw [this]; rfl)
          omega
        · exact h3 (by
            cases r with
            | nil => exact absurd rfl hr
            | cons x r => simp)
      refine ⟨10 * m + (d.toNat - 48), ?_, ?_, fun _ => by omega⟩
      · rw [dval_app, ed, h1]; omega
      · rw [dec_big (by omega), show (10 * m + (d.toNat - 48)) / 10 = m by omega, show 48 + (10 * m + (d.toNat - 48)) % 10 = d.toNat by omega, UInt8.ofNat_toNat, ← h2]
def natS (m : Nat) (l : List UInt8) : Int × Bool := if 1 ≤ l.length ∧ l.length ≤ m ∧ (1 < l.length → l.head? ≠ some 48) ∧ l.all isD = true then (dval 0 l, true) else (0, false)
theorem natS_dec (m : Nat) (h : m < 10000000000) : natS 10 (dec m) = ((m : Int), true) := by
  have hl : (dec m).length ≤ 10 := dec_len (k := 9) (by omega)
  obtain ⟨b, r, e, _⟩ := dec_cons m
  unfold natS
  rw [if_pos ⟨by rw [e]; simp, hl, fun q => dec_head (by
    rcases Nat.eq_zero_or_pos m with h0 | h0
    · subst h0
      rw [dec_small (by decide)] at q
      exact absurd q (by simp)
    · exact h0), List.all_eq_true.2 (dec_digits m)⟩, dval_dec]
theorem natS_ok {l : List UInt8} {v : Int} (h : natS 10 l = (v, true)) : ∃ m : Nat, v = (m : Int) ∧ l = dec m ∧ l.length ≤ 10 := by
  unfold natS at h
  split at h
  · rename_i c
    obtain ⟨rfl, _⟩ := Prod.mk.inj h
    obtain ⟨m, h1, h2, _⟩ := canon_snoc l.length l rfl (List.all_eq_true.1 c.2.2.2) (fun q => by subst q; exact absurd c.1 (by simp)) c.2.2.1
    exact ⟨m, h1, h2, c.2.1⟩
  · cases (Prod.mk.inj h).2
theorem natS_no {l : List UInt8} {v : Int} (h : natS 10 l = (v, false)) (m : Nat) (hm : m < 10000000000) : l ≠ dec m := by
  rintro rfl
  rw [natS_dec m hm] at h
  cases (Prod.mk.inj h).2
theorem dec_bound {m : Nat} (h : (dec m).length ≤ 10) : m < 10000000000 := by
  have h1 := Lib.decFrom_lt (dec m) 0 m (by
    have := decNat_dec m
    unfold Lib.decNat at this
    split at this
    · cases this
    · exact this)
  have : 10 ^ (dec m).length ≤ 10 ^ 10 := Nat.pow_le_pow_right (by decide) h
  omega
/-! ### marks in front -/
theorem trim_none (l : List UInt8) (h : ∀ b, l.head? = some b → b ≠ 64 ∧ b ≠ 35) : Lib.trimLeftS l [64, 35] = l := by
  cases l with
  | nil => rfl
  | cons b r =>
    have := h b rfl
    unfold Lib.trimLeftS
    rw [List.dropWhile_cons_of_neg]
    simp [this.1, this.2]
theorem itoa_head (v : Int) : ∀ b, (Lib.itoa v).head? = some b → b ≠ 64 ∧ b ≠ 35 := by
  intro b hb
  by_cases h : v < 0
  · obtain ⟨m, rfl⟩ : ∃ m : Nat, v = -(m : Int) := ⟨v.natAbs, by omega⟩
    rw [Lib.itoa_neg m (by omega)] at hb
    obtain rfl : 45 = b := Option.some.inj hb
    exact ⟨by decide, by decide⟩
  · obtain ⟨m, rfl⟩ : ∃ m : Nat, v = (m : Int) := ⟨v.toNat, by omega⟩
    obtain ⟨c, r, e, hc⟩ := dec_cons m
    rw [Lib.itoa_nonneg] at hb
    have hb' : (dec m).head? = some b := hb
    rw [e] at hb'
    obtain rfl : c = b := Option.some.inj hb'
    have := (isD_iff c).1 hc
    exact ⟨fun q => by subst q; exact absurd this.2 (by decide), fun q => by subst q; exact absurd this.1 (by decide)⟩
theorem trim_mark (c : UInt8) (hc : c = 64 ∨ c = 35) (v : Int) : Lib.trimLeftS (c :: Lib.itoa v) [64, 35] = Lib.itoa v := by
  have := trim_none (Lib.itoa v) (itoa_head v)
  unfold Lib.trimLeftS at this ⊢
  rw [List.dropWhile_cons_of_pos (by rcases hc with rfl | rfl <;> decide)]
  exact this
theorem trim_itoa (v : Int) : Lib.trimLeftS (Lib.itoa v) [64, 35] = Lib.itoa v := trim_none _ (itoa_head v)
/-! ### quoted strings -/
theorem qAll_cons (b : UInt8) (t : List UInt8) : qAll (b :: t) = qB b ++ qAll t := by unfold qAll; rw [List.flatMap_cons]
theorem qB_pos {b : UInt8} (h : b = 34 ∨ b = 92) : qB b = [92, b] := by unfold qB; rw [if_pos h]
theorem qB_neg {b : UInt8} (h : ¬ (b = 34 ∨ b = 92)) : qB b = [b] := by unfold qB; rw [if_neg h]
theorem unqL_qAll : ∀ t : List UInt8, unqL (qAll t) = t
  | [] => by simp [qAll, unqL]
  | b :: t => by
    have ih := unqL_qAll t
    rw [qAll_cons]
    by_cases h : b = 34 ∨ b = 92
    · rw [qB_pos h]
      show unqL (92 :: b :: qAll t) = _
      rw [unqL_esc, ih]
    · rw [qB_neg h]
      show unqL (b :: qAll t) = _
      rw [unqL_cons b _ (fun q => h (.inr q)), ih]
theorem rem_quoted (t : List UInt8) : rem (34 :: t ++ [34]) 1 = t := by
  unfold rem
  have : (34 :: t ++ [34] : List UInt8).length - 1 - 1 = t.length := by simp
  rw [this]
  show (t ++ [34]).take t.length = t
  rw [List.take_left]
theorem unqS_quoted (t : List UInt8) : (unqS (34 :: qAll t ++ [34])).1 = t := by
  unfold unqS
  rw [if_neg (by simp), if_pos ⟨rfl, by
    have : (34 :: qAll t ++ [34] : List UInt8).length - 1 = (34 :: qAll t).length := by simp
    rw [this, List.getElem?_append_right (Nat.le_refl _)]; simp⟩, rem_quoted, unqL_qAll]
/-- The reference's reading of what stands between the marks. -/
def rq : List UInt8 → Option (List UInt8)
  | [] => some []
  | [b] => if b = 34 ∨ b = 92 then none else some [b]
  | b :: c :: r => if b = 34 then none else if b = 92 then (if c = 34 ∨ c = 92 then (rq r).map (c :: ·) else none) else (rq (c :: r)).map (b :: ·)
theorem rq_cons (b : UInt8) (r : List UInt8) (h : ¬ (b = 34 ∨ b = 92)) : rq (b :: r) = (rq r).map (b :: ·) := by
  cases r with
  | nil => simp [rq, h]
  | cons c r =>
    simp only [rq]
    rw [if_neg (fun q => h (.inl q)), if_neg (fun q => h (.inr q))]
theorem rq_esc (c : UInt8) (r : List UInt8) : rq (92 :: c :: r) = if c = 34 ∨ c = 92 then (rq r).map (c :: ·) else none := by
  show (if (92 : UInt8) = 34 then none else if (92 : UInt8) = 92 then (if c = 34 ∨ c = 92 then (rq r).map (c :: ·) else none) else (rq (c :: r)).map ((92 : UInt8) :: ·)) = _
  rw [if_neg (by decide), if_pos rfl]
theorem rq_34 (r : List UInt8) : rq (34 :: r) = none := by
  cases r with
  | nil => simp [rq]
  | cons c r => simp [rq]
theorem rq_92 : rq [92] = none := by simp [rq]
theorem rq_qAll : ∀ t : List UInt8, rq (qAll t) = some t
  | [] => by simp [qAll, rq]
  | b :: t => by
    have ih := rq_qAll t
    rw [qAll_cons]
    by_cases h : b = 34 ∨ b = 92
    · rw [qB_pos h]
      show rq (92 :: b :: qAll t) = _
      rw [rq_esc, if_pos h, ih]; rfl
    · rw [qB_neg h]
      show rq (b :: qAll t) = _
      rw [rq_cons b _ h, ih]; rfl
theorem rq_some : ∀ (n : Nat) (l t : List UInt8), l.length ≤ n → rq l = some t → l = qAll t := by
  intro n
  induction n with
  | zero =>
    intro l t hl h
    have : l = [] := List.eq_nil_of_length_eq_zero (by omega)
    subst this
    simp [rq] at h
    subst h; rfl
  | succ n ih =>
    intro l t hl h
    cases l with
    | nil => simp [rq] at h; subst h; rfl
    | cons b r =>
      rw [List.length_cons] at hl
      by_cases hb : b = 34 ∨ b = 92
      · rcases hb with rfl | rfl
        · rw [rq_34] at h; cases h
        · cases r with
          | nil => rw [rq_92] at h; cases h
          | cons c r =>
            rw [rq_esc] at h
            rw [List.length_cons] at hl
            by_cases hc : c = 34 ∨ c = 92
            · rw [if_pos hc] at h
              obtain ⟨t', h1, rfl⟩ := Option.map_eq_some_iff.1 h
              rw [ih r t' (by omega) h1, qAll_cons, qB_pos hc]; rfl
            · rw [if_neg hc] at h; cases h
      · rw [rq_cons b r hb] at h
        obtain ⟨t', h1, rfl⟩ := Option.map_eq_some_iff.1 h
        rw [ih r t' (by omega) h1, qAll_cons, qB_neg hb]; rfl
end Go.Proofs.YtijajimooldhiaaDoor.TrP
