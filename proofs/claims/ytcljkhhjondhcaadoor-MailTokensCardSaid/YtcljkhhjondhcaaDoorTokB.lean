/- The pure statement of MailTokens, its second half: for every subject and key the printed FindToken and TokenIn answer alike. -/
import Derived.Test.YtcljkhhjondhcaaDoorTok
namespace Go.Proofs.YtcljkhhjondhcaaDoor.TokIa
open Go.RowKit Go.Proofs.YtcljkhhjondhcaaDoorW.PrintWords Go.Proofs.YtcljkhhjondhcaaDoor.Ext Go.Proofs.YtcljkhhjondhcaaDoor.Ia Go.Proofs.YtcljkhhjondhcaaDoor.Pl

theorem isDigit_f (b : UInt8) : portref1_isDigit.f (b.toNat : Int) = some (isD b) := by
  unfold portref1_isDigit.f isD
  by_cases h : 48 ≤ b.toNat
  · rw [if_pos (by omega), decide_eq_true h, Bool.true_and]
    congr 1
    rw [Bool.eq_iff_iff]; simp; omega
  · rw [if_neg (by omega), decide_eq_false h, Bool.false_and]
theorem digit_f (b : UInt8) : mail_digit.f (b.toNat : Int) = some (isD b) := isDigit_f b
theorem hasPrefix_f (a p : ByteArray) : strings_HasPrefix.f a p = some ((bl p).isPrefixOf (bl a)) := by
  unfold strings_HasPrefix.f stringslite_HasPrefix.f
  have ha := bl_size a
  have hp := bl_size p
  by_cases h : (bl p).length ≤ (bl a).length
  · rw [if_pos (by omega), if_pos (by omega), if_pos (by omega), toList_bl, toList_bl, bl_take, Option.bind_some, ← pre_take _ _ h]
    congr 3
  · rw [if_neg (by omega), pre_short _ _ h]; rfl
theorem cutPrefix_f (a p : ByteArray) : strings_CutPrefix.f a p = some (if (bl p).isPrefixOf (bl a) = true then (ba ((bl a).drop (bl p).length), true) else (a, false)) := by
  have hh : stringslite_HasPrefix.f a p = some ((bl p).isPrefixOf (bl a)) := by
    have := hasPrefix_f a p
    unfold strings_HasPrefix.f at this
    cases hs : stringslite_HasPrefix.f a p with
    | none => rw [hs] at this; cases this
    | some v => rw [hs] at this; exact this
  unfold strings_CutPrefix.f stringslite_CutPrefix.f
  rw [hh]
  have ha := bl_size a
  have hp := bl_size p
  by_cases h : (bl p).isPrefixOf (bl a) = true
  · have hl : (bl p).length ≤ (bl a).length := by
      by_cases hl : (bl p).length ≤ (bl a).length
      · exact hl
      · rw [pre_short _ _ hl] at h; cases h
    simp only [Option.bind_some]
    rw [if_pos h, if_pos (by omega), if_pos (by omega), if_pos h]
    simp only [Option.bind_some]
    congr 2
    refine eq_ba ?_
    rw [bl_drop]
    congr 1
  · simp only [Option.bind_some]
    rw [if_neg h, if_neg h]
    rfl

/-! ### natural -/
def natS (m : Nat) (l : List UInt8) : Int × Bool := if 1 ≤ l.length ∧ l.length ≤ m ∧ (1 < l.length → l.head? ≠ some 48) ∧ l.all isD = true then (dval 0 l, true) else (0, false)
theorem pow18 {i a : Nat} (h : a < 10 ^ i) (hi : i ≤ 17) : a < 100000000000000000 := by
  have : 10 ^ i ≤ 10 ^ 17 := Nat.pow_le_pow_right (by decide) hi
  omega
theorem nat_l0 (L : List UInt8) (hL : L.length ≤ 18) : ∀ (d i a : Nat), i + d = L.length → a < 10 ^ i →
    Ev (fun k => portref1_natural.l0 k (ba L) (a : Int) (i : Int)) (if (L.drop i).all isD = true then (dval (a : Int) (L.drop i), true) else (0, false)) := by
  intro d
  induction d with
  | zero =>
    intro i a hi ha
    have hz := ba_size L
    have e4 : L.drop i = [] := List.drop_eq_nil_of_le (by omega)
    refine Ev.shift ?_
    simp only [portref1_natural.l0]
    refine Ev.neg (by omega) ?_
    rw [e4]
    rw [if_pos (by rfl)]
    exact Ev.cst rfl
  | succ d ih =>
    intro i a hi ha
    have hlt : i < L.length := by omega
    have hz := ba_size L
    have hbt : bt (ba L) (i : Int) = ((L[i]'hlt).toNat : Int) := bt_nat (by rw [bl_ba]; exact List.getElem?_eq_getElem hlt)
    have ha' := pow18 ha (by omega)
    refine Ev.shift ?_
    simp only [portref1_natural.l0]
    refine Ev.pos (by omega) ?_
    refine Ev.pos (by omega) ?_
    rw [hbt]
    rw [isDigit_f]
    rw [List.drop_eq_getElem_cons hlt]
    simp only [Option.bind_some]
    by_cases hd : isD L[i] = true
    · obtain ⟨c0, c1⟩ := isD_bd hd
      have e : ((L[i].toNat : Int) - 48) % 256 = (L[i].toNat : Int) - 48 := by omega
      refine Ev.pos hd ?_
      rw [e]
      rw [w64 (x := 10 * (a : Int)) (by omega) (by omega)]
      rw [w64 (by omega) (by omega)]
      rw [w64 (by omega) (by omega)]
      have := ih (i + 1) (10 * a + (L[i].toNat - 48)) (by omega) (by rw [Nat.pow_succ]; omega)
      have ec : ((10 * a + (L[i].toNat - 48) : Nat) : Int) = 10 * (a : Int) + ((L[i].toNat : Int) - 48) := by omega
      rw [ec] at this
      simp only [List.all_cons, hd, Bool.true_and, dval]
      exact this
    · refine Ev.neg hd ?_
      rw [Bool.not_eq_true] at hd
      have e : (L[i] :: L.drop (i + 1)).all isD = false := by rw [List.all_cons, hd, Bool.false_and]
      rw [if_neg (show ¬ ((L[i] :: List.drop (i + 1) L).all isD = true) from by rw [e]; decide)]
      exact Ev.cst rfl
theorem nat_ev (L : List UInt8) (m : Nat) (hm : m ≤ 18) : Ev (fun k => portref1_natural.f k (ba L) (m : Int)) (natS m L) := by
  have hz := ba_size L
  unfold portref1_natural.f natS
  by_cases h1 : L.length < 1
  · refine Ev.pos (by omega) ?_
    rw [if_neg (by omega)]
    refine Ev.shift ?_
    simp only [portref1_natural.j0, if_true]
    exact Ev.cst rfl
  refine Ev.neg (by omega) ?_
  by_cases h2 : L.length > m
  · refine Ev.pos (by omega) ?_
    rw [if_neg (by omega)]
    refine Ev.shift ?_
    simp only [portref1_natural.j0, if_true]
    exact Ev.cst rfl
  refine Ev.neg (by omega) ?_
  have go : ∀ b : Bool, (b = false ↔ (1 < L.length → L.head? ≠ some 48)) → Ev (fun k => portref1_natural.j0 k (ba L) b) (if 1 ≤ L.length ∧ L.length ≤ m ∧ (1 < L.length → L.head? ≠ some 48) ∧ L.all isD = true then (dval 0 L, true) else (0, false)) := by
    intro b hb
    refine Ev.shift ?_
    simp only [portref1_natural.j0]
    cases b with
    | true =>
      refine Ev.pos rfl ?_
      rw [if_neg (show ¬ (_ ∧ _ ∧ _ ∧ _) from fun h => by have := hb.2 h.2.2.1; cases this)]
      exact Ev.cst rfl
    | false =>
      refine Ev.neg (by decide) ?_
      have := nat_l0 L (by omega) L.length 0 0 (by omega) (by decide)
      rw [List.drop_zero] at this
      by_cases ha : L.all isD = true
      · rw [if_pos ha] at this
        rw [if_pos ⟨by omega, by omega, hb.1 rfl, ha⟩]
        exact this
      · rw [if_neg ha] at this
        rw [if_neg (show ¬ (_ ∧ _ ∧ _ ∧ _) from fun h => ha h.2.2.2)]
        exact this
  by_cases h3 : L.length > 1
  · refine Ev.pos (by omega) ?_
    refine Ev.pos (by omega) ?_
    refine go _ ?_
    have hbt : bt (ba L) ((0 : Nat) : Int) = ((L[0]'(by omega)).toNat : Int) := bt_nat (by rw [bl_ba]; exact List.getElem?_eq_getElem (by omega))
    have hbt' : bt (ba L) 0 = ((L[0]'(by omega)).toNat : Int) := hbt
    rw [hbt', beq_eq_false_iff_ne]
    have hh : L.head? = some (L[0]'(by omega)) := by rw [List.head?_eq_getElem?, List.getElem?_eq_getElem]
    rw [hh]
    constructor
    · intro h _ e
      injection e with e
      rw [e] at h
      exact h rfl
    · intro h e
      refine h (by omega) ?_
      congr 1
      apply UInt8.toNat_inj.1
      have : (48 : UInt8).toNat = 48 := rfl
      omega
  · refine Ev.neg (by omega) ?_
    exact go _ ⟨fun _ h => absurd h (by omega), fun _ => rfl⟩

/-! ### FindToken -/
def lead : Nat → Int → List UInt8 → Int
  | 0, acc, _ => acc
  | _ + 1, acc, [] => acc
  | m + 1, acc, b :: l => if isD b = true then lead m (10 * acc + ((b.toNat : Int) - 48)) l else acc
theorem lead_bd : ∀ (d : Nat) (acc : Int) (l : List UInt8) (e : Nat), 0 ≤ acc → acc < 10 ^ e → 0 ≤ lead d acc l ∧ lead d acc l < 10 ^ (e + d)
  | 0, acc, l, e, h0, h1 => ⟨h0, h1⟩
  | d + 1, acc, [], e, h0, h1 => ⟨h0, Int.lt_of_lt_of_le h1 (by
      have : (10 : Nat) ^ e ≤ 10 ^ (e + (d + 1)) := Nat.pow_le_pow_right (by decide) (by omega)
      exact_mod_cast this)⟩
  | d + 1, acc, b :: l, e, h0, h1 => by
    unfold lead
    by_cases h : isD b = true
    · rw [if_pos h]
      obtain ⟨c0, c1⟩ := isD_bd h
      have hp : (10 : Int) ^ (e + 1) = 10 * 10 ^ e := by rw [Int.pow_succ]; omega
      have := lead_bd d (10 * acc + ((b.toNat : Int) - 48)) l (e + 1) (by omega) (by omega)
      rw [show e + (d + 1) = e + 1 + d by omega]
      exact this
    · rw [if_neg h]
      exact ⟨h0, Int.lt_of_lt_of_le h1 (by
        have : (10 : Nat) ^ e ≤ 10 ^ (e + (d + 1)) := Nat.pow_le_pow_right (by decide) (by omega)
        exact_mod_cast this)⟩
theorem lead5 (l : List UInt8) : 0 ≤ lead 5 0 l ∧ lead 5 0 l ≤ 99999 := by
  have := lead_bd 5 0 l 0 (by omega) (by omega)
  have e : (10 : Int) ^ (0 + 5) = 100000 := by decide
  omega
theorem lead_dec : ∀ (D : List UInt8) (d : Nat) (acc : Int) (b : UInt8) (r : List UInt8), (∀ x ∈ D, isD x = true) → D.length ≤ d → isD b = false → lead d acc (D ++ b :: r) = dval acc D
  | [], 0, acc, b, r, _, _, _ => rfl
  | [], d + 1, acc, b, r, _, _, hb => by simp [lead, hb, dval]
  | x :: D, 0, acc, b, r, _, hl, _ => by simp at hl
  | x :: D, d + 1, acc, b, r, hD, hl, hb => by
    have hx := hD x (by simp)
    simp only [List.cons_append, lead, hx, if_true, dval]
    exact lead_dec D d _ b r (fun y hy => hD y (by simp [hy])) (by simpa using hl) hb

theorem find_l1 (s : ByteArray) (key x6 x12 x13 : Int) (R : List UInt8) (r : Int × Bool) : ∀ (d j a : Nat), j + d = 5 → a < 10 ^ j →
    Ev (fun k => mail_FindToken.j2 k s key x6 (lead d (a : Int) (R.drop j)) x12 x13) r → Ev (fun k => mail_FindToken.l1 k s key x6 (ba R) (a : Int) (j : Int) x12 x13) r := by
  intro d
  induction d with
  | zero =>
    intro j a hj ha h
    refine Ev.shift ?_
    simp only [mail_FindToken.l1]
    by_cases hs : (j : Int) < ((ba R).size : Int)
    · refine Ev.pos hs ?_
      refine Ev.neg (by omega) ?_
      exact h
    · refine Ev.neg hs ?_
      exact h
  | succ d ih =>
    intro j a hj ha h
    have hz := ba_size R
    have ha' := pow18 ha (by omega)
    refine Ev.shift ?_
    simp only [mail_FindToken.l1]
    by_cases hs : j < R.length
    · have hbt : bt (ba R) (j : Int) = ((R[j]'hs).toNat : Int) := bt_nat (by rw [bl_ba]; exact List.getElem?_eq_getElem hs)
      refine Ev.pos (by omega) ?_
      refine Ev.pos (by omega) ?_
      refine Ev.pos (by omega) ?_
      rw [hbt]
      rw [digit_f]
      simp only [Option.bind_some]
      rw [List.drop_eq_getElem_cons hs] at h
      by_cases hd : isD R[j] = true
      · obtain ⟨c0, c1⟩ := isD_bd hd
        have e : ((R[j].toNat : Int) - 48) % 256 = (R[j].toNat : Int) - 48 := by omega
        refine Ev.pos hd ?_
        rw [e]
        rw [w64 (x := 10 * (a : Int)) (by omega) (by omega)]
        rw [w64 (by omega) (by omega)]
        rw [w64 (by omega) (by omega)]
        have ec : ((10 * a + (R[j].toNat - 48) : Nat) : Int) = 10 * (a : Int) + ((R[j].toNat : Int) - 48) := by omega
        have := ih (j + 1) (10 * a + (R[j].toNat - 48)) (by omega) (by rw [Nat.pow_succ]; omega)
        rw [ec] at this
        refine this ?_
        simp only [lead, hd, if_true] at h
        exact h
      · refine Ev.neg hd ?_
        simp only [lead, if_neg hd] at h
        exact h
    · refine Ev.neg (by omega) ?_
      rw [List.drop_eq_nil_of_le (by omega)] at h
      exact h

def fS (key : Int) : List UInt8 → Int × Bool
  | [] => (0, false)
  | b :: l => if [91, 35].isPrefixOf (b :: l) = true ∧ 0 < lead 5 0 ((b :: l).drop 2) ∧ (tokL (lead 5 0 ((b :: l).drop 2)).toNat key).isPrefixOf (b :: l) = true then (lead 5 0 ((b :: l).drop 2), true) else fS key l
theorem find_l0 (s : ByteArray) (key : Int) (hs : s.size ≤ 140737488351232) : ∀ (d i : Nat), i + d = (bl s).length →
    Ev (fun k => mail_FindToken.l0 k s key (s.size : Int) (i : Int)) (fS key ((bl s).drop i)) := by
  have hz := bl_size s
  intro d
  induction d with
  | zero =>
    intro i hi
    refine Ev.shift ?_
    simp only [mail_FindToken.l0]
    refine Ev.neg (by omega) ?_
    rw [List.drop_eq_nil_of_le (by omega)]
    exact Ev.cst rfl
  | succ d ih =>
    intro i hi
    have hlt : i < (bl s).length := by omega
    have ih' := ih (i + 1) (by omega)
    have hw : wrap64 ((i : Int) + 1) = ((i + 1 : Nat) : Int) := by rw [w64 (by omega) (by omega)]; omega
    refine Ev.shift ?_
    simp only [mail_FindToken.l0, cutPrefix_f]
    refine Ev.pos (by omega) ?_
    refine Ev.pos (by omega) ?_
    refine Ev.pos (by omega) ?_
    simp only [Option.bind_some, Int.toNat_natCast, bl_drop]
    rw [List.drop_eq_getElem_cons hlt]
    unfold fS
    by_cases hp : [91, 35].isPrefixOf ((bl s)[i] :: (bl s).drop (i + 1)) = true
    · rw [if_pos hp]
      simp only [if_true]
      refine find_l1 s key i _ i _ _ 5 0 0 (by omega) (by decide) ?_
      rw [List.drop_zero]
      have hb := lead5 (((bl s)[i] :: (bl s).drop (i + 1)).drop 2)
      obtain ⟨n, hn⟩ : ∃ n : Nat, lead 5 0 (((bl s)[i] :: (bl s).drop (i + 1)).drop 2) = (n : Int) := ⟨(lead 5 0 (((bl s)[i] :: (bl s).drop (i + 1)).drop 2)).toNat, by omega⟩
      have hn2 : lead 5 ((0 : Nat) : Int) (List.drop (bl (⟨#[91, 35]⟩ : ByteArray)).length ((bl s)[i] :: (bl s).drop (i + 1))) = (n : Int) := hn
      rw [hn2, hn]
      rw [hn] at hb
      refine Ev.shift ?_
      simp only [mail_FindToken.j2]
      by_cases hpos : 0 < (n : Int)
      · refine Ev.pos hpos ?_
        refine Ev.pos (by omega) ?_
        refine Ev.pos (by omega) ?_
        refine Ev.bind (token_ev n key (by omega)) ?_
        rw [hasPrefix_f, bl_ba]
        simp only [Option.bind_some, Int.toNat_natCast, bl_drop]
        rw [List.drop_eq_getElem_cons hlt]
        by_cases ht : (tokL n key).isPrefixOf ((bl s)[i] :: (bl s).drop (i + 1)) = true
        · refine Ev.pos ht ?_
          rw [if_pos ⟨hp, hpos, ht⟩]
          exact Ev.cst rfl
        · refine Ev.neg ht ?_
          rw [if_neg (show ¬ (_ ∧ _ ∧ _) from fun h => ht h.2.2)]
          rw [hw]
          exact ih'
      · refine Ev.neg hpos ?_
        rw [if_neg (show ¬ (_ ∧ _ ∧ _) from fun h => hpos h.2.1)]
        rw [hw]
        exact ih'
    · rw [if_neg hp]
      rw [if_neg (show ¬ (_ ∧ _ ∧ _) from fun h => hp h.1)]
      simp only [Bool.false_eq_true, if_false]
      rw [hw]
      exact ih'

/-! ### TokenIn -/
def runOf (l : List UInt8) : List UInt8 := l.takeWhile isD
theorem runOf_take (l : List UInt8) : l.take (runOf l).length = runOf l := (List.prefix_iff_eq_take.1 (List.takeWhile_prefix isD)).symm
theorem runOf_le (l : List UInt8) : (runOf l).length ≤ l.length := (List.takeWhile_prefix isD).length_le
theorem in_l1 (s : ByteArray) (key x6 x11 x12 : Int) (hs : s.size ≤ 140737488351232) (r : Int × Bool) : ∀ (d j : Nat), j + d = (bl s).length →
    Ev (fun k => portref1_TokenIn.j2 k s key x6 ((j + (runOf ((bl s).drop j)).length : Nat) : Int) x11 x12) r → Ev (fun k => portref1_TokenIn.l1 k s key x6 (j : Int) x11 x12) r := by
  have hz := bl_size s
  intro d
  induction d with
  | zero =>
    intro j hj h
    rw [List.drop_eq_nil_of_le (by omega)] at h
    refine Ev.shift ?_
    simp only [portref1_TokenIn.l1]
    refine Ev.neg (by omega) ?_
    exact h
  | succ d ih =>
    intro j hj h
    have hlt : j < (bl s).length := by omega
    have hbt : bt s (j : Int) = (((bl s)[j]'hlt).toNat : Int) := bt_nat (List.getElem?_eq_getElem hlt)
    refine Ev.shift ?_
    simp only [portref1_TokenIn.l1]
    refine Ev.pos (by omega) ?_
    refine Ev.pos (by omega) ?_
    rw [hbt]
    rw [isDigit_f]
    simp only [Option.bind_some]
    rw [List.drop_eq_getElem_cons hlt] at h
    by_cases hd : isD (bl s)[j] = true
    · refine Ev.pos hd ?_
      rw [w64 (by omega) (by omega)]
      have := ih (j + 1) (by omega)
      refine this ?_
      simp only [runOf, List.takeWhile_cons, hd, if_true, List.length_cons] at h ⊢
      rw [show j + 1 + (List.takeWhile isD (List.drop (j + 1) (bl s))).length = j + ((List.takeWhile isD (List.drop (j + 1) (bl s))).length + 1) by omega]
      exact h
    · refine Ev.neg hd ?_
      simp only [runOf, List.takeWhile_cons, if_neg hd, List.length_nil] at h
      exact h
def tS (key : Int) : List UInt8 → Int × Bool
  | [] => (0, false)
  | b :: l => if [91, 35].isPrefixOf (b :: l) = true ∧ (natS 5 (runOf ((b :: l).drop 2))).2 = true ∧ 1 ≤ (natS 5 (runOf ((b :: l).drop 2))).1 ∧ (tokL (natS 5 (runOf ((b :: l).drop 2))).1.toNat key).isPrefixOf (b :: l) = true then ((natS 5 (runOf ((b :: l).drop 2))).1, true) else tS key l
theorem dval_bd : ∀ (l : List UInt8) (acc : Int) (e : Nat), (∀ x ∈ l, isD x = true) → 0 ≤ acc → acc < 10 ^ e → 0 ≤ dval acc l ∧ dval acc l < 10 ^ (e + l.length)
  | [], acc, e, _, h0, h1 => ⟨h0, h1⟩
  | b :: l, acc, e, hl, h0, h1 => by
    obtain ⟨c0, c1⟩ := isD_bd (hl b (by simp))
    have hp : (10 : Int) ^ (e + 1) = 10 * 10 ^ e := by rw [Int.pow_succ]; omega
    have := dval_bd l (10 * acc + ((b.toNat : Int) - 48)) (e + 1) (fun x hx => hl x (by simp [hx])) (by omega) (by omega)
    rw [show e + (b :: l).length = e + 1 + l.length by simp; omega]
    exact this
theorem natS5 (l : List UInt8) : 0 ≤ (natS 5 l).1 ∧ (natS 5 l).1 ≤ 99999 := by
  unfold natS
  by_cases h : 1 ≤ l.length ∧ l.length ≤ 5 ∧ (1 < l.length → l.head? ≠ some 48) ∧ l.all isD = true
  · rw [if_pos h]
    have := dval_bd l 0 0 (List.all_eq_true.1 h.2.2.2) (by omega) (by omega)
    have hp : (10 : Nat) ^ (0 + l.length) ≤ 10 ^ 5 := Nat.pow_le_pow_right (by decide) (by omega)
    have h5 : (10 : Nat) ^ 5 = 100000 := by decide
    rw [h5] at hp
    have hp' : (10 : Int) ^ (0 + l.length) = ((10 ^ (0 + l.length) : Nat) : Int) := by rw [Int.natCast_pow]; rfl
    show 0 ≤ dval 0 l ∧ dval 0 l ≤ 99999
    omega
  · rw [if_neg h]
    show (0 : Int) ≤ 0 ∧ (0 : Int) ≤ 99999
    omega
theorem in_l0 (s : ByteArray) (key : Int) (hs : s.size ≤ 140737488351232) : ∀ (d i : Nat), i + d = (bl s).length →
    Ev (fun k => portref1_TokenIn.l0 k s key (s.size : Int) (i : Int)) (tS key ((bl s).drop i)) := by
  have hz := bl_size s
  intro d
  induction d with
  | zero =>
    intro i hi
    refine Ev.shift ?_
    simp only [portref1_TokenIn.l0]
    refine Ev.neg (by omega) ?_
    rw [List.drop_eq_nil_of_le (by omega)]
    exact Ev.cst rfl
  | succ d ih =>
    intro i hi
    have hlt : i < (bl s).length := by omega
    have ih' := ih (i + 1) (by omega)
    have hw : wrap64 ((i : Int) + 1) = ((i + 1 : Nat) : Int) := by rw [w64 (by omega) (by omega)]; omega
    have hw2 : wrap64 ((i : Int) + 2) = ((i + 2 : Nat) : Int) := by rw [w64 (by omega) (by omega)]; omega
    refine Ev.shift ?_
    simp only [portref1_TokenIn.l0, hasPrefix_f]
    refine Ev.pos (by omega) ?_
    refine Ev.pos (by omega) ?_
    refine Ev.pos (by omega) ?_
    simp only [Option.bind_some, Int.toNat_natCast, bl_drop]
    have hd := List.drop_eq_getElem_cons hlt
    rw [hd]
    unfold tS
    by_cases hp : [91, 35].isPrefixOf ((bl s)[i] :: (bl s).drop (i + 1)) = true
    · refine Ev.pos hp ?_
      rw [hw2]
      have hl2 : i + 2 ≤ (bl s).length := by
        obtain ⟨r, hr⟩ := (pre_iff _ _).1 hp
        have := congrArg List.length hr
        simp at this
        omega
      have he : ((bl s)[i] :: (bl s).drop (i + 1)).drop 2 = (bl s).drop (i + 2) := by rw [← hd, List.drop_drop]
      refine in_l1 s key i _ i hs _ ((bl s).length - (i + 2)) (i + 2) (by omega) ?_
      have hrl := runOf_le ((bl s).drop (i + 2))
      rw [List.length_drop] at hrl
      rw [he]
      refine Ev.shift ?_
      simp only [portref1_TokenIn.j2]
      rw [hw2]
      refine Ev.pos (by omega) ?_
      refine Ev.pos (by omega) ?_
      refine Ev.pos (by omega) ?_
      have ecut : s.extract (((i + 2 : Nat) : Int)).toNat (((i + 2 + (runOf ((bl s).drop (i + 2))).length : Nat) : Int)).toNat = ba (runOf ((bl s).drop (i + 2))) := by
        refine eq_ba ?_
        rw [Int.toNat_natCast, Int.toNat_natCast, bl_cut, show i + 2 + (runOf ((bl s).drop (i + 2))).length - (i + 2) = (runOf ((bl s).drop (i + 2))).length by omega, runOf_take]
      rw [ecut]
      refine Ev.bind (nat_ev (runOf ((bl s).drop (i + 2))) 5 (by omega)) ?_
      have hb := natS5 (runOf ((bl s).drop (i + 2)))
      generalize hN : natS 5 (runOf ((bl s).drop (i + 2))) = N at hb ⊢
      obtain ⟨n0, okk⟩ := N
      obtain ⟨n, rfl⟩ : ∃ n : Nat, n0 = (n : Int) := ⟨n0.toNat, by have := hb.1; simp at this; omega⟩
      simp only at hb ⊢
      by_cases hok : okk = true
      · by_cases hpos : (n : Int) ≥ 1
        · refine Ev.pos hok ?_
          refine Ev.pos hpos ?_
          refine Ev.pos (by omega) ?_
          refine Ev.pos (by omega) ?_
          refine Ev.bind (tokof_ev n key (by omega)) ?_
          rw [hasPrefix_f, bl_ba, Int.toNat_natCast, Int.toNat_natCast, bl_drop]
          simp only [Option.bind_some]
          rw [hd]
          by_cases ht : (tokL n key).isPrefixOf ((bl s)[i] :: (bl s).drop (i + 1)) = true
          · refine Ev.pos ht ?_
            rw [if_pos ⟨hp, hok, hpos, ht⟩]
            exact Ev.cst rfl
          · refine Ev.neg ht ?_
            rw [if_neg (show ¬ (_ ∧ _ ∧ _ ∧ _) from fun h => ht h.2.2.2)]
            rw [hw]
            exact ih'
        · refine Ev.pos hok ?_
          refine Ev.neg hpos ?_
          rw [if_neg (show ¬ (_ ∧ _ ∧ _ ∧ _) from fun h => hpos h.2.2.1)]
          rw [hw]
          exact ih'
      · refine Ev.neg hok ?_
        rw [if_neg (show ¬ (_ ∧ _ ∧ _ ∧ _) from fun h => hok h.2.1)]
        rw [hw]
        exact ih'
    · refine Ev.neg hp ?_
      rw [if_neg (show ¬ (_ ∧ _ ∧ _ ∧ _) from fun h => hp h.1)]
      rw [hw]
      exact ih'

/-! ### the two find the same -/
theorem natS_dec {n : Nat} (h1 : 1 ≤ n) (h2 : n ≤ 99999) : natS 5 (dec n) = ((n : Int), true) := by
  unfold natS
  rw [if_pos ⟨List.length_pos_iff.2 (dec_ne n), dec_len (k := 4) (by omega), fun _ => dec_head h1, List.all_eq_true.2 (dec_digits n)⟩, dval_dec]
theorem tok_run {n : Nat} {key : Int} {m : List UInt8} (h : (tokL n key).isPrefixOf m = true) : ∃ r, m.drop 2 = dec n ++ 45 :: r := by
  obtain ⟨r, hr⟩ := (pre_iff _ _).1 h
  rw [hr]
  unfold tokL
  exact ⟨(dec (10000 + (hs (key % 1000003) (dec n) % 10000).toNat)).drop 1 ++ [93] ++ r, by simp⟩
theorem fS_tS (key : Int) : ∀ l, fS key l = tS key l
  | [] => rfl
  | b :: l => by
    unfold fS tS
    rw [fS_tS key l]
    have d45 : isD 45 = false := by decide
    by_cases hP : [91, 35].isPrefixOf (b :: l) = true ∧ 0 < lead 5 0 ((b :: l).drop 2) ∧ (tokL (lead 5 0 ((b :: l).drop 2)).toNat key).isPrefixOf (b :: l) = true
    · obtain ⟨hp, hpos, ht⟩ := hP
      have hb := lead5 ((b :: l).drop 2)
      obtain ⟨n, hn⟩ : ∃ n : Nat, lead 5 0 ((b :: l).drop 2) = (n : Int) := ⟨(lead 5 0 ((b :: l).drop 2)).toNat, by omega⟩
      rw [if_pos ⟨hp, hpos, ht⟩]
      rw [hn, Int.toNat_natCast] at ht
      obtain ⟨r, hr⟩ := tok_run ht
      have hrun : runOf ((b :: l).drop 2) = dec n := by rw [hr]; exact takeWhile_dec n 45 r d45
      rw [hrun, natS_dec (by omega) (by omega), if_pos ⟨hp, rfl, by show (1 : Int) ≤ n; omega, by rw [Int.toNat_natCast]; exact ht⟩, hn]
    · rw [if_neg hP]
      by_cases hR : [91, 35].isPrefixOf (b :: l) = true ∧ (natS 5 (runOf ((b :: l).drop 2))).2 = true ∧ 1 ≤ (natS 5 (runOf ((b :: l).drop 2))).1 ∧ (tokL (natS 5 (runOf ((b :: l).drop 2))).1.toNat key).isPrefixOf (b :: l) = true
      · exfalso
        obtain ⟨hp, _, hpos, ht⟩ := hR
        have hb := natS5 (runOf ((b :: l).drop 2))
        obtain ⟨n, hn⟩ : ∃ n : Nat, (natS 5 (runOf ((b :: l).drop 2))).1 = (n : Int) := ⟨((natS 5 (runOf ((b :: l).drop 2))).1).toNat, by omega⟩
        rw [hn, Int.toNat_natCast] at ht
        obtain ⟨r, hr⟩ := tok_run ht
        have hle : lead 5 0 ((b :: l).drop 2) = (n : Int) := by
          rw [hr, lead_dec _ 5 0 45 r (dec_digits n) (dec_len (k := 4) (by omega)) d45, dval_dec]
        exact hP ⟨hp, by omega, by rw [hle, Int.toNat_natCast]; exact ht⟩
      · rw [if_neg hR]

theorem law (t key : Int) (s : ByteArray) (ht : (Lit.int .i64 t).wf = true) (hs : s.size ≤ 140737488351232) : ∃ k, portlaw1_MailTokens.f k t key s = some true := by
  have hf : Ev (fun k => mail_FindToken.f k s key) (fS key (bl s)) := by
    have := find_l0 s key hs (bl s).length 0 (by omega)
    exact this
  have hi : Ev (fun k => portref1_TokenIn.f k s key) (fS key (bl s)) := by
    have := in_l0 s key hs (bl s).length 0 (by omega)
    rw [List.drop_zero, ← fS_tS] at this
    exact this
  refine Ev.rounds (g := fun k => portlaw1_MailTokens.f k t key s) ?_
  have tail : ∀ (g : Nat → Bool → Option Bool), (∀ k, g (k + 1) false = ((mail_FindToken.f k s key).bind fun x => ((portref1_TokenIn.f k s key).bind fun y => (if x.1 = y.1 then (some (x.2 == y.2)) else (some false))))) → Ev (fun k => g k false) true := by
    intro g hg
    refine Ev.step hg ?_
    refine Ev.bind hf ?_
    refine Ev.bind hi ?_
    refine Ev.pos rfl ?_
    exact Ev.cst (by simp)
  unfold portlaw1_MailTokens.f
  by_cases h1 : t < 1
  · have ht : Ev (fun k => mail_Token.f k t key) ((⟨#[]⟩ : ByteArray), (2 : Int)) := by
      unfold mail_Token.f
      exact Ev.pos h1 (Ev.cst rfl)
    refine Ev.bind ht ?_
    refine Ev.pos h1 ?_
    refine Ev.shift ?_
    simp only [portlaw1_MailTokens.j0, if_true, toList_bl]
    exact tail (fun k b => portlaw1_MailTokens.j1 k key s b) (fun k => by simp [portlaw1_MailTokens.j1])
  · by_cases h2 : t > 99999
    · have ht : Ev (fun k => mail_Token.f k t key) ((⟨#[]⟩ : ByteArray), (2 : Int)) := by
        unfold mail_Token.f
        exact Ev.neg h1 (Ev.pos h2 (Ev.cst rfl))
      refine Ev.bind ht ?_
      refine Ev.neg h1 ?_
      refine Ev.shift ?_
      simp only [portlaw1_MailTokens.j0, decide_eq_true h2, if_true, toList_bl]
      exact tail (fun k b => portlaw1_MailTokens.j1 k key s b) (fun k => by simp [portlaw1_MailTokens.j1])
    · obtain ⟨n, rfl⟩ : ∃ n : Nat, t = (n : Int) := ⟨t.toNat, by omega⟩
      have ht : Ev (fun k => mail_Token.f k (n : Int) key) (ba (tokL n key), (0 : Int)) := by
        unfold mail_Token.f
        exact Ev.neg h1 (Ev.neg h2 (Ev.bind (token_ev n key (by omega)) (Ev.cst rfl)))
      refine Ev.bind ht ?_
      refine Ev.neg h1 ?_
      refine Ev.shift ?_
      simp only [portlaw1_MailTokens.j0, decide_eq_false h2, Bool.false_eq_true, if_false]
      refine Ev.bind (tokof_ev n key (by omega)) ?_
      refine Ev.pos rfl ?_
      exact tail (fun k b => portlaw1_MailTokens.j2 k key s b) (fun k => by simp [portlaw1_MailTokens.j2])
end Go.Proofs.YtcljkhhjondhcaaDoor.TokIa
