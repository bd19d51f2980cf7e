/- The pure statement of MailTold: for every number and key, and for texts of at most 1048576 bytes before and after, the printed law answers true. -/
import Derived.Test.YtcljkhhjondhcaaDoorIc
import Derived.Test.YtcljkhhjondhcaaDoorKindP
import Derived.Test.YtcljkhhjondhcaaDoorPl
namespace Go.Proofs.YtcljkhhjondhcaaDoor.TokIc
open Go.RowKit Go.Proofs.YtcljkhhjondhcaaDoorW.PrintWords Go.Proofs.YtcljkhhjondhcaaDoor.Ext Go.Proofs.YtcljkhhjondhcaaDoor.Ic Go.Proofs.YtcljkhhjondhcaaDoor.Pl

/-! ### the mark's sum -/
def stepH (h : Int) (b : UInt8) : Int := (31 * h + ((b.toNat : Int) - 48) + 7) % 1000003
def hs (h : Int) (l : List UInt8) : Int := l.foldl stepH h
theorem stepH_lt (h : Int) (b : UInt8) : 0 ≤ stepH h b ∧ stepH h b < 1000003 := by unfold stepH; omega
theorem hs_lt (l : List UInt8) : ∀ h : Int, 0 ≤ h → h < 1000003 → 0 ≤ hs h l ∧ hs h l < 1000003 := by
  induction l with
  | nil => intro h h0 h1; exact ⟨h0, h1⟩
  | cons b l ih => intro h _ _; exact ih _ (stepH_lt h b).1 (stepH_lt h b).2
theorem isD_bd {b : UInt8} (h : isD b = true) : 48 ≤ (b.toNat : Int) ∧ (b.toNat : Int) ≤ 57 := by
  unfold isD at h
  simp at h
  omega
theorem step_eq {h : Int} {b : UInt8} (h0 : 0 ≤ h) (h1 : h < 1000003) (hd : isD b = true) : Int.tmod (wrap64 ((wrap64 ((wrap64 (31 * h)) + (((b.toNat : Int) - 48) % 256))) + 7)) 1000003 = stepH h b := by
  obtain ⟨a, c⟩ := isD_bd hd
  have e : ((b.toNat : Int) - 48) % 256 = (b.toNat : Int) - 48 := by omega
  rw [e, w64 (x := 31 * h) (by omega) (by omega), w64 (x := 31 * h + _) (by omega) (by omega), w64 (by omega) (by omega), Int.tmod_eq_emod_of_nonneg (by omega)]
  rfl
theorem itoa_nat {n : Int} (h0 : 0 ≤ n) (h1 : n ≤ 9223372036854775807) : itoaF n = some (ba (dec n.toNat)) := by
  unfold itoaF
  rw [if_pos (by omega), if_pos h1]
  unfold Lib.itoa
  rw [if_neg (by omega)]
  rfl
theorem tmodM (key : Int) : Int.tmod key 1000003 = if 0 ≤ key then key % 1000003 else -((-key) % 1000003) := by
  by_cases h : 0 ≤ key
  · rw [if_pos h, Int.tmod_eq_emod_of_nonneg h]
  · rw [if_neg h]
    have e : key = -(-key) := by omega
    rw [e, Int.neg_tmod, Int.tmod_eq_emod_of_nonneg (by omega)]
    omega
def tokL (n : Nat) (key : Int) : List UInt8 := 91 :: 35 :: (dec n ++ 45 :: ((dec (10000 + (hs (key % 1000003) (dec n) % 10000).toNat)).drop 1 ++ [93]))

theorem s2 : (⟨#[91, 35]⟩ : ByteArray).size = 2 := rfl
theorem s1 (b : UInt8) : (⟨#[b]⟩ : ByteArray).size = 1 := rfl
theorem drop1_size (s : ByteArray) : (s.extract 1 s.size).size = s.size - 1 := by rw [bl_size, bl_drop, List.length_drop, ← bl_size]

theorem tok_l0 (D : List UInt8) (hD : ∀ b ∈ D, isD b = true) (hl : D.length ≤ 5) : ∀ (d i : Nat) (h : Int), i + d = D.length → 0 ≤ h → h < 1000003 →
    Ev (fun k => mail_token.l0 k h (ba D) ((ba D).size : Int) (i : Int)) (ba (91 :: 35 :: (D ++ 45 :: ((dec (10000 + (hs h (D.drop i) % 10000).toNat)).drop 1 ++ [93])))) := by
  intro d
  induction d with
  | zero =>
    intro i h hi h0 h1
    have e1 : Int.tmod h 10000 = h % 10000 := Int.tmod_eq_emod_of_nonneg h0
    have e2 : wrap64 (10000 + h % 10000) = 10000 + h % 10000 := w64 (by omega) (by omega)
    have e3 : itoaF (10000 + h % 10000) = some (ba (dec (10000 + (h % 10000).toNat))) := by
      rw [itoa_nat (by omega) (by omega)]
      congr 3
      omega
    have e4 : D.drop i = [] := List.drop_eq_nil_of_le (by omega)
    have hz : (ba D).size = D.length := ba_size D
    have hle : (dec (10000 + (h % 10000).toNat)).length ≤ 5 := dec_len (k := 4) (by omega)
    have hge : 1 ≤ (dec (10000 + (h % 10000).toNat)).length := by
      have := List.length_pos_iff.2 (dec_ne (10000 + (h % 10000).toNat)); omega
    have hz2 : (ba (dec (10000 + (h % 10000).toNat))).size = (dec (10000 + (h % 10000).toNat)).length := ba_size _
    refine Ev.shift ?_
    simp only [mail_token.l0]
    refine Ev.neg (by omega) ?_
    refine Ev.pos (by omega) ?_
    refine Ev.pos (by rw [ByteArray.size_append, s2]; omega) ?_
    simp only [strconv_Itoa.f, e1, e2]
    refine Ev.bindc e3 ?_
    refine Ev.pos (by omega) ?_
    refine Ev.pos (by simp only [ByteArray.size_append, s2, s1, drop1_size]; omega) ?_
    refine Ev.pos (by simp only [ByteArray.size_append, s2, s1, drop1_size]; omega) ?_
    refine Ev.cst (congrArg some (eq_ba ?_))
    simp only [bl_app, bl_drop, bl_ba, e4, hs, List.foldl_nil]
    simp
    rfl
  | succ d ih =>
    intro i h hi h0 h1
    have hlt : i < D.length := by omega
    have hb := hD _ (List.getElem_mem hlt)
    have hbt : bt (ba D) (i : Int) = ((D[i]'hlt).toNat : Int) := bt_nat (by rw [bl_ba]; exact List.getElem?_eq_getElem hlt)
    have hz : (ba D).size = D.length := ba_size D
    refine Ev.shift ?_
    simp only [mail_token.l0]
    refine Ev.pos (by omega) ?_
    refine Ev.pos (by omega) ?_
    refine Ev.pos (by omega) ?_
    rw [hbt]
    rw [step_eq h0 h1 hb]
    rw [w64 (by omega) (by omega)]
    have := ih (i + 1) (stepH h D[i]) (by omega) (stepH_lt _ _).1 (stepH_lt _ _).2
    rw [List.drop_eq_getElem_cons hlt]
    exact this
theorem token_ev (n : Nat) (key : Int) (h1 : n ≤ 99999) : Ev (fun k => mail_token.f k (n : Int) key) (ba (tokL n key)) := by
  have hm := tmodM key
  have main : ∀ b : Int, b = key % 1000003 → Ev (fun k => mail_token.j0 k (n : Int) b) (ba (tokL n key)) := by
    intro b hb
    refine Ev.shift ?_
    simp only [mail_token.j0, strconv_Itoa.f]
    rw [itoa_nat (by omega) (by omega)]
    simp only [Option.bind_some, Int.toNat_natCast]
    have := tok_l0 (dec n) (dec_digits n) (dec_len (k := 4) (by omega)) (dec n).length 0 b (by omega) (by omega) (by omega)
    rw [hb] at this ⊢
    exact this
  unfold mail_token.f
  by_cases h : Int.tmod key 1000003 < 0
  · refine Ev.pos h ?_
    have e : wrap64 (Int.tmod key 1000003 + 1000003) = key % 1000003 := by
      rw [hm] at h ⊢
      split at h
      · omega
      · rename_i hk
        rw [if_neg hk, w64 (by omega) (by omega)]
        omega
    rw [e]
    exact main _ rfl
  · refine Ev.neg h ?_
    refine main _ ?_
    rw [hm] at h ⊢
    split at h
    · rename_i hk; rw [if_pos hk]
    · rename_i hk; rw [if_neg hk]; omega

theorem digit_f (b : UInt8) : mail_digit.f (b.toNat : Int) = some (isD b) := by
  unfold mail_digit.f isD
  by_cases h : 48 ≤ b.toNat
  · rw [if_pos (by omega), decide_eq_true h, Bool.true_and]
    congr 1
    rw [Bool.eq_iff_iff]; simp; omega
  · rw [if_neg (by omega), decide_eq_false h, Bool.false_and]
theorem hasPrefix_f (a p : ByteArray) : strings_HasPrefix.f a p = some ((bl p).isPrefixOf (bl a)) := by
  unfold strings_HasPrefix.f stringslite_HasPrefix.f
  have ha := bl_size a
  have hp := bl_size p
  by_cases h : (bl p).length ≤ (bl a).length
  · rw [if_pos (by omega), if_pos (by omega), if_pos (by omega), toList_bl, toList_bl, bl_take, Option.bind_some, ← pre_take _ _ h]
    congr 3
  · rw [if_neg (by omega), pre_short _ _ h]; rfl
theorem cutPrefix_f (a p : ByteArray) : strings_CutPrefix.f a p = some (if (bl p).isPrefixOf (bl a) = true then (ba ((bl a).drop (bl p).length), true) else (a, false)) := by
  have hh : stringslite_HasPrefix.f a p = some ((bl p).isPrefixOf (bl a)) := by
    have := hasPrefix_f a p
    unfold strings_HasPrefix.f at this
    cases hs : stringslite_HasPrefix.f a p with
    | none => rw [hs] at this; cases this
    | some v => rw [hs] at this; exact this
  unfold strings_CutPrefix.f stringslite_CutPrefix.f
  rw [hh]
  have ha := bl_size a
  have hp := bl_size p
  by_cases h : (bl p).isPrefixOf (bl a) = true
  · have hl : (bl p).length ≤ (bl a).length := by
      by_cases hl : (bl p).length ≤ (bl a).length
      · exact hl
      · rw [pre_short _ _ hl] at h; cases h
    simp only [Option.bind_some]
    rw [if_pos h, if_pos (by omega), if_pos (by omega), if_pos h]
    simp only [Option.bind_some]
    congr 2
    refine eq_ba ?_
    rw [bl_drop]
    congr 1
  · simp only [Option.bind_some]
    rw [if_neg h, if_neg h]
    rfl

theorem pow18 {i a : Nat} (h : a < 10 ^ i) (hi : i ≤ 17) : a < 100000000000000000 := by
  have : 10 ^ i ≤ 10 ^ 17 := Nat.pow_le_pow_right (by decide) hi
  omega
/-! ### FindToken -/
def lead : Nat → Int → List UInt8 → Int
  | 0, acc, _ => acc
  | _ + 1, acc, [] => acc
  | m + 1, acc, b :: l => if isD b = true then lead m (10 * acc + ((b.toNat : Int) - 48)) l else acc
theorem lead_bd : ∀ (d : Nat) (acc : Int) (l : List UInt8) (e : Nat), 0 ≤ acc → acc < 10 ^ e → 0 ≤ lead d acc l ∧ lead d acc l < 10 ^ (e + d)
  | 0, acc, l, e, h0, h1 => ⟨h0, h1⟩
  | d + 1, acc, [], e, h0, h1 => ⟨h0, Int.lt_of_lt_of_le h1 (by
      have : (10 : Nat) ^ e ≤ 10 ^ (e + (d + 1)) := Nat.pow_le_pow_right (by decide) (by omega)
      exact_mod_cast this)⟩
  | d + 1, acc, b :: l, e, h0, h1 => by
    unfold lead
    by_cases h : isD b = true
    · rw [if_pos h]
      obtain ⟨c0, c1⟩ := isD_bd h
      have hp : (10 : Int) ^ (e + 1) = 10 * 10 ^ e := by rw [Int.pow_succ]; omega
      have := lead_bd d (10 * acc + ((b.toNat : Int) - 48)) l (e + 1) (by omega) (by omega)
      rw [show e + (d + 1) = e + 1 + d by omega]
      exact this
    · rw [if_neg h]
      exact ⟨h0, Int.lt_of_lt_of_le h1 (by
        have : (10 : Nat) ^ e ≤ 10 ^ (e + (d + 1)) := Nat.pow_le_pow_right (by decide) (by omega)
        exact_mod_cast this)⟩
theorem lead5 (l : List UInt8) : 0 ≤ lead 5 0 l ∧ lead 5 0 l ≤ 99999 := by
  have := lead_bd 5 0 l 0 (by omega) (by omega)
  have e : (10 : Int) ^ (0 + 5) = 100000 := by decide
  omega
theorem lead_dec : ∀ (D : List UInt8) (d : Nat) (acc : Int) (b : UInt8) (r : List UInt8), (∀ x ∈ D, isD x = true) → D.length ≤ d → isD b = false → lead d acc (D ++ b :: r) = dval acc D
  | [], 0, acc, b, r, _, _, _ => rfl
  | [], d + 1, acc, b, r, _, _, hb => by simp [lead, hb, dval]
  | x :: D, 0, acc, b, r, _, hl, _ => by simp at hl
  | x :: D, d + 1, acc, b, r, hD, hl, hb => by
    have hx := hD x (by simp)
    simp only [List.cons_append, lead, hx, if_true, dval]
    exact lead_dec D d _ b r (fun y hy => hD y (by simp [hy])) (by simpa using hl) hb

theorem find_l1 (s : ByteArray) (key x6 x12 x13 : Int) (R : List UInt8) (r : Int × Bool) : ∀ (d j a : Nat), j + d = 5 → a < 10 ^ j →
    Ev (fun k => mail_FindToken.j2 k s key x6 (lead d (a : Int) (R.drop j)) x12 x13) r → Ev (fun k => mail_FindToken.l1 k s key x6 (ba R) (a : Int) (j : Int) x12 x13) r := by
  intro d
  induction d with
  | zero =>
    intro j a hj ha h
    refine Ev.shift ?_
    simp only [mail_FindToken.l1]
    by_cases hs : (j : Int) < ((ba R).size : Int)
    · refine Ev.pos hs ?_
      refine Ev.neg (by omega) ?_
      exact h
    · refine Ev.neg hs ?_
      exact h
  | succ d ih =>
    intro j a hj ha h
    have hz := ba_size R
    have ha' := pow18 ha (by omega)
    refine Ev.shift ?_
    simp only [mail_FindToken.l1]
    by_cases hs : j < R.length
    · have hbt : bt (ba R) (j : Int) = ((R[j]'hs).toNat : Int) := bt_nat (by rw [bl_ba]; exact List.getElem?_eq_getElem hs)
      refine Ev.pos (by omega) ?_
      refine Ev.pos (by omega) ?_
      refine Ev.pos (by omega) ?_
      rw [hbt]
      rw [digit_f]
      simp only [Option.bind_some]
      rw [List.drop_eq_getElem_cons hs] at h
      by_cases hd : isD R[j] = true
      · obtain ⟨c0, c1⟩ := isD_bd hd
        have e : ((R[j].toNat : Int) - 48) % 256 = (R[j].toNat : Int) - 48 := by omega
        refine Ev.pos hd ?_
        rw [e]
        rw [w64 (x := 10 * (a : Int)) (by omega) (by omega)]
        rw [w64 (by omega) (by omega)]
        rw [w64 (by omega) (by omega)]
        have ec : ((10 * a + (R[j].toNat - 48) : Nat) : Int) = 10 * (a : Int) + ((R[j].toNat : Int) - 48) := by omega
        have := ih (j + 1) (10 * a + (R[j].toNat - 48)) (by omega) (by rw [Nat.pow_succ]; omega)
        rw [ec] at this
        refine this ?_
        simp only [lead, hd, if_true] at h
        exact h
      · refine Ev.neg hd ?_
        simp only [lead, if_neg hd] at h
        exact h
    · refine Ev.neg (by omega) ?_
      rw [List.drop_eq_nil_of_le (by omega)] at h
      exact h

def fS (key : Int) : List UInt8 → Int × Bool
  | [] => (0, false)
  | b :: l => if [91, 35].isPrefixOf (b :: l) = true ∧ 0 < lead 5 0 ((b :: l).drop 2) ∧ (tokL (lead 5 0 ((b :: l).drop 2)).toNat key).isPrefixOf (b :: l) = true then (lead 5 0 ((b :: l).drop 2), true) else fS key l
theorem find_l0 (s : ByteArray) (key : Int) (hs : s.size ≤ 140737488351232) : ∀ (d i : Nat), i + d = (bl s).length →
    Ev (fun k => mail_FindToken.l0 k s key (s.size : Int) (i : Int)) (fS key ((bl s).drop i)) := by
  have hz := bl_size s
  intro d
  induction d with
  | zero =>
    intro i hi
    refine Ev.shift ?_
    simp only [mail_FindToken.l0]
    refine Ev.neg (by omega) ?_
    rw [List.drop_eq_nil_of_le (by omega)]
    exact Ev.cst rfl
  | succ d ih =>
    intro i hi
    have hlt : i < (bl s).length := by omega
    have ih' := ih (i + 1) (by omega)
    have hw : wrap64 ((i : Int) + 1) = ((i + 1 : Nat) : Int) := by rw [w64 (by omega) (by omega)]; omega
    refine Ev.shift ?_
    simp only [mail_FindToken.l0, cutPrefix_f]
    refine Ev.pos (by omega) ?_
    refine Ev.pos (by omega) ?_
    refine Ev.pos (by omega) ?_
    simp only [Option.bind_some, Int.toNat_natCast, bl_drop]
    rw [List.drop_eq_getElem_cons hlt]
    unfold fS
    by_cases hp : [91, 35].isPrefixOf ((bl s)[i] :: (bl s).drop (i + 1)) = true
    · rw [if_pos hp]
      simp only [if_true]
      refine find_l1 s key i _ i _ _ 5 0 0 (by omega) (by decide) ?_
      rw [List.drop_zero]
      have hb := lead5 (((bl s)[i] :: (bl s).drop (i + 1)).drop 2)
      obtain ⟨n, hn⟩ : ∃ n : Nat, lead 5 0 (((bl s)[i] :: (bl s).drop (i + 1)).drop 2) = (n : Int) := ⟨(lead 5 0 (((bl s)[i] :: (bl s).drop (i + 1)).drop 2)).toNat, by omega⟩
      have hn2 : lead 5 ((0 : Nat) : Int) (List.drop (bl (⟨#[91, 35]⟩ : ByteArray)).length ((bl s)[i] :: (bl s).drop (i + 1))) = (n : Int) := hn
      rw [hn2, hn]
      rw [hn] at hb
      refine Ev.shift ?_
      simp only [mail_FindToken.j2]
      by_cases hpos : 0 < (n : Int)
      · refine Ev.pos hpos ?_
        refine Ev.pos (by omega) ?_
        refine Ev.pos (by omega) ?_
        refine Ev.bind (token_ev n key (by omega)) ?_
        rw [hasPrefix_f, bl_ba]
        simp only [Option.bind_some, Int.toNat_natCast, bl_drop]
        rw [List.drop_eq_getElem_cons hlt]
        by_cases ht : (tokL n key).isPrefixOf ((bl s)[i] :: (bl s).drop (i + 1)) = true
        · refine Ev.pos ht ?_
          rw [if_pos ⟨hp, hpos, ht⟩]
          exact Ev.cst rfl
        · refine Ev.neg ht ?_
          rw [if_neg (show ¬ (_ ∧ _ ∧ _) from fun h => ht h.2.2)]
          rw [hw]
          exact ih'
      · refine Ev.neg hpos ?_
        rw [if_neg (show ¬ (_ ∧ _ ∧ _) from fun h => hpos h.2.1)]
        rw [hw]
        exact ih'
    · rw [if_neg hp]
      rw [if_neg (show ¬ (_ ∧ _ ∧ _) from fun h => hp h.1)]
      simp only [Bool.false_eq_true, if_false]
      rw [hw]
      exact ih'

/-! ### the law -/
theorem fS_skip (key : Int) (m : List UInt8) : ∀ l : List UInt8, 91 ∉ l → fS key (l ++ m) = fS key m
  | [], _ => rfl
  | x :: l, h => by
    rw [List.cons_append]
    unfold fS
    rw [if_neg (show ¬ (_ ∧ _) from fun hc => by
      have hp := hc.1
      simp only [List.isPrefixOf, Bool.and_eq_true, beq_iff_eq] at hp
      exact h (by rw [hp.1]; exact List.mem_cons_self ..))]
    rw [fS_skip key m l (fun hm => h (List.mem_cons_of_mem _ hm))]
    cases m with
    | nil => rfl
    | cons y m => rfl
theorem fS_tok (key : Int) {n : Nat} (h1 : 1 ≤ n) (h2 : n ≤ 99999) (m : List UInt8) : fS key (tokL n key ++ m) = ((n : Int), true) := by
  have hd : lead 5 0 ((tokL n key ++ m).drop 2) = (n : Int) := by
    have e : (tokL n key ++ m).drop 2 = dec n ++ 45 :: ((dec (10000 + (hs (key % 1000003) (dec n) % 10000).toNat)).drop 1 ++ [93] ++ m) := by
      unfold tokL
      simp
    rw [e, lead_dec _ 5 0 45 _ (dec_digits n) (dec_len (k := 4) (by omega)) (by decide), dval_dec]
  have hp : (tokL n key).isPrefixOf (tokL n key ++ m) = true := (pre_iff _ _).2 ⟨m, rfl⟩
  have hq : [91, 35].isPrefixOf (tokL n key ++ m) = true := rfl
  have hc : tokL n key ++ m = 91 :: (35 :: (dec n ++ 45 :: ((dec (10000 + (hs (key % 1000003) (dec n) % 10000).toNat)).drop 1 ++ [93])) ++ m) := rfl
  rw [hc] at hd hp hq ⊢
  unfold fS
  rw [if_pos ⟨hq, by rw [hd]; omega, by rw [hd, Int.toNat_natCast]; exact hp⟩, hd]
theorem law (t key : Int) (b a : ByteArray) (hb : b.size ≤ 1048576) (ha : a.size ≤ 1048576) : ∃ k, portkeep1_MailTold.f k t key b a = some true := by
  refine Ev.rounds (g := fun k => portkeep1_MailTold.f k t key b a) ?_
  unfold portkeep1_MailTold.f portkeep1_awakeMail.f
  refine Ev.bindc rfl (Ev.pos rfl ?_)
  by_cases h1 : t < 1
  · have ht : Ev (fun k => mail_Token.f k t key) ((⟨#[]⟩ : ByteArray), (2 : Int)) := by
      unfold mail_Token.f
      exact Ev.pos h1 (Ev.cst rfl)
    exact Ev.bind ht (Ev.neg (by decide) (Ev.cst rfl))
  · by_cases h2 : t > 99999
    · have ht : Ev (fun k => mail_Token.f k t key) ((⟨#[]⟩ : ByteArray), (2 : Int)) := by
        unfold mail_Token.f
        exact Ev.neg h1 (Ev.pos h2 (Ev.cst rfl))
      exact Ev.bind ht (Ev.neg (by decide) (Ev.cst rfl))
    · obtain ⟨n, rfl⟩ : ∃ n : Nat, t = (n : Int) := ⟨t.toNat, by omega⟩
      have ht : Ev (fun k => mail_Token.f k (n : Int) key) (ba (tokL n key), (0 : Int)) := by
        unfold mail_Token.f
        exact Ev.neg h1 (Ev.neg h2 (Ev.bind (token_ev n key (by omega)) (Ev.cst rfl)))
      refine Ev.bind ht (Ev.pos rfl ?_)
      have hc : strings_Contains.f b (⟨#[91]⟩ : ByteArray) = some (Lib.contains (bl b) [91]) := by
        show containsF _ _ = _
        unfold containsF
        rw [if_pos (by omega)]
      refine Ev.bindc hc ?_
      by_cases h3 : Lib.contains (bl b) [91] = true
      · exact Ev.pos h3 (Ev.cst rfl)
      · refine Ev.neg h3 ?_
        have hno : 91 ∉ bl b := fun hm => h3 ((KindP.contains_iff _ _ (by decide)).2 (by
          obtain ⟨x, y, hxy⟩ := List.append_of_mem hm
          exact ⟨x, y, by rw [hxy]; simp⟩))
        have hl1 : (dec n).length ≤ 5 := dec_len (k := 4) (by omega)
        have hl2 : (dec (10000 + (hs (key % 1000003) (dec n) % 10000).toNat)).length ≤ 5 := dec_len (k := 4) (by
          have := Int.emod_lt_of_pos (hs (key % 1000003) (dec n)) (show (0 : Int) < 10000 by decide)
          have := Int.emod_nonneg (hs (key % 1000003) (dec n)) (show (10000 : Int) ≠ 0 by decide)
          omega)
        have hz : (ba (tokL n key)).size ≤ 20 := by
          rw [ba_size]
          unfold tokL
          simp only [List.length_cons, List.length_append, List.length_drop, List.length_nil]
          omega
        have hfull : (((b ++ ba (tokL n key)) ++ a) : ByteArray).size = b.size + (ba (tokL n key)).size + a.size := by rw [ByteArray.size_append, ByteArray.size_append]
        refine Ev.pos (by show b.size + (ba (tokL n key)).size ≤ _; omega) ?_
        refine Ev.pos (by show (b ++ ba (tokL n key)).size + a.size ≤ _; rw [ByteArray.size_append]; omega) ?_
        have hf : Ev (fun k => mail_FindToken.f k ((b ++ ba (tokL n key)) ++ a) key) ((n : Int), true) := by
          have hfind := find_l0 ((b ++ ba (tokL n key)) ++ a) key (by omega) (bl ((b ++ ba (tokL n key)) ++ a)).length 0 (by omega)
          rw [List.drop_zero, bl_app, bl_app, bl_ba, List.append_assoc, fS_skip key _ _ hno, fS_tok key (by omega) (by omega)] at hfind
          exact hfind
        refine Ev.bind hf (Ev.pos rfl (Ev.cst ?_))
        simp
end Go.Proofs.YtcljkhhjondhcaaDoor.TokIc
