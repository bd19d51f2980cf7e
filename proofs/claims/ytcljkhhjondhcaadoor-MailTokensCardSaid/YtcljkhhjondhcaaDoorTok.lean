/- The pure statement of MailTokens: for every ticket number, key and subject the printed functions Token, TokenOf, FindToken and TokenIn answer alike, so the law answers true. -/
import Derived.Test.YtcljkhhjondhcaaDoorIa
import Derived.Test.YtcljkhhjondhcaaDoorPl
namespace Go.Proofs.YtcljkhhjondhcaaDoor.TokIa
open Go.RowKit Go.Proofs.YtcljkhhjondhcaaDoorW.PrintWords Go.Proofs.YtcljkhhjondhcaaDoor.Ext Go.Proofs.YtcljkhhjondhcaaDoor.Ia Go.Proofs.YtcljkhhjondhcaaDoor.Pl

/-! ### the mark's sum -/
def stepH (h : Int) (b : UInt8) : Int := (31 * h + ((b.toNat : Int) - 48) + 7) % 1000003
def hs (h : Int) (l : List UInt8) : Int := l.foldl stepH h
theorem stepH_lt (h : Int) (b : UInt8) : 0 ≤ stepH h b ∧ stepH h b < 1000003 := by unfold stepH; omega
theorem hs_lt (l : List UInt8) : ∀ h : Int, 0 ≤ h → h < 1000003 → 0 ≤ hs h l ∧ hs h l < 1000003 := by
  induction l with
  | nil => intro h h0 h1; exact ⟨h0, h1⟩
  | cons b l ih => intro h _ _; exact ih _ (stepH_lt h b).1 (stepH_lt h b).2
theorem isD_bd {b : UInt8} (h : isD b = true) : 48 ≤ (b.toNat : Int) ∧ (b.toNat : Int) ≤ 57 := by
  unfold isD at h
  simp at h
  omega
theorem step_eq {h : Int} {b : UInt8} (h0 : 0 ≤ h) (h1 : h < 1000003) (hd : isD b = true) : Int.tmod (wrap64 ((wrap64 ((wrap64 (31 * h)) + (((b.toNat : Int) - 48) % 256))) + 7)) 1000003 = stepH h b := by
  obtain ⟨a, c⟩ := isD_bd hd
  have e : ((b.toNat : Int) - 48) % 256 = (b.toNat : Int) - 48 := by omega
  rw [e, w64 (x := 31 * h) (by omega) (by omega), w64 (x := 31 * h + _) (by omega) (by omega), w64 (by omega) (by omega), Int.tmod_eq_emod_of_nonneg (by omega)]
  rfl
theorem itoa_nat {n : Int} (h0 : 0 ≤ n) (h1 : n ≤ 9223372036854775807) : itoaF n = some (ba (dec n.toNat)) := by
  unfold itoaF
  rw [if_pos (by omega), if_pos h1]
  unfold Lib.itoa
  rw [if_neg (by omega)]
  rfl
theorem tmodM (key : Int) : Int.tmod key 1000003 = if 0 ≤ key then key % 1000003 else -((-key) % 1000003) := by
  by_cases h : 0 ≤ key
  · rw [if_pos h, Int.tmod_eq_emod_of_nonneg h]
  · rw [if_neg h]
    have e : key = -(-key) := by omega
    rw [e, Int.neg_tmod, Int.tmod_eq_emod_of_nonneg (by omega)]
    omega
def tokL (n : Nat) (key : Int) : List UInt8 := 91 :: 35 :: (dec n ++ 45 :: ((dec (10000 + (hs (key % 1000003) (dec n) % 10000).toNat)).drop 1 ++ [93]))

theorem s2 : (⟨#[91, 35]⟩ : ByteArray).size = 2 := rfl
theorem s1 (b : UInt8) : (⟨#[b]⟩ : ByteArray).size = 1 := rfl
theorem drop1_size (s : ByteArray) : (s.extract 1 s.size).size = s.size - 1 := by rw [bl_size, bl_drop, List.length_drop, ← bl_size]

theorem tok_l0 (D : List UInt8) (hD : ∀ b ∈ D, isD b = true) (hl : D.length ≤ 5) : ∀ (d i : Nat) (h : Int), i + d = D.length → 0 ≤ h → h < 1000003 →
    Ev (fun k => mail_token.l0 k h (ba D) ((ba D).size : Int) (i : Int)) (ba (91 :: 35 :: (D ++ 45 :: ((dec (10000 + (hs h (D.drop i) % 10000).toNat)).drop 1 ++ [93])))) := by
  intro d
  induction d with
  | zero =>
    intro i h hi h0 h1
    have e1 : Int.tmod h 10000 = h % 10000 := Int.tmod_eq_emod_of_nonneg h0
    have e2 : wrap64 (10000 + h % 10000) = 10000 + h % 10000 := w64 (by omega) (by omega)
    have e3 : itoaF (10000 + h % 10000) = some (ba (dec (10000 + (h % 10000).toNat))) := by
      rw [itoa_nat (by omega) (by omega)]
      congr 3
      omega
    have e4 : D.drop i = [] := List.drop_eq_nil_of_le (by omega)
    have hz : (ba D).size = D.length := ba_size D
    have hle : (dec (10000 + (h % 10000).toNat)).length ≤ 5 := dec_len (k := 4) (by omega)
    have hge : 1 ≤ (dec (10000 + (h % 10000).toNat)).length := by
      have := List.length_pos_iff.2 (dec_ne (10000 + (h % 10000).toNat)); omega
    have hz2 : (ba (dec (10000 + (h % 10000).toNat))).size = (dec (10000 + (h % 10000).toNat)).length := ba_size _
    refine Ev.shift ?_
    simp only [mail_token.l0]
    refine Ev.neg (by omega) ?_
    refine Ev.pos (by omega) ?_
    refine Ev.pos (by rw [ByteArray.size_append, s2]; omega) ?_
    simp only [strconv_Itoa.f, e1, e2]
    refine Ev.bindc e3 ?_
    refine Ev.pos (by omega) ?_
    refine Ev.pos (by simp only [ByteArray.size_append, s2, s1, drop1_size]; omega) ?_
    refine Ev.pos (by simp only [ByteArray.size_append, s2, s1, drop1_size]; omega) ?_
    refine Ev.cst (congrArg some (eq_ba ?_))
    simp only [bl_app, bl_drop, bl_ba, e4, hs, List.foldl_nil]
    simp
    rfl
  | succ d ih =>
    intro i h hi h0 h1
    have hlt : i < D.length := by omega
    have hb := hD _ (List.getElem_mem hlt)
    have hbt : bt (ba D) (i : Int) = ((D[i]'hlt).toNat : Int) := bt_nat (by rw [bl_ba]; exact List.getElem?_eq_getElem hlt)
    have hz : (ba D).size = D.length := ba_size D
    refine Ev.shift ?_
    simp only [mail_token.l0]
    refine Ev.pos (by omega) ?_
    refine Ev.pos (by omega) ?_
    refine Ev.pos (by omega) ?_
    rw [hbt]
    rw [step_eq h0 h1 hb]
    rw [w64 (by omega) (by omega)]
    have := ih (i + 1) (stepH h D[i]) (by omega) (stepH_lt _ _).1 (stepH_lt _ _).2
    rw [List.drop_eq_getElem_cons hlt]
    exact this
theorem token_ev (n : Nat) (key : Int) (h1 : n ≤ 99999) : Ev (fun k => mail_token.f k (n : Int) key) (ba (tokL n key)) := by
  have hm := tmodM key
  have main : ∀ b : Int, b = key % 1000003 → Ev (fun k => mail_token.j0 k (n : Int) b) (ba (tokL n key)) := by
    intro b hb
    refine Ev.shift ?_
    simp only [mail_token.j0, strconv_Itoa.f]
    rw [itoa_nat (by omega) (by omega)]
    simp only [Option.bind_some, Int.toNat_natCast]
    have := tok_l0 (dec n) (dec_digits n) (dec_len (k := 4) (by omega)) (dec n).length 0 b (by omega) (by omega) (by omega)
    rw [hb] at this ⊢
    exact this
  unfold mail_token.f
  by_cases h : Int.tmod key 1000003 < 0
  · refine Ev.pos h ?_
    have e : wrap64 (Int.tmod key 1000003 + 1000003) = key % 1000003 := by
      rw [hm] at h ⊢
      split at h
      · omega
      · rename_i hk
        rw [if_neg hk, w64 (by omega) (by omega)]
        omega
    rw [e]
    exact main _ rfl
  · refine Ev.neg h ?_
    refine main _ ?_
    rw [hm] at h ⊢
    split at h
    · rename_i hk; rw [if_pos hk]
    · rename_i hk; rw [if_neg hk]; omega

/-! ### told -/
theorem told_ev (n : Nat) : n ≤ 9223372036854775807 → Ev (fun k => portref1_told.f k (n : Int)) (ba (dec n)) := by
  induction n using Nat.strongRecOn with
  | _ n ih =>
    intro hn
    refine Ev.shift ?_
    simp only [portref1_told.f]
    refine Ev.neg (by omega) ?_
    by_cases h : n < 10
    · refine Ev.pos (by omega) ?_
      rw [w64 (by omega) (by omega)]
      refine Ev.cst (congrArg some (eq_ba ?_))
      rw [dec_small h, show bl (strOfNums [(48 + (n : Int)) % 256]) = [UInt8.ofNat ((48 + (n : Int)) % 256).toNat] from rfl, show ((48 + (n : Int)) % 256).toNat = 48 + n by omega]
    · refine Ev.neg (by omega) ?_
      have e1 : wrap64 (Int.tdiv (n : Int) 10) = ((n / 10 : Nat) : Int) := by
        rw [Int.tdiv_eq_ediv_of_nonneg (by omega), w64 (by omega) (by omega)]; omega
      have e2 : Int.tmod (n : Int) 10 = ((n % 10 : Nat) : Int) := by rw [Int.tmod_eq_emod_of_nonneg (by omega)]; omega
      rw [e1, e2]
      refine Ev.bind (ih (n / 10) (by omega) (by omega)) ?_
      refine Ev.bind (ih (n % 10) (by omega) (by omega)) ?_
      have l1 : (dec (n / 10)).length ≤ 19 := dec_len (k := 18) (by omega)
      have l2 : (dec (n % 10)).length ≤ 1 := dec_len (k := 0) (by omega)
      refine Ev.pos (by rw [ba_size, ba_size]; omega) ?_
      refine Ev.cst (congrArg some (eq_ba ?_))
      rw [bl_app, bl_ba, bl_ba, dec_big h, dec_small (n := n % 10) (by omega)]

theorem tokof_l0 (D : List UInt8) (hD : ∀ b ∈ D, isD b = true) (hl : D.length ≤ 5) : ∀ (d i : Nat) (h : Int), i + d = D.length → 0 ≤ h → h < 1000003 →
    Ev (fun k => portref1_TokenOf.l0 k (ba D) h (i : Int)) (ba (91 :: 35 :: (D ++ 45 :: ((dec (10000 + (hs h (D.drop i) % 10000).toNat)).drop 1 ++ [93])))) := by
  intro d
  induction d with
  | zero =>
    intro i h hi h0 h1
    obtain ⟨c, hc⟩ : ∃ c : Nat, h % 10000 = (c : Int) := ⟨(h % 10000).toNat, by omega⟩
    have e1 : Int.tmod h 10000 = (c : Int) := by rw [Int.tmod_eq_emod_of_nonneg h0, hc]
    have e4 : D.drop i = [] := List.drop_eq_nil_of_le (by omega)
    have hz : (ba D).size = D.length := ba_size D
    have hcz : (ba (dec c)).size = (dec c).length := ba_size _
    have hle : (dec c).length ≤ 4 := dec_len (k := 3) (by omega)
    have e5 : (hs h (D.drop i) % 10000).toNat = c := by rw [e4]; show (h % 10000).toNat = c; omega
    refine Ev.shift ?_
    simp only [portref1_TokenOf.l0, e1]
    refine Ev.neg (by omega) ?_
    refine Ev.bind (told_ev c (by omega)) ?_
    refine Ev.pos (by omega) ?_
    refine Ev.pos (by rw [ByteArray.size_append, s2]; omega) ?_
    have e6 : strings_Repeat.f (⟨#[48]⟩ : ByteArray) (wrap64 (4 - ((ba (dec c)).size : Int))) = some (ba (List.replicate (4 - (dec c).length) 48)) := by
      rw [w64 (by omega) (by omega)]
      show repeatF _ _ = _
      unfold repeatF
      rw [if_pos (by omega), if_pos (by rw [s1]; omega), if_pos (by omega)]
      congr 1
      refine eq_ba ?_
      show Lib.repeatL [48] _ = _
      rw [show (4 - ((ba (dec c)).size : Int)).toNat = 4 - (dec c).length by omega]
      generalize 4 - (dec c).length = m
      induction m with
      | zero => rfl
      | succ m ih => rw [List.replicate_succ, ← ih]; rfl
    have hrz : (ba (List.replicate (4 - (dec c).length) 48)).size = 4 - (dec c).length := by rw [ba_size, List.length_replicate]
    refine Ev.bindc e6 ?_
    refine Ev.pos (by simp only [ByteArray.size_append, s2, s1, hrz]; omega) ?_
    refine Ev.pos (by simp only [ByteArray.size_append, s2, s1, hrz]; omega) ?_
    refine Ev.pos (by simp only [ByteArray.size_append, s2, s1, hrz]; omega) ?_
    refine Ev.cst (congrArg some (eq_ba ?_))
    rw [e5, dec_pad (by omega)]
    simp only [bl_app, bl_ba]
    simp
    rfl
  | succ d ih =>
    intro i h hi h0 h1
    have hlt : i < D.length := by omega
    have hb := hD _ (List.getElem_mem hlt)
    have hbt : bt (ba D) (i : Int) = ((D[i]'hlt).toNat : Int) := bt_nat (by rw [bl_ba]; exact List.getElem?_eq_getElem hlt)
    have hz : (ba D).size = D.length := ba_size D
    refine Ev.shift ?_
    simp only [portref1_TokenOf.l0]
    refine Ev.pos (by omega) ?_
    refine Ev.pos (by omega) ?_
    rw [hbt]
    rw [step_eq h0 h1 hb]
    rw [w64 (by omega) (by omega)]
    have := ih (i + 1) (stepH h D[i]) (by omega) (stepH_lt _ _).1 (stepH_lt _ _).2
    rw [List.drop_eq_getElem_cons hlt]
    exact this
theorem tokof_ev (n : Nat) (key : Int) (h1 : n ≤ 99999) : Ev (fun k => portref1_TokenOf.f k (n : Int) key) (ba (tokL n key)) := by
  have hm := tmodM key
  unfold portref1_TokenOf.f
  refine Ev.bind (told_ev n (by omega)) ?_
  have e : Int.tmod (wrap64 ((Int.tmod key 1000003) + 1000003)) 1000003 = key % 1000003 := by
    rw [hm]
    split
    · rw [w64 (by omega) (by omega), Int.tmod_eq_emod_of_nonneg (by omega)]; omega
    · rw [w64 (by omega) (by omega), Int.tmod_eq_emod_of_nonneg (by omega)]; omega
  rw [e]
  have := tokof_l0 (dec n) (dec_digits n) (dec_len (k := 4) (by omega)) (dec n).length 0 (key % 1000003) (by omega) (by omega) (by omega)
  exact this
end Go.Proofs.YtcljkhhjondhcaaDoor.TokIa
