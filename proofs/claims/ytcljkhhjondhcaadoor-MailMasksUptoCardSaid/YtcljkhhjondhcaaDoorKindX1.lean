/- What the printed mail.signed and mail.Kinds answer, for lists of at most 1048576 lines below 4294967281 bytes: the plain 'kinds'. -/
import Derived.Test.YtcljkhhjondhcaaDoorKindX0
namespace Go.Proofs.YtcljkhhjondhcaaDoor.KindX
open Go.RowKit Go.Proofs.YtcljkhhjondhcaaDoorW.PrintWords Go.Proofs.YtcljkhhjondhcaaDoor.Ext Go.Proofs.YtcljkhhjondhcaaDoor.Ix Go.Proofs.YtcljkhhjondhcaaDoor.Pl Go.Proofs.YtcljkhhjondhcaaDoor.LibIx Go.Proofs.YtcljkhhjondhcaaDoor.KindP
variable (x0 : List ByteArray) (hn : x0.length ≤ 1048576) (hb : ∀ s ∈ x0, s.size < 4294967281)
include hn

/-! ### signed -/
theorem signed_l1 (i : Nat) (hi : i < x0.length) (R : Int) (hz : Ev (fun k => mail_signed.l0 k x0 x0 (x0.length : Int) ((i + 1 : Nat) : Int)) R) : ∀ (d j : Nat) (b : Bool), j + d = (x0.drop (i + 1)).length →
    Ev (fun k => mail_signed.l1 k x0 (i : Int) b x0 (x0.length : Int) (i : Int) (x0.drop (i + 1)) ((x0.drop (i + 1)).length : Int) (j : Int)) (if b = true ∧ (((x0.drop (i + 1)).drop j).map bl).all (fun y => !qd y) = true then (i : Int) else R) := by
  intro d
  induction d with
  | zero =>
    intro j b hj
    refine Ev.shift ?_
    simp only [mail_signed.l1]
    refine Ev.neg (by omega) ?_
    rw [List.drop_eq_nil_of_le (by omega : (x0.drop (i + 1)).length ≤ j)]
    cases b with
    | true => exact Ev.pos rfl (Ev.cst rfl)
    | false =>
      refine Ev.neg (by decide) ?_
      rw [up (by omega)]
      exact hz
  | succ d ih =>
    intro j b hj
    have hlt : j < (x0.drop (i + 1)).length := by omega
    have hle : (x0.drop (i + 1)).length ≤ x0.length := by rw [List.length_drop]; omega
    refine Ev.shift ?_
    simp only [mail_signed.l1]
    refine Ev.pos (by omega) ?_
    refine Ev.pos (by omega) ?_
    refine Ev.pos (by omega) ?_
    rw [at_drop _ hlt, List.map_cons, List.all_cons, up (by omega)]
    cases b with
    | true =>
      refine Ev.pos rfl ?_
      refine Ev.bindc (quoted_f _) ?_
      refine Ev.val (ih (j + 1) _ (by omega)) ?_
      simp
    | false =>
      refine Ev.neg (by decide) ?_
      refine Ev.val (ih (j + 1) _ (by omega)) ?_
      simp
theorem signed_j1 (i : Nat) (hi : i < x0.length) (R : Int) (hz : Ev (fun k => mail_signed.l0 k x0 x0 (x0.length : Int) ((i + 1 : Nat) : Int)) R) (f : Bool) :
    Ev (fun k => mail_signed.j1 k x0 (i : Int) x0 (x0.length : Int) (i : Int) f) (if f = false ∧ ((x0.drop (i + 1)).map bl).all (fun y => !qd y) = true then (i : Int) else R) := by
  refine Ev.shift ?_
  simp only [mail_signed.j1]
  rw [up (by omega)]
  cases f with
  | true => exact Ev.pos rfl hz
  | false =>
    refine Ev.neg (by decide) ?_
    refine Ev.pos (by omega) ?_
    refine Ev.pos (by omega) ?_
    simp only [Int.toNat_natCast]
    refine Ev.val (signed_l1 x0 hn i hi R hz _ 0 true (Nat.zero_add _)) ?_
    simp
theorem signed_l0 : ∀ (d i : Nat), i + d = x0.length → Ev (fun k => mail_signed.l0 k x0 x0 (x0.length : Int) (i : Int)) ((i + sgn ((x0.drop i).map bl) : Nat) : Int) := by
  intro d
  induction d with
  | zero =>
    intro i hi
    refine Ev.shift ?_
    simp only [mail_signed.l0]
    refine Ev.neg (by omega) ?_
    rw [List.drop_eq_nil_of_le (by omega)]
    refine Ev.cst (congrArg some ?_)
    show _ = ((i + 0 : Nat) : Int)
    omega
  | succ d ih =>
    intro i hi
    have hlt : i < x0.length := by omega
    have hz := ih (i + 1) (by omega)
    have hl : ((x0.drop (i + 1)).map bl).length = d := by rw [List.length_map, List.length_drop]; omega
    refine Ev.shift ?_
    simp only [mail_signed.l0]
    refine Ev.pos (by omega) ?_
    refine Ev.pos (by omega) ?_
    refine Ev.pos (by omega) ?_
    have hw : wrap64 (wrap64 ((x0.length : Int) - (i : Int)) - 1) = (d : Int) := by rw [w64 (x := _ - (i : Int)) (by omega) (by omega), w64 (by omega) (by omega)]; omega
    rw [hw]
    have hj := signed_j1 x0 hn i hlt _ hz
    rw [at_drop x0 hlt, List.map_cons]
    have key : ∀ f : Bool, (f = false ↔ sep (bl (rdOf ByteArray.empty x0 (i : Int))) = true ∧ d ≤ 12) →
        (if f = false ∧ ((x0.drop (i + 1)).map bl).all (fun y => !qd y) = true then (i : Int) else (((i + 1) + sgn ((x0.drop (i + 1)).map bl) : Nat) : Int)) = ((i + sgn (bl (rdOf ByteArray.empty x0 (i : Int)) :: (x0.drop (i + 1)).map bl) : Nat) : Int) := by
      intro f hf
      rw [show ∀ (x : Ln) (r : List Ln), sgn (x :: r) = if sep x = true ∧ r.length ≤ 12 ∧ r.all (fun y => !qd y) = true then 0 else sgn r + 1 from fun _ _ => rfl, hl]
      by_cases hc : f = false ∧ ((x0.drop (i + 1)).map bl).all (fun y => !qd y) = true
      · rw [if_pos hc, if_pos ⟨(hf.1 hc.1).1, (hf.1 hc.1).2, hc.2⟩]; omega
      · rw [if_neg hc, if_neg (fun h => hc ⟨hf.2 ⟨h.1, h.2.1⟩, h.2.2⟩)]; omega
    by_cases h1 : bl (rdOf ByteArray.empty x0 (i : Int)) = [45, 45]
    · refine Ev.pos (by rw [toList_bl]; exact h1) ?_
      refine Ev.val (hj _) (key _ ?_)
      rw [h1, decide_eq_false_iff_not]
      constructor
      · intro h; exact ⟨rfl, by omega⟩
      · intro h; have := h.2; omega
    · refine Ev.neg (by rw [toList_bl]; exact h1) ?_
      by_cases h2 : bl (rdOf ByteArray.empty x0 (i : Int)) = [45, 45, 32]
      · refine Ev.pos (by rw [toList_bl]; exact h2) ?_
        refine Ev.val (hj _) (key _ ?_)
        rw [h2, decide_eq_false_iff_not]
        constructor
        · intro h; exact ⟨rfl, by omega⟩
        · intro h; have := h.2; omega
      · refine Ev.neg (by rw [toList_bl]; exact h2) ?_
        refine Ev.val (hj _) (key _ ?_)
        constructor
        · intro h; cases h
        · intro h
          have hs := h.1
          unfold sep at hs
          simp only [Bool.or_eq_true, beq_iff_eq] at hs
          rcases hs with hs | hs
          · exact absurd hs h1
          · exact absurd hs h2
theorem signed_f : Ev (fun k => mail_signed.f k x0) ((sgn (x0.map bl) : Nat) : Int) := by
  unfold mail_signed.f
  refine Ev.val (signed_l0 x0 hn x0.length 0 (Nat.zero_add _)) ?_
  rw [List.drop_zero, Nat.zero_add]

/-! ### Kinds -/
theorem kinds_l0 (e : Nat) (_he : e ≤ x0.length) (R : List Int) (hz : Ev (fun k => mail_Kinds.l1 k x0 (baseTo (x0.map bl) e x0.length) (e : Int) (e : Int) 0) R) : ∀ (d i : Nat), i + d = x0.length →
    Ev (fun k => mail_Kinds.l0 k x0 (baseTo (x0.map bl) e i ++ List.replicate d 0) (e : Int) (x0.length : Int) (i : Int)) R := by
  intro d
  induction d with
  | zero =>
    intro i hi
    refine Ev.shift ?_
    simp only [mail_Kinds.l0]
    refine Ev.neg (by omega) ?_
    rw [List.replicate_zero, List.append_nil, show i = x0.length by omega]
    exact hz
  | succ d ih =>
    intro i hi
    have hlt : i < x0.length := by omega
    have hi' := ih (i + 1) (by omega)
    rw [baseTo_succ, List.append_assoc] at hi'
    have hset : ∀ x y : Int, (baseTo (x0.map bl) e i ++ x :: List.replicate d 0).set i y = baseTo (x0.map bl) e i ++ y :: List.replicate d 0 := by
      intro x y
      have := set_at (baseTo (x0.map bl) e i) (List.replicate d 0) x y
      rwa [baseTo_len] at this
    have hlen : (baseTo (x0.map bl) e i ++ List.replicate (d + 1) 0).length = x0.length := by rw [List.length_append, baseTo_len, List.length_replicate]; omega
    refine Ev.shift ?_
    simp only [mail_Kinds.l0, Int.toNat_natCast, Option.bind_some]
    refine Ev.pos (by omega) ?_
    refine Ev.pos (by omega) ?_
    refine Ev.pos (by rw [hlen]; omega) ?_
    rw [List.replicate_succ, hset, hset, hset, up (by omega)]
    by_cases h1 : e ≤ i
    · refine Ev.pos (by omega) ?_
      rw [baseK, if_pos h1] at hi'
      exact hi'
    · refine Ev.neg (by omega) ?_
      refine Ev.pos (by omega) ?_
      refine Ev.bindc (quoted_f _) ?_
      rw [baseK, if_neg h1, ← at_bl x0 hlt] at hi'
      by_cases h2 : qd (bl (rdOf ByteArray.empty x0 (i : Int))) = true
      · refine Ev.pos h2 ?_
        rw [if_pos h2] at hi'
        exact hi'
      · refine Ev.neg h2 ?_
        rw [if_neg h2] at hi'
        exact hi'
theorem kinds_l3 (e i s : Nat) (hs : s ≤ e) (_he : e ≤ x0.length) (R : List Int) : ∀ (d m : Nat) (K : List Int), m + d = s → K.length = x0.length → Ev (fun k => mail_Kinds.l1 k x0 (fill d m K) (e : Int) (e : Int) ((i + 1 : Nat) : Int)) R → i < e →
    Ev (fun k => mail_Kinds.l3 k x0 K (e : Int) (s : Int) (m : Int) (e : Int) (i : Int)) R := by
  intro d
  induction d with
  | zero =>
    intro m K hm hK hz hi
    refine Ev.shift ?_
    simp only [mail_Kinds.l3]
    refine Ev.neg (by omega) ?_
    rw [up (by omega)]
    exact hz
  | succ d ih =>
    intro m K hm hK hz hi
    refine Ev.shift ?_
    simp only [mail_Kinds.l3, Int.toNat_natCast]
    refine Ev.pos (by omega) ?_
    refine Ev.pos (by omega) ?_
    refine Ev.pos (by omega) ?_
    rw [up (by omega)]
    exact ih (m + 1) (K.set m 2) (by omega) (by rw [List.length_set]; exact hK) hz hi
include hb
theorem kinds_l2 (e i : Nat) (he : e ≤ x0.length) (K : List Int) (R : List Int) : ∀ (d j : Nat), j + d = e →
    Ev (fun k => mail_Kinds.j4 k x0 K (e : Int) (i : Int) ((skip (x0.map bl) e d j : Nat) : Int) (e : Int) (i : Int)) R →
    Ev (fun k => mail_Kinds.l2 k x0 K (e : Int) (i : Int) (j : Int) (e : Int) (i : Int)) R := by
  intro d
  induction d with
  | zero =>
    intro j hj hz
    refine Ev.shift ?_
    simp only [mail_Kinds.l2]
    refine Ev.neg (by omega) ?_
    exact hz
  | succ d ih =>
    intro j hj hz
    have hlt : j < x0.length := by omega
    refine Ev.shift ?_
    simp only [mail_Kinds.l2]
    refine Ev.pos (by omega) ?_
    refine Ev.pos (by omega) ?_
    refine Ev.pos (by omega) ?_
    refine Ev.bindc (empty_f (hb _ (at_mem x0 hlt))) ?_
    rw [skip, ← at_bl x0 hlt] at hz
    by_cases h : emp (bl (rdOf ByteArray.empty x0 (j : Int))) = true
    · rw [if_pos ⟨by omega, h⟩] at hz
      refine Ev.pos h ?_
      rw [up (by omega)]
      exact ih (j + 1) (by omega) hz
    · rw [if_neg (fun hc => h hc.2)] at hz
      exact Ev.neg h hz
theorem kinds_l1 (e : Nat) (he : e ≤ x0.length) : ∀ (d i : Nat) (K : List Int), i + d = e → K.length = x0.length →
    Ev (fun k => mail_Kinds.l1 k x0 K (e : Int) (e : Int) (i : Int)) (run1 (x0.map bl) e d i K) := by
  intro d
  induction d with
  | zero =>
    intro i K hi hK
    refine Ev.shift ?_
    simp only [mail_Kinds.l1]
    refine Ev.neg (by omega) ?_
    show Ev _ K
    by_cases h0 : K.length = 0
    · refine Ev.pos (by omega) ?_
      rw [List.length_eq_zero_iff] at h0
      exact Ev.cst (by rw [h0])
    · exact Ev.neg (by omega) (Ev.cst rfl)
  | succ d ih =>
    intro i K hi hK
    have hlt : i < x0.length := by omega
    have hz := hb _ (at_mem x0 hlt)
    have hz2 := hz
    rw [bl_size] at hz2
    have htl := trimR_len (bl (rdOf ByteArray.empty x0 (i : Int)))
    have hnext := ih (i + 1) K (by omega) hK
    refine Ev.shift ?_
    simp only [mail_Kinds.l1]
    refine Ev.pos (by omega) ?_
    refine Ev.pos (by omega) ?_
    refine Ev.pos (by omega) ?_
    refine Ev.bindc (trimR_f hz) ?_
    refine Ev.pos (by omega) ?_
    rw [rd_nat, run1, ← at_bl x0 hlt]
    have hj2 : ∀ R, Ev (fun k => mail_Kinds.l1 k x0 K (e : Int) (e : Int) ((i + 1 : Nat) : Int)) R → Ev (fun k => mail_Kinds.j2 k x0 K (e : Int) (i : Int) (e : Int) (i : Int) true) R := by
      intro R hR
      refine Ev.shift ?_
      simp only [mail_Kinds.j2]
      refine Ev.pos trivial ?_
      rw [up (by omega)]
      exact hR
    by_cases h1 : K.getD i 0 = 1
    · refine Ev.pos h1 ?_
      refine Ev.bindc (suf_f (by omega)) ?_
      by_cases h2 : [58].isSuffixOf (Lib.trimRightS (bl (rdOf ByteArray.empty x0 (i : Int))) bks) = true
      · refine Ev.pos h2 ?_
        refine Ev.bindc (lower_f (by omega)) ?_
        refine Ev.bindc (cont_f (by rw [List.length_map]; omega)) ?_
        by_cases h3 : Lib.contains ((Lib.trimRightS (bl (rdOf ByteArray.empty x0 (i : Int))) bks).map lowB) wrote = true
        · have hin : introP (bl (rdOf ByteArray.empty x0 (i : Int))) = true := by unfold introP; rw [h2, h3]; rfl
          rw [if_pos ⟨h1, hin⟩, h3]
          refine Ev.shift ?_
          simp only [mail_Kinds.j2]
          refine Ev.neg (by decide) ?_
          rw [up (by omega)]
          refine kinds_l2 x0 hn hb e i he K _ (e - (i + 1)) (i + 1) (by omega) ?_
          have hs1 := skip_ge (x0.map bl) e (e - (i + 1)) (i + 1)
          have hs2 := skip_le (x0.map bl) e (e - (i + 1)) (i + 1) (by omega)
          generalize skip (x0.map bl) e (e - (i + 1)) (i + 1) = s at hs1 hs2 ⊢
          refine Ev.shift ?_
          simp only [mail_Kinds.j4]
          by_cases h4 : s < e
          · refine Ev.pos (by omega) ?_
            refine Ev.pos (by omega) ?_
            refine Ev.pos (by omega) ?_
            rw [rd_nat]
            by_cases h5 : K.getD s 0 = 3
            · rw [if_pos ⟨h4, h5⟩, h5]
              refine Ev.shift ?_
              simp only [mail_Kinds.j5]
              refine Ev.pos (by decide) ?_
              exact kinds_l3 x0 hn e i s hs2 he _ (s - i) i K (by omega) hK (ih (i + 1) _ (by omega) (by rw [fill_len]; exact hK)) (by omega)
            · rw [if_neg (fun h => h5 h.2)]
              refine Ev.shift ?_
              simp only [mail_Kinds.j5]
              refine Ev.neg (by simpa using h5) ?_
              rw [up (by omega)]
              exact hnext
          · refine Ev.neg (by omega) ?_
            rw [if_neg (fun h => h4 h.1)]
            refine Ev.shift ?_
            simp only [mail_Kinds.j5]
            refine Ev.neg (by decide) ?_
            rw [up (by omega)]
            exact hnext
        · have hin : ¬ introP (bl (rdOf ByteArray.empty x0 (i : Int))) = true := by unfold introP; rw [Bool.not_eq_true] at h3; rw [h3]; simp
          rw [if_neg (fun h => hin h.2)]
          rw [Bool.not_eq_true] at h3
          rw [h3]
          exact hj2 _ hnext
      · have hin : ¬ introP (bl (rdOf ByteArray.empty x0 (i : Int))) = true := by unfold introP; rw [Bool.not_eq_true] at h2; rw [h2]; simp
        refine Ev.neg h2 ?_
        rw [if_neg (fun h => hin h.2)]
        exact hj2 _ hnext
    · refine Ev.neg h1 ?_
      rw [if_neg (fun h => h1 h.1)]
      exact hj2 _ hnext
theorem kinds_f : Ev (fun k => mail_Kinds.f k x0) (kinds (x0.map bl)) := by
  unfold mail_Kinds.f
  have hs := sgn_le (x0.map bl)
  rw [List.length_map] at hs
  simp only [Int.toNat_natCast, Option.bind_some, List.length_replicate]
  refine Ev.pos (by omega) ?_
  refine Ev.pos (by omega) ?_
  refine Ev.bind (signed_f x0 hn) ?_
  have h1 := kinds_l1 x0 hn hb _ hs (sgn (x0.map bl)) 0 (baseTo (x0.map bl) (sgn (x0.map bl)) x0.length) (Nat.zero_add _) (baseTo_len _ _ _)
  have h0 := kinds_l0 x0 hn _ hs _ h1 x0.length 0 (Nat.zero_add _)
  refine Ev.val h0 ?_
  unfold kinds
  rw [List.length_map]
end Go.Proofs.YtcljkhhjondhcaaDoor.KindX
