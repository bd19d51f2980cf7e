/- What the printed portref1.KindsOf answers, for lists of at most 1048576 lines below 4294967281 bytes: the plain 'kinds'. -/
import Derived.Test.YtcljkhhjondhcaaDoorKindX0
namespace Go.Proofs.YtcljkhhjondhcaaDoor.KindX
open Go.RowKit Go.Proofs.YtcljkhhjondhcaaDoorW.PrintWords Go.Proofs.YtcljkhhjondhcaaDoor.Ext Go.Proofs.YtcljkhhjondhcaaDoor.Ix Go.Proofs.YtcljkhhjondhcaaDoor.Pl Go.Proofs.YtcljkhhjondhcaaDoor.LibIx Go.Proofs.YtcljkhhjondhcaaDoor.KindP
variable (x0 : List ByteArray) (hn : x0.length ≤ 1048576) (hb : ∀ s ∈ x0, s.size < 4294967281)
include hn
omit hn in
/-- From the list after a lead was marked on: everything up to the lines marked is no own line. -/
theorem run1_past (ls : List Ln) (e i s : Nat) (K : List Int) (hs1 : i + 1 ≤ s) (hs2 : s < e) (hK : e ≤ K.length) (h3 : K.getD s 0 = 3) : run1 ls e (e - (i + 1)) (i + 1) (fill (s - i) i K) = run1 ls e (e - (s + 1)) (s + 1) (fill (s - i) i K) := by
  have := run1_skip ls e (s - i) (e - (s + 1)) (i + 1) (fill (s - i) i K) (by
    intro j h1 h2
    rw [List.getD_eq_getElem?_getD]
    by_cases hj : j = s
    · subst hj
      rw [fill_out _ _ _ _ (by omega), ← List.getD_eq_getElem?_getD, h3]
      decide
    · rw [fill_in _ _ _ _ (by omega) (by omega) (by omega)]
      decide)
  rw [show e - (i + 1) = e - (s + 1) + (s - i) by omega, this, show i + 1 + (s - i) = s + 1 by omega]
theorem of_l4 (e s : Nat) (hs : s < e) (he : e ≤ x0.length) (R : List Int) : ∀ (d m : Nat) (K : List Int), m + d = s → K.length = x0.length → Ev (fun k => portref1_KindsOf.l2 k x0 (fill d m K) (e : Int) ((s + 1 : Nat) : Int)) R →
    Ev (fun k => portref1_KindsOf.l4 k x0 K (e : Int) (m : Int) (s : Int)) R := by
  intro d
  induction d with
  | zero =>
    intro m K hm hK hz
    obtain rfl : m = s := by omega
    refine Ev.shift ?_
    simp only [portref1_KindsOf.l4]
    refine Ev.neg (by omega) ?_
    rw [up (by omega)]
    exact hz
  | succ d ih =>
    intro m K hm hK hz
    refine Ev.shift ?_
    simp only [portref1_KindsOf.l4, Int.toNat_natCast]
    refine Ev.pos (by omega) ?_
    refine Ev.pos (by omega) ?_
    refine Ev.pos (by omega) ?_
    rw [up (by omega)]
    exact ih (m + 1) (K.set m 2) (by omega) (by rw [List.length_set]; exact hK) hz
include hb
theorem of_l3 (e i : Nat) (he : e ≤ x0.length) (K : List Int) (R : List Int) : ∀ (d j : Nat), j + d = e →
    Ev (fun k => portref1_KindsOf.j7 k x0 K (e : Int) (i : Int) ((skip (x0.map bl) e d j : Nat) : Int)) R →
    Ev (fun k => portref1_KindsOf.l3 k x0 K (e : Int) (i : Int) (j : Int)) R := by
  intro d
  induction d with
  | zero =>
    intro j hj hz
    refine Ev.shift ?_
    simp only [portref1_KindsOf.l3]
    refine Ev.neg (by omega) ?_
    exact hz
  | succ d ih =>
    intro j hj hz
    have hlt : j < x0.length := by omega
    refine Ev.shift ?_
    simp only [portref1_KindsOf.l3]
    refine Ev.pos (by omega) ?_
    refine Ev.pos (by omega) ?_
    refine Ev.pos (by omega) ?_
    refine Ev.bindc (refEmpty_f (hb _ (at_mem x0 hlt))) ?_
    rw [skip, ← at_bl x0 hlt] at hz
    by_cases h : emp (bl (rdOf ByteArray.empty x0 (j : Int))) = true
    · rw [if_pos ⟨by omega, h⟩] at hz
      refine Ev.pos h ?_
      rw [up (by omega)]
      exact ih (j + 1) (by omega) hz
    · rw [if_neg (fun hc => h hc.2)] at hz
      exact Ev.neg h hz
theorem of_l2 (e : Nat) (he : e ≤ x0.length) : ∀ (d i : Nat) (K : List Int), i + d = e → K.length = x0.length →
    Ev (fun k => portref1_KindsOf.l2 k x0 K (e : Int) (i : Int)) (run1 (x0.map bl) e d i K) := by
  intro d
  induction d using Nat.strongRecOn with
  | _ d ih =>
    intro i K hi hK
    cases d with
    | zero =>
      refine Ev.shift ?_
      simp only [portref1_KindsOf.l2]
      refine Ev.neg (by omega) ?_
      exact Ev.cst rfl
    | succ d =>
      have hlt : i < x0.length := by omega
      have hz := hb _ (at_mem x0 hlt)
      have hz2 := hz
      rw [bl_size] at hz2
      have htl := trimR_len (bl (rdOf ByteArray.empty x0 (i : Int)))
      have hnext := ih d (by omega) (i + 1) K (by omega) hK
      have hj5 : ∀ R, Ev (fun k => portref1_KindsOf.l2 k x0 K (e : Int) ((i + 1 : Nat) : Int)) R → Ev (fun k => portref1_KindsOf.j5 k x0 K (e : Int) (i : Int) true) R := by
        intro R hR
        refine Ev.shift ?_
        simp only [portref1_KindsOf.j5]
        refine Ev.pos trivial ?_
        rw [up (by omega)]
        exact hR
      refine Ev.shift ?_
      simp only [portref1_KindsOf.l2]
      refine Ev.pos (by omega) ?_
      refine Ev.pos (by omega) ?_
      refine Ev.pos (by omega) ?_
      rw [rd_nat, run1, ← at_bl x0 hlt, intro_eq]
      by_cases h1 : K.getD i 0 = 1
      · refine Ev.pos h1 ?_
        refine Ev.pos (by omega) ?_
        refine Ev.bindc (refEmpty_f hz) ?_
        by_cases h0 : emp (bl (rdOf ByteArray.empty x0 (i : Int))) = true
        · refine Ev.pos h0 ?_
          have hin : ¬ introR (bl (rdOf ByteArray.empty x0 (i : Int))) = true := by unfold introR; rw [h0]; simp
          rw [if_neg (fun h => hin h.2)]
          exact hj5 _ hnext
        · refine Ev.neg h0 ?_
          refine Ev.bindc (trimR_f hz) ?_
          refine Ev.bindc (suf_f (by omega)) ?_
          rw [Bool.not_eq_true] at h0
          by_cases h2 : [58].isSuffixOf (Lib.trimRightS (bl (rdOf ByteArray.empty x0 (i : Int))) bks) = true
          · refine Ev.pos h2 ?_
            have hlow := lower_f (l := bl (rdOf ByteArray.empty x0 (i : Int))) hz2
            rw [ba_bl] at hlow
            refine Ev.bindc hlow ?_
            refine Ev.bindc (cont_f (by rw [List.length_map]; omega)) ?_
            by_cases h3 : Lib.contains ((bl (rdOf ByteArray.empty x0 (i : Int))).map lowB) wrote = true
            · have hin : introR (bl (rdOf ByteArray.empty x0 (i : Int))) = true := by unfold introR; rw [h0, h2, h3]; rfl
              rw [if_pos ⟨h1, hin⟩, h3]
              refine Ev.shift ?_
              simp only [portref1_KindsOf.j5]
              refine Ev.neg (by decide) ?_
              rw [up (by omega)]
              refine of_l3 x0 hn hb e i he K _ (e - (i + 1)) (i + 1) (by omega) ?_
              have hs1 := skip_ge (x0.map bl) e (e - (i + 1)) (i + 1)
              have hs2 := skip_le (x0.map bl) e (e - (i + 1)) (i + 1) (by omega)
              generalize skip (x0.map bl) e (e - (i + 1)) (i + 1) = s at hs1 hs2 ⊢
              refine Ev.shift ?_
              simp only [portref1_KindsOf.j7]
              by_cases h4 : s < e
              · refine Ev.pos (by omega) ?_
                refine Ev.pos (by omega) ?_
                refine Ev.pos (by omega) ?_
                rw [rd_nat]
                by_cases h5 : K.getD s 0 = 3
                · rw [if_pos ⟨h4, h5⟩, h5]
                  refine Ev.shift ?_
                  simp only [portref1_KindsOf.j8]
                  refine Ev.pos (by decide) ?_
                  have hp := run1_past (x0.map bl) e i s K hs1 h4 (by omega) h5
                  rw [show d = e - (i + 1) by omega, hp]
                  exact of_l4 x0 hn e s h4 he _ (s - i) i K (by omega) hK (ih (e - (s + 1)) (by omega) (s + 1) _ (by omega) (by rw [fill_len]; exact hK))
                · rw [if_neg (fun h => h5 h.2)]
                  refine Ev.shift ?_
                  simp only [portref1_KindsOf.j8]
                  refine Ev.neg (by simpa using h5) ?_
                  rw [up (by omega)]
                  exact hnext
              · refine Ev.neg (by omega) ?_
                rw [if_neg (fun h => h4 h.1)]
                refine Ev.shift ?_
                simp only [portref1_KindsOf.j8]
                refine Ev.neg (by decide) ?_
                rw [up (by omega)]
                exact hnext
            · have hin : ¬ introR (bl (rdOf ByteArray.empty x0 (i : Int))) = true := by unfold introR; rw [Bool.not_eq_true] at h3; rw [h3]; simp
              rw [if_neg (fun h => hin h.2)]
              rw [Bool.not_eq_true] at h3
              rw [h3]
              exact hj5 _ hnext
          · have hin : ¬ introR (bl (rdOf ByteArray.empty x0 (i : Int))) = true := by unfold introR; rw [Bool.not_eq_true] at h2; rw [h2]; simp
            refine Ev.neg h2 ?_
            rw [if_neg (fun h => hin h.2)]
            exact hj5 _ hnext
      · refine Ev.neg h1 ?_
        rw [if_neg (fun h => h1 h.1)]
        exact hj5 _ hnext
omit hb
theorem of_l1 (e : Nat) (_he : e ≤ x0.length) (R : List Int) (hz : Ev (fun k => portref1_KindsOf.l2 k x0 (baseTo (x0.map bl) e x0.length) (e : Int) 0) R) : ∀ (d i : Nat), i + d = x0.length →
    Ev (fun k => portref1_KindsOf.l1 k x0 (baseTo (x0.map bl) e i ++ List.replicate d 0) (e : Int) (x0.length : Int) (i : Int)) R := by
  intro d
  induction d with
  | zero =>
    intro i hi
    refine Ev.shift ?_
    simp only [portref1_KindsOf.l1]
    refine Ev.neg (by omega) ?_
    rw [List.replicate_zero, List.append_nil, show i = x0.length by omega]
    exact hz
  | succ d ih =>
    intro i hi
    have hlt : i < x0.length := by omega
    have hi' := ih (i + 1) (by omega)
    rw [baseTo_succ, List.append_assoc] at hi'
    have hset : ∀ x y : Int, (baseTo (x0.map bl) e i ++ x :: List.replicate d 0).set i y = baseTo (x0.map bl) e i ++ y :: List.replicate d 0 := by
      intro x y
      have := set_at (baseTo (x0.map bl) e i) (List.replicate d 0) x y
      rwa [baseTo_len] at this
    have hlen : (baseTo (x0.map bl) e i ++ List.replicate (d + 1) 0).length = x0.length := by rw [List.length_append, baseTo_len, List.length_replicate]; omega
    refine Ev.shift ?_
    simp only [portref1_KindsOf.l1, Int.toNat_natCast]
    refine Ev.pos (by omega) ?_
    rw [hlen, List.replicate_succ, hset, hset, hset, up (by omega)]
    by_cases h1 : e ≤ i
    · refine Ev.pos (by omega) ?_
      refine Ev.pos (by omega) ?_
      refine Ev.pos (by omega) ?_
      rw [baseK, if_pos h1] at hi'
      exact hi'
    · refine Ev.neg (by omega) ?_
      refine Ev.pos (by omega) ?_
      refine Ev.pos (by omega) ?_
      refine Ev.bindc (refQuoted_f _) ?_
      rw [baseK, if_neg h1, ← at_bl x0 hlt] at hi'
      by_cases h2 : qd (bl (rdOf ByteArray.empty x0 (i : Int))) = true
      · refine Ev.pos h2 ?_
        rw [if_pos h2] at hi'
        exact Ev.pos (by omega) hi'
      · refine Ev.neg h2 ?_
        rw [if_neg h2] at hi'
        exact Ev.pos (by omega) hi'
omit hn in
theorem sgn_cons (x : Ln) (r : List Ln) : sgn (x :: r) = if sep x = true ∧ r.length ≤ 12 ∧ r.all (fun y => !qd y) = true then 0 else sgn r + 1 := rfl
/-- Backwards from the end: all that was seen is unquoted, and short enough. -/
theorem of_l0 (K R : List Int) (hz : Ev (fun k => portref1_KindsOf.j2 k x0 K ((sgn (x0.map bl) : Nat) : Int)) R) : ∀ (i : Nat), i ≤ x0.length → ((x0.drop i).map bl).all (fun y => !qd y) = true →
    Ev (fun k => portref1_KindsOf.l0 k x0 K ((i + sgn ((x0.drop i).map bl) : Nat) : Int) ((i : Int) - 1)) R := by
  intro i
  induction i with
  | zero =>
    intro _ _
    refine Ev.shift ?_
    simp only [portref1_KindsOf.l0]
    refine Ev.neg (by omega) ?_
    rw [List.drop_zero, Nat.zero_add]
    exact hz
  | succ i ih =>
    intro hi hall
    have hlt : i < x0.length := by omega
    have e1 : ((i + 1 : Nat) : Int) - 1 = (i : Int) := by omega
    have ed := at_drop x0 hlt
    have hl : ((x0.drop (i + 1)).map bl).length = x0.length - (i + 1) := by rw [List.length_map, List.length_drop]
    have hend : (∀ (b c : List Ln) (x : Ln), (x0.take (i + 1)).map bl = b ++ x :: c → ¬ (sep x = true ∧ (c ++ (x0.drop (i + 1)).map bl).length ≤ 12 ∧ (c ++ (x0.drop (i + 1)).map bl).all (fun y => !qd y) = true)) →
        Ev (fun k => portref1_KindsOf.j1 k x0 K ((i + 1 + sgn ((x0.drop (i + 1)).map bl) : Nat) : Int) (i : Int) true) R := by
      intro h
      have hs := sgn_skip _ _ h
      rw [← List.map_append, List.take_append_drop, List.length_map, List.length_take, Nat.min_eq_left (by omega)] at hs
      refine Ev.shift ?_
      simp only [portref1_KindsOf.j1]
      refine Ev.pos trivial ?_
      rw [← hs]
      exact hz
    have etake : (x0.take (i + 1)).map bl = (x0.take i).map bl ++ [bl (rdOf ByteArray.empty x0 (i : Int))] := by
      rw [List.take_add_one, List.getElem?_eq_getElem hlt, at_get x0 hlt, List.map_append]; rfl
    rw [e1]
    refine Ev.shift ?_
    simp only [portref1_KindsOf.l0]
    refine Ev.pos (by omega) ?_
    refine Ev.pos (by omega) ?_
    refine Ev.pos (by omega) ?_
    refine Ev.bindc (refQuoted_f _) ?_
    by_cases h1 : qd (bl (rdOf ByteArray.empty x0 (i : Int))) = true
    · refine Ev.pos h1 ?_
      refine hend ?_
      intro b c x he hc
      rw [etake] at he
      rcases List.eq_nil_or_concat c with rfl | ⟨c, z, rfl⟩
      · have := (List.append_inj' he rfl).2
        simp only [List.cons.injEq, and_true] at this
        subst this
        rw [sep_qd hc.1] at h1
        cases h1
      · rw [List.concat_eq_append, ← List.cons_append, ← List.append_assoc] at he
        have := (List.append_inj' he rfl).2
        simp only [List.cons.injEq, and_true] at this
        subst this
        have hall2 := hc.2.2
        rw [List.concat_eq_append, List.all_append, List.all_append, List.all_cons, h1] at hall2
        simp at hall2
    · refine Ev.neg h1 ?_
      have hw : wrap64 (wrap64 ((x0.length : Int) - 1) - (i : Int)) = ((x0.length - (i + 1) : Nat) : Int) := by rw [w64 (x := (x0.length : Int) - 1) (by omega) (by omega), w64 (by omega) (by omega)]; omega
      rw [hw]
      by_cases h2 : 12 < x0.length - (i + 1)
      · rw [show decide ((((x0.length - (i + 1) : Nat)) : Int) > 12) = true from decide_eq_true (by omega)]
        refine hend ?_
        intro b c x _ hc
        have := hc.2.1
        rw [List.length_append, hl] at this
        omega
      · rw [show decide ((((x0.length - (i + 1) : Nat)) : Int) > 12) = false from decide_eq_false (by omega)]
        have hnx := ih (by omega) (by rw [ed, List.map_cons, List.all_cons, hall]; rw [Bool.not_eq_true] at h1; rw [h1]; rfl)
        rw [ed, List.map_cons, sgn_cons, hl] at hnx
        refine Ev.shift ?_
        simp only [portref1_KindsOf.j1]
        refine Ev.neg (by decide) ?_
        refine Ev.pos (by omega) ?_
        refine Ev.pos (by omega) ?_
        rw [w64 (x := (i : Int) - 1) (by omega) (by omega)]
        by_cases hs : sep (bl (rdOf ByteArray.empty x0 (i : Int))) = true
        · rw [if_pos ⟨hs, by omega, hall⟩] at hnx
          unfold sep at hs
          simp only [Bool.or_eq_true, beq_iff_eq] at hs
          by_cases h3 : bl (rdOf ByteArray.empty x0 (i : Int)) = [45, 45]
          · exact Ev.pos (by rw [toList_bl]; exact h3) hnx
          · exact Ev.neg (by rw [toList_bl]; exact h3) (Ev.pos (by rw [toList_bl]; exact hs.resolve_left h3) hnx)
        · rw [if_neg (fun h => hs h.1), ← Nat.add_assoc, Nat.add_right_comm] at hnx
          have hs2 := hs
          unfold sep at hs2
          simp only [Bool.or_eq_true, beq_iff_eq, not_or] at hs2
          exact Ev.neg (by rw [toList_bl]; exact hs2.1) (Ev.neg (by rw [toList_bl]; exact hs2.2) hnx)
include hb
theorem kindsOf_f : Ev (fun k => portref1_KindsOf.f k x0) (kinds (x0.map bl)) := by
  unfold portref1_KindsOf.f
  have hs := sgn_le (x0.map bl)
  rw [List.length_map] at hs
  simp only [Int.toNat_natCast]
  refine Ev.pos (by omega) ?_
  refine Ev.pos (by omega) ?_
  have h2 := of_l2 x0 hn hb _ hs (sgn (x0.map bl)) 0 (baseTo (x0.map bl) (sgn (x0.map bl)) x0.length) (Nat.zero_add _) (baseTo_len _ _ _)
  have h1 := of_l1 x0 hn _ hs _ h2 x0.length 0 (Nat.zero_add _)
  have hj : Ev (fun k => portref1_KindsOf.j2 k x0 (List.replicate x0.length 0) ((sgn (x0.map bl) : Nat) : Int)) (kinds (x0.map bl)) := by
    refine Ev.shift ?_
    simp only [portref1_KindsOf.j2]
    refine Ev.val h1 ?_
    unfold kinds
    rw [List.length_map]
  have h0 := of_l0 x0 hn _ _ hj x0.length (Nat.le_refl _) (by rw [List.drop_length]; rfl)
  rw [List.drop_length] at h0
  rw [w64 (by omega) (by omega)]
  exact h0
end Go.Proofs.YtcljkhhjondhcaaDoor.KindX
