/- The pure statement of TicketValueReads, joined: for every form, field and string of at most 2^45 bytes the printed law answers true. -/
import Derived.Test.YtijajimooldhiaaDoorTrC
namespace Go.Proofs.YtijajimooldhiaaDoor.TrD
open Go.RowKit Go.Proofs.YtijajimooldhiaaDoorW.PrintWords Go.Proofs.YtijajimooldhiaaDoor.Ext Go.Proofs.YtijajimooldhiaaDoor.ExtV Go.Proofs.YtijajimooldhiaaDoor.Kr Go.Proofs.YtijajimooldhiaaDoor.Pl Go.Proofs.YtijajimooldhiaaDoor.TrA Go.Proofs.YtijajimooldhiaaDoor.TrB Go.Proofs.YtijajimooldhiaaDoor.TrP Go.Proofs.YtijajimooldhiaaDoor.TrC
abbrev R4 := Int × Int × ByteArray × Int
def bad : R4 := (0, 0, nb, 8)
/-- what ReadValue makes of a value that it has read -/
def fin (f1 : Int) (f2 : List ByteArray) (s : ByteArray) (K I : Int) (T : ByteArray) : R4 := if valS f1 (f2.length : Int) K I T = 0 then (if txtV f2 K I T = bl s then (K, I, T, 0) else bad) else bad
section
variable (f0 : ByteArray) (f1 : Int) (f2 : List ByteArray) (f3 : Int) (s : ByteArray) (hf : 1 ≤ f1 ∧ f1 ≤ 6) (hn : f2.length ≤ 9223372036854775807)
include hf hn
theorem j1_ev (K I : Int) (T : ByteArray) : Ev (fun k => ticket_ReadValue.j1 k s f0 f1 f2 f3 K I T) (fin f1 f2 s K I T) := by
  refine Ev.shift ?_
  simp only [ticket_ReadValue.j1]
  refine Ev.bind (checkValue_ev _ _ _ _ _ _ _) ?_
  unfold fin
  by_cases hv : valS f1 (f2.length : Int) K I T = 0
  · refine Ev.pos hv (Ev.bindc (text_f f0 f1 f2 f3 K I T hf hn hv) ?_)
    rw [if_pos hv, toList_bl, toList_bl, bl_ba]
    by_cases ht : txtV f2 K I T = bl s
    · refine Ev.pos ht ?_
      rw [if_pos ht]; exact Ev.cst rfl
    · refine Ev.neg ht ?_
      rw [if_neg ht]; exact Ev.cst rfl
  · refine Ev.neg hv ?_
    rw [if_neg hv]; exact Ev.cst rfl
theorem j0_ev (K I : Int) (T : ByteArray) : Ev (fun k => ticket_ReadValue.j0 k s f0 f1 f2 f3 K I T) (if bl s = [45] then (0, 0, nb, 0) else fin f1 f2 s K I T) := by
  refine Ev.shift ?_
  simp only [ticket_ReadValue.j0]
  rw [toList_bl]
  by_cases h : bl s = [45]
  · rw [if_pos h]
    refine Ev.pos h (Ev.val (j1_ev f0 f1 f2 f3 s hf hn 0 0 nb) ?_)
    unfold fin
    have hv : valS f1 (f2.length : Int) 0 0 nb = 0 := by
      unfold valS cleanS rngS txtS
      rfl
    rw [if_pos hv, if_pos (show txtV f2 0 0 nb = bl s from h.symm)]
  · rw [if_neg h]
    exact Ev.neg h (j1_ev f0 f1 f2 f3 s hf hn K I T)
end
def rvIn (k : Nat) (f0 : ByteArray) (f1 : Int) (f2 : List ByteArray) (f3 : Int) (s : ByteArray) : Option R4 :=
  if f1 = 1 then (if s.toList = ([121, 101, 115] : List UInt8) then (ticket_ReadValue.j0 k s f0 f1 f2 f3 f1 1 nb) else (ticket_ReadValue.j0 k s f0 f1 f2 f3 f1 0 nb)) else (if f1 = 3 then ((ticket_unquoted.f s).bind fun b => (ticket_ReadValue.j0 k s f0 f1 f2 f3 f1 0 b.1)) else (if f1 = 4 then ((slices_Index_string_string.f k f2 s).bind fun t => (ticket_ReadValue.j0 k s f0 f1 f2 f3 f1 t nb)) else ((strings_TrimLeft.f s (⟨#[64, 35]⟩ : ByteArray)).bind fun t => ((ticket_number.f t 18).bind fun b => (ticket_ReadValue.j0 k s f0 f1 f2 f3 f1 b.1 nb)))))
theorem val_num {f1 n I : Int} (h0 : f1 ≠ 0) (h3 : f1 ≠ 3) : valS f1 n f1 I nb = if rngS f1 I n = true then 0 else 2 := by
  unfold valS cleanS
  rw [if_neg h0, if_neg h3, if_pos (by rfl), if_neg (by simp)]
  rfl
theorem val_txt {n : Int} (T : ByteArray) : valS 3 n 3 0 T = txtS T := by
  unfold valS cleanS rngS
  rfl
/-- What the reference makes of a value that it has read. -/
def ok4 (r : R4) (w : Int × Int × ByteArray × Bool) : Prop := r = if w.2.2.2 = true then (w.1, w.2.1, w.2.2.1, 0) else bad
theorem read_ev (f0 : ByteArray) (f1 : Int) (f2 : List ByteArray) (f3 : Int) (s : ByteArray) (hf : 1 ≤ f1 ∧ f1 ≤ 6) (hn : f2.length ≤ 9223372036854775807) (hs : s.size ≤ 35184372088832) :
    ∃ r w, Ev (fun k => rvIn k f0 f1 f2 f3 s) r ∧ Ev (fun k => portref1_ValueRead.f k f0 f1 f2 f3 s) w ∧ ok4 r w := by
  have VE := fun K I T => valueError_ev f0 f1 f2 f3 K I T
  have J0 := j0_ev f0 f1 f2 f3 s hf hn
  have hbs := bl_size s
  -- the reading of a number
  have NUM : ∀ v, numS (Lib.trimLeftS (bl s) [64, 35]) 18 = v → f1 ≠ 1 → f1 ≠ 3 → f1 ≠ 4 → Ev (fun k => rvIn k f0 f1 f2 f3 s) (if bl s = [45] then (0, 0, nb, 0) else fin f1 f2 s f1 v.1 nb) := by
    intro v hv h1 h3 h4
    unfold rvIn
    refine Ev.neg h1 (Ev.neg h3 (Ev.neg h4 (Ev.bindc (v := ba (Lib.trimLeftS (bl s) [64, 35])) ?_ (Ev.bindc (v := v) ?_ (J0 _ _ _)))))
    · show trimLeftF s _ = _
      unfold trimLeftF
      rw [if_pos (by decide), if_pos (by rfl)]
    · show numberF _ 18 = _
      unfold numberF
      have : (Lib.trimLeftS (bl s) [64, 35]).length ≤ (bl s).length := (List.dropWhile_sublist _).length_le
      rw [if_pos (by rw [ba_size]; omega), bl_ba, hv]
  by_cases hd : bl s = [45]
  · -- nothing
    have VR : Ev (fun k => portref1_ValueRead.f k f0 f1 f2 f3 s) (0, 0, nb, true) := by
      unfold portref1_ValueRead.f
      rw [toList_bl]
      exact Ev.pos hd (Ev.cst rfl)
    have RV : Ev (fun k => rvIn k f0 f1 f2 f3 s) (0, 0, nb, 0) := by
      by_cases h1 : f1 = 1
      · unfold rvIn
        refine Ev.pos h1 ?_
        by_cases hy : s.toList = ([121, 101, 115] : List UInt8)
        · refine Ev.pos hy (Ev.val (J0 _ _ _) ?_); rw [if_pos hd]
        · refine Ev.neg hy (Ev.val (J0 _ _ _) ?_); rw [if_pos hd]
      by_cases h3 : f1 = 3
      · unfold rvIn
        refine Ev.neg h1 (Ev.pos h3 (Ev.bindc (v := (ba (unqS (bl s)).1, (unqS (bl s)).2)) ?_ (Ev.val (J0 _ _ _) ?_)))
        · show unquotedF s = _
          unfold unquotedF
          rw [if_pos hs]
        · rw [if_pos hd]
      by_cases h4 : f1 = 4
      · unfold rvIn
        obtain ⟨n, e1, _, _⟩ := both_l0 f2 s hn f2.length 0 (by omega)
        refine Ev.neg h1 (Ev.neg h3 (Ev.pos h4 (Ev.bind e1 (Ev.val (J0 _ _ _) ?_))))
        rw [if_pos hd]
      · have := NUM _ rfl h1 h3 h4
        rw [if_pos hd] at this
        exact this
    exact ⟨_, _, RV, VR, rfl⟩
  -- the value itself
  have hd' : ¬ s.toList = ([45] : List UInt8) := by rw [toList_bl]; exact hd
  by_cases h1 : f1 = 1
  · subst h1
    have J1 := fun I => j0_ev f0 1 f2 f3 s hf hn 1 I nb
    simp only [if_neg hd] at J1
    by_cases hy : s.toList = ([121, 101, 115] : List UInt8)
    · have hv : valS 1 (f2.length : Int) 1 1 nb = 0 := by rw [val_num (by decide) (by decide)]; rfl
      refine ⟨_, (1, 1, nb, true), Ev.pos rfl (Ev.pos hy (J1 1)), ?_, ?_⟩
      · unfold portref1_ValueRead.f
        refine Ev.neg hd' (Ev.pos rfl (Ev.pos hy (Ev.shift ?_)))
        simp only [portref1_ValueRead.j0]
        exact Ev.pos hy (Ev.pos trivial (Ev.bind (VE _ _ _) (Ev.pos hv (Ev.cst rfl))))
      · unfold ok4 fin
        rw [if_pos hv, if_pos (show txtV f2 1 1 nb = bl s by rw [← toList_bl, hy]; rfl)]; rfl
    · have hv : valS 1 (f2.length : Int) 1 0 nb = 0 := by rw [val_num (by decide) (by decide)]; rfl
      by_cases hno : s.toList = ([110, 111] : List UInt8)
      · refine ⟨_, (1, 0, nb, true), Ev.pos rfl (Ev.neg hy (J1 0)), ?_, ?_⟩
        · unfold portref1_ValueRead.f
          refine Ev.neg hd' (Ev.pos rfl (Ev.neg hy (Ev.shift ?_)))
          simp only [portref1_ValueRead.j0]
          exact Ev.neg hy (Ev.pos (beq_iff_eq.2 hno) (Ev.bind (VE _ _ _) (Ev.pos hv (Ev.cst rfl))))
        · unfold ok4 fin
          rw [if_pos hv, if_pos (show txtV f2 1 0 nb = bl s by rw [← toList_bl, hno]; rfl)]; rfl
      · refine ⟨_, (0, 0, nb, false), Ev.pos rfl (Ev.neg hy (J1 0)), ?_, ?_⟩
        · unfold portref1_ValueRead.f
          refine Ev.neg hd' (Ev.pos rfl (Ev.neg hy (Ev.shift ?_)))
          simp only [portref1_ValueRead.j0]
          exact Ev.neg hy (Ev.neg (fun q => hno (beq_iff_eq.1 q)) (Ev.cst rfl))
        · unfold ok4 fin
          rw [if_pos hv, if_neg (fun q => hno (by rw [toList_bl, ← q]; rfl))]; rfl
  by_cases h3 : f1 = 3
  · subst h3
    have J3 := fun T => j0_ev f0 3 f2 f3 s hf hn 3 0 T
    simp only [if_neg hd] at J3
    have RV : Ev (fun k => rvIn k f0 3 f2 f3 s) (fin 3 f2 s 3 0 (ba (unqS (bl s)).1)) := by
      unfold rvIn
      refine Ev.neg (by decide) (Ev.pos rfl (Ev.bindc (v := (ba (unqS (bl s)).1, (unqS (bl s)).2)) ?_ (J3 _)))
      show unquotedF s = _
      unfold unquotedF
      rw [if_pos hs]
    have RU := refU_ev s hs
    cases hq : rqS (bl s) with
    | none =>
      rw [hq] at RU
      refine ⟨_, (0, 0, nb, false), RV, ?_, ?_⟩
      · unfold portref1_ValueRead.f
        exact Ev.neg hd' (Ev.neg (by decide) (Ev.neg (by decide) (Ev.pos rfl (Ev.bind RU (Ev.neg (by decide) (Ev.cst rfl))))))
      · unfold ok4 fin
        have hx : ¬ txtV f2 3 0 (ba (unqS (bl s)).1) = bl s := by
          intro q
          have q2 : 34 :: qAll (bl (ba (unqS (bl s)).1)) ++ [34] = bl s := q
          rw [← q2, rqS_quoted] at hq
          cases hq
        rw [if_neg hx]
        split <;> rfl
    | some t =>
      rw [hq] at RU
      have el := rqS_some hq
      have hu : (unqS (bl s)).1 = t := by rw [el, unqS_quoted]
      rw [hu] at RV
      have htx : txtV f2 3 0 (ba t) = bl s := by
        show 34 :: qAll (bl (ba t)) ++ [34] = bl s
        rw [bl_ba]; exact el.symm
      by_cases hv : valS 3 (f2.length : Int) 3 0 (ba t) = 0
      · refine ⟨_, (3, 0, ba t, true), RV, ?_, ?_⟩
        · unfold portref1_ValueRead.f
          exact Ev.neg hd' (Ev.neg (by decide) (Ev.neg (by decide) (Ev.pos rfl (Ev.bind RU (Ev.pos rfl (Ev.bind (VE _ _ _) (Ev.pos hv (Ev.cst rfl))))))))
        · unfold ok4 fin
          rw [if_pos hv, if_pos htx]; rfl
      · refine ⟨_, (0, 0, nb, false), RV, ?_, ?_⟩
        · unfold portref1_ValueRead.f
          exact Ev.neg hd' (Ev.neg (by decide) (Ev.neg (by decide) (Ev.pos rfl (Ev.bind RU (Ev.pos rfl (Ev.bind (VE _ _ _) (Ev.neg hv (Ev.cst rfl))))))))
        · unfold ok4 fin
          rw [if_neg hv]; rfl
  by_cases h4 : f1 = 4
  · subst h4
    obtain ⟨n, e1, e2, e3⟩ := both_l0 f2 s hn f2.length 0 (by omega)
    have J4 := j0_ev f0 4 f2 f3 s hf hn 4 n nb
    rw [if_neg hd] at J4
    have RV : Ev (fun k => rvIn k f0 4 f2 f3 s) (fin 4 f2 s 4 n nb) := by
      unfold rvIn
      exact Ev.neg (by decide) (Ev.neg (by decide) (Ev.pos rfl (Ev.bind e1 J4)))
    have hval := val_num (f1 := 4) (n := (f2.length : Int)) (I := n) (by decide) (by decide)
    have hrng : rngS 4 n (f2.length : Int) = inS n 0 (wrap64 ((f2.length : Int) - 1)) := rfl
    rw [hrng] at hval
    rcases e3 with rfl | ⟨g0, g1, g2⟩
    · have hv : ¬ valS 4 (f2.length : Int) 4 (-1) nb = 0 := by
        rw [hval, if_neg (fun q => by have := (TrB.inS_iff.1 q).1; omega)]; decide
      refine ⟨_, (0, 0, nb, false), RV, ?_, ?_⟩
      · unfold portref1_ValueRead.f
        exact Ev.neg hd' (Ev.neg (by decide) (Ev.neg (by decide) (Ev.neg (by decide) (Ev.pos rfl (Ev.bind e2 (Ev.neg (by decide) (Ev.cst rfl)))))))
      · unfold ok4 fin
        rw [if_neg hv]; rfl
    · have hv : valS 4 (f2.length : Int) 4 n nb = 0 := by
        rw [hval, if_pos (TrB.inS_iff.2 ⟨g0, by rw [w64 (by omega) (by omega)]; omega⟩)]
      refine ⟨_, (4, n, nb, true), RV, ?_, ?_⟩
      · unfold portref1_ValueRead.f
        exact Ev.neg hd' (Ev.neg (by decide) (Ev.neg (by decide) (Ev.neg (by decide) (Ev.pos rfl (Ev.bind e2 (Ev.pos g0 (Ev.bind (VE _ _ _) (Ev.pos hv (Ev.cst rfl)))))))))
      · unfold ok4 fin
        rw [if_pos hv, if_pos (show txtV f2 4 n nb = bl s from g2)]; rfl
  have N0 := NUM _ rfl h1 h3 h4
  rw [if_neg hd] at N0
  -- what is valid is the number's own text
  have BACK : ∀ v : Int, -100000000000 ≤ v → v ≤ 100000000000 → (∀ T, txtV f2 f1 v T = bl s) → (numS (Lib.trimLeftS (bl s) [64, 35]) 18).1 = v := by
    intro v a b ht
    have ht' := ht nb
    unfold txtV at ht'
    rw [if_neg (by omega), if_neg h1, if_neg h3, if_neg h4] at ht'
    have : Lib.trimLeftS (bl s) [64, 35] = Lib.itoa v := by
      by_cases h5 : f1 = 5
      · rw [if_pos h5] at ht'; rw [← ht']; exact trim_mark 64 (.inl rfl) v
      rw [if_neg h5] at ht'
      by_cases h6 : f1 = 6
      · rw [if_pos h6] at ht'; rw [← ht']; exact trim_mark 35 (.inr rfl) v
      rw [if_neg h6] at ht'
      rw [← ht']; exact trim_itoa v
    rw [this, numS_itoa v a b]
  -- joined: the reference finds v, or there is none
  have JOIN : ∀ (o : Bool) (v : Int), (o = true → (-100000000000 ≤ v ∧ v ≤ 100000000000 ∧ ∀ T, txtV f2 f1 v T = bl s)) → (o = false → ∀ v, valS f1 (f2.length : Int) f1 v nb = 0 → ¬ txtV f2 f1 v nb = bl s) →
      ok4 (fin f1 f2 s f1 (numS (Lib.trimLeftS (bl s) [64, 35]) 18).1 nb) (if o = true then (if valS f1 (f2.length : Int) f1 v nb = 0 then (f1, v, nb, true) else (0, 0, nb, false)) else (0, 0, nb, false)) := by
    intro o v ho hno
    cases o with
    | true =>
      obtain ⟨a, b, c⟩ := ho rfl
      rw [BACK v a b c, if_pos rfl]
      unfold ok4 fin
      by_cases hv : valS f1 (f2.length : Int) f1 v nb = 0
      · rw [if_pos hv, if_pos hv, if_pos (c nb)]; rfl
      · rw [if_neg hv, if_neg hv]; rfl
    | false =>
      rw [if_neg (by decide)]
      unfold ok4 fin
      by_cases hv : valS f1 (f2.length : Int) f1 (numS (Lib.trimLeftS (bl s) [64, 35]) 18).1 nb = 0
      · rw [if_pos hv, if_neg (hno rfl _ hv)]; rfl
      · rw [if_neg hv]; rfl
  have TX2 : f1 = 2 → ∀ v T, txtV f2 f1 v T = Lib.itoa v := by rintro rfl v T; rfl
  have TX5 : f1 = 5 → ∀ v T, txtV f2 f1 v T = 64 :: Lib.itoa v := by rintro rfl v T; rfl
  have TX6 : f1 = 6 → ∀ v T, txtV f2 f1 v T = 35 :: Lib.itoa v := by rintro rfl v T; rfl
  by_cases h2 : f1 = 2
  · have WH := whole_ev s
    cases hw : whS (bl s) with
    | mk v o =>
      rw [hw] at WH
      refine ⟨_, _, N0, ?_, JOIN o v ?_ ?_⟩
      · unfold portref1_ValueRead.f
        refine Ev.neg hd' (Ev.neg h1 (Ev.pos h2 (Ev.bind WH ?_)))
        cases o with
        | false => exact Ev.neg (by simp) (Ev.cst rfl)
        | true =>
          rw [if_pos rfl]
          refine Ev.pos rfl (Ev.bind (VE _ _ _) ?_)
          by_cases hv : valS f1 (f2.length : Int) f1 v nb = 0
          · refine Ev.pos hv ?_
            rw [if_pos hv]; exact Ev.cst rfl
          · refine Ev.neg hv ?_
            rw [if_neg hv]; exact Ev.cst rfl
      · rintro rfl
        obtain ⟨a, b, c⟩ := whS_ok hw
        exact ⟨b, c, fun T => by rw [TX2 h2]; exact a.symm⟩
      · rintro rfl u hu q
        rw [TX2 h2] at q
        rw [val_num (by omega) h3] at hu
        have hr : rngS f1 u (f2.length : Int) = true := by
          by_cases h : rngS f1 u (f2.length : Int) = true
          · exact h
          · rw [if_neg h] at hu; cases hu
        subst h2
        have hr2 : inS u (-1000000000) 1000000000 = true := hr
        have hr3 := TrB.inS_iff.1 hr2
        rw [← q, whS_itoa u hr3.1 hr3.2] at hw
        cases (Prod.mk.inj hw).2
  -- moments and persons
  have MARK : ∀ c : UInt8, (∀ v T, txtV f2 f1 v T = c :: Lib.itoa v) → (∀ u, valS f1 (f2.length : Int) f1 u nb = 0 → 0 ≤ u ∧ u ≤ 3000000) →
      ∃ w, Ev (fun k => portref1_ValueRead.j2 k s (⟨#[c]⟩ : ByteArray) f0 f1 f2 f3 f1 0 nb) w ∧ ok4 (fin f1 f2 s f1 (numS (Lib.trimLeftS (bl s) [64, 35]) 18).1 nb) w := by
    intro c hc hb
    have CF := cut_f s c
    by_cases hh : (bl s).head? = some c
    · rw [if_pos hh] at CF
      have hl : bl s = c :: (bl s).tail := by
        cases h : bl s with
        | nil => rw [h] at hh; cases hh
        | cons b r =>
          rw [h] at hh
          obtain rfl : b = c := by simpa using hh
          rfl
      have NF := nat_f (ba (bl s).tail)
      rw [bl_ba] at NF
      cases hw : natS 10 (bl s).tail with
      | mk v o =>
        rw [hw] at NF
        refine ⟨_, ?_, JOIN o v ?_ ?_⟩
        · refine Ev.shift ?_
          simp only [portref1_ValueRead.j2]
          refine Ev.bindc CF (Ev.bind NF ?_)
          cases o with
          | false => exact Ev.neg (by simp) (Ev.cst rfl)
          | true =>
            rw [if_pos rfl]
            refine Ev.pos rfl (Ev.pos rfl (Ev.bind (VE _ _ _) ?_))
            by_cases hv : valS f1 (f2.length : Int) f1 v nb = 0
            · refine Ev.pos hv ?_
              rw [if_pos hv]; exact Ev.cst rfl
            · refine Ev.neg hv ?_
              rw [if_neg hv]; exact Ev.cst rfl
        · rintro rfl
          obtain ⟨m, rfl, e2, e3⟩ := natS_ok hw
          have hb := dec_bound (m := m) (by rw [← e2]; exact e3)
          refine ⟨by omega, by omega, fun T => ?_⟩
          rw [hc, Lib.itoa_nonneg, hl]
          exact congrArg (c :: ·) e2.symm
        · rintro rfl u hu q
          have hr := hb u hu
          obtain ⟨m, rfl⟩ : ∃ m : Nat, u = (m : Int) := ⟨u.toNat, by omega⟩
          rw [hc, Lib.itoa_nonneg, hl] at q
          have q2 := (List.cons.inj q).2
          exact natS_no hw m (by omega) q2.symm
    · rw [if_neg hh] at CF
      have NF := nat_f s
      cases hw : natS 10 (bl s) with
      | mk v o =>
        rw [hw] at NF
        refine ⟨_, ?_, JOIN false 0 (fun q => by cases q) ?_⟩
        · rw [if_neg (by decide)]
          refine Ev.shift ?_
          simp only [portref1_ValueRead.j2]
          refine Ev.bindc CF (Ev.bind NF ?_)
          cases o with
          | false => exact Ev.neg (by simp) (Ev.cst rfl)
          | true => exact Ev.pos rfl (Ev.neg (by simp) (Ev.cst rfl))
        · intro _ u hu q
          rw [hc] at q
          exact hh (by rw [← q]; rfl)
  by_cases h5 : f1 = 5
  · obtain ⟨w, e1, e2⟩ := MARK 64 (TX5 h5) (fun u hu => by
      rw [val_num (by omega) h3] at hu
      by_cases h : rngS f1 u (f2.length : Int) = true
      · subst h5
        have hr2 : inS u 0 3000000 = true := h
        exact TrB.inS_iff.1 hr2
      · rw [if_neg h] at hu; cases hu)
    refine ⟨_, w, N0, ?_, e2⟩
    unfold portref1_ValueRead.f
    refine Ev.neg hd' (Ev.neg h1 (Ev.neg h2 (Ev.neg h3 (Ev.neg h4 (Ev.pos h5 (Ev.shift ?_))))))
    simp only [portref1_ValueRead.j1]
    exact Ev.pos (beq_iff_eq.2 h5) (Ev.neg (by omega) e1)
  · have h6 : f1 = 6 := by omega
    obtain ⟨w, e1, e2⟩ := MARK 35 (TX6 h6) (fun u hu => by
      rw [val_num (by omega) h3] at hu
      by_cases h : rngS f1 u (f2.length : Int) = true
      · subst h6
        have hr2 : inS u 1 40 = true := h
        have := TrB.inS_iff.1 hr2
        omega
      · rw [if_neg h] at hu; cases hu)
    refine ⟨_, w, N0, ?_, e2⟩
    unfold portref1_ValueRead.f
    refine Ev.neg hd' (Ev.neg h1 (Ev.neg h2 (Ev.neg h3 (Ev.neg h4 (Ev.neg h5 (Ev.shift ?_))))))
    simp only [portref1_ValueRead.j1]
    exact Ev.pos (beq_iff_eq.2 h6) (Ev.pos h6 e1)
theorem ticketValueReads_ev (l : List S32) (hx : ∀ x ∈ l, Fit x) (hl : ∀ x ∈ l, x.f2.length ≤ 9223372036854775807) (a1 : Int) (s : ByteArray) (hs : s.size ≤ 35184372088832) : Ev (fun k => portlaw1_TicketValueReads.f k l a1 s) true := by
  have FO := fieldOf_ev l hx a1
  have FF := fault_ev l hx a1
  have EMP : (nb.toList == ([] : List UInt8)) = true := beq_iff_eq.2 (toList_bl _)
  unfold portlaw1_TicketValueReads.f
  by_cases h : fmS l = 0
  · rw [if_pos h] at FO FF
    have hll : l.length ≤ 20 := by
      unfold fmS at h
      by_cases a : (l.length : Int) > 20
      · rw [if_pos a] at h; cases h
      · omega
    have hin : inS a1 0 (wrap64 ((l.length : Int) - 1)) = true ↔ 0 ≤ a1 ∧ a1 < (l.length : Int) := by
      rw [TrB.inS_iff, w64 (by omega) (by omega)]; omega
    by_cases h1 : 0 ≤ a1 ∧ a1 < (l.length : Int)
    · rw [if_pos (hin.2 h1)] at FO
      rw [if_pos h1] at FF
      obtain ⟨i, rfl⟩ : ∃ i : Nat, a1 = (i : Int) := ⟨a1.toNat, by omega⟩
      have hm := getD_mem l z32 (i := i) (by omega)
      have hf := (fm_kind l h (j := i) (by omega)).2
      have hn := hl _ hm
      rw [at_fld] at FO
      obtain ⟨r, w, e1, e2, e3⟩ := read_ev (l.getD i z32).f0 _ _ (l.getD i z32).f3 s hf hn hs
      have RV : Ev (fun k => ticket_ReadValue.f k l (i : Int) s) r := by
        unfold ticket_ReadValue.f
        exact Ev.bind FO (Ev.pos rfl e1)
      refine Ev.bind RV (Ev.bind FF (Ev.pos rfl (Ev.pos h1.1 (Ev.pos h1.2 ?_))))
      rw [at_fld]
      refine Ev.bind e2 ?_
      obtain ⟨w0, w1, w2, ok⟩ := w
      unfold ok4 at e3
      cases ok with
      | true =>
        rw [if_pos rfl] at e3
        subst e3
        refine Ev.pos rfl (Ev.pos rfl (Ev.cst (congrArg some ?_)))
        simp
      | false =>
        rw [if_neg (by simp)] at e3
        subst e3
        refine Ev.neg (by simp) (Ev.pos rfl (Ev.cst (congrArg some ?_)))
        show ((0 : Int) == 0 && ((0 : Int) == 0 && (nb.toList == ([] : List UInt8)))) = true
        rw [EMP]; rfl
    · rw [if_neg (fun q => h1 (hin.1 q))] at FO
      rw [if_neg h1] at FF
      have RV : Ev (fun k => ticket_ReadValue.f k l a1 s) (0, 0, nb, 7) := by
        unfold ticket_ReadValue.f
        exact Ev.bind FO (Ev.neg (by decide) (Ev.cst rfl))
      refine Ev.bind RV (Ev.bind FF (Ev.neg (by decide) (Ev.pos rfl (Ev.cst (congrArg some ?_)))))
      show ((0 : Int) == 0 && ((0 : Int) == 0 && (nb.toList == ([] : List UInt8)))) = true
      rw [EMP]; rfl
  · rw [if_neg h] at FO FF
    have RV : Ev (fun k => ticket_ReadValue.f k l a1 s) (0, 0, nb, fmS l) := by
      unfold ticket_ReadValue.f
      exact Ev.bind FO (Ev.neg h (Ev.cst rfl))
    refine Ev.bind RV (Ev.bind FF (Ev.neg h (Ev.pos rfl (Ev.cst (congrArg some ?_)))))
    show ((0 : Int) == 0 && ((0 : Int) == 0 && (nb.toList == ([] : List UInt8)))) = true
    rw [EMP]; rfl
end Go.Proofs.YtijajimooldhiaaDoor.TrD
