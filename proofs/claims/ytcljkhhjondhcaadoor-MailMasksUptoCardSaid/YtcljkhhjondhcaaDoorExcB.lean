/- What the printed mail.Excerpt and portref1.ExcerptOf answer, for lists of at most 1048576 lines of at most 1048576 bytes each: the same. -/
import Derived.Test.YtcljkhhjondhcaaDoorIx8
import Derived.Test.YtcljkhhjondhcaaDoorIx12
import Derived.Test.YtcljkhhjondhcaaDoorKindX1
import Derived.Test.YtcljkhhjondhcaaDoorKindX2
import Derived.Test.YtcljkhhjondhcaaDoorWrP
namespace Go.Proofs.YtcljkhhjondhcaaDoor.ExcB
open Go.RowKit Go.Proofs.YtcljkhhjondhcaaDoorW.PrintWords Go.Proofs.YtcljkhhjondhcaaDoor.Ext Go.Proofs.YtcljkhhjondhcaaDoor.Ix Go.Proofs.YtcljkhhjondhcaaDoor.Pl Go.Proofs.YtcljkhhjondhcaaDoor.LibIx Go.Proofs.YtcljkhhjondhcaaDoor.KindP Go.Proofs.YtcljkhhjondhcaaDoor.KindX Go.Proofs.YtcljkhhjondhcaaDoor.WrP
/-! ### the parts: trimmed lines that are not empty -/
def tr (s : ByteArray) : Ln := Lib.trimS (bl s) bks
def parts (l : List ByteArray) : List Ln := (l.map tr).filter fun x => !(x == [])
theorem emp_tr (s : ByteArray) : emp (bl s) = true ↔ tr s = [] := by unfold emp tr; exact beq_iff_eq
theorem parts_cons_emp {s : ByteArray} (l : List ByteArray) (h : tr s = []) : parts (s :: l) = parts l := by unfold parts; rw [List.map_cons, List.filter_cons_of_neg (by simp [h])]
theorem parts_cons {s : ByteArray} (l : List ByteArray) (h : ¬ tr s = []) : parts (s :: l) = tr s :: parts l := by unfold parts; rw [List.map_cons, List.filter_cons_of_pos (by simpa using h)]
theorem parts_app (l m : List ByteArray) : parts (l ++ m) = parts l ++ parts m := by unfold parts; rw [List.map_append, List.filter_append]
theorem tr_len (s : ByteArray) : (tr s).length ≤ s.size := by
  unfold tr Lib.trimS
  have h1 := trimR_len (Lib.trimLeftS (bl s) bks)
  have h2 : (Lib.trimLeftS (bl s) bks).length ≤ (bl s).length := (List.dropWhile_sublist _).length_le
  rw [bl_size]
  first | omega | (have h3 := trimR_len (bl s); have h4 : (Lib.trimLeftS (Lib.trimRightS (bl s) bks) bks).length ≤ (Lib.trimRightS (bl s) bks).length := (List.dropWhile_sublist _).length_le; omega)
theorem trim_f {a : ByteArray} (h : a.size < 4294967281) : strings_Trim.f a (⟨#[32, 9]⟩ : ByteArray) = some (ba (tr a)) := trimG_f h
theorem refTrim_f {a : ByteArray} (h : a.size < 4294967281) : portref1_Trim.f a = some (ba (tr a)) := by unfold portref1_Trim.f; rw [trim_f h]; rfl
theorem strip_back : ∀ (n : Nat) (l : List ByteArray), l.length ≤ n → l.length ≤ 1048576 → (∀ s ∈ l, s.size < 4294967281) → ∃ r : List ByteArray, r.length ≤ l.length ∧ (∀ s ∈ r, s ∈ l) ∧ parts r = parts l ∧ Ev (fun k => portref1_OwnOf.l2 k l) r := by
  intro n
  induction n with
  | zero =>
    intro l hl _ _
    refine ⟨l, Nat.le_refl _, fun _ h => h, rfl, Ev.shift ?_⟩
    simp only [portref1_OwnOf.l2]
    exact Ev.neg (by omega) (Ev.cst rfl)
  | succ n ih =>
    intro l hl hm hb
    by_cases h0 : l.length = 0
    · obtain ⟨r, h⟩ := ih l (by omega) hm hb
      exact ⟨r, h⟩
    · have hw : wrap64 ((l.length : Int) - 1) = ((l.length - 1 : Nat) : Int) := by rw [w64 (by omega) (by omega)]; omega
      have hlt : l.length - 1 < l.length := by omega
      have hz := hb _ (at_mem l hlt)
      have hsp : l = l.take (l.length - 1) ++ [rdOf ByteArray.empty l ((l.length - 1 : Nat) : Int)] := by
        rw [at_get l hlt]
        conv => lhs; rw [← List.take_append_drop (l.length - 1) l]
        rw [List.drop_eq_getElem_cons hlt, List.drop_of_length_le (by omega)]
      by_cases h : emp (bl (rdOf ByteArray.empty l ((l.length - 1 : Nat) : Int))) = true
      · obtain ⟨r, hr, hrm, hp, e2⟩ := ih (l.take (l.length - 1)) (by rw [List.length_take]; omega) (by rw [List.length_take]; omega) (fun s hs => hb s (List.mem_of_mem_take hs))
        refine ⟨r, by rw [List.length_take] at hr; omega, fun s hs => List.mem_of_mem_take (hrm s hs), ?_, Ev.shift ?_⟩
        · rw [hp]
          conv => rhs; rw [hsp]
          rw [parts_app, parts_cons_emp _ ((emp_tr _).1 h)]
          simp [parts]
        · simp only [portref1_OwnOf.l2]
          rw [hw]
          simp only [Int.toNat_natCast]
          exact Ev.pos (by omega) (Ev.pos (by omega) (Ev.pos (by omega) (Ev.bindc (refEmpty_f hz) (Ev.pos h (Ev.pos (by omega) e2)))))
      · refine ⟨l, Nat.le_refl _, fun _ h => h, rfl, Ev.shift ?_⟩
        simp only [portref1_OwnOf.l2]
        rw [hw]
        exact Ev.pos (by omega) (Ev.pos (by omega) (Ev.pos (by omega) (Ev.bindc (refEmpty_f hz) (Ev.neg h (Ev.cst rfl)))))
theorem strip : ∀ (l : List ByteArray), l.length ≤ 1048576 → (∀ s ∈ l, s.size < 4294967281) → ∃ r : List ByteArray, r.length ≤ l.length ∧ (∀ s ∈ r, s ∈ l) ∧ parts r = parts l ∧ Ev (fun k => portref1_OwnOf.l1 k l) r := by
  intro l
  induction l with
  | nil =>
    intro hm hb
    obtain ⟨r, hr, hrm, hp, e2⟩ := strip_back 0 [] (Nat.le_refl _) hm hb
    refine ⟨r, hr, hrm, hp, Ev.shift ?_⟩
    simp only [portref1_OwnOf.l1]
    refine Ev.neg (by decide) (Ev.shift ?_)
    simp only [portref1_OwnOf.j2]
    exact e2
  | cons x l ih =>
    intro hm hb
    have hx : rdOf ByteArray.empty (x :: l) 0 = x := rfl
    have hz := hb x (List.mem_cons_self ..)
    by_cases h : emp (bl x) = true
    · obtain ⟨r, hr, hrm, hp, e2⟩ := ih (by rw [List.length_cons] at hm; omega) (fun s hs => hb s (List.mem_cons_of_mem _ hs))
      refine ⟨r, by rw [List.length_cons]; omega, fun s hs => List.mem_cons_of_mem _ (hrm s hs), by rw [hp, parts_cons_emp _ ((emp_tr _).1 h)], Ev.shift ?_⟩
      simp only [portref1_OwnOf.l1, List.length_cons]
      refine Ev.pos (by omega) (Ev.pos (by omega) ?_)
      rw [hx]
      exact Ev.bindc (refEmpty_f hz) (Ev.pos h (Ev.pos (by omega) e2))
    · obtain ⟨r, hr, hrm, hp, e2⟩ := strip_back _ (x :: l) (Nat.le_refl _) hm hb
      refine ⟨r, hr, hrm, hp, Ev.shift ?_⟩
      simp only [portref1_OwnOf.l1, List.length_cons]
      refine Ev.pos (by omega) (Ev.pos (by omega) ?_)
      rw [hx]
      refine Ev.bindc (refEmpty_f hz) (Ev.neg h (Ev.shift ?_))
      simp only [portref1_OwnOf.j2]
      exact e2
section
variable (x0 : List ByteArray) (hn : x0.length ≤ 1048576) (hb : ∀ s ∈ x0, s.size < 4294967281)
include hn
theorem own_l0 (K : List Int) (hK : K.length = x0.length) : ∀ (d i : Nat) (acc : List ByteArray), i + d = x0.length → acc.length ≤ i → (∀ s ∈ acc, s ∈ x0) →
    ∃ r : List ByteArray, r.length ≤ x0.length ∧ (∀ s ∈ r, s ∈ x0) ∧ Ev (fun k => mail_own.l0 k x0 acc K (K.length : Int) (i : Int)) r ∧ (∀ r', Ev (fun k => portref1_OwnOf.l1 k r) r' → Ev (fun k => portref1_OwnOf.l0 k x0 acc K (K.length : Int) (i : Int)) r') := by
  intro d
  induction d with
  | zero =>
    intro i acc hi ha hm
    refine ⟨acc, by omega, hm, Ev.shift ?_, fun r' h => Ev.shift ?_⟩
    · simp only [mail_own.l0]
      exact Ev.neg (by omega) (Ev.cst rfl)
    · simp only [portref1_OwnOf.l0]
      exact Ev.neg (by omega) h
  | succ d ih =>
    intro i acc hi ha hm
    have hlt : i < x0.length := by omega
    by_cases h : rd K (i : Int) = 1
    · obtain ⟨r, h1, h2, h3, h4⟩ := ih (i + 1) (acc ++ [rdOf ByteArray.empty x0 (i : Int)]) (by omega) (by simp; omega) (by
        intro s hs
        rcases List.mem_append.1 hs with hs | hs
        · exact hm s hs
        · rw [List.mem_singleton.1 hs]; exact at_mem x0 hlt)
      refine ⟨r, h1, h2, Ev.shift ?_, fun r' hr => Ev.shift ?_⟩
      · simp only [mail_own.l0]
        rw [up (by omega)]
        exact Ev.pos (by omega) (Ev.pos (by omega) (Ev.pos (by omega) (Ev.pos h (Ev.pos (by omega) (Ev.pos (by omega) h3)))))
      · simp only [portref1_OwnOf.l0]
        rw [up (by omega)]
        exact Ev.pos (by omega) (Ev.pos (by omega) (Ev.pos (by omega) (Ev.pos h (Ev.pos (by omega) (Ev.pos (by omega) (h4 r' hr))))))
    · obtain ⟨r, h1, h2, h3, h4⟩ := ih (i + 1) acc (by omega) (by omega) hm
      refine ⟨r, h1, h2, Ev.shift ?_, fun r' hr => Ev.shift ?_⟩
      · simp only [mail_own.l0]
        rw [up (by omega)]
        exact Ev.pos (by omega) (Ev.pos (by omega) (Ev.pos (by omega) (Ev.neg h h3)))
      · simp only [portref1_OwnOf.l0]
        rw [up (by omega)]
        exact Ev.pos (by omega) (Ev.pos (by omega) (Ev.pos (by omega) (Ev.neg h (h4 r' hr))))
include hb
theorem own_f : ∃ r r' : List ByteArray, r.length ≤ x0.length ∧ r'.length ≤ x0.length ∧ (∀ s ∈ r, s ∈ x0) ∧ (∀ s ∈ r', s ∈ x0) ∧ parts r' = parts r ∧ Ev (fun k => mail_own.f k x0) r ∧ Ev (fun k => portref1_OwnOf.f k x0) r' := by
  have hK : (kinds (x0.map bl)).length = x0.length := by rw [kinds_len, List.length_map]
  obtain ⟨r, h1, h2, h3, h4⟩ := own_l0 x0 hn (kinds (x0.map bl)) hK x0.length 0 [] (Nat.zero_add _) (Nat.le_refl _) (by intro s hs; cases hs)
  obtain ⟨r', h5, h5m, h6, h7⟩ := strip r (by omega) (fun s hs => hb s (h2 s hs))
  refine ⟨r, r', h1, by omega, h2, fun s hs => h2 s (h5m s hs), h6, ?_, ?_⟩
  · unfold mail_own.f
    exact Ev.bind (kinds_f x0 hn hb) h3
  · unfold portref1_OwnOf.f
    exact Ev.bind (kindsOf_f x0 hn hb) (h4 r' h7)
end
/-! ### the end -/
def bk (b : UInt8) : Bool := (b == 32) || (b == 9)
theorem blank_f (b : UInt8) : mail_blank.f (b.toNat : Int) = some (bk b) := by
  unfold mail_blank.f bk
  by_cases h : b = 32
  · subst h; rfl
  · have h1 : ¬ ((b.toNat : Nat) : Int) = 32 := fun e => h (UInt8.toNat_inj.1 (by show b.toNat = 32; omega))
    rw [if_neg h1]
    congr 1
    by_cases h2 : b = 9
    · subst h2; rfl
    · have h3 : ¬ ((b.toNat : Nat) : Int) = 9 := fun e => h2 (UInt8.toNat_inj.1 (by show b.toNat = 9; omega))
      rw [show ((b.toNat : Int) == 9) = false from beq_eq_false_iff_ne.2 h3, show (b == 32) = false from beq_eq_false_iff_ne.2 h, show (b == 9) = false from beq_eq_false_iff_ne.2 h2]; rfl
theorem refBlank_f (b : UInt8) : portref1_isBlank.f (b.toNat : Int) = some (bk b) := blank_f b
abbrev at_ (s : Ln) (i : Nat) : Bool := bk (s.getD i 0)
theorem blank_at {s : Ln} {i : Nat} (h : i < s.length) : mail_blank.f (bt (ba s) (i : Int)) = some (at_ s i) := by
  have hg := List.getElem?_eq_getElem h
  rw [bt_nat (by rw [bl_ba]; exact hg), blank_f, at_, List.getD_eq_getElem?_getD, hg]; rfl
def lastEnd (s : Ln) : Nat → Nat
  | 0 => 0
  | i + 1 => if at_ s i = false ∧ at_ s (i + 1) = true then i + 1 else lastEnd s i
theorem lastEnd_le (s : Ln) : ∀ i, lastEnd s i ≤ i
  | 0 => Nat.le_refl _
  | i + 1 => by
    unfold lastEnd
    split
    · exact Nat.le_refl _
    · have := lastEnd_le s i; omega
def cutAt (s : Ln) (m e : Nat) : ByteArray := if e = 0 then ba (s.take m) else ba (s.take e)
theorem ext_take (s : Ln) (e : Nat) : (ba s).extract 0 ((e : Int)).toNat = ba (s.take e) := by
  rw [Int.toNat_natCast]
  exact eq_ba (by rw [bl_take, bl_ba])
theorem down {e : Nat} (h : e + 1 ≤ 4611686018427387904) : wrap64 (((e + 1 : Nat) : Int) - 1) = (e : Int) := by rw [w64 (by omega) (by omega)]; omega
theorem exc_l2 (s : Ln) (m : Nat) (hm : m < s.length) (hs : s.length ≤ 140737488355328) : ∀ e, e ≤ m → (at_ s e = true ∨ e = 0) → Ev (fun q => mail_Excerpt.l2 q (m : Int) (ba s) (e : Int)) (cutAt s m (lastEnd s e)) := by
  have hsz := ba_size s
  intro e
  induction e with
  | zero =>
    intro _ _
    refine Ev.shift ?_
    simp only [mail_Excerpt.l2]
    rw [ext_take]
    exact Ev.neg (by decide) (Ev.pos rfl (Ev.pos (by omega) (Ev.pos (by omega) (Ev.cst rfl))))
  | succ e ih =>
    intro he hb
    have hb : at_ s (e + 1) = true := by rcases hb with hb | hb; exact hb; omega
    refine Ev.shift ?_
    simp only [mail_Excerpt.l2]
    rw [down (by omega), ext_take, ext_take]
    refine Ev.pos (by omega) (Ev.pos (by omega) (Ev.pos (by omega) (Ev.bindc (blank_at (by omega)) ?_)))
    by_cases hc : at_ s e = true
    · refine Ev.pos hc ?_
      have : lastEnd s (e + 1) = lastEnd s e := by rw [lastEnd, if_neg (by rw [hc]; simp)]
      rw [this]
      exact ih (by omega) (.inl hc)
    · have hc' : at_ s e = false := by simpa using hc
      refine Ev.neg hc (Ev.neg (by omega) (Ev.pos (by omega) (Ev.pos (by omega) (Ev.cst ?_))))
      rw [lastEnd, if_pos ⟨hc', hb⟩, cutAt, if_neg (by omega)]
theorem exc_l1 (s : Ln) (m : Nat) (hm : m < s.length) (hs : s.length ≤ 140737488355328) : ∀ e, e ≤ m → at_ s e = false → Ev (fun q => mail_Excerpt.l1 q (m : Int) (ba s) (e : Int)) (cutAt s m (lastEnd s e)) := by
  have hsz := ba_size s
  intro e
  induction e with
  | zero =>
    intro _ _
    refine Ev.shift ?_
    simp only [mail_Excerpt.l1]
    refine Ev.neg (by decide) (Ev.shift ?_)
    simp only [mail_Excerpt.j2]
    exact exc_l2 s m hm hs 0 (by omega) (.inr rfl)
  | succ e ih =>
    intro he hb
    have hle : lastEnd s (e + 1) = lastEnd s e := by rw [lastEnd, if_neg (by rw [hb]; simp)]
    refine Ev.shift ?_
    simp only [mail_Excerpt.l1]
    rw [down (by omega), hle]
    refine Ev.pos (by omega) (Ev.pos (by omega) (Ev.pos (by omega) (Ev.bindc (blank_at (by omega)) ?_)))
    by_cases hc : at_ s e = true
    · refine Ev.pos hc (Ev.shift ?_)
      simp only [mail_Excerpt.j2]
      refine Ev.shift ?_
      simp only [mail_Excerpt.l2]
      rw [down (by omega)]
      exact Ev.pos (by omega) (Ev.pos (by omega) (Ev.pos (by omega) (Ev.bindc (blank_at (by omega)) (Ev.pos hc (exc_l2 s m hm hs e (by omega) (.inl hc))))))
    · have hc' : at_ s e = false := by simpa using hc
      exact Ev.neg hc (ih (by omega) hc')
theorem exc_end (s : Ln) (m : Nat) (hm : m < s.length) (hs : s.length ≤ 140737488355328) : Ev (fun q => (mail_blank.f (bt (ba s) (m : Int))).bind fun t224 => (if t224 = true then (mail_Excerpt.j2 q (m : Int) (ba s) (m : Int)) else (mail_Excerpt.l1 q (m : Int) (ba s) (m : Int)))) (cutAt s m (lastEnd s m)) := by
  refine Ev.bindc (blank_at hm) ?_
  by_cases hc : at_ s m = true
  · refine Ev.pos hc (Ev.shift ?_)
    simp only [mail_Excerpt.j2]
    exact exc_l2 s m hm hs m (Nat.le_refl _) (.inl hc)
  · exact Ev.neg hc (exc_l1 s m hm hs m (Nat.le_refl _) (by simpa using hc))
theorem ref_l1 (s : Ln) (m : Nat) (hm : m < s.length) (hs : s.length ≤ 140737488355328) : ∀ d i, i + d = m → Ev (fun q => portref1_ExcerptOf.l1 q (m : Int) (ba s) ((lastEnd s i : Nat) : Int) ((i + 1 : Nat) : Int)) (cutAt s m (lastEnd s m)) := by
  have hsz := ba_size s
  intro d
  induction d with
  | zero =>
    intro i hi
    obtain rfl : i = m := by omega
    have := lastEnd_le s i
    refine Ev.shift ?_
    simp only [portref1_ExcerptOf.l1]
    rw [ext_take, ext_take]
    refine Ev.neg (by omega) ?_
    by_cases h0 : lastEnd s i = 0
    · refine Ev.pos (by omega) (Ev.pos (by omega) (Ev.pos (by omega) (Ev.cst ?_)))
      rw [cutAt, if_pos h0]
    · refine Ev.neg (by omega) (Ev.pos (by omega) (Ev.pos (by omega) (Ev.cst ?_)))
      rw [cutAt, if_neg h0]
  | succ d ih =>
    intro i hi
    have hrec := ih (i + 1) (by omega)
    refine Ev.shift ?_
    simp only [portref1_ExcerptOf.l1]
    rw [down (by omega), up (i := i + 1) (by omega)]
    refine Ev.pos (by omega) (Ev.pos (by omega) (Ev.pos (by omega) (Ev.bindc (blank_at (by omega)) ?_)))
    by_cases hc : at_ s i = true
    · rw [lastEnd, if_neg (by rw [hc]; simp)] at hrec
      exact Ev.pos hc hrec
    · have hc' : at_ s i = false := by simpa using hc
      refine Ev.neg hc (Ev.pos (by omega) (Ev.pos (by omega) (Ev.bindc (blank_at (by omega)) ?_)))
      by_cases hd : at_ s (i + 1) = true
      · rw [lastEnd, if_pos ⟨hc', hd⟩] at hrec
        exact Ev.pos hd hrec
      · rw [lastEnd, if_neg (fun h => hd h.2)] at hrec
        exact Ev.neg hd hrec
/-! ### the whole -/
theorem jn_snoc (P : List Ln) (x : Ln) (h : P ≠ []) : jn (P ++ [x]) = jn P ++ 32 :: x := by
  induction P with
  | nil => exact absurd rfl h
  | cons y P ih =>
    by_cases hP : P = []
    · subst hP
      rw [List.cons_append, List.nil_append, jn_two]
      unfold jn
      rw [Lib.join_one, Lib.join_one]
    · rw [List.cons_append, jn_ne y (by simp), jn_ne y hP, ih hP]; simp
theorem jn_nil_iff {P : List Ln} (h : ∀ x ∈ P, x ≠ []) : jn P = [] ↔ P = [] := by
  cases P with
  | nil => simp [jn, Lib.join_nil]
  | cons y P =>
    refine ⟨fun e => ?_, fun e => by cases e⟩
    exfalso
    cases P with
    | nil => unfold jn at e; rw [Lib.join_one] at e; exact h y (List.mem_cons_self ..) e
    | cons z P => rw [jn_two] at e; simp at e
theorem parts_ne (l : List ByteArray) : ∀ x ∈ parts l, x ≠ [] := fun x hx => by
  have := (List.mem_filter.1 hx).2
  simpa using this
theorem tot_le {P : List Ln} {b : Nat} (h : ∀ x ∈ P, x.length ≤ b) : tot P ≤ P.length * (b + 1) := by
  induction P with
  | nil => exact Nat.zero_le _
  | cons x P ih =>
    have h1 := ih (fun y hy => h y (List.mem_cons_of_mem _ hy))
    have h2 := h x (List.mem_cons_self ..)
    rw [List.length_cons, Nat.succ_mul]
    unfold tot
    omega
theorem parts_bound {l : List ByteArray} (hn : l.length ≤ 1048576) (hb : ∀ s ∈ l, s.size ≤ 1048576) : (jn (parts l)).length ≤ 1099512676352 := by
  have h1 : tot (parts l) ≤ (parts l).length * (1048576 + 1) := tot_le (fun x hx => by
    obtain ⟨s, hs, rfl⟩ := List.mem_map.1 (List.mem_filter.1 hx).1
    have := tr_len s
    have := hb s hs
    omega)
  have h2 : (parts l).length ≤ l.length := by
    have := List.length_filter_le (fun x : Ln => !(x == [])) (l.map tr)
    rw [List.length_map] at this
    exact this
  have h3 := jn_len (parts l)
  have h4 := Nat.mul_le_mul_right (1048576 + 1) (Nat.le_trans h2 hn)
  omega
/-- what both answer: the joined parts, cut -/
def excS (P : List Ln) (m : Nat) : ByteArray := if (jn P).length ≤ m then ba (jn P) else cutAt (jn P) m (lastEnd (jn P) m)
theorem drop_at {l : List ByteArray} {i : Nat} (h : i < l.length) : l.drop i = rdOf ByteArray.empty l (i : Int) :: l.drop (i + 1) := by rw [at_get l h]; exact List.drop_eq_getElem_cons h
theorem exc_l0 (L : List ByteArray) (hL : L.length ≤ 1048576) (hb : ∀ s ∈ L, s.size ≤ 1048576) (m : Nat) (hm : 1 ≤ m) (hm9 : m ≤ 9223372036854775807) : ∀ (d i : Nat) (acc : List ByteArray), i + d = L.length → acc.map bl = parts (L.take i) → acc.length ≤ i →
    Ev (fun q => mail_Excerpt.l0 q (m : Int) acc L (L.length : Int) (i : Int)) (excS (parts L) m) := by
  intro d
  induction d with
  | zero =>
    intro i acc hi ha hal
    rw [List.take_of_length_le (by omega)] at ha
    have hbd := parts_bound hL hb
    have hj : strings_Join.f acc (⟨#[32]⟩ : ByteArray) = some (ba (jn (parts L))) := by
      show joinF acc _ = _
      unfold joinF
      have e : Lib.join (acc.map (·.data.toList)) (⟨#[32]⟩ : ByteArray).data.toList = jn (parts L) := by rw [← ha]
      rw [e, if_pos (by omega), if_pos (by omega)]; rfl
    have hsz := ba_size (jn (parts L))
    refine Ev.shift ?_
    simp only [mail_Excerpt.l0]
    refine Ev.neg (by omega) (Ev.bindc hj ?_)
    unfold excS
    by_cases h : (jn (parts L)).length ≤ m
    · rw [if_pos h]
      exact Ev.pos (by omega) (Ev.cst rfl)
    · rw [if_neg h]
      exact Ev.neg (by omega) (Ev.pos (by omega) (Ev.pos (by omega) (exc_end _ m (by omega) (by omega))))
  | succ d ih =>
    intro i acc hi ha hal
    have hlt : i < L.length := by omega
    have hz := hb _ (at_mem L hlt)
    have ht : L.take (i + 1) = L.take i ++ [rdOf ByteArray.empty L (i : Int)] := by rw [at_get L hlt, List.take_add_one, List.getElem?_eq_getElem hlt]; rfl
    refine Ev.shift ?_
    simp only [mail_Excerpt.l0]
    rw [up (by omega)]
    refine Ev.pos (by omega) (Ev.pos (by omega) (Ev.pos (by omega) (Ev.bindc (empty_f (by omega)) ?_)))
    by_cases he : emp (bl (rdOf ByteArray.empty L (i : Int))) = true
    · refine Ev.pos he (ih (i + 1) acc (by omega) ?_ (by omega))
      rw [ha, ht, parts_app, parts_cons_emp _ ((emp_tr _).1 he)]
      simp [parts]
    · refine Ev.neg he (Ev.bindc (trim_f (by omega)) (Ev.pos (by omega) (ih (i + 1) _ (by omega) ?_ (by simp; omega))))
      rw [List.map_append, ha, ht, parts_app, parts_cons _ (fun h => he ((emp_tr _).2 h))]
      simp [parts, bl_ba]
theorem refExc_l0 (L : List ByteArray) (hL : L.length ≤ 1048576) (hb : ∀ s ∈ L, s.size ≤ 1048576) (m : Nat) (hm : 1 ≤ m) (hm9 : m ≤ 9223372036854775807) : ∀ (d i : Nat), i + d = L.length →
    Ev (fun q => portref1_ExcerptOf.l0 q (m : Int) (ba (jn (parts (L.take i)))) L (L.length : Int) (i : Int)) (excS (parts L) m) := by
  intro d
  induction d with
  | zero =>
    intro i hi
    rw [List.take_of_length_le (by omega)]
    have hbd := parts_bound hL hb
    have hsz := ba_size (jn (parts L))
    refine Ev.shift ?_
    simp only [portref1_ExcerptOf.l0]
    refine Ev.neg (by omega) (Ev.neg (by omega) ?_)
    unfold excS
    by_cases h : (jn (parts L)).length ≤ m
    · rw [if_pos h]
      exact Ev.pos (by omega) (Ev.cst rfl)
    · rw [if_neg h]
      exact Ev.neg (by omega) (ref_l1 _ m (by omega) (by omega) m 0 (Nat.zero_add _))
  | succ d ih =>
    intro i hi
    have hlt : i < L.length := by omega
    have hz := hb _ (at_mem L hlt)
    have ht : L.take (i + 1) = L.take i ++ [rdOf ByteArray.empty L (i : Int)] := by rw [at_get L hlt, List.take_add_one, List.getElem?_eq_getElem hlt]; rfl
    have hrec := ih (i + 1) (by omega)
    rw [ht, parts_app] at hrec
    have hb1 := parts_bound (l := L.take i) (by rw [List.length_take]; omega) (fun s hs => hb s (List.mem_of_mem_take hs))
    have htl := tr_len (rdOf ByteArray.empty L (i : Int))
    have hs1 := ba_size (jn (parts (L.take i)))
    have hs2 := ba_size (tr (rdOf ByteArray.empty L (i : Int)))
    have hne := parts_ne (L.take i)
    refine Ev.shift ?_
    simp only [portref1_ExcerptOf.l0]
    rw [up (by omega)]
    refine Ev.pos (by omega) (Ev.pos (by omega) (Ev.pos (by omega) (Ev.bindc (refTrim_f (by omega)) ?_)))
    generalize hP : parts (L.take i) = P at hrec hb1 hs1 hne ⊢
    generalize hT : tr (rdOf ByteArray.empty L (i : Int)) = t at hrec htl hs2 ⊢
    rw [toList_bl, toList_bl, bl_ba, bl_ba]
    by_cases he : t = []
    · have ep : parts [rdOf ByteArray.empty L (i : Int)] = [] := parts_cons_emp [] (hT.trans he)
      rw [ep, List.append_nil] at hrec
      have ea : ba (jn P) ++ ba t = ba (jn P) := bl_inj (by rw [bl_app, bl_ba, bl_ba, he, List.append_nil])
      rw [ea]
      by_cases hj : jn P = []
      · exact Ev.pos hj (Ev.pos (by omega) hrec)
      · exact Ev.neg hj (Ev.pos he (Ev.pos (by omega) hrec))
    · have ep : parts [rdOf ByteArray.empty L (i : Int)] = [t] := by rw [parts_cons [] (fun h => he (hT.symm.trans h)), hT]; rfl
      rw [ep] at hrec
      by_cases hj : jn P = []
      · have hp := (jn_nil_iff hne).1 hj
        subst hp
        have ea : ba (jn []) ++ ba t = ba (jn ([] ++ [t])) := bl_inj (by rw [bl_app, bl_ba, bl_ba, bl_ba, List.nil_append]; unfold jn; rw [Lib.join_one, Lib.join_nil]; rfl)
        rw [ea]
        exact Ev.pos hj (Ev.pos (by omega) hrec)
      · have hp : P ≠ [] := fun h => hj ((jn_nil_iff hne).2 h)
        have ea : (ba (jn P) ++ (⟨#[32]⟩ : ByteArray)) ++ ba t = ba (jn (P ++ [t])) := bl_inj (by rw [bl_app, bl_app, bl_ba, bl_ba, bl_ba, jn_snoc P t hp, List.append_assoc]; rfl)
        have hs3 : (ba (jn P) ++ (⟨#[32]⟩ : ByteArray)).size = (jn P).length + 1 := by rw [bl_size, bl_app, bl_ba, List.length_append]; rfl
        rw [ea]
        exact Ev.neg hj (Ev.neg he (Ev.pos (by omega) (Ev.pos (by omega) hrec)))
theorem refExc0_l0 (L : List ByteArray) (hL : L.length ≤ 1048576) (hb : ∀ s ∈ L, s.size ≤ 1048576) (m : Int) (hm : m ≤ 0) : ∀ (d i : Nat), i + d = L.length →
    Ev (fun q => portref1_ExcerptOf.l0 q m (ba (jn (parts (L.take i)))) L (L.length : Int) (i : Int)) (⟨#[]⟩ : ByteArray) := by
  intro d
  induction d with
  | zero =>
    intro i hi
    refine Ev.shift ?_
    simp only [portref1_ExcerptOf.l0]
    exact Ev.neg (by omega) (Ev.pos hm (Ev.cst rfl))
  | succ d ih =>
    intro i hi
    have hlt : i < L.length := by omega
    have hz := hb _ (at_mem L hlt)
    have ht : L.take (i + 1) = L.take i ++ [rdOf ByteArray.empty L (i : Int)] := by rw [at_get L hlt, List.take_add_one, List.getElem?_eq_getElem hlt]; rfl
    have hrec := ih (i + 1) (by omega)
    rw [ht, parts_app] at hrec
    have hb1 := parts_bound (l := L.take i) (by rw [List.length_take]; omega) (fun s hs => hb s (List.mem_of_mem_take hs))
    have htl := tr_len (rdOf ByteArray.empty L (i : Int))
    have hs1 := ba_size (jn (parts (L.take i)))
    have hs2 := ba_size (tr (rdOf ByteArray.empty L (i : Int)))
    have hne := parts_ne (L.take i)
    refine Ev.shift ?_
    simp only [portref1_ExcerptOf.l0]
    rw [up (by omega)]
    refine Ev.pos (by omega) (Ev.pos (by omega) (Ev.pos (by omega) (Ev.bindc (refTrim_f (by omega)) ?_)))
    generalize hP : parts (L.take i) = P at hrec hb1 hs1 hne ⊢
    generalize hT : tr (rdOf ByteArray.empty L (i : Int)) = t at hrec htl hs2 ⊢
    rw [toList_bl, toList_bl, bl_ba, bl_ba]
    by_cases he : t = []
    · have ep : parts [rdOf ByteArray.empty L (i : Int)] = [] := parts_cons_emp [] (hT.trans he)
      rw [ep, List.append_nil] at hrec
      have ea : ba (jn P) ++ ba t = ba (jn P) := bl_inj (by rw [bl_app, bl_ba, bl_ba, he, List.append_nil])
      rw [ea]
      by_cases hj : jn P = []
      · exact Ev.pos hj (Ev.pos (by omega) hrec)
      · exact Ev.neg hj (Ev.pos he (Ev.pos (by omega) hrec))
    · have ep : parts [rdOf ByteArray.empty L (i : Int)] = [t] := by rw [parts_cons [] (fun h => he (hT.symm.trans h)), hT]; rfl
      rw [ep] at hrec
      by_cases hj : jn P = []
      · have hp := (jn_nil_iff hne).1 hj
        subst hp
        have ea : ba (jn []) ++ ba t = ba (jn ([] ++ [t])) := bl_inj (by rw [bl_app, bl_ba, bl_ba, bl_ba, List.nil_append]; unfold jn; rw [Lib.join_one, Lib.join_nil]; rfl)
        rw [ea]
        exact Ev.pos hj (Ev.pos (by omega) hrec)
      · have hp : P ≠ [] := fun h => hj ((jn_nil_iff hne).2 h)
        have ea : (ba (jn P) ++ (⟨#[32]⟩ : ByteArray)) ++ ba t = ba (jn (P ++ [t])) := bl_inj (by rw [bl_app, bl_app, bl_ba, bl_ba, bl_ba, jn_snoc P t hp, List.append_assoc]; rfl)
        have hs3 : (ba (jn P) ++ (⟨#[32]⟩ : ByteArray)).size = (jn P).length + 1 := by rw [bl_size, bl_app, bl_ba, List.length_append]; rfl
        rw [ea]
        exact Ev.neg hj (Ev.neg he (Ev.pos (by omega) (Ev.pos (by omega) hrec)))
theorem excerpt_f (x0 : List ByteArray) (hn : x0.length ≤ 1048576) (hb : ∀ s ∈ x0, s.size ≤ 1048576) (m : Int) (hm : m ≤ 9223372036854775807) : ∃ r, Ev (fun k => mail_Excerpt.f k x0 m) r ∧ Ev (fun k => portref1_ExcerptOf.f k x0 m) r := by
  obtain ⟨r, r', h1, h2, h3, h4, h5, e1, e2⟩ := own_f x0 hn (fun s hs => by have := hb s hs; omega)
  have h0 : ba (jn (parts (r'.take 0))) = (⟨#[]⟩ : ByteArray) := by rw [List.take_zero]; rfl
  by_cases h : m ≤ 0
  · refine ⟨(⟨#[]⟩ : ByteArray), ?_, ?_⟩
    · unfold mail_Excerpt.f
      exact Ev.pos h (Ev.cst rfl)
    · unfold portref1_ExcerptOf.f
      refine Ev.bind e2 ?_
      have := refExc0_l0 r' (by omega) (fun s hs => hb s (h4 s hs)) m h r'.length 0 (Nat.zero_add _)
      rw [h0] at this
      exact this
  · obtain ⟨n, rfl⟩ := Int.eq_ofNat_of_zero_le (a := m) (by omega)
    refine ⟨excS (parts r) n, ?_, ?_⟩
    · unfold mail_Excerpt.f
      refine Ev.neg h (Ev.bind e1 ?_)
      exact exc_l0 r (by omega) (fun s hs => hb s (h3 s hs)) n (by omega) (by omega) r.length 0 [] (Nat.zero_add _) (by simp [parts]) (Nat.le_refl _)
    · unfold portref1_ExcerptOf.f
      refine Ev.bind e2 ?_
      have := refExc_l0 r' (by omega) (fun s hs => hb s (h4 s hs)) n (by omega) (by omega) r'.length 0 (Nat.zero_add _)
      rw [h0, h5] at this
      exact this
end Go.Proofs.YtcljkhhjondhcaaDoor.ExcB
