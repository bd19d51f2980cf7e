/- Plain laws on clean subjects, for all lists of bytes: what stands before a subject goes, blanks are drawn together, and doing so once more changes nothing. Nothing of the program stands here. -/
import Derived.Test.YtcljkhhjondhcaaDoorKindP
namespace Go.Proofs.YtcljkhhjondhcaaDoor.SteadyP
open Go.RowKit Go.Proofs.YtcljkhhjondhcaaDoorW.PrintWords Go.Proofs.YtcljkhhjondhcaaDoor.Ext Go.Proofs.YtcljkhhjondhcaaDoor.Pl Go.Proofs.YtcljkhhjondhcaaDoor.KindP
def bk (b : UInt8) : Bool := (b == 32) || (b == 9)
theorem bk_bks (b : UInt8) : bks.contains b = bk b := by
  unfold bk bks
  simp [List.contains, List.elem]
  cases h : b == 32 <;> cases h' : b == 9 <;> simp_all
/-! ### a mark at the beginning -/
def words : List Ln := [[114, 101], [102, 119, 100], [102, 119], [97, 119]]
/-- the digits behind a bracket, and one -/
def nd (rest : Ln) : Nat := 1 + ((rest.drop 1).takeWhile isD).length
def wordAt (w l : Ln) : Option Nat :=
  if w.length < l.length ∧ (l.take w.length).map lowB = w then
    (if (l.drop w.length).headD 0 = 58 then some (w.length + 1)
    else if (l.drop w.length).headD 0 = 91 ∧ 2 ≤ nd (l.drop w.length) ∧ nd (l.drop w.length) ≤ 4 ∧ [93, 58].isPrefixOf ((l.drop w.length).drop (nd (l.drop w.length))) = true then some (w.length + nd (l.drop w.length) + 2) else none)
  else none
def isBr (b : UInt8) : Bool := (b == 91) || (b == 93)
def bracket (l : Ln) : Nat := if l.headD 0 = 91 ∧ ((l.drop 1).dropWhile (fun b => !isBr b)).headD 0 = 93 then ((l.drop 1).takeWhile (fun b => !isBr b)).length + 2 else 0
def markW : List Ln → Ln → Nat
  | [], l => bracket l
  | w :: ws, l => match wordAt w l with
    | some m => m
    | none => markW ws l
def markedP (l : Ln) : Nat := markW words l
theorem wordAt_le {w l : Ln} {m : Nat} (h : wordAt w l = some m) : 1 ≤ m ∧ m ≤ l.length := by
  unfold wordAt at h
  split at h
  · rename_i hw
    have hl : (l.drop w.length).length = l.length - w.length := List.length_drop
    split at h
    · injection h with h; omega
    · split at h
      · rename_i hc
        injection h with h
        have h1 := pre_iff [93, 58] ((l.drop w.length).drop (nd (l.drop w.length)))
        obtain ⟨r, hr⟩ := h1.1 hc.2.2.2
        have := congrArg List.length hr
        rw [List.length_drop, List.length_append] at this
        simp only [List.length_cons, List.length_nil] at this
        omega
      · cases h
  · cases h
theorem bracket_le (l : Ln) : bracket l ≤ l.length := by
  unfold bracket
  split
  · rename_i h
    cases l with
    | nil => simp at h
    | cons c t =>
      simp only [List.drop_succ_cons, List.drop_zero, List.length_cons] at h ⊢
      have h2 : t.dropWhile (fun b => !isBr b) ≠ [] := fun e => by rw [e] at h; simp at h
      have h3 := congrArg List.length (List.takeWhile_append_dropWhile (p := fun b => !isBr b) (l := t))
      rw [List.length_append] at h3
      have h4 := List.length_pos_iff.2 h2
      omega
  · exact Nat.zero_le _
theorem markW_le : ∀ (ws : List Ln) (l : Ln), markW ws l ≤ l.length
  | [], l => bracket_le l
  | w :: ws, l => by
    unfold markW
    split
    · rename_i m h; exact (wordAt_le h).2
    · exact markW_le ws l
theorem markW_zero {ws : List Ln} {l : Ln} : markW ws l = 0 ↔ (∀ w ∈ ws, wordAt w l = none) ∧ bracket l = 0 := by
  induction ws with
  | nil => simp [markW]
  | cons w ws ih =>
    unfold markW
    cases h : wordAt w l with
    | some m =>
      have := (wordAt_le h).1
      refine ⟨fun e => ?_, fun e => ?_⟩
      · have e : m = 0 := e; omega
      · rw [e.1 w (List.mem_cons_self ..)] at h; cases h
    | none =>
      rw [List.forall_mem_cons]
      exact ⟨fun e => ⟨⟨h, (ih.1 e).1⟩, (ih.1 e).2⟩, fun e => ih.2 ⟨e.1.2, e.2⟩⟩
theorem bracket_zero (l : Ln) : bracket l = 0 ↔ ¬ (l.headD 0 = 91 ∧ ((l.drop 1).filter isBr).headD 0 = 93) := by
  have key : ∀ t : Ln, (t.dropWhile (fun b => !isBr b)).headD 0 = (t.filter isBr).headD 0 := by
    intro t
    induction t with
    | nil => rfl
    | cons c t ih =>
      by_cases h : isBr c = true
      · rw [List.dropWhile_cons_of_neg (by simp [h]), List.filter_cons_of_pos h]; rfl
      · rw [List.dropWhile_cons_of_pos (by simp [h]), List.filter_cons_of_neg h, ih]
  unfold bracket
  rw [key]
  split
  · rename_i h; exact ⟨fun e => by omega, fun e => absurd h e⟩
  · rename_i h; exact ⟨fun _ => h, fun _ => rfl⟩
/-! ### blanks drawn together -/
def sqR : Bool → Ln → Ln
  | _, [] => []
  | p, b :: t => if bk b then (if p then sqR true t else 32 :: sqR true t) else b :: sqR false t
theorem bk32 : bk 32 = true := rfl
theorem sqR_non {b : UInt8} (h : bk b = false) (p : Bool) (t : Ln) : sqR p (b :: t) = b :: sqR false t := by rw [sqR]; simp [h]
theorem sqR_idem : ∀ (t : Ln) (p q : Bool), (p = true → q = true) → sqR p (sqR q t) = sqR q t
  | [], _, _, _ => rfl
  | b :: t, p, q, h => by
    by_cases hb : bk b = true
    · cases q with
      | true =>
        have e : sqR true (b :: t) = sqR true t := by rw [sqR]; simp [hb]
        rw [e]; exact sqR_idem t p true (fun _ => rfl)
      | false =>
        have hp : p = false := by cases p with | false => rfl | true => exact absurd (h rfl) (by decide)
        subst hp
        have e : sqR false (b :: t) = 32 :: sqR true t := by rw [sqR]; simp [hb]
        rw [e]
        have e2 : sqR false (32 :: sqR true t) = 32 :: sqR true (sqR true t) := by rw [sqR]; simp [bk32]
        rw [e2, sqR_idem t true true (fun _ => rfl)]
    · have hb' : bk b = false := by simpa using hb
      rw [sqR_non hb', sqR_non hb', sqR_idem t false false (fun h => h)]
theorem sqR_filter (f : UInt8 → Bool) (hf : ∀ b, bk b = true → f b = false) : ∀ (t : Ln) (p : Bool), (sqR p t).filter f = t.filter f
  | [], _ => by cases ‹Bool› <;> rfl
  | b :: t, p => by
    by_cases hb : bk b = true
    · rw [List.filter_cons_of_neg (by simp [hf b hb])]
      cases p with
      | true =>
        have e : sqR true (b :: t) = sqR true t := by rw [sqR]; simp [hb]
        rw [e]; exact sqR_filter f hf t true
      | false =>
        have e : sqR false (b :: t) = 32 :: sqR true t := by rw [sqR]; simp [hb]
        rw [e, List.filter_cons_of_neg (by simp [hf 32 bk32])]; exact sqR_filter f hf t true
    · have hb' : bk b = false := by simpa using hb
      rw [sqR_non hb']
      by_cases hfb : f b = true
      · rw [List.filter_cons_of_pos hfb, List.filter_cons_of_pos hfb, sqR_filter f hf t false]
      · rw [List.filter_cons_of_neg hfb, List.filter_cons_of_neg hfb, sqR_filter f hf t false]
theorem sqR_head : ∀ (t : Ln), bk (t.headD 0) = false → (sqR false t).headD 0 = t.headD 0
  | [], _ => rfl
  | b :: t, h => by
    have h : bk b = false := h
    rw [sqR_non h]; rfl
/-- a prefix without blanks is the same in both -/
theorem sqR_pre : ∀ (pat t : Ln), (∀ b ∈ pat, bk b = false) → (pat.isPrefixOf (sqR false t) = true ↔ pat.isPrefixOf t = true)
  | [], t, _ => by simp
  | x :: pat, [], _ => by simp [sqR]
  | x :: pat, b :: t, h => by
    have hx := h x (List.mem_cons_self ..)
    by_cases hb : bk b = true
    · have e : sqR false (b :: t) = 32 :: sqR true t := by rw [sqR]; simp [hb]
      rw [e]
      have n1 : ¬ (x == 32) = true := fun e => by rw [beq_iff_eq.1 e] at hx; exact absurd hx (by decide)
      have n2 : ¬ (x == b) = true := fun e => by rw [beq_iff_eq.1 e, hb] at hx; cases hx
      simp [List.isPrefixOf, n1, n2]
    · have hb' : bk b = false := by simpa using hb
      rw [sqR_non hb']
      simp only [List.isPrefixOf, Bool.and_eq_true]
      rw [sqR_pre pat t (fun y hy => h y (List.mem_cons_of_mem _ hy))]
/-- what a word's mark looks like -/
theorem wordAt_pat {w l : Ln} {m : Nat} (hw : ∀ b ∈ w, bk b = false) (h : wordAt w l = some m) : ∃ pat : Ln, pat ≠ [] ∧ (∀ b ∈ pat, bk b = false) ∧ pat.isPrefixOf l = true ∧ ∀ l', pat.isPrefixOf l' = true → wordAt w l' ≠ none := by
  have low_bk : ∀ b, bk b = true → lowB b = b := fun b hb => low_blank (by rw [bk_bks]; exact hb)
  unfold wordAt at h
  split at h
  case isFalse => cases h
  rename_i hc
  obtain ⟨hlt, hmap⟩ := hc
  have hsp : l = l.take w.length ++ l.drop w.length := (List.take_append_drop _ _).symm
  have htl : (l.take w.length).length = w.length := by rw [List.length_take]; omega
  have hnb : ∀ b ∈ l.take w.length, bk b = false := by
    intro b hb
    cases hbb : bk b with
    | false => rfl
    | true =>
      have : lowB b ∈ w := by rw [← hmap]; exact List.mem_map_of_mem hb
      rw [low_bk b hbb] at this
      rw [hw b this] at hbb; cases hbb
  generalize hA : l.take w.length = A at hsp htl hnb hmap
  generalize hB : l.drop w.length = B at hsp h
  have back : ∀ (C l' : Ln), (A ++ C).isPrefixOf l' = true → C ≠ [] → w.length < l'.length ∧ (l'.take w.length).map lowB = w ∧ ∃ r, l'.drop w.length = C ++ r := by
    intro C l' hp hC
    obtain ⟨r, hr⟩ := (pre_iff _ _).1 hp
    have hl' : l' = A ++ (C ++ r) := by rw [hr, List.append_assoc]
    have hCl := List.length_pos_iff.2 hC
    refine ⟨by rw [hl', List.length_append, List.length_append]; omega, ?_, r, ?_⟩
    · rw [hl', List.take_left' htl, hmap]
    · rw [hl', List.drop_left' htl]
  split at h
  · rename_i h58
    cases hBc : B with
    | nil => rw [hBc] at h58; exact absurd h58 (by decide)
    | cons c u =>
      rw [hBc] at h58
      have h58 : c = 58 := h58
      subst h58
      refine ⟨A ++ [58], by simp, ?_, (pre_iff _ _).2 ⟨u, by rw [hsp, hBc]; simp⟩, fun l' hp => ?_⟩
      · intro b hb
        rcases List.mem_append.1 hb with hb | hb
        · exact hnb b hb
        · rw [List.mem_singleton.1 hb]; rfl
      · obtain ⟨h1, h2, r, h3⟩ := back [58] l' hp (by simp)
        unfold wordAt
        rw [if_pos ⟨h1, h2⟩, h3]
        simp
  · split at h
    · rename_i hc
      obtain ⟨h91, hn2, hn4, hpre⟩ := hc
      cases hBc : B with
      | nil => rw [hBc] at h91; exact absurd h91 (by decide)
      | cons c u =>
        rw [hBc] at h91 hn2 hn4 hpre
        have h91 : c = 91 := h91
        subst h91
        have hnd : nd (91 :: u) = 1 + (u.takeWhile isD).length := rfl
        rw [hnd] at hn2 hn4 hpre
        rw [Nat.add_comm, List.drop_succ_cons] at hpre
        obtain ⟨v, hv⟩ := (pre_iff _ _).1 hpre
        have hu : u = u.takeWhile isD ++ u.dropWhile isD := List.takeWhile_append_dropWhile.symm
        have hdw : u.drop (u.takeWhile isD).length = u.dropWhile isD := by
          have := List.drop_left' (l₁ := u.takeWhile isD) (l₂ := u.dropWhile isD) rfl
          rwa [List.takeWhile_append_dropWhile] at this
        rw [hdw] at hv
        generalize hD : u.takeWhile isD = D at hu hn2 hn4
        have hDd : ∀ b ∈ D, isD b = true := by intro b hb; rw [← hD] at hb; exact mem_tw u b hb
        have hisD : ∀ b, isD b = true → bk b = false := by
          intro b hb
          cases hbb : bk b with
          | false => rfl
          | true =>
            unfold bk at hbb
            rcases Bool.or_eq_true_iff.1 hbb with e | e <;> (have := beq_iff_eq.1 e; subst this; exact absurd hb (by decide))
        refine ⟨A ++ (91 :: D ++ [93, 58]), by simp, ?_, (pre_iff _ _).2 ⟨v, by rw [hsp, hBc, hu, hv]; simp⟩, fun l' hp => ?_⟩
        · intro b hb
          rcases List.mem_append.1 hb with hb | hb
          · exact hnb b hb
          · rcases List.mem_append.1 hb with hb | hb
            · rcases List.mem_cons.1 hb with rfl | hb
              · rfl
              · exact hisD b (hDd b hb)
            · rcases List.mem_cons.1 hb with rfl | hb
              · rfl
              · rw [List.mem_singleton.1 hb]; rfl
        · obtain ⟨h1, h2, r, h3⟩ := back (91 :: D ++ [93, 58]) l' hp (by simp)
          have e1 : l'.drop w.length = 91 :: (D ++ (93 :: 58 :: r)) := by rw [h3]; simp
          have e2 : (D ++ (93 :: 58 :: r)).takeWhile isD = D := by rw [List.takeWhile_append_of_pos hDd, List.takeWhile_cons_of_neg (by decide), List.append_nil]
          have e3 : nd (91 :: (D ++ (93 :: 58 :: r))) = 1 + D.length := by unfold nd; rw [List.drop_succ_cons, List.drop_zero, e2]
          unfold wordAt
          rw [if_pos ⟨h1, h2⟩, e1, e3, show (91 :: (D ++ (93 :: 58 :: r))).headD 0 = (91 : UInt8) from rfl, if_neg (show ¬ (91 : UInt8) = 58 by decide), if_pos]
          · simp
          · refine ⟨rfl, hn2, hn4, ?_⟩
            rw [Nat.add_comm, List.drop_succ_cons, List.drop_left' rfl]
            simp [List.isPrefixOf]
    · cases h
theorem words_bk : ∀ w ∈ words, ∀ b ∈ w, bk b = false := by decide
theorem marked_sq {y : Ln} (hy : bk (y.headD 0) = false) (h : markedP y = 0) : markedP (sqR false y) = 0 := by
  obtain ⟨h1, h2⟩ := markW_zero.1 h
  refine markW_zero.2 ⟨fun w hw => ?_, ?_⟩
  · cases hm : wordAt w (sqR false y) with
    | none => rfl
    | some m =>
      obtain ⟨pat, _, hb, hp, hall⟩ := wordAt_pat (words_bk w hw) hm
      exact absurd (h1 w hw) (hall y ((sqR_pre pat y hb).1 hp))
  · rw [bracket_zero] at h2 ⊢
    rw [sqR_head y hy]
    intro hc
    apply h2
    refine ⟨hc.1, ?_⟩
    cases y with
    | nil => exact absurd hc.1 (by decide)
    | cons b t =>
      have hb : bk b = false := hy
      rw [sqR_non hb] at hc
      simp only [List.drop_succ_cons, List.drop_zero] at hc ⊢
      rw [sqR_filter isBr (fun b hb => ?_) t false] at hc
      · exact hc.2
      · unfold bk at hb
        rcases Bool.or_eq_true_iff.1 hb with e | e <;> (have := beq_iff_eq.1 e; subst this; rfl)
/-! ### trimmed -/
abbrev tm (l : Ln) : Ln := Lib.trimS l bks
/-- no blank at either end -/
def neat (l : Ln) : Prop := (∀ b, l.head? = some b → bk b = false) ∧ (∀ b, l.getLast? = some b → bk b = false)
theorem dw_head (p : UInt8 → Bool) : ∀ (l : Ln) (b : UInt8), (l.dropWhile p).head? = some b → p b = false
  | [], b, h => by cases h
  | x :: l, b, h => by
    by_cases hx : p x = true
    · rw [List.dropWhile_cons_of_pos hx] at h; exact dw_head p l b h
    · rw [List.dropWhile_cons_of_neg hx] at h
      injection h with h
      subst h
      simpa using hx
theorem dw_id (p : UInt8 → Bool) (l : Ln) (h : ∀ b, l.head? = some b → p b = false) : l.dropWhile p = l := by
  cases l with
  | nil => rfl
  | cons x l => rw [List.dropWhile_cons_of_neg (by simp [h x rfl])]
theorem trR_last (l : Ln) (b : UInt8) (h : (Lib.trimRightS l bks).getLast? = some b) : bk b = false := by
  unfold Lib.trimRightS at h
  rw [List.getLast?_reverse] at h
  rw [← bk_bks]
  exact dw_head _ _ b h
theorem trR_id (l : Ln) (h : ∀ b, l.getLast? = some b → bk b = false) : Lib.trimRightS l bks = l := by
  unfold Lib.trimRightS
  rw [dw_id _ l.reverse (fun b hb => by rw [List.head?_reverse] at hb; rw [bk_bks]; exact h b hb), List.reverse_reverse]
theorem tm_neat (l : Ln) : neat (tm l) := by
  unfold tm Lib.trimS Lib.trimLeftS
  refine ⟨fun b hb => by rw [← bk_bks]; exact dw_head _ _ b hb, fun b hb => ?_⟩
  obtain ⟨y, hy⟩ := List.dropWhile_suffix (l := Lib.trimRightS l bks) (fun b => bks.contains b)
  refine trR_last l b ?_
  rw [← hy, List.getLast?_append, hb]; rfl
theorem neat_tm {l : Ln} (h : neat l) : tm l = l := by
  unfold tm Lib.trimS
  rw [trR_id l h.2]
  exact dw_id _ l (fun b hb => by rw [bk_bks]; exact h.1 b hb)
theorem tm_sub (l : Ln) : (tm l).Sublist l := by
  unfold tm Lib.trimS Lib.trimLeftS Lib.trimRightS
  refine (List.dropWhile_sublist _).trans ?_
  have := (List.dropWhile_sublist (l := l.reverse) (fun b => bks.contains b)).reverse
  rwa [List.reverse_reverse] at this
/-! ### clean -/
def next (l : Ln) : Ln := (tm l).drop (markedP (tm l))
def fixP : Nat → Ln → Ln
  | 0, l => l
  | n + 1, l => if next l = l then l else fixP n (next l)
theorem next_len (l : Ln) : (next l).length ≤ l.length := by
  unfold next
  have := (tm_sub l).length_le
  rw [List.length_drop]; omega
theorem next_same {l : Ln} (h : (next l).length = l.length) : tm l = l ∧ markedP (tm l) = 0 ∧ next l = l := by
  have h1 := (tm_sub l).length_le
  have h2 := markW_le words (tm l)
  have h3 : (next l).length = (tm l).length - markedP (tm l) := List.length_drop
  have h4 : markedP (tm l) ≤ (tm l).length := h2
  have h5 : tm l = l := (tm_sub l).eq_of_length (by omega)
  have h6 : markedP (tm l) = 0 := by omega
  refine ⟨h5, h6, ?_⟩
  unfold next
  rw [h6, List.drop_zero, h5]
def done (y : Ln) : Prop := neat y ∧ markedP y = 0
theorem fixP_done : ∀ (n : Nat) (l : Ln), l.length < n → done (fixP n l)
  | 0, l, h => by omega
  | n + 1, l, h => by
    unfold fixP
    split
    · rename_i e
      obtain ⟨h1, h2, _⟩ := next_same (l := l) (by rw [e])
      refine ⟨by rw [← h1]; exact tm_neat l, by rw [← h1]; exact h2⟩
    · rename_i e
      have h1 := next_len l
      have h2 : (next l).length ≠ l.length := fun he => e (next_same he).2.2
      exact fixP_done n (next l) (by omega)
theorem fixP_len : ∀ (n : Nat) (l : Ln), (fixP n l).length ≤ l.length
  | 0, l => Nat.le_refl _
  | n + 1, l => by
    unfold fixP
    split
    · exact Nat.le_refl _
    · have h1 := next_len l
      have h2 := fixP_len n (next l)
      omega
theorem next_done {l : Ln} (h : done l) : next l = l := by
  unfold next
  rw [neat_tm h.1, h.2, List.drop_zero]
theorem fixP_id {l : Ln} (h : done l) (n : Nat) : fixP n l = l := by
  cases n with
  | zero => rfl
  | succ n => unfold fixP; rw [if_pos (next_done h)]
def cleanP (l : Ln) : Ln := sqR false (fixP (l.length + 1) l)
theorem sqR_last {b : UInt8} (hb : bk b = false) : ∀ (t : Ln) (p : Bool), sqR p (t ++ [b]) = sqR p t ++ [b]
  | [], p => by rw [List.nil_append, sqR_non hb]; cases p <;> rfl
  | x :: t, p => by
    by_cases hx : bk x = true
    · cases p with
      | true =>
        have e : ∀ u, sqR true (x :: u) = sqR true u := fun u => by rw [sqR]; simp [hx]
        rw [List.cons_append, e, e, sqR_last hb t true]
      | false =>
        have e : ∀ u, sqR false (x :: u) = 32 :: sqR true u := fun u => by rw [sqR]; simp [hx]
        rw [List.cons_append, e, e, sqR_last hb t true]; rfl
    · have hx' : bk x = false := by simpa using hx
      rw [List.cons_append, sqR_non hx', sqR_non hx', sqR_last hb t false]; rfl
theorem sq_done {y : Ln} (h : done y) : done (sqR false y) := by
  cases hy : y with
  | nil => rw [hy] at h; exact h
  | cons b t =>
    rw [← hy]
    have hb : bk b = false := h.1.1 b (by rw [hy]; rfl)
    refine ⟨⟨fun c hc => ?_, fun c hc => ?_⟩, marked_sq (by rw [hy]; exact hb) h.2⟩
    · rw [hy, sqR_non hb] at hc
      injection hc with hc
      rw [← hc]; exact hb
    · obtain ⟨z, hz⟩ : ∃ z, y.getLast? = some z := by
        cases e : y.getLast? with
        | none => rw [List.getLast?_eq_none_iff] at e; rw [e] at hy; cases hy
        | some z => exact ⟨z, rfl⟩
      have hzb := h.1.2 z hz
      obtain ⟨A, hA⟩ := List.getLast?_eq_some_iff.1 hz
      rw [hA, sqR_last hzb, List.getLast?_append] at hc
      have : c = z := by simpa using hc.symm
      rw [this]; exact hzb
theorem clean_done (l : Ln) : done (cleanP l) := sq_done (fixP_done _ l (Nat.lt_succ_self _))
theorem clean_sq (l : Ln) : sqR false (cleanP l) = cleanP l := sqR_idem _ false false (fun h => h)
theorem clean_clean (l : Ln) : cleanP (cleanP l) = cleanP l := by
  have h : cleanP (cleanP l) = sqR false (cleanP l) := by
    rw [cleanP, fixP_id (clean_done l)]
  rw [h, clean_sq]
abbrev re4 : Ln := [82, 101, 58, 32]
theorem clean_re {c : Ln} (h : done c) (hs : sqR false c = c) : cleanP (re4 ++ c) = c := by
  unfold cleanP
  cases hc : c with
  | nil => rfl
  | cons b t =>
    rw [← hc]
    have hb : bk b = false := h.1.1 b (by rw [hc]; rfl)
    have hlast : ∀ (A : Ln) (z : UInt8), (A ++ c).getLast? = some z → bk z = false := by
      intro A z hz
      rw [List.getLast?_append] at hz
      refine h.1.2 z ?_
      cases e : c.getLast? with
      | none => rw [List.getLast?_eq_none_iff] at e; rw [e] at hc; cases hc
      | some y => rw [e] at hz; exact hz
    have hn1 : neat (re4 ++ c) := ⟨fun z hz => by have : z = 82 := by simpa using hz.symm
                                                  rw [this]; rfl, hlast _⟩
    have hm1 : markedP (re4 ++ c) = 3 := by
      have : wordAt [114, 101] (re4 ++ c) = some 3 := by
        unfold wordAt
        rw [if_pos ⟨by simp, rfl⟩]
        rfl
      unfold markedP words markW
      rw [this]
    have h1 : next (re4 ++ c) = 32 :: c := by
      unfold next
      rw [neat_tm hn1, hm1]; rfl
    have h2 : next (32 :: c) = c := by
      have ht : tm (32 :: c) = c := by
        unfold tm Lib.trimS
        rw [trR_id (32 :: c) (hlast [32])]
        show (32 :: c).dropWhile (fun b => bks.contains b) = c
        rw [List.dropWhile_cons_of_pos (by rfl)]
        exact dw_id _ c (fun z hz => by rw [bk_bks]; exact h.1.1 z hz)
      unfold next
      rw [ht, h.2, List.drop_zero]
    have hne1 : ¬ (32 :: c) = re4 ++ c := fun e => by have := congrArg List.length e; simp at this
    have hne2 : ¬ c = 32 :: c := fun e => by have := congrArg List.length e; simp at this
    have hl : (re4 ++ c).length + 1 = c.length + 3 + 2 := by simp
    rw [hl, fixP, h1, if_neg hne1, fixP, h2, if_neg hne2, fixP_id h, hs]
theorem clean_re_clean (l : Ln) : cleanP (re4 ++ cleanP l) = cleanP l := clean_re (clean_done l) (clean_sq l)
theorem clean_len (l : Ln) : (cleanP l).length ≤ l.length := by
  have h : ∀ (t : Ln) (p : Bool), (sqR p t).length ≤ t.length := by
    intro t
    induction t with
    | nil => intro p; cases p <;> exact Nat.le_refl _
    | cons x t ih =>
      intro p
      have h1 := ih true
      have h2 := ih false
      rw [sqR]
      split
      · split
        · rw [List.length_cons]; omega
        · rw [List.length_cons, List.length_cons]; omega
      · rw [List.length_cons, List.length_cons]; omega
  have := h (fixP (l.length + 1) l) false
  have := fixP_len (l.length + 1) l
  unfold cleanP
  omega
end Go.Proofs.YtcljkhhjondhcaaDoor.SteadyP
