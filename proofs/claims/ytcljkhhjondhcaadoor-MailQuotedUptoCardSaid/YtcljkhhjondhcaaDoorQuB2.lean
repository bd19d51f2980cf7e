/- The pure statement of MailQuoted: for lists of at most 1048576 lines of at most 1048576 bytes, the printed law answers true. -/
import Derived.Test.YtcljkhhjondhcaaDoorQuB1
namespace Go.Proofs.YtcljkhhjondhcaaDoor.QuB
open Go.RowKit Go.Proofs.YtcljkhhjondhcaaDoorW.PrintWords Go.Proofs.YtcljkhhjondhcaaDoor.Ext Go.Proofs.YtcljkhhjondhcaaDoor.Iq Go.Proofs.YtcljkhhjondhcaaDoor.Pl Go.Proofs.YtcljkhhjondhcaaDoor.LibIq Go.Proofs.YtcljkhhjondhcaaDoor.KindP
theorem eqStr_l0 (l : List ByteArray) (hl : l.length ≤ 4611686018427387904) : ∀ (d i : Nat), i + d = l.length → Ev (fun k => slices_Equal_string_string.l0 k l l (l.length : Int) (i : Int)) true := by
  intro d
  induction d with
  | zero =>
    intro i hi
    refine Ev.shift ?_
    simp only [slices_Equal_string_string.l0]
    exact Ev.neg (by omega) (Ev.cst rfl)
  | succ d ih =>
    intro i hi
    refine Ev.shift ?_
    simp only [slices_Equal_string_string.l0]
    refine Ev.pos (by omega) ?_
    refine Ev.pos (by omega) ?_
    refine Ev.pos (by omega) ?_
    refine Ev.pos (by omega) ?_
    refine Ev.pos trivial ?_
    rw [up (by omega)]
    exact ih (i + 1) (by omega)
theorem eqStr_f (l : List ByteArray) (hl : l.length ≤ 4611686018427387904) : Ev (fun k => slices_Equal_string_string.f k l l) true := by
  unfold slices_Equal_string_string.f
  exact Ev.pos rfl (eqStr_l0 l hl l.length 0 (Nat.zero_add _))

theorem qd_ne {a : ByteArray} (h : qd (bl a) = true) : 1 ≤ a.size := by
  rw [bl_size]
  cases hb : bl a with
  | nil => rw [hb] at h; cases h
  | cons x l => rw [List.length_cons]; omega
/-- a line, quoted -/
def qL (l : Ln) : Ln := if l = [] ∨ qd l = true then 62 :: l else 62 :: 32 :: l
theorem qL_qd (l : Ln) : qd (qL l) = true := by unfold qL; split <;> rfl
def cut1 (l : Ln) : Ln := if [32].isPrefixOf l = true then l.drop 1 else l
theorem cut_qL (l : Ln) : cut1 ((qL l).drop 1) = l := by
  unfold qL
  by_cases h : l = [] ∨ qd l = true
  · rw [if_pos h]
    show cut1 l = l
    unfold cut1
    rw [if_neg]
    rcases h with h | h
    · subst h; decide
    · cases l with
      | nil => decide
      | cons x l =>
        intro hp
        unfold qd at h
        simp only [List.isPrefixOf, Bool.and_true, beq_iff_eq] at h hp
        rw [← h] at hp
        exact absurd hp (by decide)
  · rw [if_neg h]; rfl
theorem cut_f (a : ByteArray) : strings_TrimPrefix.f (a.extract 1 a.size) (⟨#[32]⟩ : ByteArray) = some (ba (cut1 ((bl a).drop 1))) := by
  rw [trimPrefix_f, bl_drop]
  unfold cut1
  congr 1
  show (if [32].isPrefixOf ((bl a).drop 1) = true then ba (((bl a).drop 1).drop 1) else _) = _
  split
  · rfl
  · exact eq_ba (bl_drop _ _)

/-! ### the depth -/
def dep : Nat → Ln → Nat
  | 0, _ => 0
  | n + 1, l => if qd l = true then dep n (cut1 (l.drop 1)) + 1 else 0
theorem cut1_le (l : Ln) : (cut1 l).length ≤ l.length := by
  unfold cut1
  split
  · rw [List.length_drop]; omega
  · exact Nat.le_refl _
theorem dep_le : ∀ n l, dep n l ≤ n
  | 0, _ => Nat.le_refl _
  | n + 1, l => by
    unfold dep
    split
    · have := dep_le n (cut1 (l.drop 1)); omega
    · omega
theorem depth_l0 : ∀ (n : Nat) (a : ByteArray) (c : Nat), a.size ≤ n → c + n ≤ 4611686018427387904 → Ev (fun k => mail_Depth.l0 k a (c : Int)) ((c + dep n (bl a) : Nat) : Int) := by
  intro n
  induction n with
  | zero =>
    intro a c ha _
    have h : ¬ qd (bl a) = true := fun h => by have := qd_ne h; omega
    refine Ev.shift ?_
    simp only [mail_Depth.l0]
    exact Ev.bindc (quoted_f a) (Ev.neg h (Ev.cst rfl))
  | succ n ih =>
    intro a c ha hc
    refine Ev.shift ?_
    simp only [mail_Depth.l0]
    refine Ev.bindc (quoted_f a) ?_
    unfold dep
    by_cases h : qd (bl a) = true
    · have h1 := qd_ne h
      have hs := bl_size a
      have hz : (ba (cut1 ((bl a).drop 1))).size ≤ n := by
        have := cut1_le ((bl a).drop 1)
        rw [List.length_drop] at this
        rw [ba_size]; omega
      have hi := ih (ba (cut1 ((bl a).drop 1))) (c + 1) hz (by omega)
      refine Ev.pos h (Ev.pos (by omega) (Ev.bindc (cut_f a) ?_))
      rw [up (by omega)]
      rw [if_pos h]
      refine Ev.val hi ?_
      rw [bl_ba]; omega
    · refine Ev.neg h ?_
      rw [if_neg h]
      exact Ev.cst rfl
theorem depth_f (a : ByteArray) (ha : a.size ≤ 2097152) : Ev (fun k => mail_Depth.f k a) ((dep 2097152 (bl a) : Nat) : Int) := by
  refine Ev.val (depth_l0 2097152 a 0 ha (by omega)) ?_
  rw [Nat.zero_add]
theorem dep_q (a : ByteArray) (ha : a.size ≤ 1048576) : Ev (fun k => mail_Depth.f k (ba (qL (bl a)))) ((dep 2097152 (bl a) + 1 : Nat) : Int) := by
  have hq : qd (bl (ba (qL (bl a)))) = true := by rw [bl_ba]; exact qL_qd _
  have h1 := qd_ne hq
  have hi := depth_l0 2097152 a 1 (by omega) (by omega)
  unfold mail_Depth.f
  refine Ev.shift ?_
  simp only [mail_Depth.l0]
  refine Ev.bindc (quoted_f _) (Ev.pos hq (Ev.pos (by omega) (Ev.bindc (cut_f _) ?_)))
  rw [bl_ba, cut_qL, ba_bl, show wrap64 (0 + 1) = ((1 : Nat) : Int) from by unfold wrap64; omega]
  refine Ev.val hi ?_
  omega

/-! ### kinds of lines that are all quoted -/
theorem sgn_all : ∀ (l : List Ln), l.all qd = true → sgn l = l.length
  | [], _ => rfl
  | x :: r, h => by
    rw [List.all_cons, Bool.and_eq_true] at h
    have hs : ¬ sep x = true := fun hs => by rw [sep_qd hs] at h; exact absurd h.1 (by decide)
    rw [show sgn (x :: r) = if sep x = true ∧ r.length ≤ 12 ∧ r.all (fun y => !qd y) = true then 0 else sgn r + 1 from rfl, if_neg (fun hc => hs hc.1), sgn_all r h.2, List.length_cons]
theorem run1_id (ls : List Ln) (e : Nat) : ∀ d i K, (∀ j, K.getD j 0 ≠ 1) → run1 ls e d i K = K
  | 0, _, _, _ => rfl
  | d + 1, i, K, h => by
    unfold run1
    rw [if_neg (fun hc => h i hc.1)]
    exact run1_id ls e d (i + 1) K h
theorem kinds_all (l : List Ln) (h : l.all qd = true) : kinds l = List.replicate l.length 3 := by
  have hb : baseTo l l.length l.length = List.replicate l.length 3 := by
    unfold baseTo
    apply List.ext_getElem
    · simp
    · intro i h1 h2
      rw [List.getElem_map, List.getElem_range, List.getElem_replicate]
      have hi : i < l.length := by simpa using h1
      unfold baseK
      rw [if_neg (by omega), if_pos]
      rw [List.getD_eq_getElem?_getD, List.getElem?_eq_getElem hi]
      exact List.all_eq_true.1 h _ (List.getElem_mem hi)
  unfold kinds
  rw [sgn_all l h, hb]
  refine run1_id _ _ _ _ _ (fun j => ?_)
  rw [List.getD_eq_getElem?_getD, List.getElem?_replicate]
  split <;> decide

section
variable (x0 : List ByteArray) (hn : x0.length ≤ 1048576) (hb : ∀ s ∈ x0, s.size ≤ 1048576)
include hn
def qs (l : List ByteArray) : List ByteArray := l.map fun s => ba (qL (bl s))
omit hn in
theorem qs_len (l : List ByteArray) : (qs l).length = l.length := List.length_map _
omit hn in
theorem qs_at (l : List ByteArray) {i : Nat} (h : i < l.length) : rdOf ByteArray.empty (qs l) (i : Int) = ba (qL (bl (rdOf ByteArray.empty l (i : Int)))) := by
  rw [at_get _ (by rw [qs_len]; exact h), at_get _ h]
  unfold qs
  rw [List.getElem_map]
include hb
theorem quoted_l0 : ∀ (d i : Nat) (acc : List ByteArray), i + d = x0.length → acc.length ≤ i →
    Ev (fun k => mail_Quoted.l0 k acc x0 (x0.length : Int) (i : Int)) (acc ++ qs (x0.drop i)) := by
  intro d
  induction d with
  | zero =>
    intro i acc hi ha
    refine Ev.shift ?_
    simp only [mail_Quoted.l0]
    refine Ev.neg (by omega) (Ev.cst ?_)
    rw [List.drop_eq_nil_of_le (by omega)]
    simp [qs]
  | succ d ih =>
    intro i acc hi ha
    have hlt : i < x0.length := by omega
    have hz := hb _ (at_mem x0 hlt)
    have hstep : ∀ s, s = ba (qL (bl (rdOf ByteArray.empty x0 (i : Int)))) → Ev (fun k => mail_Quoted.l0 k (acc ++ [s]) x0 (x0.length : Int) ((i + 1 : Nat) : Int)) (acc ++ qs (x0.drop i)) := by
      intro s hs
      refine Ev.val (ih (i + 1) (acc ++ [s]) (by omega) (by simp; omega)) ?_
      rw [at_drop x0 hlt, hs]
      simp [qs]
    refine Ev.shift ?_
    simp only [mail_Quoted.l0]
    rw [up (by omega)]
    refine Ev.pos (by omega) (Ev.pos (by omega) (Ev.pos (by omega) ?_))
    by_cases h1 : bl (rdOf ByteArray.empty x0 (i : Int)) = []
    · refine Ev.pos (by rw [toList_bl]; exact h1) (Ev.pos (by omega) (Ev.pos (by omega) (hstep _ ?_)))
      refine eq_ba ?_
      unfold qL
      rw [if_pos (.inl h1), bl_app]; rfl
    · refine Ev.neg (by rw [toList_bl]; exact h1) (Ev.bindc (quoted_f _) ?_)
      by_cases h2 : qd (bl (rdOf ByteArray.empty x0 (i : Int))) = true
      · refine Ev.pos h2 (Ev.pos (by omega) (Ev.pos (by omega) (hstep _ ?_)))
        refine eq_ba ?_
        unfold qL
        rw [if_pos (.inr h2), bl_app]; rfl
      · refine Ev.neg h2 (Ev.pos (by omega) (Ev.pos (by omega) (hstep _ ?_)))
        refine eq_ba ?_
        unfold qL
        rw [if_neg (fun h => h.elim h1 h2), bl_app]; rfl
omit hb in
theorem unquoted_l0 : ∀ (d i : Nat) (acc : List ByteArray), i + d = x0.length → acc.length ≤ i →
    Ev (fun k => mail_Unquoted.l0 k acc (qs x0) ((qs x0).length : Int) (i : Int)) (acc ++ x0.drop i) := by
  have hl := qs_len x0
  intro d
  induction d with
  | zero =>
    intro i acc hi ha
    refine Ev.shift ?_
    simp only [mail_Unquoted.l0]
    refine Ev.neg (by omega) (Ev.cst ?_)
    rw [List.drop_eq_nil_of_le (by omega), List.append_nil]
  | succ d ih =>
    intro i acc hi ha
    have hlt : i < x0.length := by omega
    have hq : qd (bl (ba (qL (bl (rdOf ByteArray.empty x0 (i : Int)))))) = true := by rw [bl_ba]; exact qL_qd _
    have h1 := qd_ne hq
    refine Ev.shift ?_
    simp only [mail_Unquoted.l0]
    rw [up (by omega), qs_at x0 hlt]
    refine Ev.pos (by omega) (Ev.pos (by omega) (Ev.pos (by omega) (Ev.bindc (quoted_f _) (Ev.pos hq (Ev.pos (by omega) (Ev.bindc (cut_f _) (Ev.pos (by omega) ?_)))))))
    rw [bl_ba, cut_qL, ba_bl]
    refine Ev.val (ih (i + 1) _ (by omega) (by simp; omega)) ?_
    rw [at_drop x0 hlt]
    simp
omit hb in
theorem allQuote : ∀ (d i : Nat), i + d = x0.length → Ev (fun k => portkeep1_MailQuoted.l1 k (List.replicate x0.length 3) (x0.length : Int) (i : Int)) true := by
  intro d
  induction d with
  | zero =>
    intro i hi
    refine Ev.shift ?_
    simp only [portkeep1_MailQuoted.l1]
    exact Ev.neg (by omega) (Ev.cst rfl)
  | succ d ih =>
    intro i hi
    refine Ev.shift ?_
    simp only [portkeep1_MailQuoted.l1, List.length_replicate]
    rw [up (by omega)]
    refine Ev.pos (by omega) (Ev.pos (by omega) (Ev.pos (by omega) (Ev.pos ?_ (ih (i + 1) (by omega)))))
    rw [rd_nat, List.getD_eq_getElem?_getD, List.getElem?_replicate, if_pos (by omega)]; rfl
theorem law_l0 : ∀ (d i : Nat), i + d = x0.length → Ev (fun k => portkeep1_MailQuoted.l0 k x0 (qs x0) (qs x0) ((qs x0).length : Int) (i : Int)) true := by
  have hl := qs_len x0
  intro d
  induction d with
  | zero =>
    intro i hi
    have hbq : ∀ s ∈ qs x0, s.size < 4294967281 := by
      intro s hs
      unfold qs at hs
      obtain ⟨t, ht, rfl⟩ := List.mem_map.1 hs
      have := hb t ht
      rw [ba_size]
      rw [bl_size] at this
      unfold qL
      split <;> simp only [List.length_cons] <;> omega
    have hk : kinds ((qs x0).map bl) = List.replicate x0.length 3 := by
      rw [kinds_all, List.length_map, hl]
      rw [List.all_eq_true]
      intro y hy
      obtain ⟨t, ht, rfl⟩ := List.mem_map.1 hy
      unfold qs at ht
      obtain ⟨u, _, rfl⟩ := List.mem_map.1 ht
      rw [bl_ba]
      exact qL_qd _
    refine Ev.shift ?_
    simp only [portkeep1_MailQuoted.l0]
    refine Ev.neg (by omega) (Ev.bind (kinds_f (qs x0) (by omega) hbq) ?_)
    rw [hk, List.length_replicate]
    exact allQuote x0 hn x0.length 0 (Nat.zero_add _)
  | succ d ih =>
    intro i hi
    have hlt : i < x0.length := by omega
    have hz := hb _ (at_mem x0 hlt)
    have hd := dep_le 2097152 (bl (rdOf ByteArray.empty x0 (i : Int)))
    refine Ev.shift ?_
    simp only [portkeep1_MailQuoted.l0]
    rw [up (by omega), qs_at x0 hlt]
    refine Ev.pos (by omega) (Ev.pos (by omega) (Ev.pos (by omega) (Ev.bind (dep_q _ hz) (Ev.pos (by omega) (Ev.bind (depth_f _ (by omega)) ?_)))))
    rw [up (by omega)]
    exact Ev.neg (by omega) (ih (i + 1) (by omega))
theorem mailQuoted_pure : ∃ k, portkeep1_MailQuoted.f k x0 = some true := by
  refine Ev.rounds (g := fun k => portkeep1_MailQuoted.f k x0) ?_
  have hl := qs_len x0
  unfold portkeep1_MailQuoted.f portkeep1_awakeMail.f
  refine Ev.bindc rfl (Ev.pos rfl ?_)
  refine Ev.bind (g := fun k => mail_Quoted.f k x0) (quoted_l0 x0 hn hb x0.length 0 [] (Nat.zero_add _) (Nat.le_refl _)) ?_
  rw [List.nil_append, List.drop_zero]
  refine Ev.pos (by omega) ?_
  refine Ev.bind (g := fun k => mail_Unquoted.f k (qs x0)) (unquoted_l0 x0 hn x0.length 0 [] (Nat.zero_add _) (Nat.le_refl _)) ?_
  rw [List.nil_append, List.drop_zero]
  refine Ev.bind (eqStr_f x0 (by omega)) (Ev.shift ?_)
  simp only [portkeep1_MailQuoted.j0]
  refine Ev.neg (by decide) ?_
  exact law_l0 x0 hn hb x0.length 0 (Nat.zero_add _)
end
end Go.Proofs.YtcljkhhjondhcaaDoor.QuB
