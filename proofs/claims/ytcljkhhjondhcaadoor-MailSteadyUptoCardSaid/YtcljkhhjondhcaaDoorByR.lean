/- A row of bytes that a conversion of a string laid, as a form of its own (B): the lemmas that the printed walks ask of it, for all such rows: no condition. -/
import Derived.Test.YtcljkhhjondhcaaDoorLow
namespace Go.Proofs.YtcljkhhjondhcaaDoor.Ext
open Go.RowKit Go.Shelf Go.Proofs.YtcljkhhjondhcaaDoorW.PrintWords
def numsOf (s : ByteArray) : List Int := s.data.toList.map fun b => (b.toNat : Int)
theorem numsOf_length (s : ByteArray) : (numsOf s).length = s.size := by
  unfold numsOf
  rw [List.length_map, Array.length_toList]; rfl
def Kd.B (_d : Kd Int) (e : Nat) (w : World) (base : Nat) (ok : Nat → Prop) (v : Value) (xs : List Int) : Prop :=
  ∃ (g cap : Nat) (cur : Array Value), v = .slice (some ⟨g, 0, none⟩) xs.length cap ∧ ok g ∧ base ≤ g ∧ w.heap[g]? = some (.cells cur e (cur.size, cur.size + 1)) ∧ (xs.length ≤ cap ∧ xs.length ≤ 9223372036854775807) ∧ ∀ (j : Nat) (x : Int), xs[j]? = some x → cur[j]? = some (.int .u8 x)
section
variable {d : Kd Int} {e : Nat} {w w1 : World} {base : Nat} {ok ok' : Nat → Prop} {v : Value} {xs : List Int}
theorem Kd.B_step (h : Kd.B d e w base ok v xs) (hm : ∀ k, ok k → k < w.heap.size → w1.heap[k]? = w.heap[k]?) : Kd.B d e w1 base ok v xs := by
  obtain ⟨g, cap, cur, hv, ho, hb, hh, hl, hc⟩ := h
  exact ⟨g, cap, cur, hv, ho, hb, (hm g ho (Array.getElem?_eq_some_iff.1 hh).1).trans hh, hl, hc⟩
theorem Kd.B_below (h : Kd.B d e w base ok v xs) (hb : Below w.heap.size w w1) : Kd.B d e w1 base ok v xs := Kd.B_step h (fun k _ hk => hb.block k hk)
theorem Kd.B_alloc (h : Kd.B d e w base ok v xs) (o : Obj) : Kd.B d e (w.alloc o) base ok v xs := Kd.B_below h (below_alloc (Below.refl _ _) o)
theorem Kd.B_drew (h : Kd.B d e w base ok v xs) : Kd.B d e w.drew base ok v xs := Kd.B_below h (below_drew (Below.refl _ _))
theorem Kd.B_drewN (h : Kd.B d e w base ok v xs) (m : Nat) : Kd.B d e (w.drewN m) base ok v xs := Kd.B_below h (pw_below_drewN (Below.refl _ _) m)
theorem Kd.B_lower {base' : Nat} (h : Kd.B d e w base ok v xs) (hb : base' ≤ base) : Kd.B d e w base' ok v xs := by
  obtain ⟨g, cap, cur, hv, ho, hg, r⟩ := h
  exact ⟨g, cap, cur, hv, ho, Nat.le_trans hb hg, r⟩
theorem Kd.B_mono (h : Kd.B d e w base ok v xs) (hok : ∀ k, ok k → ok' k) : Kd.B d e w base ok' v xs := by
  obtain ⟨g, cap, cur, hv, ho, r⟩ := h
  exact ⟨g, cap, cur, hv, hok g ho, r⟩
theorem Kd.B_form (h : Kd.B d e w base ok v xs) (_hp : 0 < xs.length) : ∃ g cap, v = .slice (some ⟨g, 0, none⟩) xs.length cap ∧ base ≤ g ∧ g < w.heap.size ∧ ∃ cells, w.heap[g]? = some (.cells cells e (cells.size, cells.size + 1)) := by
  obtain ⟨g, cap, cur, hv, ho, hb, hh, hl, hc⟩ := h
  exact ⟨g, cap, hv, hb, (Array.getElem?_eq_some_iff.1 hh).1, cur, hh⟩
theorem Kd.B_slice (h : Kd.B d e w base ok v xs) : ∃ A c, v = .slice A xs.length c := by
  obtain ⟨g, cap, cur, hv, _⟩ := h
  exact ⟨_, _, hv⟩
theorem Kd.B_lt (h : Kd.B d e w base ok v xs) : ∀ k, v.ownBlock = some k → k < w.heap.size := by
  obtain ⟨g, cap, cur, rfl, ho, hb, hh, hl, hc⟩ := h
  intro k hk
  obtain rfl : g = k := by simpa [Value.ownBlock] using hk
  exact (Array.getElem?_eq_some_iff.1 hh).1
theorem Kd.B_cell {g n cap : Nat} (h : Kd.B d e w base ok (.slice (some ⟨g, 0, none⟩) n cap) xs) (i : Int) (h0 : 0 ≤ i) (hi : i < n) : w.cell? ⟨g, i.toNat, none⟩ = some (.int .u8 (rd xs i)) ∧ w.frozen? ⟨g, i.toNat, none⟩ = false ∧ n = xs.length := by
  obtain ⟨g', cap', cur, hv, ho, hb, hh, hl, hc⟩ := h
  injection hv with h1 h2 h3
  injection h1 with h1
  injection h1 with h1
  subst h1
  subst h2
  have hj : i.toNat < xs.length := by omega
  have hx := hc i.toNat _ (List.getElem?_eq_getElem hj)
  have hs := (Array.getElem?_eq_some_iff.1 hx).1
  have hr : rd xs i = xs[i.toNat] := by unfold rd; rw [List.getD_eq_getElem?_getD, List.getElem?_eq_getElem hj]; rfl
  refine ⟨by rw [hr]; simp [World.cell?, hh, hx], ?_, rfl⟩
  simp [World.frozen?, hh]
  omega
theorem Kd.B_celln {g n cap : Nat} (_d0 : Int) (h : Kd.B d e w base ok (.slice (some ⟨g, 0, none⟩) n cap) xs) (i : Int) (h0 : 0 ≤ i) (hi : i < n) : w.cell? ⟨g, i.toNat, none⟩ = some (.int .u8 (rdOf 0 xs i)) ∧ w.frozen? ⟨g, i.toNat, none⟩ = false :=
  ⟨(Kd.B_cell h i h0 hi).1, (Kd.B_cell h i h0 hi).2.1⟩
theorem Kd.B_putg {g n cap : Nat} (h : Kd.B d e w base ok (.slice (some ⟨g, 0, none⟩) n cap) xs) (i x : Int) : Kd.B d e (w.setCell ⟨g, i.toNat, none⟩ (.int .u8 x)) base ok (.slice (some ⟨g, 0, none⟩) n cap) (xs.set i.toNat x) ∧ w.grownBy (w.setCell ⟨g, i.toNat, none⟩ (.int .u8 x)) (some g) := by
  obtain ⟨g', cap', cur, hv, ho, hb, hh, hl, hc⟩ := h
  injection hv with h1 h2 h3
  injection h1 with h1
  injection h1 with h1
  subst h1
  subst h2
  subst h3
  refine ⟨⟨g, cap, cur.setIfInBounds i.toNat (.int .u8 x), by rw [List.length_set], ho, hb, by simp [World.setCell, Array.getElem?_modify, hh], by rw [List.length_set]; exact hl, fun j y hj => ?_⟩, ?_⟩
  · by_cases e : i.toNat = j
    · subst e
      have hjl : i.toNat < (xs.set i.toNat x).length := (List.getElem?_eq_some_iff.1 hj).1
      rw [List.getElem?_set_self (by simpa using hjl)] at hj
      injection hj with hj
      subst hj
      have hjl' : i.toNat < xs.length := by simpa using hjl
      have := (Array.getElem?_eq_some_iff.1 (hc i.toNat _ (List.getElem?_eq_getElem hjl'))).1
      simp [this]
    · rw [List.getElem?_set_ne e] at hj
      rw [Array.getElem?_setIfInBounds_ne e]
      exact hc j y hj
  · exact ⟨rfl, rfl, rfl, by simp [World.setCell], fun k _ hk => by
      have hne : g ≠ k := fun e => hk (by rw [e])
      simp [World.setCell, Array.getElem?_modify, hne]⟩
theorem Kd.B_over' {e' : Nat} {v' : Value} (h : Kd.B d e w base ok v xs) (hty : ∀ k, v'.ownBlock = some k → ∃ cells, w.heap[k]? = some (.cells cells e' (0, 0))) (_ht : ∀ q, q ∈ e :: d.E → q ≠ e') (hg : w.grownBy w1 v'.ownBlock) : Kd.B d e w1 base ok v xs := by
  obtain ⟨g, cap, cur, hv, ho, hb, hh, r⟩ := h
  refine ⟨g, cap, cur, hv, ho, hb, (hg.block g (Array.getElem?_eq_some_iff.1 hh).1 (fun hk => ?_)).trans hh, r⟩
  obtain ⟨cells, hc⟩ := hty g hk.symm
  rw [hh] at hc
  simp at hc
theorem Kd.B_string {P : Program} {e' src dst e0 : TypeId} (hs : P.underlying src = some (.slice e0)) (he : P.underlying e0 = some (.int .u8)) (hd : P.underlying dst = some .string) (h : Kd.B d e' w base ok v xs) : (convert src dst v).run P w = .ok (.string (strOfNums xs)) w := by
  obtain ⟨g, cap, cur, rfl, ho, hb, hh, hl, hc⟩ := h
  refine run_convert_bytes_arg w src e0 hs he g 0 xs.length cap xs rfl (fun i hi => ?_) dst hd
  have hx := hc i _ (List.getElem?_eq_getElem hi)
  rw [Nat.zero_add, List.getD_eq_getElem?_getD, List.getElem?_eq_getElem hi]
  simp [World.cell?, hh, hx]
theorem Kd.B_elder' {vn : Value} (h : Kd.B d e w base ok v xs) (hbase : ∀ k, vn.ownBlock = some k → w.heap.size ≤ k) (hb : Below w.heap.size w w1) : Kd.B d e w1 base (fun k => ok k ∧ some k ≠ vn.ownBlock) v xs := by
  obtain ⟨g, cap, cur, hv, ho, hg, hh, r⟩ := h
  have hlt := (Array.getElem?_eq_some_iff.1 hh).1
  exact ⟨g, cap, cur, hv, ⟨ho, fun he => by have := hbase g he.symm; omega⟩, hg, (hb.block g hlt).trans hh, r⟩
theorem Kd.B_after {vo v1 : Value} (h : Kd.B d e w base (fun k => ok k ∧ some k ≠ vo.ownBlock) v xs) (hg : w.grownBy w1 vo.ownBlock) (hat : v1.ownBlock = vo.ownBlock ∨ ∃ b, v1.ownBlock = some b ∧ w.heap.size ≤ b) : Kd.B d e w1 base (fun k => ok k ∧ some k ≠ v1.ownBlock) v xs := by
  obtain ⟨g, cap, cur, hv, ⟨ho, hne⟩, hb, hh, r⟩ := h
  have hlt := (Array.getElem?_eq_some_iff.1 hh).1
  refine ⟨g, cap, cur, hv, ⟨ho, ?_⟩, hb, (hg.block g hlt hne).trans hh, r⟩
  rcases hat with hat | ⟨b, hb', hle⟩
  · rw [hat]; exact hne
  · rw [hb']
    intro he
    injection he with he
    omega
theorem Kd.B_reads' {A : Option Addr} {n c : Nat} (h : Kd.B d e w base ok (.slice A n c) xs) : n = xs.length ∧ n ≤ c ∧ (Kd.int .u8).C w A xs.length xs := by
  obtain ⟨g, cap, cur, hv, ho, hb, hh, hl, hc⟩ := h
  injection hv with h1 h2 h3
  subst h1 h2 h3
  refine ⟨rfl, hl.1, rfl, hl.2, fun _ => ⟨_, rfl, fun j p hj => ⟨[.int .u8 p], rfl, rfl, fun i u hu => ?_⟩⟩⟩
  have hi : i = 0 := by
    have := (List.getElem?_eq_some_iff.1 hu).1
    simpa using this
  subst hi
  obtain rfl : (.int .u8 p : Value) = u := by simpa using hu
  have he : (⟨g, 0, none⟩ : Addr).add (j * (Kd.int .u8).sz + 0) = ⟨g, j, none⟩ := by rw [add_plain]; simp [Kd.int, Kd.scalar]
  rw [he]
  simp [World.cell?, hh, hc j p hj]
theorem Kd.B_apart {α : Type} {dr : Kd α} {er br : Nat} {okr : Nat → Prop} {vr : Value} {ys : List α} (h : Kd.B d e w base ok v xs) (hr : dr.R er w br okr vr ys) : v.ownBlock ≠ vr.ownBlock := by
  obtain ⟨g, cap, cur, rfl, ho, hb, hh, _⟩ := h
  intro he
  obtain ⟨cells, hc⟩ := Kd.R_typed hr g (by rw [← he]; simp [Value.ownBlock])
  rw [hh] at hc
  simp at hc
theorem Kd.R_overB {α : Type} {dr : Kd α} {er br : Nat} {okr : Nat → Prop} {vr : Value} {ys : List α} (hr : dr.R er w br okr vr ys) (h : Kd.B d e w base ok v xs) (hg : w.grownBy w1 v.ownBlock) : dr.R er w1 br okr vr ys := by
  obtain ⟨g, cap, cur, rfl, ho, hb, hh, _⟩ := h
  refine Kd.R_mono (Kd.R_move (Kd.R_bound hr) (fun k hk => hg.block k hk.2.2.1 (fun he => ?_))) (fun _ hk => hk.1)
  obtain ⟨_, _, _, q, hq, cells, hc⟩ := hk
  have hk' : g = k := by simpa [Value.ownBlock] using he.symm
  subst hk'
  rw [hh] at hc
  simp at hc
theorem Kd.C_apart {k : IntKind} {A : Option Addr} {n : Nat} {ys : List Int} {row : Option Nat} (h : (Kd.int k).C w A n ys) (hg : w.grownBy w1 row) (hne : ∀ ad, A = some ad → some ad.block ≠ row) : (Kd.int k).C w1 A n ys := by
  refine ⟨h.1, h.2.1, fun hn => ?_⟩
  obtain ⟨ad, he, hc⟩ := h.2.2 hn
  refine ⟨ad, he, fun j p hj => ?_⟩
  obtain ⟨c, h1, h2, h3⟩ := hc j p hj
  exact ⟨c, h1, h2, fun i u hu => cell_grown hg (h3 i u hu) (by rw [add_block]; exact hne ad he)⟩
theorem Kd.far_R {α : Type} {dr : Kd α} {er br n c : Nat} {okr : Nat → Prop} {A : Option Addr} {ys : List α} (h : Kd.B d e w base ok v xs) (hr : dr.R er w br okr (.slice A n c) ys) : ∀ ad, A = some ad → some ad.block ≠ v.ownBlock := by
  intro ad ha he
  subst ha
  exact Kd.B_apart h hr (by rw [← he]; simp [Value.ownBlock])
end
section
variable {P : Program} {ops : Array Oper} {rest : List Oper} {o : Oper} {a : Act} {Q : Exit → Act → World → Prop}
theorem Kd.B_conv {w0 W : World} (base e : Nat) (hgd : o.guard = none) {N : Tmp} (_hd : o.dst = some N) (s t : TypeId) (x : Operand) (ho : o.op = .convert s t x) (a0 : ByteArray) (hx : a.eval x = .string a0)
    (hs : P.underlying s = some .string) (ht : P.underlying t = some (.slice e)) (he : P.underlying e = some (.int .u8)) {ok okp : Nat → Prop} (_hok : ∀ k, okp k → ok k) (hfresh : ok W.heap.size) (_hl : (a0.size : Int) ≤ 140737488355328) (HB : Below base w0 W) (hbase : base ≤ W.heap.size)
    (h : ∀ v1 w1, Kd.B (Kd.int .u8) e w1 base ok v1 (numsOf a0) → Below base w0 w1 → W.grownBy w1 none → (∃ b, v1.ownBlock = some b ∧ W.heap.size ≤ b) → wpList P ops Q rest (a.put o.dst v1) w1) : wpList P ops Q (o :: rest) a W := by
  have hr := Lib.run_convert_string_bytes (P := P) W s t e a0 hs ht he
  have hnew := Lib.bytesWorld_at_new W e a0
  have hbel : Below W.heap.size W (Lib.bytesWorld W e a0) := ⟨rfl, rfl, rfl, by rw [Lib.bytesWorld_size]; omega, fun i hi => Lib.bytesWorld_at_old W e a0 i hi⟩
  refine Go.Proofs.YtcljkhhjondhcaaDoorW.PrintWords.Kd.event_run (v := .slice (some ⟨W.heap.size, 0, none⟩) a0.size (grownCap W a0.size 0 e)) (w1 := Lib.bytesWorld W e a0) hgd (by simp [execOp, ho, hx, hr]) (h _ _ ?_ (below_then HB hbase hbel) ⟨hbel.os, hbel.tape, hbel.output, hbel.size, fun k hk _ => hbel.block k hk⟩ ⟨W.heap.size, by simp [Value.ownBlock], Nat.le_refl _⟩)
  refine ⟨W.heap.size, grownCap W a0.size 0 e, Lib.bytesCells W e a0, by rw [numsOf_length], hfresh, hbase, hnew, ?_, fun j y hj => ?_⟩
  · rw [numsOf_length]
    exact ⟨grownCap_ge W a0.size 0 e, by omega⟩
  · unfold numsOf at hj
    rw [List.getElem?_map] at hj
    obtain ⟨b, hb, rfl⟩ := Option.map_eq_some_iff.1 hj
    obtain ⟨hl, he⟩ := List.getElem?_eq_some_iff.1 hb
    have hl' : j < a0.data.size := by simpa using hl
    unfold Lib.bytesCells
    rw [Array.getElem?_append_left (by simpa using hl')]
    have hd : a0.data[j]? = some a0.data[j] := Array.getElem?_eq_getElem hl'
    simp [hd, ← he]
end
end Go.Proofs.YtcljkhhjondhcaaDoor.Ext
