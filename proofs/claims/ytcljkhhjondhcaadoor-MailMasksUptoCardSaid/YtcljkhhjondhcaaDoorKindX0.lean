/- What the small printed functions on lines answer, for strings below 4294967281 bytes: quoted, empty, what ends in a colon, what is written low. -/
import Derived.Test.YtcljkhhjondhcaaDoorIx10
import Derived.Test.YtcljkhhjondhcaaDoorIx6
import Derived.Test.YtcljkhhjondhcaaDoorKindP
import Derived.Test.YtcljkhhjondhcaaDoorLibIx
namespace Go.Proofs.YtcljkhhjondhcaaDoor.KindX
open Go.RowKit Go.Proofs.YtcljkhhjondhcaaDoorW.PrintWords Go.Proofs.YtcljkhhjondhcaaDoor.Ext Go.Proofs.YtcljkhhjondhcaaDoor.Ix Go.Proofs.YtcljkhhjondhcaaDoor.Pl Go.Proofs.YtcljkhhjondhcaaDoor.LibIx Go.Proofs.YtcljkhhjondhcaaDoor.KindP
theorem Ev.val {α : Type} {g : Nat → Option α} {r r' : α} (h : Ev g r) (e : r = r') : Ev g r' := e ▸ h
theorem up {i : Nat} (h : i ≤ 4611686018427387904) : wrap64 ((i : Int) + 1) = ((i + 1 : Nat) : Int) := by rw [w64 (by omega) (by omega)]; omega
theorem at_get (l : List ByteArray) {i : Nat} (h : i < l.length) : rdOf ByteArray.empty l (i : Int) = l[i] := by
  unfold rdOf
  rw [Int.toNat_natCast, List.getD_eq_getElem?_getD, List.getElem?_eq_getElem h]; rfl
theorem at_bl (l : List ByteArray) {i : Nat} (h : i < l.length) : bl (rdOf ByteArray.empty l (i : Int)) = (l.map bl).getD i [] := by
  rw [at_get l h, List.getD_eq_getElem?_getD, List.getElem?_map, List.getElem?_eq_getElem h]; rfl
theorem at_mem (l : List ByteArray) {i : Nat} (h : i < l.length) : rdOf ByteArray.empty l (i : Int) ∈ l := by rw [at_get l h]; exact List.getElem_mem h
theorem at_drop (l : List ByteArray) {i : Nat} (h : i < l.length) : l.drop i = rdOf ByteArray.empty l (i : Int) :: l.drop (i + 1) := by rw [at_get l h]; exact List.drop_eq_getElem_cons h
theorem rd_nat (K : List Int) (i : Nat) : rd K (i : Int) = K.getD i 0 := by unfold rd; rw [Int.toNat_natCast]
theorem quoted_f (a : ByteArray) : mail_quoted.f a = some (qd (bl a)) := by unfold mail_quoted.f; rw [hasPrefix_f]; rfl
theorem refQuoted_f (a : ByteArray) : strings_HasPrefix.f a (⟨#[62]⟩ : ByteArray) = some (qd (bl a)) := hasPrefix_f a _
theorem trimG_f {f : List UInt8 → List UInt8 → List UInt8} {a : ByteArray} (h : a.size < 4294967281) : trimG f a (⟨#[32, 9]⟩ : ByteArray) = some (ba (f (bl a) bks)) := by
  unfold trimG
  rw [if_pos (by omega), if_pos (by decide), if_pos (by decide)]
  rfl
theorem empty_f {a : ByteArray} (h : a.size < 4294967281) : mail_empty.f a = some (emp (bl a)) := by
  unfold mail_empty.f
  show (trimG Lib.trimS a _).bind _ = _
  rw [trimG_f h, Option.bind_some, toList_bl, bl_ba]; rfl
theorem refEmpty_f {a : ByteArray} (h : a.size < 4294967281) : portref1_emptyLine.f a = some (emp (bl a)) := by
  unfold portref1_emptyLine.f portref1_Trim.f
  show ((trimG Lib.trimS a _).bind _).bind _ = _
  rw [trimG_f h, Option.bind_some, Option.bind_some, toList_bl, bl_ba]; rfl
theorem trimR_f {a : ByteArray} (h : a.size < 4294967281) : strings_TrimRight.f a (⟨#[32, 9]⟩ : ByteArray) = some (ba (Lib.trimRightS (bl a) bks)) := trimG_f h
theorem trimR_len (l : Ln) : (Lib.trimRightS l bks).length ≤ l.length := by
  obtain ⟨y, hy, _⟩ := trimR_split l
  have := congrArg List.length hy
  rw [List.length_append] at this
  omega
theorem suf_f {l : Ln} (h : l.length < 4294967281) : strings_HasSuffix.f (ba l) (⟨#[58]⟩ : ByteArray) = some ([58].isSuffixOf l) := by
  rw [hasSuffix_f _ _ (by rw [ba_size]; omega), bl_ba]
theorem lower_f {l : Ln} (h : l.length < 4294967281) : lowerF (ba l) = some (ba (l.map lowB)) := by
  unfold lowerF
  rw [if_pos (by rw [ba_size]; omega)]
  show some (ba ((bl (ba l)).map lowB)) = _
  rw [bl_ba]
theorem cont_f {l : Ln} (h : l.length < 4294967281) : strings_Contains.f (ba l) (⟨#[119, 114, 111, 116, 101]⟩ : ByteArray) = some (Lib.contains l wrote) := by
  show containsF _ _ = _
  unfold containsF
  rw [if_pos (by rw [ba_size]; omega)]
  show some (Lib.contains (bl (ba l)) wrote) = _
  rw [bl_ba]
end Go.Proofs.YtcljkhhjondhcaaDoor.KindX
