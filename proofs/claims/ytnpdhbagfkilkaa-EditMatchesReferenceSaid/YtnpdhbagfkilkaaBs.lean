/- Texts as lists of bytes, and their values. -/
import Derived.Test.YtnpdhbagfkilkaaBase
import Derived.Lib.SlBytesRow
set_option linter.unusedVariables false
set_option linter.unusedSimpArgs false
namespace Go.Proofs.Ytnpdhbagfkilkaa
open Go.RowKit

def bs (l : List UInt8) : ByteArray := ⟨l.toArray⟩
theorem bs_list (l : List UInt8) : (bs l).data.toList = l := by simp [bs]
theorem bs_size (l : List UInt8) : (bs l).size = l.length := by simp [bs, ByteArray.size]
theorem bs_app (l m : List UInt8) : bs l ++ bs m = bs (l ++ m) := by
  apply ByteArray.ext
  simp [bs]
theorem bs_inj {l m : List UInt8} (h : bs l = bs m) : l = m := by rw [← bs_list l, h, bs_list]
theorem bs_eq (s : ByteArray) : s = bs s.data.toList := rfl
theorem bs_toList (l : List UInt8) : (bs l).toList = l := by rw [ByteArray.toList_eq, bs_list]
theorem bs_drop (l : List UInt8) (k : Nat) : (bs l).extract k l.length = bs (l.drop k) := by
  apply ByteArray.ext
  apply Array.toList_inj.1
  rw [Lib.extract_data]
  simp only [bs_list]
  rw [List.take_of_length_le (by simp)]
theorem bs_cut (l : List UInt8) (k n : Nat) : (bs l).extract k n = bs ((l.drop k).take (n - k)) := by
  apply ByteArray.ext
  apply Array.toList_inj.1
  rw [Lib.extract_data]
  simp only [bs_list]
/-- a slice of bytes that reads as l, as a text -/
theorem conv_bytes {P : Program} (w : World) (src e dst : TypeId) (hs : P.underlying src = some (.slice e)) (he : P.underlying e = some (.int .u8)) (hd : P.underlying dst = some .string) (b o : Nat) (l : List UInt8) (n cap : Nat) (hn : n = l.length)
    (hc : ∀ (i : Nat) (c : UInt8), l[i]? = some c → w.cell? ⟨b, o + i, none⟩ = some (.int .u8 (c.toNat : Int))) :
    (convert src dst (.slice (some ⟨b, o, none⟩) n cap)).run P w = .ok (.string (bs l)) w := by
  have h := Lib.run_convert_whole (P := P) w src e dst hs he hd b o (bs l) (fun i hi => by
    refine hc i (bs l)[i] ?_
    have hi' : i < l.length := by rw [← bs_size]; exact hi
    rw [List.getElem?_eq_getElem hi']
    rfl) cap
  rwa [bs_size, ← hn] at h
/-- a byte of a text -/
theorem index_bs (l : List UInt8) (k : Nat) (c : UInt8) (hc : l[k]? = some c) (w : World) : (Instr.index 9 (.string (bs l)) (.int .i64 (k : Int))).run Try.prog w = .ok (.int .u8 (c.toNat : Int)) w := by
  have hk : k < (bs l).size := by
    rw [bs_size]
    rcases Nat.lt_or_ge k l.length with h | h
    · exact h
    · rw [List.getElem?_eq_none h] at hc; cases hc
  have he : (bs l)[k] = c := by
    have h1 : (bs l).data[k]? = some c := by show l.toArray[k]? = _; simpa using hc
    have h2 : (bs l).data[k]? = some ((bs l)[k]) := Array.getElem?_eq_getElem (xs := (bs l).data) hk
    rw [h1] at h2
    exact (Option.some.inj h2).symm
  rw [← he]
  go_simp
theorem ret_str' {a b : ByteArray} (h : a = b) : Ending.returned (.string a) = .returned (.string b) := by rw [h]
end Go.Proofs.Ytnpdhbagfkilkaa
