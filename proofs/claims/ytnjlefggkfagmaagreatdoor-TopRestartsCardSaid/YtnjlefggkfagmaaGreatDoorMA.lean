/- Several texts as one, in build order. -/
import Derived.Test.YtnjlefggkfagmaaGreatDoorProg
import Derived.WalkKit
import Derived.WalkSpells
import Derived.WalkLawsBesides
import Derived.Lib.Hide
import Derived.Deep.QuietTactic
import Derived.BigQuiet
import Derived.BigRegion
import Derived.Deep.LoopGhost
import Derived.Deep.DeepFit
import Derived.Deep.RegionWith
import Derived.Deep.RegionHeld3
import Derived.StillTailTactics
import Derived.Laws.EntriesVeiled
import Derived.Laws.OwnMore
import Derived.Laws.Rows
import Derived.Deep.AppendLies
import Derived.Deep.Draws
import Derived.ProofKit
import Derived.ChangeOld
import Derived.Below
import Derived.SizedLaws
import Derived.Deep.Slices
import Derived.Deep.Fields
import Derived.Lib.ItoaNum
import Derived.StillTail
import Derived.Deep.Quiet
import Derived.Lib.LaidTab
import Derived.Shelf.Strconv.Itoa3
import Derived.Lib.SlBytesRow
import Derived.Test.YtnjlefggkfagmaaGreatDoorShelf
import Derived.Lib.Builder
import Derived.Lib.Repeat
import Derived.Lib.SlTrimSet
import Derived.Laws.Bits64
import Derived.Laws.BitsAllLaws
import Derived.Outline
import Derived.Lib.BufferWrite
import Derived.IntWalk
import Derived.Test.YtnjlefggkfagmaaGreatDoorShelf2
import Derived.Laws.AppendOwnNone
import Derived.RangeFuncNested
import Derived.RangeFuncBound
import Derived.RangeFuncCalls
import Derived.RangeFuncLeaves
import Derived.Shelf.Abstract
import Derived.Shelf.RegionOpen
import Derived.OwnWalkIn
import Derived.TacticsInMore
import Derived.LoopNIn
import Derived.LoopIn
/- Base words for the walks of this seat: memory that reads as lists, blocks known whole, frames. -/
set_option linter.unusedVariables false
set_option linter.unusedSimpArgs false
namespace Go.Proofs.YtnjlefggkfagmaaGreatDoor
open Go.RowKit

theorem hide {p : Prop} (h : p) : Hid p := h

theorem ret_int {k : IntKind} {a b : Int} (h : a = b) : Ending.returned (.int k a) = .returned (.int k b) := by rw [h]
theorem ret_bool {a b : Bool} (h : a = b) : Ending.returned (.bool a) = .returned (.bool b) := by rw [h]

theorem below_drewN {B : Nat} {a w : World} (h : Below B a w) (n : Nat) : Below B a (w.drewN n) := ⟨h.os, h.tape, h.output, h.size, h.block⟩

theorem block_of_add (a : Addr) (n : Nat) : (a.add n).block = a.block := by unfold Addr.add; split <;> rfl
theorem add_of_add (a : Addr) (i j : Nat) : (a.add i).add j = a.add (i + j) := by
  unfold Addr.add
  by_cases hi : i = 0 <;> by_cases hj : j = 0 <;> simp [hi, hj, Nat.add_assoc]

/-- the slice value '.slice A n c' holds the cells xs, below block B -/
def Reads (w : World) (B size : Nat) (A : Option Addr) (n : Nat) (xs : List Value) : Prop :=
  xs.length = n * size ∧ (0 < n → ∃ ad, A = some ad ∧ ad.block < B ∧ ∀ j u, xs[j]? = some u → w.cell? (ad.add j) = some u)

section
variable {w w' : World} {B B' size n : Nat} {A : Option Addr} {xs : List Value}
theorem Reads.keep (h : Reads w B size A n xs) (hk : ∀ p : Addr, p.block < B → w'.cell? p = w.cell? p) : Reads w' B size A n xs :=
  ⟨h.1, fun hn => by
    obtain ⟨ad, e, hb, hc⟩ := h.2 hn
    exact ⟨ad, e, hb, fun j u hu => (hk _ (by rw [block_of_add]; exact hb)).trans (hc j u hu)⟩⟩
theorem Reads.more (h : Reads w B size A n xs) (hB : B ≤ B') : Reads w B' size A n xs :=
  ⟨h.1, fun hn => by
    obtain ⟨ad, e, hb, hc⟩ := h.2 hn
    exact ⟨ad, e, by omega, hc⟩⟩
theorem Reads.below {C : Nat} (h : Reads w B size A n xs) (hb : Below C w w') (hB : B ≤ C) : Reads w' B size A n xs := h.keep fun _ hp => hb.cell (by omega)
theorem Reads.alloc (h : Reads w B size A n xs) (hB : B ≤ w.heap.size) (o : Obj) : Reads (w.alloc o) B size A n xs := h.keep fun p hp => World.cell?_alloc_lt w o p (by omega)
/-- element k of a slice of elements of 'size' cells -/
theorem Reads.at_ {k : Nat} (h : Reads w B size A n xs) (hk : k < n) : ∃ ad, A = some ad ∧ ad.block < B ∧ ∀ j, j < size → ∃ u, xs[k * size + j]? = some u ∧ w.cell? ((ad.add (k * size)).add j) = some u := by
  obtain ⟨ad, e, hb, hc⟩ := h.2 (by omega)
  refine ⟨ad, e, hb, fun j hj => ?_⟩
  have hl : k * size + j < xs.length := by
    rw [h.1]
    have : (k + 1) * size ≤ n * size := Nat.mul_le_mul_right _ (by omega)
    rw [Nat.add_mul] at this
    omega
  exact ⟨xs[k * size + j], List.getElem?_eq_getElem hl, by rw [add_of_add]; exact hc _ _ (List.getElem?_eq_getElem hl)⟩
end

/-- block g is just the cells cs of element type t, none frozen -/
def Blk (w : World) (g : Nat) (t : TypeId) (cs : Array Value) : Prop := w.heap[g]? = some (.cells cs t (0, 0))

section
variable {w w' : World} {g : Nat} {t : TypeId} {cs : Array Value}
theorem Blk.lt (h : Blk w g t cs) : g < w.heap.size := by
  rcases Nat.lt_or_ge g w.heap.size with hlt | hge
  · exact hlt
  · unfold Blk at h; rw [Array.getElem?_eq_none hge] at h; cases h
theorem Blk.cell (h : Blk w g t cs) (i : Nat) : w.cell? ⟨g, i, none⟩ = cs[i]? := cell_of_row w g i cs t (0, 0) h
theorem Blk.frozen (h : Blk w g t cs) (i : Nat) : w.frozen? ⟨g, i, none⟩ = false := by
  unfold Blk at h
  simp [World.frozen?, h]
theorem Blk.new (w : World) (t : TypeId) (cs : Array Value) : Blk (w.alloc (.cells cs t)) w.heap.size t cs := heap_alloc_new w _
theorem Blk.drew (h : Blk w g t cs) : Blk w.drew g t cs := h
theorem Blk.drewN (h : Blk w g t cs) (n : Nat) : Blk (w.drewN n) g t cs := h
theorem Blk.alloc (h : Blk w g t cs) (o : Obj) : Blk (w.alloc o) g t cs := (Below.heap_alloc w o g h.lt).trans h
theorem Blk.set_ (h : Blk w g t cs) (i : Nat) (u : Value) : Blk (w.setCell ⟨g, i, none⟩ u) g t (cs.setIfInBounds i u) := by
  unfold Blk at h ⊢
  simp [World.setCell, Array.getElem?_modify, h]
theorem Blk.far (h : Blk w g t cs) {p : Addr} (hp : g ≠ p.block) (u : Value) : Blk (w.setCell p u) g t cs := (Below.heap_setCell w p u g hp).trans h
theorem Blk.below {B : Nat} (h : Blk w g t cs) (hb : Below B w w') (hg : g < B) : Blk w' g t cs := (hb.block g hg).trans h
end

end Go.Proofs.YtnjlefggkfagmaaGreatDoor

/- What came in, opened type by type: cells that read as data of a type, with the reach. -/
set_option linter.unusedVariables false
set_option linter.unusedSimpArgs false
namespace Go.Proofs.YtnjlefggkfagmaaGreatDoor
open Go.RowKit Go.ChangeShapes Go.WideShapes Go.Deep

/-- the cells cs came in as a datum of type t -/
def CameC {H : Type} (enc : TypeId × Value → H) (P : Program) (w : World) (t : TypeId) (cs : List Value) : Prop :=
  ∃ (n : Nat) (d : DataW H) (p : List MemPlace), DataW.trod enc P w 0 (fun _ => true) true n t cs = some (d, p) ∧ ∀ k ∈ d.weights P t, k ≤ reachBytes

section
variable {H : Type} {enc : TypeId × Value → H} {P : Program} {w : World} {t e : TypeId} {cs : List Value}

theorem CameC.of_trod {v : Value} {d : DataW H} {p : List MemPlace} (h : DataW.Trod enc P w 0 (fun _ => true) true t v d p) (hw : ∀ k ∈ d.weights P t, k ≤ reachBytes) : CameC enc P w t v.cells.toList := by
  obtain ⟨n, hn⟩ := h
  exact ⟨n, d, p, hn, hw⟩
theorem weights_each {ts : List TypeId} {ds : List (DataW H)} (h : (DataW.weightsEach P ts ds).all (· ≤ reachBytes) = true) (j : Nat) {d : DataW H} (ht : ts[j]? = some t) (hd : ds[j]? = some d) : ∀ k ∈ d.weights P t, k ≤ reachBytes := fun k hk => by
  have := List.all_eq_true.1 h _ (DataW.weights_mem_each ht hd k hk)
  simpa using this
theorem weights_all {d : DataW H} : ∀ {l : List (DataW H)}, d ∈ l → ∀ k ∈ d.weights P e, k ∈ DataW.weightsAll P e l
  | [], h, _, _ => by simp at h
  | x :: l, h, k, hk => by
    simp only [DataW.weightsAll, List.mem_append]
    rcases List.mem_cons.1 h with rfl | h
    · exact .inl hk
    · exact .inr (weights_all h k hk)

theorem CameC.int {q : IntKind} (ht : P.underlying t = some (.int q)) (h : CameC enc P w t cs) : ∃ n, cs = [.int q n] ∧ (Lit.int q n).wf = true := by
  obtain ⟨n, d, p, h, _⟩ := h
  obtain ⟨z, h1, _, h2⟩ := DataW.trod_int ht h
  exact ⟨z, h1, h2⟩
theorem CameC.string (ht : P.underlying t = some .string) (h : CameC enc P w t cs) : ∃ s : ByteArray, cs = [.string s] ∧ s.size ≤ reachBytes := by
  obtain ⟨n, d, p, h, hw⟩ := h
  obtain ⟨s, h1, h2, _⟩ := DataW.trod_string ht h
  obtain ⟨rfl, rfl⟩ := Prod.mk.injEq .. ▸ h2
  exact ⟨s, h1, by simpa using hw s.size (by simp [DataW.weights])⟩
theorem CameC.slice (ht : P.underlying t = some (.slice e)) (h : CameC enc P w t cs) :
    cs = [.slice none 0 0] ∨ ∃ (a : Addr) (n c : Nat), cs = [.slice (some a) n c] ∧ n ≤ c ∧ c * P.bytesOf e ≤ reachBytes ∧ c ≤ maxLen ∧
      ∀ i, i < n → ∃ cs', cs'.length = P.cellsOf e ∧ (∀ j, j < P.cellsOf e → w.cell? (a.add (i * P.cellsOf e + j)) = cs'[j]?) ∧ CameC enc P w e cs' := by
  obtain ⟨m, d, p, h, hw⟩ := h
  rcases DataW.trod_slice ht h with ⟨h0, _⟩ | ⟨a, n, c, elems, rest, k, _, rfl, hx, _, hl, hm, hlen, hel, hsp, _⟩
  · exact .inl h0
  · obtain ⟨rfl, rfl⟩ := Prod.mk.injEq .. ▸ hx
    have hr := (hsp rfl).1
    refine .inr ⟨a, n, c, rfl, hl, ?_, hm, fun i hi => ?_⟩
    · have := hw ((elems.length + rest.length) * P.bytesOf e) (by simp [DataW.weights, ht])
      rwa [hlen, hr, show n + (c - n) = c by omega] at this
    · have hg : elems[i]? = some (elems[i]'(by omega)) := List.getElem?_eq_getElem (by omega)
      have he := hel i hi
      rw [hg] at he
      obtain ⟨cs', h1, h2⟩ := Option.bind_eq_some_iff.1 he
      obtain ⟨_, hcl, hat⟩ := World.cells?_some h1
      refine ⟨cs', hcl, fun j hj => ?_, k, (elems[i]'(by omega)).1, (elems[i]'(by omega)).2, h2, fun q hq => hw q ?_⟩
      · rw [← add_of_add]; exact hat j hj
      · simp only [DataW.weights, ht, List.mem_cons, List.mem_append]
        exact .inr (.inl (weights_all (List.mem_map.2 ⟨_, List.getElem_mem (by omega), rfl⟩) q hq))
theorem CameC.struct {fs : Array Field} (ht : P.underlying t = some (.struct fs)) (h : CameC enc P w t cs) : cs.length = P.cellsOf t ∧ ∀ (i : Nat) (f : Field), fs[i]? = some f → CameC enc P w f.type ((cs.drop f.offset).take (P.cellsOf f.type)) := by
  obtain ⟨m, d, p, h, hw⟩ := h
  obtain ⟨xs, n, _, hx, hl, hlen, hf⟩ := DataW.trod_struct ht h
  obtain ⟨rfl, rfl⟩ := Prod.mk.injEq .. ▸ hx
  refine ⟨hl, fun i f hi => ?_⟩
  have hlt : i < xs.length := by rw [hlen]; exact (Array.getElem?_eq_some_iff.1 hi).1
  have hg : xs[i]? = some xs[i] := List.getElem?_eq_getElem hlt
  have h1 := hf i f hi
  rw [hg] at h1
  refine ⟨n, xs[i].1, xs[i].2, h1, fun q hq => hw q ?_⟩
  simp only [DataW.weights, ht]
  refine DataW.weights_mem_each (j := i) (t := f.type) (d := xs[i].1) ?_ ?_ q hq
  · rw [List.getElem?_map, Array.getElem?_toList, hi]; rfl
  · rw [List.getElem?_map, hg]; rfl
/-- a struct of one-cell fields, cell by cell -/
theorem CameC.fields {fs : Array Field} (ht : P.underlying t = some (.struct fs)) (hone : oneCellFields P fs = true) (hC : P.cellsOf t = fs.size) (h : CameC enc P w t cs) : cs.length = fs.size ∧ ∀ (i : Nat) (f : Field), fs[i]? = some f → ∃ v, cs[i]? = some v ∧ CameC enc P w f.type [v] := by
  obtain ⟨h1, h2⟩ := h.struct ht
  rw [hC] at h1
  refine ⟨h1, fun i f hi => ?_⟩
  obtain ⟨ho, hk⟩ := hone_of hone i f hi
  have hlt : i < cs.length := by rw [h1]; exact (Array.getElem?_eq_some_iff.1 hi).1
  have h3 := h2 i f hi
  rw [ho, hk, List.drop_eq_getElem_cons hlt] at h3
  exact ⟨cs[i], List.getElem?_eq_getElem hlt, h3⟩

end
end Go.Proofs.YtnjlefggkfagmaaGreatDoor

/- The plain side of layer 1: digests of texts. No program in sight. -/
set_option linter.unusedVariables false
set_option linter.unusedSimpArgs false
namespace Go.Proofs.YtnjlefggkfagmaaGreatDoor
open Go

/-- one mixing -/
def mixN (x : Nat) : Nat :=
  let a := (x ^^^ x / 2147483648) * 11400714819323198485 % 18446744073709551616
  let b := (a ^^^ a / 134217728) * 15074714826142052245 % 18446744073709551616
  b ^^^ b / 8589934592
theorem xor_lt64 {a b : Nat} (ha : a < 18446744073709551616) (hb : b < 18446744073709551616) : a ^^^ b < 18446744073709551616 := by
  have : a ^^^ b < 2 ^ 64 := Nat.xor_lt_two_pow (by omega) (by omega)
  omega
theorem mixN_lt (x : Nat) : mixN x < 18446744073709551616 := by
  unfold mixN
  simp only
  exact xor_lt64 (Nat.mod_lt _ (by decide)) (Nat.lt_of_le_of_lt (Nat.div_le_self _ _) (Nat.mod_lt _ (by decide)))
/-- a block's number: its bytes, the first one greatest -/
def packN (l : List UInt8) : Nat := l.foldl (fun n c => n * 256 + c.toNat) 0
/-- eight bytes, filled up with zeros -/
def pad8 (l : List UInt8) : List UInt8 := l.take 8 ++ List.replicate (8 - l.length) 0
theorem pad8_len (l : List UInt8) : (pad8 l).length = 8 := by unfold pad8; simp; omega
def stepN (s : Nat) (l : List UInt8) : Nat := mixN (s ^^^ packN l)
def sumGo : Nat → Nat → List UInt8 → Nat
  | 0, s, _ => s
  | f + 1, s, l => sumGo f (stepN s (pad8 l)) (l.drop 8)
def sumN (l : List UInt8) : Nat := sumGo (l.length / 8 + 1) (7640891576956012809 ^^^ l.length) l
/-- the state after k blocks -/
def stN (l : List UInt8) : Nat → Nat
  | 0 => 7640891576956012809 ^^^ l.length
  | k + 1 => stepN (stN l k) (pad8 (l.drop (8 * k)))
theorem sumGo_st (l : List UInt8) : ∀ (f k : Nat), sumGo f (stN l k) (l.drop (8 * k)) = stN l (k + f)
  | 0, k => rfl
  | f + 1, k => by
    have := sumGo_st l f (k + 1)
    rw [sumGo, List.drop_drop, show 8 * k + 8 = 8 * (k + 1) by omega]
    rw [show stepN (stN l k) (pad8 (l.drop (8 * k))) = stN l (k + 1) from rfl, this]
    congr 1; omega
theorem sumN_st (l : List UInt8) : sumN l = stN l (l.length / 8 + 1) := by
  have := sumGo_st l (l.length / 8 + 1) 0
  simpa [sumN, stN] using this
theorem foldl_pack : ∀ (l : List UInt8) (n : Nat), l.foldl (fun n c => n * 256 + c.toNat) n < (n + 1) * 256 ^ l.length
  | [], n => by simp
  | c :: r, n => by
    have h := foldl_pack r (n * 256 + c.toNat)
    have hc := c.toNat_lt
    rw [List.foldl_cons, List.length_cons, Nat.pow_succ, Nat.mul_comm (256 ^ r.length), ← Nat.mul_assoc]
    refine Nat.lt_of_lt_of_le h (Nat.mul_le_mul_right _ ?_)
    omega
theorem packN_snoc (l : List UInt8) (c : UInt8) : packN (l ++ [c]) = packN l * 256 + c.toNat := by simp [packN]
theorem packN_lt (l : List UInt8) : packN l < 256 ^ l.length := by
  have := foldl_pack l 0
  simpa [packN] using this
theorem packN_lt64 {l : List UInt8} (h : l.length ≤ 8) : packN l < 18446744073709551616 := by
  have h1 := packN_lt l
  have h2 : 256 ^ l.length ≤ 256 ^ 8 := Nat.pow_le_pow_right (by decide) h
  omega
theorem stepN_lt (s : Nat) (l : List UInt8) : stepN s l < 18446744073709551616 := mixN_lt _
theorem stN_lt {l : List UInt8} (h : l.length < 18446744073709551616) (k : Nat) : stN l k < 18446744073709551616 := by
  cases k with
  | zero => exact xor_lt64 (by decide) h
  | succ k => exact stepN_lt _ _

/-! hexadecimal digits -/
def hexC (d : Nat) : UInt8 := if d < 10 then UInt8.ofNat (48 + d) else UInt8.ofNat (87 + d)
/-- the last k digits -/
def hexN : Nat → Nat → List UInt8
  | 0, _ => []
  | k + 1, n => hexN k (n / 16) ++ [hexC (n % 16)]
theorem hexN_len : ∀ (k n : Nat), (hexN k n).length = k
  | 0, _ => rfl
  | k + 1, n => by rw [hexN, List.length_append, hexN_len k]; rfl
def sumD (l : List UInt8) : List UInt8 := hexN 16 (sumN l)
theorem sumD_len (l : List UInt8) : (sumD l).length = 16 := hexN_len _ _
def isHex (c : UInt8) : Bool := (decide (48 ≤ c.toNat) && decide (c.toNat ≤ 57)) || (decide (97 ≤ c.toNat) && decide (c.toNat ≤ 102))
theorem hexC_hex : ∀ d : Nat, d < 16 → isHex (hexC d) = true := by decide
theorem hexN_hex : ∀ (k n : Nat), ∀ c ∈ hexN k n, isHex c = true
  | 0, _, c, h => by simp [hexN] at h
  | k + 1, n, c, h => by
    rw [hexN, List.mem_append] at h
    rcases h with h | h
    · exact hexN_hex k _ c h
    · simp only [List.mem_cons, List.not_mem_nil, or_false] at h
      subst h
      exact hexC_hex _ (Nat.mod_lt _ (by decide))
/-- has the form of a digest -/
def isD (l : List UInt8) : Bool := decide (l.length = 16) && l.all isHex
theorem isD_iff (l : List UInt8) : isD l = true ↔ l.length = 16 ∧ ∀ c ∈ l, isHex c = true := by simp [isD]
theorem sumD_isD (l : List UInt8) : isD (sumD l) = true := (isD_iff _).2 ⟨sumD_len l, hexN_hex _ _⟩
/-- the joined text of a list -/
def joinD (ls : List (List UInt8)) : List UInt8 := ls.flatMap fun s => Lib.itoa s.length ++ [58] ++ s
def listD (ls : List (List UInt8)) : List UInt8 := sumD (joinD ls)
theorem listD_isD (ls : List (List UInt8)) : isD (listD ls) = true := sumD_isD _
theorem joinD_snoc (ls : List (List UInt8)) (s : List UInt8) : joinD (ls ++ [s]) = joinD ls ++ (Lib.itoa s.length ++ [58] ++ s) := by simp [joinD]
theorem hexN_zero (k : Nat) : hexN k 0 = List.replicate k 48 := by
  induction k with
  | zero => rfl
  | succ k ih => rw [hexN, Nat.zero_div, ih, List.replicate_succ']; rfl
theorem hexN_add (j : Nat) : ∀ (k n : Nat), n < 16 ^ k → hexN (j + k) n = List.replicate j 48 ++ hexN k n
  | 0, n, h => by
    have : n = 0 := by simpa using h
    subst this
    simp [hexN, hexN_zero]
  | k + 1, n, h => by
    rw [← Nat.add_assoc, hexN, hexN, hexN_add j k (n / 16) (by rw [Nat.pow_succ] at h; omega), List.append_assoc]
/-- the digits without zeros ahead: how many -/
def hexLf : Nat → Nat → Nat
  | 0, _ => 1
  | f + 1, n => if n < 16 then 1 else hexLf f (n / 16) + 1
def hexL (n : Nat) : Nat := hexLf 15 n
theorem hexLf_spec : ∀ (f n : Nat), n < 16 ^ (f + 1) → 1 ≤ hexLf f n ∧ hexLf f n ≤ f + 1 ∧ n < 16 ^ hexLf f n ∧ (1 < hexLf f n → 16 ^ (hexLf f n - 1) ≤ n)
  | 0, n, h => by simp [hexLf] at *; omega
  | f + 1, n, h => by
    rw [hexLf]
    split
    · rename_i h1
      exact ⟨by omega, by omega, by simpa using h1, by omega⟩
    · rename_i h1
      obtain ⟨a, b, c, d⟩ := hexLf_spec f (n / 16) (by rw [Nat.pow_succ] at h; omega)
      refine ⟨by omega, by omega, by rw [Nat.pow_succ]; omega, fun _ => ?_⟩
      rw [Nat.add_sub_cancel]
      by_cases h2 : 1 < hexLf f (n / 16)
      · have := d h2
        have e : hexLf f (n / 16) = hexLf f (n / 16) - 1 + 1 := by omega
        rw [e, Nat.pow_succ]
        omega
      · have e : hexLf f (n / 16) = 1 := by omega
        rw [e]; omega
theorem hexL_spec {n : Nat} (h : n < 18446744073709551616) : 1 ≤ hexL n ∧ hexL n ≤ 16 ∧ n < 16 ^ hexL n ∧ (1 < hexL n → 16 ^ (hexL n - 1) ≤ n) := hexLf_spec 15 n (by simpa using h)
theorem hex_fill {n : Nat} (h : n < 18446744073709551616) : List.replicate (16 - hexL n) 48 ++ hexN (hexL n) n = hexN 16 n := by
  obtain ⟨_, h1, h2, _⟩ := hexL_spec h
  rw [← hexN_add (16 - hexL n) (hexL n) n h2]
  congr 1; omega
/-- the digits of the last k places, one more ahead -/
theorem hexN_cons : ∀ (k n : Nat), hexN (k + 1) n = hexC (n / 16 ^ k % 16) :: hexN k n
  | 0, n => by simp [hexN]
  | k + 1, n => by
    rw [hexN, hexN_cons k (n / 16), hexN, Nat.div_div_eq_div_mul, Nat.pow_succ, Nat.mul_comm 16]
    rfl
end Go.Proofs.YtnjlefggkfagmaaGreatDoor

/- The plain laws of trees. No program in sight. -/
set_option linter.unusedVariables false
set_option linter.unusedSimpArgs false
namespace Go.Proofs.YtnjlefggkfagmaaGreatDoor
open Go

def leafT : List UInt8 := [108, 101, 97, 102]
def nodeT : List UInt8 := [110, 111, 100, 101]
def emptyT : List UInt8 := [101, 109, 112, 116, 121]
/-! trees -/
def leafD (d : List UInt8) : List UInt8 := listD [leafT, d]
def nodeD (a b : List UInt8) : List UInt8 := listD [nodeT, a, b]
def halfF : Nat → Nat → Nat → Nat
  | 0, k, _ => k
  | f + 1, k, n => if k * 2 < n then halfF f (k * 2) n else k
def halfN (n : Nat) : Nat := halfF n 1 n
theorem halfF_lt : ∀ (f k n : Nat), 1 ≤ k → k < n → 1 ≤ halfF f k n ∧ halfF f k n < n
  | 0, k, n, h1, h2 => ⟨h1, h2⟩
  | f + 1, k, n, h1, h2 => by
    unfold halfF
    split
    · rename_i h; exact halfF_lt f (k * 2) n (by omega) h
    · exact ⟨h1, h2⟩
theorem half_lt {n : Nat} (h : 2 ≤ n) : 1 ≤ halfN n ∧ halfN n < n := halfF_lt n 1 n (Nat.le_refl _) (by omega)
def sumT : Nat → List (List UInt8) → List UInt8
  | 0, _ => []
  | f + 1, l => if l.length = 1 then l.headD [] else nodeD (sumT f (l.take (halfN l.length))) (sumT f (l.drop (halfN l.length)))
theorem sumT_one (f : Nat) {l : List (List UInt8)} (h : l.length = 1) : sumT (f + 1) l = l.headD [] := by unfold sumT; rw [if_pos h]
theorem sumT_two (f : Nat) {l : List (List UInt8)} (h : l.length ≠ 1) : sumT (f + 1) l = nodeD (sumT f (l.take (halfN l.length))) (sumT f (l.drop (halfN l.length))) := by
  conv => lhs; unfold sumT
  rw [if_neg h]
theorem sumT_more : ∀ (f g : Nat) (l : List (List UInt8)), 1 ≤ l.length → l.length ≤ f → l.length ≤ g → sumT f l = sumT g l := by
  intro f
  induction f with
  | zero => intro g l h1 h2 _; omega
  | succ f ih =>
    intro g l h1 h2 h3
    obtain ⟨g', rfl⟩ : ∃ g', g = g' + 1 := ⟨g - 1, by omega⟩
    by_cases h : l.length = 1
    · rw [sumT_one f h, sumT_one g' h]
    · obtain ⟨a, b⟩ := half_lt (n := l.length) (by omega)
      rw [sumT_two f h, sumT_two g' h]
      generalize halfN l.length = k at *
      rw [ih g' (l.take k) (by rw [List.length_take]; omega) (by rw [List.length_take]; omega) (by rw [List.length_take]; omega), ih g' (l.drop k) (by rw [List.length_drop]; omega) (by rw [List.length_drop]; omega) (by rw [List.length_drop]; omega)]
def totalT (l : List (List UInt8)) : List UInt8 := if l.length = 0 then listD [emptyT] else sumT l.length l
def properT (l : List (List UInt8)) : Bool := l.all isD
def rootV (l : List (List UInt8)) : List UInt8 := if properT l then totalT l else []
def rootE (l : List (List UInt8)) : Int := if properT l then 0 else 1
theorem leaf_isD (d : List UInt8) : isD (leafD d) = true := by
  unfold leafD
  exact listD_isD _
end Go.Proofs.YtnjlefggkfagmaaGreatDoor

/- The plain laws of trees: paths. No program in sight. -/
set_option linter.unusedVariables false
set_option linter.unusedSimpArgs false
namespace Go.Proofs.YtnjlefggkfagmaaGreatDoor
open Go

/-- the digests beside the way to element i, the uppermost first -/
def pathF : Nat → List (List UInt8) → Nat → List (List UInt8)
  | 0, _, _ => []
  | f + 1, l, i => if l.length ≤ 1 then [] else if i < halfN l.length then totalT (l.drop (halfN l.length)) :: pathF f (l.take (halfN l.length)) i else totalT (l.take (halfN l.length)) :: pathF f (l.drop (halfN l.length)) (i - halfN l.length)
def pathV (l : List (List UInt8)) (i : Nat) : List (List UInt8) := (pathF l.length l i).reverse
/-- what a proof's digests make of a leaf: the root, the digests that are left; none if one was missing -/
def upF : Nat → Nat → Nat → List UInt8 → List (List UInt8) → Option (List UInt8 × List (List UInt8))
  | 0, _, _, _, _ => none
  | f + 1, n, i, leaf, st => if n = 1 then some (leaf, st) else match st with
    | [] => none
    | side :: st => if i < halfN n then (upF f (halfN n) i leaf st).map fun r => (nodeD r.1 side, r.2) else (upF f (n - halfN n) (i - halfN n) leaf st).map fun r => (nodeD side r.1, r.2)
theorem total_isD (l : List (List UInt8)) (h : properT l = true) : isD (totalT l) = true := by
  unfold totalT
  split
  · exact listD_isD _
  · rename_i h0
    have : ∀ (f : Nat) (l : List (List UInt8)), 1 ≤ l.length → l.length ≤ f → properT l = true → isD (sumT f l) = true := by
      intro f
      induction f with
      | zero => intro l h1 h2; omega
      | succ f ih =>
        intro l h1 h2 hp
        by_cases h : l.length = 1
        · rw [sumT_one f h]
          match l, h with
          | [x], _ => unfold properT at hp; simpa using hp
        · rw [sumT_two f h]
          unfold nodeD
          exact listD_isD _
    exact this _ l (by omega) (Nat.le_refl _) h
theorem total_sum {l : List (List UInt8)} (h : 1 ≤ l.length) {f : Nat} (hf : l.length ≤ f) : totalT l = sumT f l := by
  unfold totalT
  rw [if_neg (by omega)]
  exact sumT_more _ _ l h (Nat.le_refl _) hf
theorem total_two {l : List (List UInt8)} (h : 2 ≤ l.length) : totalT l = nodeD (totalT (l.take (halfN l.length))) (totalT (l.drop (halfN l.length))) := by
  obtain ⟨a, b⟩ := half_lt h
  obtain ⟨f, hf⟩ : ∃ f, l.length = f + 1 := ⟨l.length - 1, by omega⟩
  rw [total_sum (by omega) (Nat.le_of_eq hf), sumT_two f (by omega)]
  rw [total_sum (l := l.take (halfN l.length)) (f := f) (by rw [List.length_take]; omega) (by rw [List.length_take]; omega), total_sum (l := l.drop (halfN l.length)) (f := f) (by rw [List.length_drop]; omega) (by rw [List.length_drop]; omega)]
theorem up_path : ∀ (f : Nat) (l : List (List UInt8)) (i : Nat) (x : List UInt8) (st : List (List UInt8)), l.length ≤ f → l[i]? = some x → upF f l.length i x (pathF f l i ++ st) = some (totalT l, st) := by
  intro f
  induction f with
  | zero =>
    intro l i x st h hx
    obtain rfl : l = [] := List.eq_nil_of_length_eq_zero (by omega)
    simp at hx
  | succ f ih =>
    intro l i x st h hx
    have hi : i < l.length := by rcases Nat.lt_or_ge i l.length with h' | h'; exact h'; rw [List.getElem?_eq_none h'] at hx; cases hx
    by_cases h1 : l.length = 1
    · match l, h1 with
      | [y], _ =>
        obtain rfl : i = 0 := by simpa using hi
        simp at hx
        subst hx
        have : pathF (f + 1) [y] 0 = [] := by unfold pathF; rfl
        rw [this]
        unfold upF
        rfl
    · obtain ⟨a, b⟩ := half_lt (n := l.length) (by omega)
      have ht := total_two (l := l) (by omega)
      have e : pathF (f + 1) l i = if i < halfN l.length then totalT (l.drop (halfN l.length)) :: pathF f (l.take (halfN l.length)) i else totalT (l.take (halfN l.length)) :: pathF f (l.drop (halfN l.length)) (i - halfN l.length) := by
        conv => lhs; unfold pathF
        rw [if_neg (by omega)]
      rw [e]
      have hlt : (l.take (halfN l.length)).length = halfN l.length := by rw [List.length_take]; omega
      have hld : (l.drop (halfN l.length)).length = l.length - halfN l.length := by rw [List.length_drop]
      have i1 := ih (l.take (halfN l.length)) i x st (by omega)
      have i2 := ih (l.drop (halfN l.length)) (i - halfN l.length) x st (by omega)
      rw [hlt] at i1
      rw [hld] at i2
      generalize hk : halfN l.length = k at *
      by_cases hik : i < k
      · rw [if_pos hik, List.cons_append]
        unfold upF
        rw [if_neg h1]
        simp only [hk]
        rw [if_pos hik, i1 (by rw [List.getElem?_take_of_lt hik]; exact hx), ht]
        rfl
      · rw [if_neg hik, List.cons_append]
        unfold upF
        rw [if_neg h1]
        simp only [hk]
        rw [if_neg hik, i2 (by rw [List.getElem?_drop, show k + (i - k) = i by omega]; exact hx), ht]
        rfl
theorem path_isD : ∀ (f : Nat) (l : List (List UInt8)) (i : Nat), properT l = true → ∀ d ∈ pathF f l i, isD d = true := by
  intro f
  induction f with
  | zero => intro l i _ d h; simp [pathF] at h
  | succ f ih =>
    intro l i hp d h
    have hpt : properT (l.take (halfN l.length)) = true := by unfold properT at hp ⊢; rw [List.all_eq_true] at hp ⊢; exact fun x hx => hp x (List.mem_of_mem_take hx)
    have hpd : properT (l.drop (halfN l.length)) = true := by unfold properT at hp ⊢; rw [List.all_eq_true] at hp ⊢; exact fun x hx => hp x (List.mem_of_mem_drop hx)
    unfold pathF at h
    split at h
    · simp at h
    · split at h
      · rcases List.mem_cons.1 h with h | h
        · rw [h]; exact total_isD _ hpd
        · exact ih _ _ hpt d h
      · rcases List.mem_cons.1 h with h | h
        · rw [h]; exact total_isD _ hpt
        · exact ih _ _ hpd d h
end Go.Proofs.YtnjlefggkfagmaaGreatDoor

/- A region that draws its order, whose operations yield the same values in every world of a class: one walk in the text's order; with a tail in a forced order, too (the tail may make memory). -/
set_option linter.unusedVariables false
set_option linter.unusedSimpArgs false
namespace Go.Proofs.YtnjlefggkfagmaaGreatDoor
open Go Go.RowKit

section
variable {P : Program} {ops : Array Oper} {md : Region.Mode} {C : World → Prop}

/-- whatever order the head takes; behind it L -/
def wpAnyT (P : Program) (md : Region.Mode) (ops : Array Oper) (C : World → Prop) (n : Nat) (L : Array Bool → Act → Prop) : Nat → Array Bool → Act → Prop
  | 0, listed, a => L listed a
  | f + 1, listed, a => Region.ready md ops listed ≠ [] ∧ ∀ i ∈ Region.ready md ops listed, i < n ∧ qOp P ops C i (wpAnyT P md ops C n L f (listed.setIfInBounds i true)) a

theorem wpAny_of_T {n g : Nat} {L : Array Bool → Act → Prop} {Q : Exit → Act → World → Prop} (hL : ∀ listed a w, C w → L listed a → wpAny P md ops Q g listed a w) :
    ∀ (f : Nat) (listed : Array Bool) (a : Act) (w : World), C w → wpAnyT P md ops C n L f listed a → wpAny P md ops Q (f + g) listed a w := by
  intro f
  induction f with
  | zero => intro listed a w hw h; rw [Nat.zero_add]; exact hL _ _ _ hw h
  | succ f ih =>
    intro listed a w hw h
    rw [Nat.succ_add]
    exact ⟨fun h0 => absurd h0 h.1, fun i hi => wpOp_of_qOp hw (fun a' w' hw' h' => ih _ a' w' hw' h') (h.2 i hi).2⟩

/-- an operation of the head that may come up now may be taken first -/
theorem wpAnyT_first {n i : Nat} {oi : Oper} {v : Value} {L : Array Bool → Act → Prop} (hi : ops[i]? = some oi) (hsel : ∀ (j : Nat) (o : Oper) cs b, ops[j]? = some o → o.op ≠ .select cs b)
    (hs : Region.sinkB md ops n = true) (hc : Region.chainB md ops n = true) (hn : n < ops.size) (hin : i < n) (hdone : ∀ listed a, L listed a → ∀ j ∈ Region.ready md ops listed, n ≤ j) :
    ∀ (f : Nat) (listed : Array Bool) (a : Act), HeadInv md ops n listed →
      (∀ j oj, ops[j]? = some oj → j ≠ i → listed.getD j true = false → (∀ e ∈ oj.after, Region.binds md e = true → e.on ≠ i) → oi.apart ops oj = true) →
      i ∈ Region.ready md ops listed → YieldsIn P ops C oi v a →
      wpAnyT P md ops C n L f (listed.setIfInBounds i true) (a.put oi.dst v) → wpAnyT P md ops C n L (f + 1) listed a := by
  intro f
  induction f with
  | zero =>
    intro listed a inv _ hr hy H
    have hun := (mem_ready.1 hr).1
    refine ⟨List.ne_nil_of_mem hr, fun j hj => ?_⟩
    have hjn : j < n := Nat.lt_of_not_le fun h => tail_waits hs hc hn inv _ i rfl hin hun j h hj
    refine ⟨hjn, ?_⟩
    rcases Nat.decEq j i with hji | hji
    · exact absurd (hdone _ _ H j (ready_mono hj hji)) (by omega)
    · subst hji; exact hy.qOp hi H
  | succ f ih =>
    intro listed a inv hfree hr hy H
    have hun := (mem_ready.1 hr).1
    refine ⟨List.ne_nil_of_mem hr, fun j hj => ?_⟩
    have hjn : j < n := Nat.lt_of_not_le fun h => tail_waits hs hc hn inv _ i rfl hin hun j h hj
    refine ⟨hjn, ?_⟩
    rcases Nat.decEq j i with hji | hji
    · obtain ⟨hjun, oj, hoj, hall⟩ := mem_ready.1 hj
      have hnot : ∀ e ∈ oj.after, Region.binds md e = true → e.on ≠ i := fun e he hb heq => by
        have h1 := hall e he hb
        rw [heq, getD_both hun] at h1
        cases h1
      have h2 := qOp_put hoj (hfree j oj hoj hji hjun hnot) (fun cs b => hsel i oi cs b hi) (fun cs b => hsel j oj cs b hoj) hy (H.2 j (ready_mono hj hji)).2
      refine qOp_mono (fun a' h3 => ih (listed.setIfInBounds j true) a' (inv.set hj hjn) ?_ (ready_mono hr (Ne.symm hji)) h3.1 ?_) h2
      · intro k ok hk hki hun' hno
        refine hfree k ok hk hki ?_ hno
        rcases Nat.decEq j k with hjk | hjk
        · rwa [getD_set_ne true hjk] at hun'
        · subst hjk; exact hjun
      · rw [Array.setIfInBounds_comm _ _ hji]
        exact h3.2
    · subst hji; exact hy.qOp hi H

theorem wpAnyT_lex {n g : Nat} {K : Act → Prop} (hsel : Region.noSelect ops = true) (hs : Region.sinkB md ops n = true) (hc : Region.chainB md ops n = true) (hn : n < ops.size) :
    ∀ (l : List Oper) (k : Nat) (listed : Array Bool) (a : Act), (∀ j, j < l.length → l[j]? = ops[k + j]?) → k + l.length = n → HeadInv md ops n listed →
    Region.lexHead md ops g l.length k listed = true → wpQuiet P ops C K l a →
    wpAnyT P md ops C n (fun listed' a' => Region.seqB md ops g n listed' = true ∧ K a') l.length listed a
  | [], k, listed, a, _, hk, _, hB, h => by
    obtain rfl : k = n := by simpa using hk
    exact ⟨by simpa [Region.lexHead] using hB, h⟩
  | o :: l, k, listed, a, hl, hk, inv, hB, h => by
    have h0 : ops[k]? = some o := by simpa using (hl 0 (by simp)).symm
    simp only [List.length_cons, Region.lexHead, Bool.and_eq_true] at hB
    have hkn : k < n := by simp only [List.length_cons] at hk; omega
    have hr : k ∈ Region.ready md ops listed := by simpa using hB.1.1
    have hq : qOp P ops C k (wpQuiet P ops C K l) a := by unfold qOp; simp only [h0]; exact h
    obtain ⟨v, hy, hK⟩ := yieldsIn_of_qOp h0 hq
    exact wpAnyT_first h0 (Region.noSelect_spec hsel) hs hc hn hkn (fun _ _ hL => seqB_ready hL.1) l.length listed a inv (Region.free_spec h0 hB.1.2) hr hy
      (wpAnyT_lex hsel hs hc hn l (k + 1) _ _ (fun j hj => by have := hl (j + 1) (by simp; omega); simpa [Nat.add_assoc, Nat.add_comm 1 j] using this) (by simp only [List.length_cons] at hk; omega) (inv.set hr hkn) hB.2 hK)

/-- one walk serves every order: the class is what g takes on -/
theorem wp_region_class {U : Type} (g : U → World) {id : Nat} {Q : Exit → Act → World → Prop} {a : Act} {w : World} {l : List Oper} (hm : P.follows .mixedOrders = true) (hB : Region.lexB .any l.toArray = true) (hC : ∃ u, w.drew = g u)
    (h : wpQuiet P l.toArray (fun w' => ∃ u, w' = g u) (fun a' => ∀ w', (∃ u, w' = g u) → Q .normal a' w') l a) : (Code.region id l.toArray true).wp P Q a w :=
  wp_region_quiet (C := fun w' => ∃ u, w' = g u) hm hB hC (by simpa using h)
/-- the head is of the class, the tail's order is forced -/
theorem wp_region_class_tail {U : Type} (g : U → World) (n : Nat) {id : Nat} {Q : Exit → Act → World → Prop} {a : Act} {w : World} {l : List Oper} (hm : P.follows .mixedOrders = true) (hB : Region.lexTailB .any l.toArray n = true) (hC : ∃ u, w.drew = g u)
    (h : wpQuiet P l.toArray (fun w' => ∃ u, w' = g u) (fun a' => ∀ w', (∃ u, w' = g u) → wpList P l.toArray Q (l.drop n) a' w') (l.take n) a) : (Code.region id l.toArray true).wp P Q a w := by
  simp only [Region.lexTailB, Bool.and_eq_true, decide_eq_true_eq] at hB
  obtain ⟨⟨⟨⟨hsel, hn⟩, hs⟩, hc⟩, hlex⟩ := hB
  have hsz : l.toArray.size = l.length := by simp
  have htl : (l.take n).length = n := by simp; omega
  have hdl : (l.drop n).length = l.toArray.size - n := by simp
  have inv0 : HeadInv .any l.toArray n (Array.replicate l.toArray.size false) :=
    ⟨by simp, fun j oj _ hl => (by rw [getD_replicate_false] at hl; cases hl), fun t _ ht => getD_in (by simpa using ht) (getD_replicate_false _ _)⟩
  have H := wpAnyT_lex (md := .any) (g := l.toArray.size - n) hsel hs hc hn (l.take n) 0 _ a (fun j hj => by
    rw [htl] at hj
    simp [hj]) (by simpa using htl) inv0 (by rw [htl]; exact hlex) h
  refine wp_region_any hm ?_
  have := wpAny_of_T (Q := Q) (g := l.toArray.size - n) (fun listed a' w' hw' hL => by
    have := wpAny_of_seq (md := .any) (Q' := Q) (l.drop n) n listed a' w' (fun j => by simp [List.getElem?_drop]) (by rw [hdl]; exact hL.1) (hL.2 w' hw')
    rwa [hdl] at this) _ _ _ _ hC H
  rw [htl, show n + (l.toArray.size - n) = l.toArray.size by omega] at this
  exact this
end

/-- the worlds of a class, as what a function takes on -/
theorem the_class (I : World → Prop) {w : World} (hw : I w) : ∃ (U : Type) (_ : Nonempty U) (g : U → World), (∀ u, I (g u)) ∧ ∀ w', I w' → ∃ u, w' = g u := ⟨{w' // I w'}, ⟨⟨w, hw⟩⟩, fun u => u.1, fun u => u.2, fun w' h => ⟨⟨w', h⟩, rfl⟩⟩
end Go.Proofs.YtnjlefggkfagmaaGreatDoor

/- Laws for the walk: a struct stored into a block that is known whole; the world behind it is a new name. -/
set_option linter.unusedVariables false
set_option linter.unusedSimpArgs false
namespace Go.Proofs.YtnjlefggkfagmaaGreatDoor
open Go.RowKit

section
variable {P : Program} {w : World}

theorem setRow_grown (w : World) (g : Nat) (cs : Array Value) : w.grownBy (w.setRow g cs) (some g) :=
  ⟨rfl, rfl, rfl, by simp [World.setRow], fun i hi hne => by
    unfold World.setRow
    simp only [Array.getElem?_modify]
    rw [if_neg (fun e => hne (by rw [e]))]⟩

/-- 'only block g has turned' -/
def Only (w w' : World) (g : Nat) : Prop := w.grownBy w' (some g)
theorem Only.refl (w : World) (g : Nat) : Only w w g := World.grownBy.refl w _
theorem Only.below {B g : Nat} {w0 w w' : World} (h : Below B w0 w) (ho : Only w w' g) (hB : B ≤ w.heap.size) (hg : B ≤ g) : Below B w0 w' := h.grown ho hB (fun k hk => by cases hk; exact hg)
theorem Only.cell {g : Nat} {w w' : World} (ho : Only w w' g) {p : Addr} (hp : p.block < w.heap.size) (hne : p.block ≠ g) : w'.cell? p = w.cell? p :=
  World.cell?_of_block (ho.block p.block hp (fun e => hne (by injection e)))
theorem Only.frozen {g : Nat} {w w' : World} (ho : Only w w' g) {p : Addr} (hp : p.block < w.heap.size) (hne : p.block ≠ g) : w'.frozen? p = w.frozen? p :=
  World.frozen?_of_block (ho.block p.block hp (fun e => hne (by injection e)))
theorem Only.blk {g i : Nat} {w w' : World} {t : TypeId} {cs : Array Value} (ho : Only w w' g) (h : Blk w i t cs) (hne : i ≠ g) : Blk w' i t cs :=
  (ho.block i h.lt (fun e => hne (by injection e))).trans h
theorem Only.same {g i : Nat} {w w' : World} (ho : Only w w' g) (hi : i < w.heap.size) (hne : i ≠ g) : w'.heap[i]? = w.heap[i]? := ho.block i hi (fun e => hne (by injection e))

def splice (old : Array Value) (off : Nat) (cs : Array Value) : Array Value := (old.toList.take off ++ cs.toList ++ old.toList.drop (off + cs.size)).toArray

theorem wpList_load_all {ops : Array Oper} {rest : List Oper} {o : Oper} {a : Act} {Q : Exit → Act → World → Prop} (hgd : o.guard = none) (ty : TypeId) (x : Operand) (ho : o.op = .load ty x)
    (g : Nat) (hx : a.eval x = .pointer (some ⟨g, 0, none⟩)) (t : TypeId) (cs : Array Value) (d : TypeDesc) (hg : Blk w g t cs)
    (hu : P.underlying ty = some d) (hd : (match d with | .struct _ | .array _ _ => true | _ => false) = true) (hi : (P.info? ty).map (·.size) = some cs.size)
    (h : wpList P ops Q rest (a.put o.dst (.agg cs)) w) : wpList P ops Q (o :: rest) a w :=
  wpList_load_row hgd ty x ho g hx t cs (0, 0) d hg hu hd hi h

end
end Go.Proofs.YtnjlefggkfagmaaGreatDoor

/- The worlds of a walk as one letter: everything that keeps what a first world had; blocks in such a class. -/
set_option linter.unusedVariables false
set_option linter.unusedSimpArgs false
namespace Go.Proofs.YtnjlefggkfagmaaGreatDoor
open Go.RowKit

/-- the worlds that keep what w1 had, as one letter -/
theorem cls (w1 : World) : ∃ (U : Type) (_ : Nonempty U) (g : U → World) (u0 : U), w1 = g u0 ∧ (∀ u, Below w1.heap.size w1 (g u)) ∧ ∀ w', Below w1.heap.size w1 w' → ∃ u, w' = g u := by
  obtain ⟨U, hU, g, hgu, hi⟩ := the_class (fun w' => Below w1.heap.size w1 w') (Below.refl w1.heap.size w1)
  obtain ⟨u0, h0⟩ := hi w1 (Below.refl _ _)
  exact ⟨U, hU, g, u0, h0, hgu, hi⟩
theorem cls_call {P : Program} {f : FuncId} {args : Array Value} {w1 : World} {v : Value} {U : Type} {g : U → World} (hgu : ∀ u, Below w1.heap.size w1 (g u)) (hi : ∀ w', Below w1.heap.size w1 w' → ∃ u, w' = g u)
    (h : ∀ w : World, Below w1.heap.size w1 w → Calls P f args w fun e w' => e = .returned v ∧ Below w.heap.size w w') (u : U) : Calls P f args (g u) fun e w' => e = .returned v ∧ ∃ u', w' = g u' :=
  (h _ (hgu u)).mono fun _ _ ⟨he, hb⟩ => ⟨he, hi _ ((hgu u).trans (hb.mono (hgu u).size))⟩
theorem below_to {B : Nat} {w w1 w2 : World} (h : Below B w w1) (hB : B ≤ w.heap.size) (h' : Below w1.heap.size w1 w2) : Below B w w2 := h.trans (h'.mono (Nat.le_trans hB h.size))
theorem below_alloc {B : Nat} {w w1 : World} (h : Below B w w1) (hB : B ≤ w.heap.size) (o : Obj) : Below B w (w1.alloc o) := h.alloc (Nat.le_trans hB h.size) o
theorem Blk.to {w1 w' : World} {b : Nat} {t : TypeId} {cs : Array Value} (H : Blk w1 b t cs) (hb : Below w1.heap.size w1 w') : Blk w' b t cs := H.below hb H.lt
theorem blk_all {w1 : World} {b : Nat} {t : TypeId} {cs : Array Value} {U : Type} {g : U → World} (hgu : ∀ u, Below w1.heap.size w1 (g u)) (H : Blk w1 b t cs) (i : Nat) {v : Value} (hv : cs[i]? = some v) : ∀ u, (g u).cell? ⟨b, i, none⟩ = some v :=
  fun u => ((H.to (hgu u)).cell i).trans hv
theorem below_one (w : World) (o : Obj) : Below w.heap.size w (w.alloc o) := (Below.refl w.heap.size w).alloc (Nat.le_refl _) o
theorem below_two (w : World) (o p : Obj) : Below w.heap.size w ((w.alloc o).alloc p) := ((Below.refl w.heap.size w).alloc (Nat.le_refl _) o).alloc (by simp) p
end Go.Proofs.YtnjlefggkfagmaaGreatDoor

/- What the library's package variables hold. -/
set_option linter.unusedVariables false
set_option linter.unusedSimpArgs false
namespace Go.Proofs.YtnjlefggkfagmaaGreatDoor
open Go.RowKit

def debTab : List Int := [0, 1, 56, 2, 57, 49, 28, 3, 61, 58, 42, 50, 38, 29, 17, 4, 62, 47, 59, 36, 45, 43, 51, 22, 53, 39, 33, 30, 24, 18, 12, 5, 63, 55, 48, 27, 60, 41, 37, 16, 46, 35, 44, 21, 52, 32, 23, 11, 54, 26, 40, 15, 34, 20, 31, 10, 25, 14, 19, 9, 13, 8, 7, 6]
/-- what the package's variables hold -/
structure Glob (w : World) : Prop where
  top : Tryz.prog.globals.size ≤ w.heap.size
  len : ∃ m, w.cell? ⟨2, 0, none⟩ = some (.int .i64 m)
  syn : ∃ ev, w.cell? ⟨0, 0, none⟩ = some ev ∧ (ev = .nilIface ∨ ∃ te pe, ev = .iface te pe)
  rng : ∃ ev, w.cell? ⟨1, 0, none⟩ = some ev ∧ (ev = .nilIface ∨ ∃ te pe, ev = .iface te pe)
  deb : Lib.TabIs Tryz.prog w "math/bits.deBruijn64tab" .u8 debTab
  tab : Lib.TabIs Tryz.prog w "internal/strconv.uint64pow10" .u64 Lib.pow10Tab
theorem var_below {P : Program} {w w' : World} {n : String} {g B : Nat} {cs : Array Value} (h : w.var? P n = some cs) (hg : P.globalNamed n = some g) (hb : Below B w w') (hlt : g < B) : w'.var? P n = some cs := by
  unfold World.var? at h ⊢
  rw [hg] at h ⊢
  simp only [Option.bind_some] at h ⊢
  rw [hb.block g hlt]
  exact h
theorem g_lt {w : World} {g B : Nat} (h : Tryz.prog.globals.size ≤ B) (hg : decide (g < Tryz.prog.globals.size) = true) : g < B := Nat.lt_of_lt_of_le (of_decide_eq_true hg) h
theorem Glob.belowB {w w' : World} {B : Nat} (h : Glob w) (hb : Below B w w') (hB : Tryz.prog.globals.size ≤ B) : Glob w' := {
  top := Nat.le_trans h.top hb.size
  len := by obtain ⟨m, e⟩ := h.len; exact ⟨m, by rw [hb.cell (g_lt (w := w) hB (by kernel_rfl))]; exact e⟩
  syn := by obtain ⟨m, e, r⟩ := h.syn; exact ⟨m, by rw [hb.cell (g_lt (w := w) hB (by kernel_rfl))]; exact e, r⟩
  rng := by obtain ⟨m, e, r⟩ := h.rng; exact ⟨m, by rw [hb.cell (g_lt (w := w) hB (by kernel_rfl))]; exact e, r⟩
  deb := var_below h.deb (g := 7) (by kernel_rfl) hb (g_lt (w := w) hB (by kernel_rfl))
  tab := var_below h.tab (g := 3) (by kernel_rfl) hb (g_lt (w := w) hB (by kernel_rfl))
  }
theorem Glob.to {w w' : World} (h : Glob w) (hb : Below w.heap.size w w') : Glob w' := h.belowB hb h.top
theorem Glob.alloc {w : World} (h : Glob w) (o : Obj) : Glob (w.alloc o) := h.to (below_one w o)
theorem Glob.deb16 {w : World} (h : Glob w) : w.cell? ⟨7, 15, none⟩ = some (.int .u8 4) := by have := World.var?_cell (P := Tryz.prog) (show Tryz.prog.globalNamed "math/bits.deBruijn64tab" = some 7 by kernel_rfl) h.deb 15; exact this.trans rfl
end Go.Proofs.YtnjlefggkfagmaaGreatDoor

/- Texts as lists of bytes, and their values. -/
set_option linter.unusedVariables false
set_option linter.unusedSimpArgs false
namespace Go.Proofs.YtnjlefggkfagmaaGreatDoor
open Go.RowKit

def bs (l : List UInt8) : ByteArray := ⟨l.toArray⟩
theorem bs_list (l : List UInt8) : (bs l).data.toList = l := by simp [bs]
theorem bs_size (l : List UInt8) : (bs l).size = l.length := by simp [bs, ByteArray.size]
theorem bs_app (l m : List UInt8) : bs l ++ bs m = bs (l ++ m) := by
  apply ByteArray.ext
  simp [bs]
theorem bs_eq (s : ByteArray) : s = bs s.data.toList := rfl
theorem bs_toList (l : List UInt8) : (bs l).toList = l := by rw [ByteArray.toList_eq, bs_list]
theorem bs_drop (l : List UInt8) (k : Nat) : (bs l).extract k l.length = bs (l.drop k) := by
  apply ByteArray.ext
  apply Array.toList_inj.1
  rw [Lib.extract_data]
  simp only [bs_list]
  rw [List.take_of_length_le (by simp)]
theorem bs_cut (l : List UInt8) (k n : Nat) : (bs l).extract k n = bs ((l.drop k).take (n - k)) := by
  apply ByteArray.ext
  apply Array.toList_inj.1
  rw [Lib.extract_data]
  simp only [bs_list]
/-- a slice of bytes that reads as l, as a text -/
theorem conv_bytes {P : Program} (w : World) (src e dst : TypeId) (hs : P.underlying src = some (.slice e)) (he : P.underlying e = some (.int .u8)) (hd : P.underlying dst = some .string) (b o : Nat) (l : List UInt8) (n cap : Nat) (hn : n = l.length)
    (hc : ∀ (i : Nat) (c : UInt8), l[i]? = some c → w.cell? ⟨b, o + i, none⟩ = some (.int .u8 (c.toNat : Int))) :
    (convert src dst (.slice (some ⟨b, o, none⟩) n cap)).run P w = .ok (.string (bs l)) w := by
  have h := Lib.run_convert_whole (P := P) w src e dst hs he hd b o (bs l) (fun i hi => by
    refine hc i (bs l)[i] ?_
    have hi' : i < l.length := by rw [← bs_size]; exact hi
    rw [List.getElem?_eq_getElem hi']
    rfl) cap
  rwa [bs_size, ← hn] at h
/-- a byte of a text -/
theorem index_bs (l : List UInt8) (k : Nat) (c : UInt8) (hc : l[k]? = some c) (w : World) : (Instr.index 9 (.string (bs l)) (.int .i64 (k : Int))).run Tryz.prog w = .ok (.int .u8 (c.toNat : Int)) w := by
  have hk : k < (bs l).size := by
    rw [bs_size]
    rcases Nat.lt_or_ge k l.length with h | h
    · exact h
    · rw [List.getElem?_eq_none h] at hc; cases hc
  have he : (bs l)[k] = c := by
    have h1 : (bs l).data[k]? = some c := by show l.toArray[k]? = _; simpa using hc
    have h2 : (bs l).data[k]? = some ((bs l)[k]) := Array.getElem?_eq_getElem (xs := (bs l).data) hk
    rw [h1] at h2
    exact (Option.some.inj h2).symm
  rw [← he]
  go_simp
theorem ret_str' {a b : ByteArray} (h : a = b) : Ending.returned (.string a) = .returned (.string b) := by rw [h]
end Go.Proofs.YtnjlefggkfagmaaGreatDoor

/- Words for Builders, strconv.Itoa, strings.Trim; lists of texts. -/
set_option linter.unusedVariables false
set_option linter.unusedSimpArgs false
namespace Go.Proofs.YtnjlefggkfagmaaGreatDoor
open Go.RowKit

theorem grown_of_below {w w' : World} (hb : Below w.heap.size w w') : w.grownBy w' none := ⟨hb.os, hb.tape, hb.output, hb.size, fun i hi _ => hb.block i hi⟩
theorem below_grow {B : Nat} {a w : World} (h : Below B a w) (hB : B ≤ w.heap.size) (os : Array Obj) : Below B a (Sort.grow w os) :=
  ⟨h.os, h.tape, h.output, by simp; have := h.size; omega, fun k hk => by
    rw [← h.block k hk]
    show (w.heap ++ os)[k]? = w.heap[k]?
    rw [Array.getElem?_append_left (by omega)]⟩
theorem BuilderAt_to {T e : TypeId} {B b : Nat} {p : Value} {xs : List Value} {w w' : World} (h : Lib.BuilderAt T e B b p xs w) (hb : Below w.heap.size w w') : Lib.BuilderAt T e B b p xs w' := by
  have hlt := h.lt
  obtain ⟨h1, v, h2, h3, h4⟩ := h
  refine ⟨h1, v, (hb.block b hlt).trans h2, h3.kept (grown_of_below hb) ?_, h4⟩
  cases v.ownBlock <;> simp
theorem IsBuilder_to {T e : TypeId} {B b : Nat} {xs : List Value} {w w' : World} (h : Lib.IsBuilder T e B b xs w) (hb : Below w.heap.size w w') : Lib.IsBuilder T e B b xs w' :=
  h.elim (fun x => .inl (BuilderAt_to x hb)) (fun x => .inr (BuilderAt_to x hb))
theorem Itoa_any (n : Int) (h0 : -9223372036854775808 ≤ n) (h1 : n ≤ 9223372036854775807) (w : World) (hg : Glob w) : Calls Tryz.prog 43 #[.int .i64 n] w fun e w' => e = .returned (.string (bs (Lib.itoa n))) ∧ Below w.heap.size w w' :=
  (Tryz.strconv_Itoa n h0 h1 w hg.tab).mono fun e w' ⟨h, k, os, h'⟩ => ⟨h, h' ▸ below_grow (below_drewN (Below.refl _ w) k) (Nat.le_refl _) os⟩
theorem strCells_bs (l : List UInt8) : Lib.strCells (bs l) = Lib.byteCells l := by unfold Lib.strCells; rw [bs_list]; rfl
theorem byteCells_app (l m : List UInt8) : Lib.byteCells (l ++ m) = Lib.byteCells l ++ Lib.byteCells m := by simp [Lib.byteCells]
/-- a list of texts as the cells of a slice -/
def strC (ls : List (List UInt8)) : Array Value := (ls.map fun l => Value.string (bs l)).toArray
theorem strC_at {ls : List (List UInt8)} {k : Nat} {l : List UInt8} (h : ls[k]? = some l) : (strC ls)[k]? = some (.string (bs l)) := by simp [strC, h]
theorem repeat_zeros (k : Nat) : Lib.repeatL [48] k = List.replicate k 48 := by
  induction k with
  | zero => rfl
  | succ k ih => simp_all [Lib.repeatL, List.replicate_succ]
theorem dw_nil (p : UInt8 → Bool) : ∀ l : List UInt8, l.dropWhile p = [] ↔ ∀ c ∈ l, p c = true
  | [] => by simp
  | c :: r => by
    rw [List.dropWhile_cons]
    by_cases h : p c = true
    · rw [if_pos h, dw_nil p r]; simp [h]
    · rw [if_neg h]; simp [h]
theorem dw_head (p : UInt8 → Bool) : ∀ (l : List UInt8) (c : UInt8) (r : List UInt8), l.dropWhile p = c :: r → p c = false
  | [], c, r, h => by simp at h
  | a :: l, c, r, h => by
    rw [List.dropWhile_cons] at h
    by_cases hp : p a = true
    · rw [if_pos hp] at h; exact dw_head p l c r h
    · rw [if_neg hp] at h
      injection h with h1 _
      rw [← h1]; simpa using hp
/-- all bytes of a set trimmed off -/
theorem trimS_nil (l cs : List UInt8) : Lib.trimS l cs = [] ↔ ∀ c ∈ l, c ∈ cs := by
  have e : Lib.trimS l cs = ((l.reverse.dropWhile (cs.contains ·)).reverse).dropWhile (cs.contains ·) := rfl
  rw [e, dw_nil]
  constructor
  · intro h
    cases hd : l.reverse.dropWhile (cs.contains ·) with
    | nil =>
      have := (dw_nil _ _).1 hd
      intro c hc
      have h1 := this c (by simpa using hc)
      simpa using h1
    | cons c r =>
      have h1 := dw_head _ _ _ _ hd
      have h2 := h c (by rw [hd]; simp)
      rw [h1] at h2; cases h2
  · intro h
    have : l.reverse.dropWhile (cs.contains ·) = [] := (dw_nil _ _).2 (fun c hc => by have := h c (by simpa using hc); simpa using this)
    rw [this]; simp
end Go.Proofs.YtnjlefggkfagmaaGreatDoor

/- Slices of texts and of records, wherever they lie. -/
set_option linter.unusedVariables false
set_option linter.unusedSimpArgs false
namespace Go.Proofs.YtnjlefggkfagmaaGreatDoor
open Go.RowKit

/-- the slice value v holds the rows ls, each of `size` cells -/
def RowsAt (w : World) (size : Nat) (v : Value) (ls : List (List Value)) : Prop := ∃ A c, v = .slice A ls.length c ∧ ls.length ≤ c ∧
  (∀ x ∈ ls, x.length = size) ∧ ∀ (k : Nat) x, ls[k]? = some x → ∃ a, A = some a ∧ a.block < w.heap.size ∧ ∀ (j : Nat) u, x[j]? = some u → w.cell? ((a.add (k * size)).add j) = some u
theorem RowsAt.to {w w' : World} {size : Nat} {v : Value} {ls : List (List Value)} (h : RowsAt w size v ls) (hb : Below w.heap.size w w') : RowsAt w' size v ls := by
  obtain ⟨A, c, h1, h2, h3, h4⟩ := h
  refine ⟨A, c, h1, h2, h3, fun k x hx => ?_⟩
  obtain ⟨a, e, hl, hc⟩ := h4 k x hx
  exact ⟨a, e, Nat.lt_of_lt_of_le hl hb.size, fun j u hu => (hb.cell (by rw [block_of_add, block_of_add]; exact hl)).trans (hc j u hu)⟩
theorem RowsAt.nil (w : World) (size : Nat) : RowsAt w size (.slice none 0 0) [] := ⟨none, 0, rfl, Nat.le_refl _, by simp, fun k x h => by simp at h⟩
/-- element k -/
theorem RowsAt.at_ {w : World} {size : Nat} {v : Value} {ls : List (List Value)} (h : RowsAt w size v ls) {k : Nat} {x : List Value} (hx : ls[k]? = some x) :
    ∃ a c, v = .slice (some a) ls.length c ∧ ls.length ≤ c ∧ a.block < w.heap.size ∧ x.length = size ∧ ∀ (j : Nat) u, x[j]? = some u → w.cell? ((a.add (k * size)).add j) = some u := by
  obtain ⟨A, c, h1, h2, h3, h4⟩ := h
  obtain ⟨a, e, hl, hc⟩ := h4 k x hx
  exact ⟨a, c, by rw [h1, e], h2, hl, h3 x (List.mem_of_getElem? hx), hc⟩
/-- a row that the call has made -/
theorem RowsAt.of_blk {w : World} {b n c : Nat} {t : TypeId} {cs : Array Value} {size : Nat} {ls : List (List Value)} (h : Blk w b t cs) (hn : n = ls.length) (hc : n ≤ c) (hs : ∀ x ∈ ls, x.length = size)
    (hat : ∀ (k : Nat) x, ls[k]? = some x → ∀ (j : Nat) u, x[j]? = some u → cs[k * size + j]? = some u) : RowsAt w size (.slice (some ⟨b, 0, none⟩) n c) ls := by
  refine ⟨some ⟨b, 0, none⟩, c, by rw [hn], by omega, hs, fun k x hx => ⟨_, rfl, h.lt, fun j u hu => ?_⟩⟩
  have e : ((⟨b, 0, none⟩ : Addr).add (k * size)).add j = ⟨b, k * size + j, none⟩ := by
    rw [add_of_add]; unfold Addr.add; split
    · rename_i h0; simp [h0]
    · simp
  rw [e]
  exact (h.cell _).trans (hat k x hx j u hu)
theorem flat_at {size : Nat} : ∀ (ls : List (List Value)), (∀ x ∈ ls, x.length = size) → ∀ (k : Nat) (x : List Value) (j : Nat) (u : Value), ls[k]? = some x → x[j]? = some u → ls.flatten[k * size + j]? = some u
  | [], _, k, x, j, u, h, _ => by simp at h
  | y :: l, hs, 0, x, j, u, h, hu => by
    simp at h
    subst h
    have hj : j < y.length := by rcases Nat.lt_or_ge j y.length with h | h; exact h; rw [List.getElem?_eq_none h] at hu; cases hu
    rw [List.flatten_cons, Nat.zero_mul, Nat.zero_add, List.getElem?_append_left hj]; exact hu
  | y :: l, hs, k + 1, x, j, u, h, hu => by
    have hy := hs y (by simp)
    have ih := flat_at l (fun z hz => hs z (by simp [hz])) k x j u (by simpa using h) hu
    rw [List.flatten_cons, List.getElem?_append_right (by rw [hy, Nat.add_mul]; omega), hy]
    rw [show (k + 1) * size + j - size = k * size + j by rw [Nat.add_mul]; omega]
    exact ih
/-- a row grown by append -/
theorem RowsAt.of_own {w : World} {B : Nat} {e : TypeId} {size : Nat} {v : Value} {ls : List (List Value)} (hs : ∀ x ∈ ls, x.length = size) (h : w.ownsRow B e size v ls.length ls.flatten) : RowsAt w size v ls := by
  obtain ⟨_, h⟩ := h
  rcases h with ⟨hv, h0⟩ | ⟨g, cap, cur, hv, hB, hg, hn, _, hsz, ht⟩
  · rw [List.eq_nil_of_length_eq_zero h0, hv]; exact RowsAt.nil w size
  · rw [hv]
    refine RowsAt.of_blk (cs := cur) hg rfl hn hs fun k x hx j u hu => ?_
    have h1 := flat_at ls hs k x j u hx hu
    rw [← ht, List.getElem?_take] at h1
    split at h1
    · simpa using h1
    · cases h1
/-- a part of a slice -/
theorem RowsAt.take {w : World} {size n c : Nat} {A : Option Addr} {ls : List (List Value)} (h : RowsAt w size (.slice A n c) ls) {k : Nat} (hk : k ≤ ls.length) (c' : Nat) (hc : k ≤ c') : RowsAt w size (.slice A k c') (ls.take k) := by
  obtain ⟨A', c0, h1, h2, h3, h4⟩ := h
  have e := h1
  injection e with e1 e2 e3
  subst e1
  refine ⟨A, c', by rw [List.length_take]; congr 1; omega, by rw [List.length_take]; omega, fun x hx => h3 x (List.mem_of_mem_take hx), fun j x hx => ?_⟩
  rw [List.getElem?_take] at hx
  split at hx
  · exact h4 j x hx
  · cases hx
theorem RowsAt.drop {w : World} {size n c : Nat} {a : Addr} {ls : List (List Value)} (h : RowsAt w size (.slice (some a) n c) ls) {k : Nat} (hk : k ≤ ls.length) (c' : Nat) (hc : ls.length - k ≤ c') : RowsAt w size (.slice (some (a.add (k * size))) (ls.length - k) c') (ls.drop k) := by
  obtain ⟨A', c0, h1, h2, h3, h4⟩ := h
  have e := h1
  injection e with e1 e2 e3
  subst e1
  refine ⟨some (a.add (k * size)), c', by rw [List.length_drop], by rw [List.length_drop]; exact hc, fun x hx => h3 x (List.mem_of_mem_drop hx), fun j x hx => ?_⟩
  rw [List.getElem?_drop] at hx
  obtain ⟨a', e', hl, hcell⟩ := h4 (k + j) x hx
  obtain rfl := Option.some.inj e'
  refine ⟨_, rfl, by rw [block_of_add]; exact hl, fun i u hu => ?_⟩
  have := hcell i u hu
  rw [add_of_add] at this
  rw [add_of_add, add_of_add, ← this]
  congr 2
  rw [Nat.add_mul]; omega
/-- texts -/
def strV (l : List UInt8) : List Value := [.string (bs l)]
def TextsAt (w : World) (v : Value) (ls : List (List UInt8)) : Prop := RowsAt w 1 v (ls.map strV)
theorem TextsAt.to {w w' : World} {v : Value} {ls : List (List UInt8)} (h : TextsAt w v ls) (hb : Below w.heap.size w w') : TextsAt w' v ls := RowsAt.to h hb
end Go.Proofs.YtnjlefggkfagmaaGreatDoor

/- Walks of package digest: take, blocks. -/
set_option linter.unusedVariables false
set_option linter.unusedSimpArgs false
namespace Go.Proofs.YtnjlefggkfagmaaGreatDoor
open Go.RowKit

theorem or_byte {N c : Nat} (h : N < 256 ^ 7) (hc : c < 256) : Value.int .u64 (bits BinOp.or IntKind.u64 ((N : Int) * 256) (c : Int)) = .int .u64 ((N * 256 + c : Nat) : Int) := by
  have h1 := u64_or_nat (N * 256) c (by omega) (by omega)
  have h2 := Nat.two_pow_add_eq_or_of_lt (i := 8) (b := c) (by omega) N
  rw [show ((N : Int) * 256) = ((N * 256 : Nat) : Int) by simp, h1, Nat.mul_comm N 256, ← h2]
theorem mix_val (X : Nat) (hX : X < 18446744073709551616) :
    bits BinOp.xor IntKind.u64 (IntKind.u64.wrap (bits BinOp.xor IntKind.u64 (IntKind.u64.wrap (bits BinOp.xor IntKind.u64 (X : Int) ((X : Int) / 2147483648) * 11400714819323198485)) (IntKind.u64.wrap (bits BinOp.xor IntKind.u64 (X : Int) ((X : Int) / 2147483648) * 11400714819323198485) / 134217728) * 15074714826142052245))
      (IntKind.u64.wrap (bits BinOp.xor IntKind.u64 (IntKind.u64.wrap (bits BinOp.xor IntKind.u64 (X : Int) ((X : Int) / 2147483648) * 11400714819323198485)) (IntKind.u64.wrap (bits BinOp.xor IntKind.u64 (X : Int) ((X : Int) / 2147483648) * 11400714819323198485) / 134217728) * 15074714826142052245) / 8589934592) = ((mixN X : Nat) : Int) := by
  have h1 := mixStep_u64 X 2147483648 11400714819323198485 hX
  have e1 : (((2147483648 : Nat) : Int)) = 2147483648 := rfl
  have e2 : (((11400714819323198485 : Nat) : Int)) = 11400714819323198485 := rfl
  rw [e1, e2] at h1
  rw [h1]
  have ha : (X ^^^ X / 2147483648) * 11400714819323198485 % 18446744073709551616 < 18446744073709551616 := Nat.mod_lt _ (by decide)
  have hm : mixN X = (let a := (X ^^^ X / 2147483648) * 11400714819323198485 % 18446744073709551616; let b := (a ^^^ a / 134217728) * 15074714826142052245 % 18446744073709551616; b ^^^ b / 8589934592) := rfl
  rw [hm]
  generalize (X ^^^ X / 2147483648) * 11400714819323198485 % 18446744073709551616 = a at *
  simp only
  have h2 := mixStep_u64 a 134217728 15074714826142052245 ha
  have e3 : (((134217728 : Nat) : Int)) = 134217728 := rfl
  have e4 : (((15074714826142052245 : Nat) : Int)) = 15074714826142052245 := rfl
  rw [e3, e4] at h2
  rw [h2]
  have hb : (a ^^^ a / 134217728) * 15074714826142052245 % 18446744073709551616 < 18446744073709551616 := Nat.mod_lt _ (by decide)
  generalize (a ^^^ a / 134217728) * 15074714826142052245 % 18446744073709551616 = b at *
  have h3 := xorShift_u64 b 8589934592 hb
  have e5 : (((8589934592 : Nat) : Int)) = 8589934592 := rfl
  rw [e5] at h3
  exact h3
def stCells (s : Nat) : Array Value := #[.int .u64 (s : Int)]
def TakeI (l : List UInt8) (n i j : Value) : Prop := ∃ k : Nat, k ≤ 8 ∧ j = .int .i64 k ∧ n = .int .u64 (packN (l.take k) : Int)
set_option maxHeartbeats 2000000 in
theorem take_any (sb s : Nat) (l : List UInt8) (hl : l.length = 8) (hs : s < 18446744073709551616) (w : World) (hS : Blk w sb 149 (stCells s)) :
    Calls Tryz.prog 122 #[.pointer (some ⟨sb, 0, none⟩), .agg (Lib.byteCells l).toArray] w fun e w' => e = .returned (.tuple #[]) ∧ Below sb w w' ∧ Blk w' sb 149 (stCells (stepN s l)) := by
  have HBl := hide (Blk.new w 183 (Lib.byteCells l).toArray)
  have HSs := hide (hS.alloc (.cells (Lib.byteCells l).toArray 183))
  have HL := hide hl
  have HBs := hide ((Below.refl sb w).alloc (Nat.le_of_lt hS.lt) (.cells (Lib.byteCells l).toArray 183))
  go_enter Tryz.func122, Tryz.ntmps122
  go_wp2_with fail
  generalize w.alloc (.cells (Lib.byteCells l).toArray 183) = w1 at *
  generalize w.heap.size = B at *
  clear hl hS
  go_loop [4, 5, 7] (fun n i j => TakeI l n i j) (fun _ _ j => 8 - (intOf j).toNat)
  case atStart => exact ⟨0, by omega, rfl, rfl⟩
  case round =>
    obtain ⟨k, hk, rfl, rfl⟩ := hrel
    by_cases hlt : k < 8
    · obtain ⟨c, hc⟩ : ∃ c, l[k]? = some c := ⟨_, List.getElem?_eq_getElem (by have := HL.out; omega)⟩
      have cc : w1.cell? ⟨B, k, none⟩ = some (.int .u8 c.toNat) := by rw [HBl.out.cell]; simp [Lib.byteCells, hc]
      have c8 := c.toNat_lt
      have hp : packN (l.take k) < 256 ^ 7 := by
        have h1 := packN_lt (l.take k)
        have h2 : 256 ^ (l.take k).length ≤ 256 ^ 7 := Nat.pow_le_pow_right (by decide) (by simp; omega)
        omega
      have HN : Hid (packN (l.take (k + 1)) = packN (l.take k) * 256 + c.toNat) := by
        show _ = _
        rw [List.take_add_one, hc]
        exact packN_snoc _ _
      clear hc
      generalize packN (l.take k) = N at *
      go_wp2_with fail
      go_round
      case rel => exact ⟨k + 1, by omega, by go_num, by rw [HN.out, or_byte hp c8]⟩
      case measure => simp [intOf]; omega
    · obtain rfl : k = 8 := by omega
      have HP : Hid (packN (l.take 8) = packN l) := by show _ = _; rw [List.take_of_length_le (by have := HL.out; omega)]
      rw [HP.out]
      have hp : packN l < 18446744073709551616 := packN_lt64 (by have := HL.out; omega)
      have HT : Hid (stepN s l = mixN (s ^^^ packN l)) := rfl
      generalize packN l = N at *
      have hx := u64_xor_nat s N hs hp
      have c0 : w1.cell? ⟨sb, 0, none⟩ = some (.int .u64 s) := HSs.out.cell 0
      have f0 := HSs.out.frozen 0
      go_wp2_with fail
      rw [mix_val _ (xor_lt64 hs hp), ← HT.out]
      go_end0
      exact ⟨rfl, HBs.out.setCell (p := ⟨sb, 0, none⟩) (Nat.le_refl _) _, HSs.out.set_ 0 _⟩
end Go.Proofs.YtnjlefggkfagmaaGreatDoor

/- Walks of package digest: blocks. -/
set_option linter.unusedVariables false
set_option linter.unusedSimpArgs false
namespace Go.Proofs.YtnjlefggkfagmaaGreatDoor
open Go.RowKit

/-- copy of a text into a block known whole: as much as fits -/
theorem wpList_copy_head {P : Program} {w : World} {ops : Array Oper} {rest : List Oper} {o : Oper} {a : Act} {Q : Exit → Act → World → Prop} (hgd : o.guard = none) (d s : Operand) (dT sT elem : TypeId)
    (ho : o.op = .call { callee := .builtin .copy, args := #[d, s], argTypes := #[dT, sT] }) (hu : P.underlying dT = some (.slice elem)) (hsz : (P.info? elem).map (·.size) = some 1)
    (g n c : Nat) (l : List UInt8) (hd : a.eval d = .slice (some ⟨g, 0, none⟩) n c) (hs : a.eval s = .string (bs l)) (t : TypeId) (cur : Array Value) (hg : Blk w g t cur) (hn : cur.size = n)
    (h : ∀ w', Only w w' g → Blk w' g t (splice cur 0 (Lib.byteCells (l.take n)).toArray) → wpList P ops Q rest (a.put o.dst (goInt (min l.length n : Nat))) w') : wpList P ops Q (o :: rest) a w := by
  have hlen : (Lib.byteCells (l.take n)).length = min l.length n := by rw [Lib.byteCells_length, List.length_take, Nat.min_comm]
  have hst := run_storeCells_at P g 0 t (Lib.byteCells (l.take n)) 0 cur w hg (by rw [hlen, hn]; omega) (Lib.byteCells_one _)
  have hrun : (Builtin.copy_ #[dT, sT] o.type #[.slice (some ⟨g, 0, none⟩) n c, .string (bs l)]).run P w = .ok (goInt (min l.length n : Nat)) (w.setRow g (splice cur 0 (Lib.byteCells (l.take n)).toArray)) := by
    cases hq : P.info? elem with
    | none => simp [hq] at hsz
    | some i =>
      have hmin : Nat.min (bs l).size n = min l.length n := by rw [bs_size]
      have htk : List.take (min l.length n) (List.map (fun b : UInt8 => Value.int IntKind.u8 (b.toNat : Int)) (bs l).data.toList) = Lib.byteCells (l.take n) := by
        rw [bs_list]
        unfold Lib.byteCells
        rw [← List.map_take]
        congr 1
        by_cases hle : l.length ≤ n
        · rw [Nat.min_eq_left hle, List.take_length, List.take_of_length_le hle]
        · rw [Nat.min_eq_right (by omega)]
      simp only [Nat.add_zero] at hst
      simp [Builtin.copy_, run_underlying hu, Builtin.lenOf, Builtin.firstCells, sizeOf, typeInfo, hq, hmin]
      rw [htk, hst]
      simp [Result.andThen, splice]
  exact wpList_plain hgd fun K hK => by
    unfold Oper.wp
    simp [execOp, ho, resolve, invoke, builtin, hd, hs, hrun, Result.andThen]
    exact hK _ _ (h _ (setRow_grown w g _) (setRow_heap w g cur _ t (0, 0) hg))
def zero8 : Array Value := (List.replicate 8 (Value.int .u8 0)).toArray
theorem splice_pad (l : List UInt8) : splice zero8 0 (Lib.byteCells (l.take 8)).toArray = (Lib.byteCells (pad8 l)).toArray := by
  have h : (splice zero8 0 (Lib.byteCells (l.take 8)).toArray).toList = Lib.byteCells (pad8 l) := by
    unfold splice pad8 zero8
    have e : Lib.byteCells (List.replicate (8 - l.length) 0) = List.replicate (8 - l.length) (Value.int .u8 0) := by simp [Lib.byteCells]
    have e2 : Lib.byteCells (l.take 8 ++ List.replicate (8 - l.length) 0) = Lib.byteCells (l.take 8) ++ Lib.byteCells (List.replicate (8 - l.length) 0) := by simp [Lib.byteCells]
    rw [e2, e]
    have e3 : (Lib.byteCells (l.take 8)).length = min 8 l.length := by rw [Lib.byteCells_length, List.length_take]
    simp only [List.size_toArray, e3, List.take_zero, List.nil_append, List.drop_replicate]
    have e4 : 8 - (0 + min 8 l.length) = 8 - l.length := by omega
    rw [e4]
  rw [← h]
def BlkI (l : List UInt8) (sb : Nat) (w wr : World) (v : Value) : Prop := ∃ k : Nat, 8 * k ≤ l.length + 8 ∧ v = .int .i64 (8 * (k : Int)) ∧ Below sb w wr ∧ Blk wr sb 149 (stCells (stN l k))
set_option maxHeartbeats 2000000 in
theorem blocks_any (l : List UInt8) (sb : Nat) (w : World) (hl : l.length ≤ 140737488355328) (hS : Blk w sb 149 (stCells (stN l 0))) :
    Calls Tryz.prog 121 #[.string (bs l), .func (.func 122) #[.pointer (some ⟨sb, 0, none⟩)] #[]] w fun e w' => e = .returned (.tuple #[]) ∧ Below sb w w' ∧ Blk w' sb 149 (stCells (sumN l)) := by
  have HS := hide hS
  have hsz : (bs l).size = l.length := bs_size l
  clear hS
  go_enter Tryz.func121, Tryz.ntmps121
  go_wp2_with fail
  go_loopw [4, 5] (fun v _ wr => BlkI l sb w wr v) (fun v _ _ => l.length + 8 - (intOf v).toNat)
  case atStart => exact ⟨0, by omega, rfl, Below.refl _ _, HS.out⟩
  case round =>
    obtain ⟨k, hk, rfl, hB, hK⟩ := hrel
    have HB := hide hB
    have HK := hide hK
    clear hB hK
    by_cases hlt : 8 * k ≤ l.length
    · go_wp2_with fail
      have HZ : Hid (Blk (wr.alloc (.cells #[.int .u8 0, .int .u8 0, .int .u8 0, .int .u8 0, .int .u8 0, .int .u8 0, .int .u8 0, .int .u8 0] 183)) wr.heap.size 183 zero8) := Blk.new wr _ _
      have HK1 := hide (HK.out.alloc (.cells #[.int .u8 0, .int .u8 0, .int .u8 0, .int .u8 0, .int .u8 0, .int .u8 0, .int .u8 0, .int .u8 0] 183))
      have HB1 := hide (HB.out.alloc (Nat.le_of_lt HK.out.lt) (.cells #[.int .u8 0, .int .u8 0, .int .u8 0, .int .u8 0, .int .u8 0, .int .u8 0, .int .u8 0, .int .u8 0] 183))
      have HL := hide HK.out.lt
      have HS1 := hide HK1.out.lt
      clear HB HK
      generalize wr.alloc (.cells #[.int .u8 0, .int .u8 0, .int .u8 0, .int .u8 0, .int .u8 0, .int .u8 0, .int .u8 0, .int .u8 0] 183) = w1 at *
      generalize wr.heap.size = B at *
      obtain ⟨U, hU, g, u0, rfl, hgu, hi⟩ := cls w1
      refine wp_region_class_tail g 4 (by kernel_rfl) (by kernel_rfl) (hi _ (hgu _).drew) ?_
      simp only [List.take_succ_cons, List.take_zero, List.drop_succ_cons, List.drop_zero]
      repeat (go_big_quiet_step (fail))
      refine wpQuiet_nil ?_
      intro w4 hw4
      obtain ⟨u, rfl⟩ := hw4
      rw [bs_drop]
      refine wpList_copy_head rfl (.tmp 12) (.tmp 15) 56 9 5 rfl Tryz.underlying56 (by kernel_rfl) B 8 8 (l.drop (8 * k)) rfl rfl 183 zero8 (HZ.out.to (hgu u)) rfl ?_
      intro w5 ho hb
      rw [splice_pad] at hb
      have HZ2 := hide hb
      have HK2 := hide (ho.blk (HK1.out.to (hgu u)) (Nat.ne_of_lt HL.out))
      have HB2 := hide (Only.below (HB1.out.trans ((hgu u).mono (Nat.le_of_lt HS1.out))) ho (Nat.le_trans (Nat.le_of_lt HS1.out) (hgu u).size) (Nat.le_of_lt HL.out))
      clear ho hb
      have hi8 : (Tryz.prog.info? 183).map (·.size) = some (Lib.byteCells (pad8 (l.drop (8 * k)))).toArray.size := by rw [List.size_toArray, Lib.byteCells_length, pad8_len]; kernel_rfl
      go_wp2_with ((with_reducible show wpList _ _ _ (Oper.mk _ (Op.load 183 (.tmp 5)) _ _ _ _ :: _) _ _); refine wpList_load_all rfl 183 (.tmp 5) rfl B rfl 183 (Lib.byteCells (pad8 (l.drop (8 * k)))).toArray _ HZ2.out Tryz.underlying183 rfl hi8 ?_)
      refine (take_any sb (stN l k) (pad8 (l.drop (8 * k))) (pad8_len _) (stN_lt (by omega) k) _ HK2.out).mono ?_
      rintro e w6 ⟨rfl, hb, hk6⟩
      have HB3 := hide (HB2.out.trans hb)
      have HK3 : Hid (Blk w6 sb 149 (stCells (stN l (k + 1)))) := hk6
      clear hb hk6 hi8 HZ2 HK2 HB2
      go_wp2_with fail
      go_roundw
      case rel => exact ⟨k + 1, by omega, by go_num, HB3.out, HK3.out⟩
      case measure => simp [intOf]; omega
    · have hkk : k = l.length / 8 + 1 := by omega
      have HE : Hid (stN l k = sumN l) := by rw [hkk]; exact (sumN_st l).symm
      clear hkk
      go_wp2_with fail
      go_end0
      exact ⟨rfl, HB.out, HE.out ▸ HK.out⟩
end Go.Proofs.YtnjlefggkfagmaaGreatDoor

/- Walks: strconv.FormatUint at base 16. -/
set_option linter.unusedVariables false
set_option linter.unusedSimpArgs false
namespace Go.Proofs.YtnjlefggkfagmaaGreatDoor
open Go.RowKit

theorem and_16_15 : bits BinOp.and IntKind.i64 16 15 = 0 := by decide +kernel
theorem pow_16 (w : World) : Calls Tryz.prog 165 #[.int .i64 16] w fun e w' => e = .returned (.bool true) ∧ w = w' := by
  have h1 := and_16_15
  go_enter Tryz.func165, Tryz.ntmps165
  go_wp2_with fail
  go_ret
  exact ⟨rfl, rfl⟩
theorem tz_bits : bits BinOp.and IntKind.u64 16 18446744073709551600 = 16 := by decide +kernel
theorem tz_neg : IntKind.u64.wrap (-16) = 18446744073709551600 := by decide +kernel
theorem tz_mul : IntKind.u64.wrap (16 * 285870213051353865) = 4573923408821661840 := by decide +kernel
theorem tz64_16 (w : World) (hg : Glob w) : Calls Tryz.prog 179 #[.int .u64 16] w fun e w' => e = .returned (.int .i64 4) ∧ w = w' := by
  have h0 := tz_neg
  have h1 := tz_bits
  have h2 := hg.deb16
  have h3 := tz_mul
  clear hg
  go_enter Tryz.func179, Tryz.ntmps179
  go_wp2_with fail
  go_ret
  exact ⟨rfl, rfl⟩
theorem tz_16 (w : World) (hg : Glob w) : Calls Tryz.prog 166 #[.int .u64 16] w fun e w' => e = .returned (.int .i64 4) ∧ w = w' := by
  have HG := hide hg
  clear hg
  go_enter Tryz.func166, Tryz.ntmps166
  go_wp2_with fail
  refine (tz64_16 _ HG.out).mono ?_
  rintro e w' ⟨rfl, rfl⟩
  go_wp2_with fail
  go_ret
  exact ⟨rfl, rfl⟩
def digLit : Array UInt8 := #[48, 49, 50, 51, 52, 53, 54, 55, 56, 57, 97, 98, 99, 100, 101, 102, 103, 104, 105, 106, 107, 108, 109, 110, 111, 112, 113, 114, 115, 116, 117, 118, 119, 120, 121, 122]
theorem dig_at : ∀ d : Nat, d < 16 → ∀ w : World, (Instr.index 9 (.string ⟨#[48, 49, 50, 51, 52, 53, 54, 55, 56, 57, 97, 98, 99, 100, 101, 102, 103, 104, 105, 106, 107, 108, 109, 110, 111, 112, 113, 114, 115, 116, 117, 118, 119, 120, 121, 122]⟩) (.int .u64 (d : Int))).run Tryz.prog w = .ok (.int .u8 ((hexC d).toNat : Int)) w
  | 0, _, _ => by kernel_rfl
  | 1, _, _ => by kernel_rfl
  | 2, _, _ => by kernel_rfl
  | 3, _, _ => by kernel_rfl
  | 4, _, _ => by kernel_rfl
  | 5, _, _ => by kernel_rfl
  | 6, _, _ => by kernel_rfl
  | 7, _, _ => by kernel_rfl
  | 8, _, _ => by kernel_rfl
  | 9, _, _ => by kernel_rfl
  | 10, _, _ => by kernel_rfl
  | 11, _, _ => by kernel_rfl
  | 12, _, _ => by kernel_rfl
  | 13, _, _ => by kernel_rfl
  | 14, _, _ => by kernel_rfl
  | 15, _, _ => by kernel_rfl
  | k + 16, h, _ => absurd h (by omega)
/-- the array: m zeros, then the last 65 - m digits -/
def fillA (n m : Nat) : Array Value := (List.replicate m (Value.int .u8 0) ++ Lib.byteCells (hexN (65 - m) n)).toArray
theorem fillA_set {n m : Nat} (h : m < 65) : (fillA n (m + 1)).setIfInBounds m (.int .u8 ((hexC (n / 16 ^ (64 - m) % 16)).toNat : Int)) = fillA n m := by
  apply Array.toList_inj.1
  unfold fillA
  rw [Array.toList_setIfInBounds]
  have e : 65 - m = (64 - m) + 1 := by omega
  have e2 : 65 - (m + 1) = 64 - m := by omega
  rw [e, e2, hexN_cons, List.replicate_succ']
  simp only [List.append_assoc, List.cons_append, List.nil_append]
  rw [List.set_append_right _ _ (by simp)]
  simp [Lib.byteCells]
theorem and15 {U : Nat} (h : U < 18446744073709551616) : bits BinOp.and IntKind.u64 (U : Int) 15 = ((U % 16 : Nat) : Int) := by
  have h1 := u64_and_nat U 15 h (by decide)
  have h2 : U &&& 15 = U % 16 := Nat.and_two_pow_sub_one_eq_mod U 4
  rw [h2] at h1
  exact h1
theorem fillA_at {n j : Nat} (h : j < 65) : (fillA n (j + 1))[j]? = some (.int .u8 0) := by
  unfold fillA
  rw [List.getElem?_toArray, List.getElem?_append_left (by simp), List.getElem?_replicate, if_pos (by omega)]
theorem hexL_more {n k : Nat} (hn : n < 18446744073709551616) (h : 16 ≤ n / 16 ^ k) : k + 1 < hexL n := by
  obtain ⟨_, _, h3, _⟩ := hexL_spec hn
  rcases Nat.lt_or_ge (k + 1) (hexL n) with h4 | h4
  · exact h4
  · have h5 : 16 ^ hexL n ≤ 16 ^ (k + 1) := Nat.pow_le_pow_right (by decide) h4
    have h6 : 16 * 16 ^ k ≤ n := (Nat.le_div_iff_mul_le (Nat.pow_pos (by decide))).1 h
    rw [Nat.pow_succ] at h5
    omega
theorem hexL_end {n k : Nat} (hn : n < 18446744073709551616) (hk : k < hexL n) (h : ¬ 16 ≤ n / 16 ^ k) : k + 1 = hexL n := by
  obtain ⟨_, _, _, h4⟩ := hexL_spec hn
  rcases Nat.lt_or_ge (k + 1) (hexL n) with h5 | h5
  · have h6 := h4 (by omega)
    have h7 : 16 ^ (k + 1) ≤ 16 ^ (hexL n - 1) := Nat.pow_le_pow_right (by decide) (by omega)
    exact absurd ((Nat.le_div_iff_mul_le (Nat.pow_pos (by decide))).2 (by rw [Nat.pow_succ] at h7; omega)) h
  · omega
def FbI (w : World) (n A : Nat) (wr : World) (u i : Value) : Prop := ∃ m : Nat, 49 < m ∧ m ≤ 65 ∧ 65 - m < hexL n ∧ u = .int .u64 ((n / 16 ^ (65 - m) : Nat) : Int) ∧ i = .int .i64 (m : Int) ∧ Below w.heap.size w wr ∧ Blk wr A 198 (fillA n m)
set_option maxRecDepth 100000 in
set_option maxHeartbeats 4000000 in
theorem formatBits_16 (n : Nat) (hn : n < 18446744073709551616) (w : World) (hg : Glob w) :
    Calls Tryz.prog 144 #[.slice none 0 0, .int .u64 (n : Int), .int .i64 16, .bool false, .bool false] w fun e w' => e = .returned (.tuple #[.slice none 0 0, .string (bs (hexN (hexL n) n))]) ∧ Below w.heap.size w w' := by
  have HG := hide hg
  have HL := hide (hexL_spec hn)
  have HN := hide hn
  clear hg hn
  go_enter Tryz.func144, Tryz.ntmps144
  go_wp2_with fail
  have HA0 : Hid (Blk (w.alloc (.cells Tryz.zeroCells198 198)) w.heap.size 198 (fillA n 65)) := by
    have h := Blk.new w 198 Tryz.zeroCells198
    have e : Tryz.zeroCells198 = fillA n 65 := by show _ = (List.replicate 65 (Value.int .u8 0) ++ Lib.byteCells (hexN 0 n)).toArray; kernel_rfl
    rw [← e]; exact h
  have HB0 := hide (below_one w (.cells Tryz.zeroCells198 198))
  have HG0 := hide (HG.out.alloc (.cells Tryz.zeroCells198 198))
  have HS0 : Hid (w.heap.size ≤ (w.alloc (.cells Tryz.zeroCells198 198)).heap.size) := by show _ ≤ _; simp
  clear HG
  generalize w.alloc (.cells Tryz.zeroCells198 198) = w1 at *
  obtain ⟨A, HA⟩ : ∃ A, Hid (w.heap.size = A) := ⟨_, rfl⟩
  rw [HA.out] at HA0 ⊢
  refine (pow_16 _).mono ?_
  rintro e w' ⟨rfl, rfl⟩
  go_wp2_with fail
  refine (tz_16 _ HG0.out).mono ?_
  rintro e w' ⟨rfl, rfl⟩
  go_wp2_with fail
  go_loopw [1, 13] (fun u i wr => FbI w n A wr u i) (fun _ i _ => (intOf i).toNat)
  case atStart => exact ⟨65, by omega, by omega, by have := HL.out.1; omega, by simp, rfl, HB0.out, HA0.out⟩
  case round =>
    obtain ⟨m, hm1, hm2, hm3, rfl, rfl, hB, hK⟩ := hrel
    have HB := hide hB
    have HK := hide hK
    clear hB hK
    obtain ⟨j, rfl⟩ : ∃ j, m = j + 1 := ⟨m - 1, by omega⟩
    have e0 : 65 - (j + 1) = 64 - j := by omega
    rw [e0] at hm3 ⊢
    clear e0
    have HX : Hid (16 ≤ n / 16 ^ (64 - j) → 65 - j < hexL n) := fun h => by have := hexL_more HN.out h; omega
    have HY : Hid (¬ 16 ≤ n / 16 ^ (64 - j) → 65 - j = hexL n) := fun h => by have := hexL_end HN.out hm3 h; omega
    have HD : Hid (n / 16 ^ (65 - j) = n / 16 ^ (64 - j) / 16) := by
      show _ = _
      rw [show 65 - j = 64 - j + 1 by omega, Nat.pow_succ, Nat.div_div_eq_div_mul]
    have HF := hide (fillA_set (n := n) (m := j) (by omega))
    have hU : n / 16 ^ (64 - j) < 18446744073709551616 := Nat.lt_of_le_of_lt (Nat.div_le_self _ _) HN.out
    have hK : Hid (hexL n ≤ 16) := HL.out.2.1
    generalize n / 16 ^ (64 - j) = U at *
    have cj : wr.cell? ⟨A, j, none⟩ = some (.int .u8 0) := (HK.out.cell j).trans (fillA_at (by omega))
    have fj := HK.out.frozen j
    by_cases h16 : 16 ≤ U
    · have hb := and15 hU
      have hd := dig_at (U % 16) (Nat.mod_lt _ (by decide))
      have hlt := HX.out h16
      generalize hM : U % 16 = M at *
      have HM := hide hM
      clear hM
      go_wp2_with fail
      go_roundw
      case rel =>
        refine ⟨j, by have := hK.out; omega, by omega, hlt, by rw [HD.out]; rfl, rfl, HB.out.setCell (p := ⟨A, j, none⟩) (Nat.le_of_eq HA.out) _, ?_⟩
        have := HK.out.set_ j (.int .u8 ((hexC M).toNat : Int))
        rwa [HF.out] at this
      case measure => simp [intOf]
    · have hd := dig_at U (by omega)
      have j0 : (0 : Int) ≤ (j : Int) := by omega
      have j1 : (j : Int) ≤ 65 := by omega
      have HM : Hid (U % 16 = U) := Nat.mod_eq_of_lt (by omega)
      have HK2 : Hid (Blk (wr.setCell ⟨A, j, none⟩ (.int .u8 ((hexC U).toNat : Int))) A 198 (fillA n j)) := by
        have := HK.out.set_ j (.int .u8 ((hexC U).toNat : Int))
        rw [HM.out] at HF
        rwa [HF.out] at this
      have hcv := conv_bytes (P := Tryz.prog) (wr.setCell ⟨A, j, none⟩ (.int .u8 ((hexC U).toNat : Int))) 56 5 9 Tryz.underlying56 Tryz.underlying5 Tryz.underlying9 A j (hexN (65 - j) n) (65 - j) (65 - j) (hexN_len _ _).symm (fun i c hc => by
        rw [HK2.out.cell]
        unfold fillA
        rw [List.getElem?_toArray, List.getElem?_append_right (by simp)]
        simp [Lib.byteCells, hc])
      have HE := hide (HY.out h16)
      go_wp2_with fail
      go_ret2
      rw [HE.out]
      exact ⟨rfl, HB.out.setCell (p := ⟨A, j, none⟩) (Nat.le_of_eq HA.out) _⟩
set_option maxHeartbeats 2000000 in
theorem formatUint_16 (n : Nat) (hn : n < 18446744073709551616) (w : World) (hg : Glob w) :
    Calls Tryz.prog 150 #[.int .u64 (n : Int), .int .i64 16] w fun e w' => e = .returned (.string (bs (hexN (hexL n) n))) ∧ Below w.heap.size w w' := by
  have HG := hide hg
  have HN := hide hn
  clear hg hn
  go_enter Tryz.func150, Tryz.ntmps150
  go_wp2_with ((with_reducible refine (formatBits_16 n HN.out _ HG.out).mono ?_); rintro e w' ⟨rfl, hb⟩)
  go_ret
  exact ⟨rfl, hb⟩
set_option maxHeartbeats 2000000 in
theorem FormatUint_16 (n : Nat) (hn : n < 18446744073709551616) (w : World) (hg : Glob w) :
    Calls Tryz.prog 123 #[.int .u64 (n : Int), .int .i64 16] w fun e w' => e = .returned (.string (bs (hexN (hexL n) n))) ∧ Below w.heap.size w w' := by
  have HG := hide hg
  have HN := hide hn
  clear hg hn
  go_enter Tryz.func123, Tryz.ntmps123
  go_wp2_with ((with_reducible refine (formatUint_16 n HN.out _ HG.out).mono ?_); rintro e w' ⟨rfl, hb⟩)
  go_ret
  exact ⟨rfl, hb⟩
end Go.Proofs.YtnjlefggkfagmaaGreatDoor

/- Walks of package digest: Sum, Is. -/
set_option linter.unusedVariables false
set_option linter.unusedSimpArgs false
namespace Go.Proofs.YtnjlefggkfagmaaGreatDoor
open Go.RowKit

set_option maxHeartbeats 2000000 in
theorem Sum_any (l : List UInt8) (hl : l.length ≤ 140737488355328) (w : World) (hg : Glob w) :
    Calls Tryz.prog 98 #[.string (bs l)] w fun e w' => e = .returned (.string (bs (sumD l))) ∧ Below w.heap.size w w' := by
  have HG := hide hg
  have hsz : (bs l).size = l.length := bs_size l
  have hx : bits BinOp.xor IntKind.u64 7640891576956012809 (l.length : Int) = ((stN l 0 : Nat) : Int) := u64_xor_nat 7640891576956012809 l.length (by decide) (by omega)
  have HN : Hid (sumN l < 18446744073709551616) := by show _ < _; rw [sumN_st]; exact stN_lt (by omega) _
  clear hg
  go_enter Tryz.func98, Tryz.ntmps98
  go_wp2_with fail
  have HS0 : Hid (Blk (w.alloc (.cells #[.int .u64 ((stN l 0 : Nat) : Int)] 149)) w.heap.size 149 (stCells (stN l 0))) := Blk.new w _ _
  have HB0 := hide (below_one w (.cells #[.int .u64 ((stN l 0 : Nat) : Int)] 149))
  refine (blocks_any l w.heap.size _ hl HS0.out).mono ?_
  rintro e w1 ⟨rfl, hb, hs⟩
  have HB1 := hide (HB0.out.trans hb)
  have HS1 := hide hs
  have c0 : w1.cell? ⟨w.heap.size, 0, none⟩ = some (.int .u64 (sumN l)) := hs.cell 0
  have HG1 := hide (HG.out.belowB HB1.out HG.out.top)
  clear hb hs HB0 HS0 HG hx
  obtain ⟨n, HD⟩ : ∃ n, Hid (sumN l = n) := ⟨_, rfl⟩
  rw [HD.out] at HN c0
  go_wp2_with fail
  refine (FormatUint_16 n HN.out _ HG1.out).mono ?_
  rintro e w2 ⟨rfl, hb⟩
  have HB2 := hide (below_to HB1.out (Nat.le_refl _) hb)
  clear hb HG1 c0 HS1
  obtain ⟨q1, q2, _, _⟩ := hexL_spec HN.out
  have HF : Hid (sumD l = List.replicate (16 - hexL n) 48 ++ hexN (hexL n) n) := by show _ = _; rw [hex_fill HN.out, ← HD.out]; rfl
  have hz : (bs (hexN (hexL n) n)).size = hexL n := by rw [bs_size, hexN_len]
  obtain ⟨X, HX⟩ : ∃ X, Hid (hexN (hexL n) n = X) := ⟨_, rfl⟩
  rw [HX.out] at HF hz ⊢
  generalize hexL n = k at *
  go_wp2_with fail
  rw [show (16 : Int) - (k : Int) = ((16 - k : Nat) : Int) by omega]
  refine (Tryz.strings_Repeat ⟨#[48]⟩ (16 - k) _ (by omega) (by show 1 * (16 - k) ≤ _; omega)).mono ?_
  rw [show Lib.repeatL (ByteArray.mk #[48]).data.toList (16 - k) = List.replicate (16 - k) 48 from repeat_zeros _]
  rintro e w3 ⟨rfl, hb⟩
  have HB3 := hide (below_to HB2.out (Nat.le_refl _) hb)
  clear hb
  have hr : (ByteArray.mk (List.replicate (16 - k) (48 : UInt8)).toArray).size = 16 - k := by rw [show ByteArray.mk (List.replicate (16 - k) (48 : UInt8)).toArray = bs (List.replicate (16 - k) 48) from rfl, bs_size]; simp
  go_wp2_with fail
  go_ret
  exact ⟨ret_str' (by rw [HF.out, ← bs_app]; rfl), HB3.out⟩
def hexSet : List UInt8 := [48, 49, 50, 51, 52, 53, 54, 55, 56, 57, 97, 98, 99, 100, 101, 102]
theorem hexSet_nat : ∀ k : Nat, k < 256 → hexSet.contains (UInt8.ofNat k) = isHex (UInt8.ofNat k) := by decide +kernel
theorem hexSet_iff (c : UInt8) : c ∈ hexSet ↔ isHex c = true := by
  have := hexSet_nat c.toNat c.toNat_lt
  rw [UInt8.ofNat_toNat] at this
  rw [← this]; simp
theorem hexSet_ascii : ∀ c ∈ hexSet, c.toNat < 128 := by decide
set_option maxHeartbeats 2000000 in
theorem Is_any (l : List UInt8) (hl : l.length ≤ 9223372036854775807) (w : World) : Calls Tryz.prog 66 #[.string (bs l)] w fun e w' => e = .returned (.bool (isD l)) ∧ Below w.heap.size w w' := by
  have hsz : (bs l).size = l.length := bs_size l
  by_cases h16 : l.length = 16
  · have h2 : (((l.length : Nat) : Int) == 16) = true := by simp; omega
    obtain ⟨X, HX⟩ : ∃ X, Hid (Lib.trimS l hexSet = X) := ⟨_, rfl⟩
    have HD : Hid (isD l = X.isEmpty) := by
      show _ = _
      rw [Bool.eq_iff_iff, isD_iff, List.isEmpty_iff, ← HX.out, trimS_nil]
      constructor
      · exact fun h c hc => (hexSet_iff c).2 (h.2 c hc)
      · exact fun h => ⟨h16, fun c hc => (hexSet_iff c).1 (h c hc)⟩
    have HL := hide hl
    clear h16 hl
    go_enter Tryz.func66, Tryz.ntmps66
    go_wp2_with fail
    refine (Tryz.strings_Trim_laid (bs l) (bs hexSet) _ (by rw [bs_size]; exact HL.out) (by rw [bs_size]; decide) (fun j b h => hexSet_ascii b (by rw [bs_list] at h; exact List.mem_of_getElem? h))).mono ?_
    rw [bs_list, bs_list, HX.out]
    rintro e w1 ⟨rfl, hb⟩
    have HB := hide hb
    clear hb
    have e1 : (ByteArray.mk X.toArray).toList = X := bs_toList X
    cases hX : X.isEmpty
    · have HX2 := hide hX
      rw [hX] at HD
      go_wp2_with fail
      go_ret
      exact ⟨ret_bool HD.out.symm, HB.out⟩
    · rw [hX] at HD
      go_wp2_with fail
      go_ret
      exact ⟨ret_bool HD.out.symm, HB.out⟩
  · have h2 : (((l.length : Nat) : Int) == 16) = false := by simp; omega
    have HD : Hid (isD l = false) := by show _ = _; rw [← Bool.not_eq_true, isD_iff]; exact fun h => h16 h.1
    clear h16
    go_enter Tryz.func66, Tryz.ntmps66
    go_wp2_with fail
    go_ret
    exact ⟨ret_bool HD.out.symm, Below.refl _ _⟩
end Go.Proofs.YtnjlefggkfagmaaGreatDoor

/- Walks of package digest: List. -/
set_option linter.unusedVariables false
set_option linter.unusedSimpArgs false
namespace Go.Proofs.YtnjlefggkfagmaaGreatDoor
open Go.RowKit

def ListI (ls : List (List UInt8)) (w wr : World) (i : Value) : Prop := ∃ k : Nat, k ≤ ls.length ∧ i = .int .i64 (k : Int) ∧ Lib.IsBuilder 79 5 w.heap.size w.heap.size (Lib.byteCells (joinD (ls.take k))) wr ∧ Below w.heap.size w wr
set_option maxHeartbeats 4000000 in
theorem List_any (ls : List (List UInt8)) (b t : Nat) (w : World) (hS : Blk w b t (strC ls)) (hn : ls.length ≤ 1000) (hl : (joinD ls).length ≤ 140737488355328) (hg : Glob w) :
    Calls Tryz.prog 59 #[.slice (some ⟨b, 0, none⟩) ls.length ls.length] w fun e w' => e = .returned (.string (bs (listD ls))) ∧ Below w.heap.size w w' := by
  have HS := hide hS
  have HG := hide hg
  have HI0 := hide (Lib.fresh_isBuilder 79 5 w)
  have HB0 := hide (below_one w (.cells #[.pointer none, .slice none 0 0] 79))
  have HT := hide hl
  clear hS hg hl
  go_enter Tryz.func59, Tryz.ntmps59
  go_wp2_with fail
  generalize w.alloc (.cells #[.pointer none, .slice none 0 0] 79) = w1 at *
  go_loopw [5, 8] (fun _ i wr => ListI ls w wr i) (fun _ i _ => ls.length - (intOf i).toNat)
  case atStart => exact ⟨0, by omega, rfl, HI0.out, HB0.out⟩
  case round =>
    obtain ⟨k, hk, rfl, hI, hB⟩ := hrel
    have HI := hide hI
    have HB := hide hB
    clear hI hB
    by_cases hlt : k < ls.length
    · obtain ⟨l, hl⟩ : ∃ l, ls[k]? = some l := ⟨_, List.getElem?_eq_getElem hlt⟩
      have ck : wr.cell? ⟨b, k, none⟩ = some (.string (bs l)) := ((HS.out.below HB.out HS.out.lt).cell k).trans (strC_at hl)
      have HJ : Hid (joinD (ls.take (k + 1)) = joinD (ls.take k) ++ (Lib.itoa l.length ++ [58] ++ l)) := by
        show _ = _
        rw [List.take_add_one, hl]
        exact joinD_snoc _ _
      have HLen : Hid ((joinD (ls.take (k + 1))).length ≤ 140737488355328) := by
        have h1 : joinD ls = joinD (ls.take (k + 1)) ++ joinD (ls.drop (k + 1)) := by
          unfold joinD; rw [← List.flatMap_append, List.take_append_drop]
        have := HT.out
        rw [h1, List.length_append] at this
        show _ ≤ _
        omega
      have hsz : (bs l).size = l.length := bs_size l
      have ls3 : Hid ((joinD (ls.take k)).length + ((Lib.itoa l.length).length + 1 + l.length) ≤ 140737488355328) := by
        have := HLen.out
        rw [HJ.out] at this
        simp only [List.length_append, List.length_cons, List.length_nil] at this
        show _ ≤ _
        omega
      clear hl
      generalize joinD (ls.take k) = J at *
      go_wp2_with fail
      refine (Itoa_any (l.length : Int) (by omega) (by have := ls3.out; omega) _ (HG.out.belowB HB.out HG.out.top)).mono ?_
      rintro e w2 ⟨rfl, hb⟩
      have HI1 := hide (IsBuilder_to HI.out hb)
      have HB1 := hide (below_to HB.out (Nat.le_refl _) hb)
      clear hb
      generalize Lib.itoa (l.length : Int) = A at *
      go_wp2_with fail
      refine (Tryz.Builder_WriteString _ _ _ (bs A) _ HI1.out (by rw [Lib.byteCells_length, bs_size]; have := ls3.out; omega) HB1.out.size).mono ?_
      rintro e w3 ⟨rfl, hat, hb⟩
      rw [strCells_bs, ← byteCells_app] at hat
      have HI2 : Hid (Lib.IsBuilder 79 5 w.heap.size w.heap.size (Lib.byteCells (J ++ A)) w3) := .inr hat
      have HB2 := hide (HB1.out.trans hb)
      clear hat hb
      go_wp2_with fail
      refine (Tryz.Builder_WriteByte _ _ _ 58 _ HI2.out (by rw [Lib.byteCells_length, List.length_append]; have := ls3.out; omega) HB2.out.size).mono ?_
      rintro e w4 ⟨rfl, hat, hb⟩
      rw [show [Value.int IntKind.u8 58] = Lib.byteCells [58] from rfl, ← byteCells_app] at hat
      have HI3 : Hid (Lib.IsBuilder 79 5 w.heap.size w.heap.size (Lib.byteCells (J ++ A ++ [58])) w4) := .inr hat
      have HB3 := hide (HB2.out.trans hb)
      clear hat hb
      go_wp2_with fail
      refine (Tryz.Builder_WriteString _ _ _ (bs l) _ HI3.out (by rw [Lib.byteCells_length, bs_size, List.length_append, List.length_append]; have := ls3.out; simp only [List.length_cons, List.length_nil]; omega) HB3.out.size).mono ?_
      rintro e w5 ⟨rfl, hat, hb⟩
      rw [strCells_bs, ← byteCells_app] at hat
      have HI4 : Hid (Lib.IsBuilder 79 5 w.heap.size w.heap.size (Lib.byteCells (joinD (ls.take (k + 1)))) w5) := by
        rw [HJ.out]
        simp only [List.append_assoc] at hat ⊢
        exact .inr hat
      have HB4 := hide (HB3.out.trans hb)
      clear hat hb
      go_wp2_with fail
      go_roundw
      case rel => exact ⟨k + 1, by omega, by go_num, HI4.out, HB4.out⟩
      case measure => simp [intOf]; omega
    · obtain rfl : k = ls.length := by omega
      have e : ls.take ls.length = ls := List.take_length
      rw [e] at HI
      clear e
      go_wp2_with fail
      refine (Tryz.Builder_String_any _ _ _ _ HI.out HB.out.size).mono ?_
      rintro e w2 ⟨rfl, hb⟩
      have HB1 := hide (HB.out.trans hb)
      clear hb
      rw [show ByteArray.mk (joinD ls).toArray = bs (joinD ls) from rfl]
      go_wp2_with fail
      refine (Sum_any (joinD ls) HT.out _ (HG.out.belowB HB1.out HG.out.top)).mono ?_
      rintro e w3 ⟨rfl, hb⟩
      have HB2 := hide (below_to HB1.out (Nat.le_refl _) hb)
      clear hb
      go_wp2_with fail
      go_ret
      exact ⟨rfl, HB2.out⟩
end Go.Proofs.YtnjlefggkfagmaaGreatDoor

/- Walks of package tree: half, node, Leaf. -/
set_option linter.unusedVariables false
set_option linter.unusedSimpArgs false
namespace Go.Proofs.YtnjlefggkfagmaaGreatDoor
open Go.RowKit

theorem enters_fn {P : Program} {F : FuncId} {fn : Func} {c : Code} (hf : P.funcs[F]? = some fn) (hn : (fn.name == "runtime.NumGoroutine") = false) (hb : fn.body = some c) (args : Array Value) (w : World) : (callFunc F args).run P w = .ok (.enter F args) w := by
  have h1 : fn.name ≠ "runtime.NumGoroutine" := by simpa using hn
  simp [callFunc, hf, h1, hb, mark]
theorem dec_len9 : ∀ (n u : Nat), u < 10 ^ (n + 1) → (Lib.decDigits u).length ≤ n + 1 := by
  intro n
  induction n with
  | zero => intro u hu; rw [Lib.decDigits, dif_pos (show u < 10 by omega)]; simp
  | succ n ih =>
    intro u hu
    rw [Lib.decDigits]
    split
    · simp
    · rw [List.length_append]
      have := ih (u / 10) (by rw [Nat.pow_succ] at hu; omega)
      simp; omega
theorem join_len : ∀ (ls : List (List UInt8)), (∀ l ∈ ls, l.length < 100000000000000000000) → (joinD ls).length ≤ (ls.map List.length).sum + 21 * ls.length
  | [], _ => by simp [joinD]
  | l :: ls, h => by
    have h1 := join_len ls (fun x hx => h x (by simp [hx]))
    have h2 : (Lib.itoa (l.length : Int)).length ≤ 20 := by unfold Lib.itoa; rw [if_neg (by omega)]; exact dec_len9 19 _ (h l (by simp))
    have e : joinD (l :: ls) = (Lib.itoa l.length ++ [58] ++ l) ++ joinD ls := by simp [joinD]
    rw [e]
    simp only [List.length_append, List.map_cons, List.sum_cons, List.length_cons, List.length_nil] at *
    omega
theorem join2 {a b : List UInt8} (ha : a.length ≤ 100000000000) (hb : b.length ≤ 100000000000) : (joinD [a, b]).length ≤ 140737488355328 := by
  have := join_len [a, b] (fun l hl => by
    simp only [List.mem_cons, List.not_mem_nil, or_false] at hl
    rcases hl with rfl | rfl <;> omega)
  simp only [List.map_cons, List.map_nil, List.sum_cons, List.sum_nil, List.length_cons, List.length_nil] at this
  omega
theorem join3 {a b c : List UInt8} (ha : a.length ≤ 100000000000) (hb : b.length ≤ 100000000000) (hc : c.length ≤ 100000000000) : (joinD [a, b, c]).length ≤ 140737488355328 := by
  have := join_len [a, b, c] (fun l hl => by
    simp only [List.mem_cons, List.not_mem_nil, or_false] at hl
    rcases hl with rfl | rfl | rfl <;> omega)
  simp only [List.map_cons, List.map_nil, List.sum_cons, List.sum_nil, List.length_cons, List.length_nil] at this
  omega
theorem halfF_stop {f k n : Nat} (h : n ≤ k * 2) : halfF f k n = k := by
  cases f with
  | zero => rfl
  | succ f => unfold halfF; rw [if_neg (by omega)]
theorem halfF_go {f k n : Nat} (h : k * 2 < n) : halfF (f + 1) k n = halfF f (k * 2) n := by
  conv => lhs; unfold halfF
  rw [if_pos h]
set_option maxRecDepth 100000 in
set_option maxHeartbeats 1000000 in
theorem half_any (n : Nat) (hn : n ≤ 140737488355328) (w : World) : Calls Tryz.prog 71 #[.int .i64 (n : Int)] w fun e w' => e = .returned (.int .i64 ((halfN n : Nat) : Int)) ∧ w' = w := by
  go_enter Tryz.func71, Tryz.ntmps71
  go_wp2_with fail
  go_loopw [3] (fun k wr => ∃ u f : Nat, k = .int .i64 (u : Int) ∧ (1 ≤ u ∧ u ≤ n + 1 ∧ n ≤ u + f ∧ halfF f u n = halfN n) ∧ wr = w) (fun k _ => n - (intOf k).toNat)
  case atStart => exact ⟨1, n, rfl, ⟨Nat.le_refl _, by omega, by omega, rfl⟩, rfl⟩
  case round =>
    obtain ⟨u, f, rfl, ⟨h1, h1', h2, h3⟩, rfl⟩ := hrel
    have H3 := hide h3
    clear h3
    have e0 : IntKind.i64.wrap ((u : Int) * 2) = ((u * 2 : Nat) : Int) := by rw [IntWalk.i64_in _ (by omega)]; omega
    by_cases hlt : u * 2 < n
    · have e1 : decide (((u * 2 : Nat) : Int) < (n : Int)) = true := decide_eq_true (by omega)
      obtain ⟨f', rfl⟩ : ∃ f', f = f' + 1 := ⟨f - 1, by omega⟩
      have H4 := hide (halfF_go (f := f') hlt)
      go_wp2_with fail
      refine ⟨⟨u * 2, f', by go_num, ⟨by omega, by omega, by omega, H4.out.symm.trans H3.out⟩, trivial⟩, ?_⟩
      simp [intOf]; omega
    · have e1 : decide (((u * 2 : Nat) : Int) < (n : Int)) = false := decide_eq_false (by omega)
      have H4 : Hid (halfN n = u) := H3.out.symm.trans (halfF_stop (by omega))
      go_wp2_with fail
      go_ret
      exact ⟨ret_int (by rw [H4.out]), rfl⟩
set_option maxHeartbeats 1000000 in
theorem node_any (a b : List UInt8) (ha : a.length ≤ 100000000000) (hb : b.length ≤ 100000000000) (w : World) (hg : Glob w) : Calls Tryz.prog 77 #[.string (bs a), .string (bs b)] w fun e w' => e = .returned (.string (bs (nodeD a b))) ∧ Below w.heap.size w w' := by
  have CL : Calls Tryz.prog 59 #[.slice (some ⟨w.heap.size, 0, none⟩) 3 3] (w.alloc (.cells #[.string ⟨#[110, 111, 100, 101]⟩, .string (bs a), .string (bs b)] 9)) fun e w' => e = .returned (.string (bs (nodeD a b))) ∧ Below (w.alloc (.cells #[.string ⟨#[110, 111, 100, 101]⟩, .string (bs a), .string (bs b)] 9)).heap.size (w.alloc (.cells #[.string ⟨#[110, 111, 100, 101]⟩, .string (bs a), .string (bs b)] 9)) w' :=
    List_any [nodeT, a, b] _ 9 _ (Blk.new w 9 #[.string ⟨#[110, 111, 100, 101]⟩, .string (bs a), .string (bs b)]) (by simp) (join3 (by decide) ha hb) (hg.alloc _)
  have HB := hide (below_one w (.cells #[.string ⟨#[110, 111, 100, 101]⟩, .string (bs a), .string (bs b)] 9))
  clear hg ha hb
  go_enter Tryz.func77, Tryz.ntmps77
  go_wp2_with ((with_reducible refine CL.mono ?_); rintro e w' ⟨rfl, hb⟩)
  go_ret
  exact ⟨rfl, below_to HB.out (Nat.le_refl _) (by assumption)⟩
set_option maxHeartbeats 1000000 in
theorem Leaf_any (a : List UInt8) (ha : a.length ≤ 100000000000) (w : World) (hg : Glob w) : Calls Tryz.prog 22 #[.string (bs a)] w fun e w' => e = .returned (.string (bs (leafD a))) ∧ Below w.heap.size w w' := by
  have CL : Calls Tryz.prog 59 #[.slice (some ⟨w.heap.size, 0, none⟩) 2 2] (w.alloc (.cells #[.string ⟨#[108, 101, 97, 102]⟩, .string (bs a)] 9)) fun e w' => e = .returned (.string (bs (leafD a))) ∧ Below (w.alloc (.cells #[.string ⟨#[108, 101, 97, 102]⟩, .string (bs a)] 9)).heap.size (w.alloc (.cells #[.string ⟨#[108, 101, 97, 102]⟩, .string (bs a)] 9)) w' :=
    List_any [leafT, a] _ 9 _ (Blk.new w 9 #[.string ⟨#[108, 101, 97, 102]⟩, .string (bs a)]) (by simp) (join2 (by decide) ha) (hg.alloc _)
  have HB := hide (below_one w (.cells #[.string ⟨#[108, 101, 97, 102]⟩, .string (bs a)] 9))
  clear hg ha
  go_enter Tryz.func22, Tryz.ntmps22
  go_wp2_with ((with_reducible refine CL.mono ?_); rintro e w' ⟨rfl, hb⟩)
  go_ret
  exact ⟨rfl, below_to HB.out (Nat.le_refl _) (by assumption)⟩
end Go.Proofs.YtnjlefggkfagmaaGreatDoor

/- Walks of package tree: the sum of a list of digests. -/
set_option linter.unusedVariables false
set_option linter.unusedSimpArgs false
namespace Go.Proofs.YtnjlefggkfagmaaGreatDoor
open Go.RowKit

theorem TextsAt.slice {w : World} {v : Value} {ls : List (List UInt8)} (h : TextsAt w v ls) : ∃ A c, v = .slice A ls.length c ∧ ls.length ≤ c := by
  obtain ⟨A, c, h1, h2, _⟩ := h
  exact ⟨A, c, by rw [h1, List.length_map], by simpa using h2⟩
theorem TextsAt.at_ {w : World} {A : Option Addr} {n c : Nat} {ls : List (List UInt8)} (h : TextsAt w (.slice A n c) ls) {k : Nat} {x : List UInt8} (hx : ls[k]? = some x) : ∃ a, A = some a ∧ a.block < w.heap.size ∧ w.cell? (a.add k) = some (.string (bs x)) := by
  obtain ⟨a, c', h1, _, h3, _, h5⟩ := RowsAt.at_ h (k := k) (x := strV x) (by rw [List.getElem?_map, hx]; rfl)
  injection h1 with e1
  refine ⟨a, e1, h3, ?_⟩
  have := h5 0 _ rfl
  rwa [add_of_add, Nat.add_zero, Nat.mul_one] at this
theorem TextsAt.take {w : World} {A : Option Addr} {n c : Nat} {ls : List (List UInt8)} (h : TextsAt w (.slice A n c) ls) {k : Nat} (hk : k ≤ ls.length) (c' : Nat) (hc : k ≤ c') : TextsAt w (.slice A k c') (ls.take k) := by
  have := RowsAt.take h (k := k) (by simpa using hk) c' hc
  unfold TextsAt; rw [List.map_take]; exact this
theorem TextsAt.drop {w : World} {a : Addr} {n c : Nat} {ls : List (List UInt8)} (h : TextsAt w (.slice (some a) n c) ls) {k : Nat} (hk : k ≤ ls.length) (c' : Nat) (hc : ls.length - k ≤ c') : TextsAt w (.slice (some (a.add k)) (ls.length - k) c') (ls.drop k) := by
  have := RowsAt.drop h (k := k) (by simpa using hk) c' (by simpa using hc)
  unfold TextsAt; rw [List.map_drop]; simpa using this
theorem ent_sum : ∀ args w, (callFunc 101 args).run Tryz.prog w = .ok (.enter 101 args) w := enters_fn Tryz.func101 (by kernel_rfl) rfl
theorem isD_len {d : List UInt8} (h : isD d = true) : d.length = 16 := ((isD_iff d).1 h).1
theorem sumT_len {f : Nat} {l : List (List UInt8)} (h : ∀ x ∈ l, x.length ≤ 100000000000) : (sumT f l).length ≤ 100000000000 := by
  cases f with
  | zero => simp [sumT]
  | succ f =>
    by_cases h1 : l.length = 1
    · rw [sumT_one f h1]
      match l, h1 with
      | [x], _ => exact h x (by simp)
    · rw [sumT_two f h1]
      have := isD_len (listD_isD [nodeT, sumT f (l.take (halfN l.length)), sumT f (l.drop (halfN l.length))])
      unfold nodeD
      omega
def sumF (b : Nat) : Value := .func (.func 101) #[] #[.pointer (some ⟨b, 0, none⟩)]
def SumOk (f : Nat) (b : Nat) : Prop := ∀ (ls : List (List UInt8)) (v : Value) (w : World), TextsAt w v ls → 1 ≤ ls.length → ls.length ≤ f → ls.length ≤ 140737488355328 → (∀ x ∈ ls, x.length ≤ 100000000000) → Glob w → w.cell? ⟨b, 0, none⟩ = some (.func (.func 101) #[] #[.pointer (some ⟨b, 0, none⟩)]) →
  Calls Tryz.prog 101 #[v, .pointer (some ⟨b, 0, none⟩)] w fun e w' => e = .returned (.string (bs (sumT f ls))) ∧ Below w.heap.size w w'
set_option maxRecDepth 100000 in
set_option maxHeartbeats 4000000 in
theorem sum_step (f b : Nat) (ih : SumOk f b) : SumOk (f + 1) b := by
  intro ls v w hv h1 hf hn hx hg hb
  obtain ⟨A, c, rfl, hc⟩ := hv.slice
  have hE := ent_sum
  by_cases hl1 : ls.length = 1
  · obtain ⟨x, rfl⟩ : ∃ x, ls = [x] := by
      match ls, hl1 with
      | [x], _ => exact ⟨x, rfl⟩
    obtain ⟨a, rfl, ha, c0⟩ := hv.at_ (k := 0) (x := x) rfl
    have HV : Hid (sumT (f + 1) [x] = x) := sumT_one f rfl
    rw [show a.add 0 = a from rfl] at c0
    clear hv hx hg hb ih hE
    go_enter Tryz.func101, Tryz.ntmps101
    go_wp2_with fail
    go_ret
    exact ⟨by rw [HV.out]; rfl, Below.refl _ _⟩
  · have hh := half_lt (n := ls.length) (by omega)
    have HV : Hid (sumT (f + 1) ls = nodeD (sumT f (ls.take (halfN ls.length))) (sumT f (ls.drop (halfN ls.length)))) := sumT_two f hl1
    have CH := fun w => half_any ls.length hn w
    obtain ⟨x0, hx0⟩ : ∃ x, ls[0]? = some x := ⟨_, List.getElem?_eq_getElem (by omega)⟩
    obtain ⟨a, rfl, ha, _⟩ := hv.at_ hx0
    clear hx0
    obtain ⟨U, hU, g, u0, rfl, hgu, hi⟩ := cls w
    have e1 : ((ls.length : Int) == 1) = false := by rw [beq_eq_false_iff_ne]; omega
    have hbk := World.block_lt_of_cell? (g u0) _ hb
    have hbu : ∀ u, (g u).cell? ⟨b, 0, none⟩ = some (.func (.func 101) #[] #[.pointer (some ⟨b, 0, none⟩)]) := fun u => ((hgu u).cell (p := ⟨b, 0, none⟩) hbk).trans hb
    generalize hk : halfN ls.length = k at *
    have CS1 := cls_call hgu hi (fun w hw => ih (ls.take k) _ w ((hv.take (k := k) (by omega) c (by omega)).to hw) (by rw [List.length_take]; omega) (by rw [List.length_take]; omega) (by rw [List.length_take]; omega) (fun x h => hx x (List.mem_of_mem_take h)) (hg.to hw) ((hw.cell (p := ⟨b, 0, none⟩) hbk).trans hb))
    have CS2 := cls_call hgu hi (fun w hw => ih (ls.drop k) _ w ((hv.drop (k := k) (by omega) (c - k) (by omega)).to hw) (by rw [List.length_drop]; omega) (by rw [List.length_drop]; omega) (by rw [List.length_drop]; omega) (fun x h => hx x (List.mem_of_mem_drop h)) (hg.to hw) ((hw.cell (p := ⟨b, 0, none⟩) hbk).trans hb))
    have CN := cls_call hgu hi (fun w hw => node_any (sumT f (ls.take k)) (sumT f (ls.drop k)) (sumT_len (fun x h => hx x (List.mem_of_mem_take h))) (sumT_len (fun x h => hx x (List.mem_of_mem_drop h))) w (hg.to hw))
    have HGU := hide hgu
    have HHI := hide hi
    have k1 : (k : Int) ≤ (c : Int) := by omega
    have k0 : (0 : Int) ≤ (k : Int) := by omega
    have k2 : (k : Int) ≤ (ls.length : Int) := by omega
    have k3 : ((k : Int) == (c : Int)) = false := by rw [beq_eq_false_iff_ne]; omega
    have k4 : k ≠ c := by omega
    clear hgu hi hx hg hb hv ih
    go_enter Tryz.func101, Tryz.ntmps101
    go_wp2_with ((with_reducible refine (CH _).mono ?_); rintro e w' ⟨rfl, rfl⟩)
    refine wp_region_class g (by kernel_rfl) (by kernel_rfl) (HHI.out _ (HGU.out _).drew) ?_
    repeat (go_big_quiet_step (first | with_reducible exact CS1 _ | with_reducible exact CS2 _ | with_reducible exact CN _))
    refine wpQuiet_nil ?_
    intro w5 hw5
    obtain ⟨u, rfl⟩ := hw5
    go_wp2_with fail
    go_ret
    exact ⟨by rw [HV.out]; rfl, HGU.out _⟩
theorem sum_any (b : Nat) : ∀ f, SumOk f b
  | 0 => fun ls v w _ h1 h2 => by omega
  | f + 1 => sum_step f b (sum_any b f)
set_option maxRecDepth 100000 in
set_option maxHeartbeats 4000000 in
theorem total_any (ls : List (List UInt8)) (hn : ls.length ≤ 140737488355328) (hx : ∀ x ∈ ls, x.length ≤ 100000000000) (v : Value) (w : World) (hv : TextsAt w v ls) (hg : Glob w) :
    Calls Tryz.prog 61 #[v] w fun e w' => e = .returned (.string (bs (totalT ls))) ∧ Below w.heap.size w w' := by
  obtain ⟨A, c, rfl, hc⟩ := hv.slice
  have hE := ent_sum
  have HB := hide (below_one w (.cells #[.func (.func 101) #[] #[.pointer (some ⟨w.heap.size, 0, none⟩)]] 26))
  have HX := hide (Blk.new w 26 #[.func (.func 101) #[] #[.pointer (some ⟨w.heap.size, 0, none⟩)]])
  by_cases h0 : ls.length = 0
  · obtain rfl : ls = [] := List.eq_nil_of_length_eq_zero h0
    have CL := fun w (hg : Glob w) => List_any [emptyT] _ 9 _ (Blk.new w 9 #[.string ⟨#[101, 109, 112, 116, 121]⟩]) (by simp) (by decide +kernel) (hg.alloc _)
    have CL' := CL _ (hg.alloc (.cells #[.func (.func 101) #[] #[.pointer (some ⟨w.heap.size, 0, none⟩)]] 26))
    rw [show (w.alloc (.cells #[.func (.func 101) #[] #[.pointer (some ⟨w.heap.size, 0, none⟩)]] 26)).heap.size = w.heap.size + 1 by simp] at CL'
    have HB2 := hide (below_alloc HB.out (Nat.le_refl _) (.cells #[.string ⟨#[101, 109, 112, 116, 121]⟩] 9))
    clear hv hx hg CL
    go_enter Tryz.func61, Tryz.ntmps61
    go_wp2_with fail
    refine CL'.mono ?_
    rintro e w3 ⟨rfl, hb⟩
    have HB3 := hide (below_to HB2.out (Nat.le_refl _) hb)
    clear hb
    go_wp2_with fail
    go_ret
    exact ⟨rfl, HB3.out⟩
  · have HV : Hid (totalT ls = sumT ls.length ls) := by show _ = _; unfold totalT; rw [if_neg h0]
    have e1 : ((ls.length : Int) == 0) = false := by rw [beq_eq_false_iff_ne]; omega
    have CS := sum_any w.heap.size ls.length ls _ (w.alloc (.cells #[.func (.func 101) #[] #[.pointer (some ⟨w.heap.size, 0, none⟩)]] 26)) (hv.to HB.out) (by omega) (Nat.le_refl _) hn hx (hg.alloc _) (HX.out.cell 0)
    clear hv hx hg h0
    go_enter Tryz.func61, Tryz.ntmps61
    go_wp2_with fail
    refine CS.mono ?_
    rintro e w3 ⟨rfl, hb⟩
    have HB3 := hide (below_to HB.out (Nat.le_refl _) hb)
    clear hb
    go_wp2_with fail
    go_ret
    exact ⟨by rw [HV.out]; rfl, HB3.out⟩
end Go.Proofs.YtnjlefggkfagmaaGreatDoor

/- Walks of package tree: proper, Root. -/
set_option linter.unusedVariables false
set_option linter.unusedSimpArgs false
namespace Go.Proofs.YtnjlefggkfagmaaGreatDoor
open Go.RowKit

theorem drop_at' {α : Type} {l : List α} {k : Nat} {x : α} (h : l[k]? = some x) : l.drop k = x :: l.drop (k + 1) := by
  obtain ⟨hlt, e⟩ := List.getElem?_eq_some_iff.1 h
  rw [List.drop_eq_getElem_cons hlt, e]
def IdxR (b : Bool) (w : World) (e : Ending) (w' : World) : Prop := ∃ i : Int, e = .returned (.int .i64 i) ∧ decide (0 ≤ i) = b ∧ Below w.heap.size w w'
set_option maxRecDepth 100000 in
set_option maxHeartbeats 4000000 in
theorem IndexFunc_dig (K : FuncId) (hE : ∀ args w, (callFunc K args).run Tryz.prog w = .ok (.enter K args) w) (p : List UInt8 → Bool) (ls : List (List UInt8)) (hn : ls.length ≤ 140737488355328) (v : Value) (w : World) (hv : TextsAt w v ls)
    (hF : ∀ x ∈ ls, ∀ w', Below w.heap.size w w' → Calls Tryz.prog K #[.string (bs x)] w' fun e w'' => e = .returned (.bool (p x)) ∧ Below w'.heap.size w' w'') :
    Calls Tryz.prog 124 #[v, .func (.func K) #[] #[]] w (IdxR (ls.any p) w) := by
  obtain ⟨A, c, rfl, hc⟩ := hv.slice
  have HS := hide hv
  have HF := hide hF
  clear hv hF
  go_enter Tryz.func124, Tryz.ntmps124
  go_wp2_with fail
  go_loopw [5, 8] (fun _ i wr => ∃ k : Nat, i = .int .i64 (k : Int) ∧ k ≤ ls.length ∧ Aside (Below w.heap.size w wr) ∧ Aside (ls.any p = (ls.drop k).any p)) (fun _ i _ => ls.length - (intOf i).toNat)
  case atStart => exact ⟨0, rfl, by omega, Below.refl _ _, rfl⟩
  case round =>
    obtain ⟨k, rfl, hk, hB, hA⟩ := hrel
    have HB : Hid (Below w.heap.size w wr) := hB
    have HA : Hid (ls.any p = (ls.drop k).any p) := hA
    clear hB hA
    by_cases hlt : k < ls.length
    · have e1 : decide ((k : Int) < (ls.length : Int)) = true := decide_eq_true (by omega)
      obtain ⟨x, hx⟩ : ∃ x, ls[k]? = some x := ⟨_, List.getElem?_eq_getElem hlt⟩
      obtain ⟨a, rfl, ha, c0⟩ := (HS.out.to HB.out).at_ hx
      have CV := HF.out x (List.mem_of_getElem? hx) wr HB.out
      have HD := hide (drop_at' hx)
      clear hx
      cases hp : p x with
      | true =>
        rw [hp] at CV
        have HV : Hid (ls.any p = true) := by show _ = _; rw [HA.out, HD.out, List.any_cons, hp]; rfl
        clear hp
        go_wp2_with ((with_reducible refine CV.mono ?_); rintro e w4 ⟨rfl, hb4⟩)
        go_ret
        exact ⟨_, rfl, by rw [HV.out]; exact decide_eq_true (by omega), below_to HB.out (Nat.le_refl _) (by assumption)⟩
      | false =>
        rw [hp] at CV
        have HV : Hid (ls.any p = (ls.drop (k + 1)).any p) := by show _ = _; rw [HA.out, HD.out, List.any_cons, hp]; rfl
        clear hp
        go_wp2_with ((with_reducible refine CV.mono ?_); rintro e w4 ⟨rfl, hb4⟩)
        refine ⟨⟨k + 1, by go_num, by omega, below_to HB.out (Nat.le_refl _) (by assumption), HV.out⟩, ?_⟩
        simp [intOf]; omega
    · obtain rfl : k = ls.length := by omega
      have e1 : decide ((ls.length : Int) < (ls.length : Int)) = false := by simp
      have HV : Hid (ls.any p = false) := by show _ = _; rw [HA.out, List.drop_length]; rfl
      go_wp2_with fail
      go_ret
      exact ⟨-1, rfl, by rw [HV.out]; rfl, HB.out⟩
set_option maxHeartbeats 1000000 in
theorem ContainsFunc_dig (K : FuncId) (hE : ∀ args w, (callFunc K args).run Tryz.prog w = .ok (.enter K args) w) (p : List UInt8 → Bool) (ls : List (List UInt8)) (hn : ls.length ≤ 140737488355328) (v : Value) (w : World) (hv : TextsAt w v ls)
    (hF : ∀ x ∈ ls, ∀ w', Below w.heap.size w w' → Calls Tryz.prog K #[.string (bs x)] w' fun e w'' => e = .returned (.bool (p x)) ∧ Below w'.heap.size w' w'') :
    Calls Tryz.prog 99 #[v, .func (.func K) #[] #[]] w fun e w' => e = .returned (.bool (ls.any p)) ∧ Below w.heap.size w w' := by
  have CI := IndexFunc_dig K hE p ls hn v w hv hF
  clear hv hF
  go_enter Tryz.func99, Tryz.ntmps99
  go_wp2_with fail
  refine CI.mono ?_
  rintro e w2 ⟨i, rfl, hi, hb⟩
  have HI := hide hi
  have HB := hide hb
  clear hi hb
  go_wp2_with fail
  go_ret
  exact ⟨ret_bool HI.out, HB.out⟩
theorem ent_proper1 : ∀ args w, (callFunc 100 args).run Tryz.prog w = .ok (.enter 100 args) w := enters_fn Tryz.func100 (by kernel_rfl) rfl
set_option maxHeartbeats 1000000 in
theorem proper1_any (x : List UInt8) (hx : x.length ≤ 100000000000) (w : World) : Calls Tryz.prog 100 #[.string (bs x)] w fun e w' => e = .returned (.bool (!isD x)) ∧ Below w.heap.size w w' := by
  have CI := Is_any x (by omega) w
  go_enter Tryz.func100, Tryz.ntmps100
  go_wp2_with ((with_reducible refine CI.mono ?_); rintro e w' ⟨rfl, hb⟩)
  go_ret
  exact ⟨rfl, by assumption⟩
set_option maxHeartbeats 1000000 in
theorem tproper_any (ls : List (List UInt8)) (hn : ls.length ≤ 140737488355328) (hx : ∀ x ∈ ls, x.length ≤ 100000000000) (v : Value) (w : World) (hv : TextsAt w v ls) :
    Calls Tryz.prog 60 #[v] w fun e w' => e = .returned (.bool (properT ls)) ∧ Below w.heap.size w w' := by
  have CI := ContainsFunc_dig 100 ent_proper1 (fun x => !isD x) ls hn v w hv (fun x h w' _ => proper1_any x (hx x h) w')
  have HV : Hid (properT ls = !(ls.any fun x => !isD x)) := by show _ = _; unfold properT; rw [List.not_any_eq_all_not]; simp
  clear hv hx
  go_enter Tryz.func60, Tryz.ntmps60
  go_wp2_with ((with_reducible refine CI.mono ?_); rintro e w' ⟨rfl, hb⟩)
  go_ret
  exact ⟨ret_bool (by rw [HV.out]), by assumption⟩
set_option maxHeartbeats 2000000 in
theorem tRoot_any (ls : List (List UInt8)) (hn : ls.length ≤ 140737488355328) (hx : ∀ x ∈ ls, x.length ≤ 100000000000) (v : Value) (w : World) (hv : TextsAt w v ls) (hg : Glob w) :
    Calls Tryz.prog 23 #[v] w fun e w' => e = .returned (.tuple #[.string (bs (rootV ls)), .int .i64 (rootE ls)]) ∧ Below w.heap.size w w' := by
  have CP := tproper_any ls hn hx v w hv
  have CT := fun (w' : World) (hb : Below w.heap.size w w') => total_any ls hn hx v w' (hv.to hb) (hg.to hb)
  unfold rootV rootE
  clear hv hg hx
  cases hp : properT ls with
  | false =>
    rw [hp] at CP
    rw [if_neg (by simp), if_neg (by simp)]
    clear hp
    go_enter Tryz.func23, Tryz.ntmps23
    go_wp2_with ((with_reducible refine CP.mono ?_); rintro e w' ⟨rfl, hb⟩)
    go_ret2
    exact ⟨rfl, by assumption⟩
  | true =>
    rw [hp] at CP
    rw [if_pos rfl, if_pos rfl]
    clear hp
    go_enter Tryz.func23, Tryz.ntmps23
    go_wp2_with fail
    refine CP.mono ?_
    rintro e w2 ⟨rfl, hb⟩
    have HB := hide hb
    have CT' := CT _ hb
    clear hb CP CT
    go_wp2_with ((with_reducible refine CT'.mono ?_); rintro e w3 ⟨rfl, hb3⟩)
    go_ret2
    exact ⟨rfl, below_to HB.out (Nat.le_refl _) (by assumption)⟩
end Go.Proofs.YtnjlefggkfagmaaGreatDoor

/- Walks of slices.Clone and tree.Path. -/
set_option linter.unusedVariables false
set_option linter.unusedSimpArgs false
namespace Go.Proofs.YtnjlefggkfagmaaGreatDoor
open Go.RowKit

theorem own_to4 {w w' : World} {base : Nat} {e : TypeId} {size n : Nat} {v : Value} {xs : List Value} (h : w.ownsRow base e size v n xs) (hb : Below w.heap.size w w') : w'.ownsRow base e size v n xs :=
  h.kept (show w.grownBy w' none from ⟨hb.os, hb.tape, hb.output, hb.size, fun i hi _ => hb.block i hi⟩) (by cases v.ownBlock <;> simp)
theorem cells_new4 {W : World} {xs : List Value} {ty : TypeId} {b : Nat} (hb : b = W.heap.size) : ∀ (j : Nat) (u : Value), xs[j]? = some u → (W.alloc (.cells xs.toArray ty)).cell? ((⟨b, 0, none⟩ : Addr).add j) = some u := by
  subst hb
  intro j u hu
  rw [show (⟨W.heap.size, 0, none⟩ : Addr).add j = ⟨W.heap.size, j, none⟩ by unfold Addr.add; split <;> simp_all]
  refine ((Blk.new W ty xs.toArray).cell j).trans ?_
  simpa using hu
theorem TextsAt.none_nil {w : World} {n c : Nat} {ls : List (List UInt8)} (h : TextsAt w (.slice none n c) ls) : ls = [] := by
  cases ls with
  | nil => rfl
  | cons x r =>
    obtain ⟨a, h1, _⟩ := h.at_ (k := 0) (x := x) rfl
    cases h1
def flatS (ls : List (List UInt8)) : List Value := ls.map fun x => .string (bs x)
theorem flatS_eq : ∀ ls : List (List UInt8), (ls.map strV).flatten = flatS ls
  | [] => rfl
  | x :: l => by simp [flatS, strV, flatS_eq l]
theorem flatS_at {ls : List (List UInt8)} {j : Nat} {u : Value} (h : (flatS ls)[j]? = some u) : ∃ x, ls[j]? = some x ∧ u = .string (bs x) := by
  unfold flatS at h
  rw [List.getElem?_map, Option.map_eq_some_iff] at h
  obtain ⟨x, h1, h2⟩ := h
  exact ⟨x, h1, h2.symm⟩
theorem TextsAt.cells {w : World} {a : Addr} {n c : Nat} {ls : List (List UInt8)} (h : TextsAt w (.slice (some a) n c) ls) : ∀ (j : Nat) u, (flatS ls)[j]? = some u → w.cell? (a.add j) = some u := fun j u hu => by
  obtain ⟨x, hx, rfl⟩ := flatS_at hu
  obtain ⟨a', e, _, hc⟩ := h.at_ hx
  rw [Option.some.inj e]
  exact hc
theorem TextsAt.of_own {w : World} {B : Nat} {v : Value} {ls : List (List UInt8)} (h : w.ownsRow B 9 1 v ls.length (flatS ls)) : TextsAt w v ls := RowsAt.of_own (by simp [strV]) (by rw [List.length_map, flatS_eq]; exact h)
theorem flatS_len (ls : List (List UInt8)) : (flatS ls).length = ls.length := by simp [flatS]
def OwnT (w : World) (B : Nat) (v : Value) (ls : List (List UInt8)) : Prop := w.ownsRow B 9 1 v ls.length (flatS ls)
def CloneR (ls : List (List UInt8)) (w : World) (e : Ending) (w' : World) : Prop := ∃ v', e = .returned v' ∧ OwnT w' w.heap.size v' ls ∧ Below w.heap.size w w'
set_option maxRecDepth 100000 in
set_option maxHeartbeats 2000000 in
theorem Clone_any (ls : List (List UInt8)) (hl : ls.length ≤ 1000000000) (v : Value) (w : World) (hv : TextsAt w v ls) : Calls Tryz.prog 28 #[v] w (CloneR ls w) := by
  obtain ⟨A, c, rfl, hc⟩ := hv.slice
  have q22 : ∀ (w : World) (a : Option Addr) (n c n' c' : Nat), (binOp .eql 22 (.slice a n c) (.slice none n' c')).run Tryz.prog w = .ok (.bool a.isNone) w := fun w a n c n' c' => Lib.run_eql_slice_nil w _ _ a n c n' c' Tryz.underlying22
  cases A with
  | none =>
    have HL := hide hv.none_nil
    clear hv
    go_enter Tryz.func28, Tryz.ntmps28
    go_wp2_with fail
    go_ret
    exact ⟨_, rfl, by rw [HL.out]; exact World.ownsRow_nil _ _ _ _, Below.refl _ _⟩
  | some a =>
    obtain ⟨i0, hi0, hz0, hz1, hz2⟩ := info_parts (show (Tryz.prog.info? 9).map (fun i => (i.zero, i.size, i.bytes)) = some (some (.string ⟨#[]⟩), 1, 16) by kernel_rfl)
    have HE := hide (below_one w (.cells #[] 9))
    have o0 : Hid (World.ownsRow (w.alloc (.cells #[] 9)) w.heap.size 9 1 (.slice (some ⟨w.heap.size, 0, none⟩) 0 0) 0 []) := ⟨rfl, .inr ⟨w.heap.size, 0, #[], rfl, Nat.le_refl _, heap_alloc_new w _, Nat.le_refl _, by omega, rfl, rfl⟩⟩
    have hcell := hide (hv.to HE.out).cells
    have HFL := hide (show (flatS ls).length = ls.length * 1 by rw [flatS_len, Nat.mul_one])
    clear hv
    go_enter Tryz.func28, Tryz.ntmps28
    go_wp2_with (at_builtin; refine wpList_append_own _ rfl (.tmp 5) (.tmp 6) _ rfl w.heap.size 9 i0 (.string ⟨#[]⟩) 1 16 Tryz.underlying22 hi0 hz0 hz1 hz2 rfl (by omega) _ 0 [] rfl o0.out a ls.length c (flatS ls) rfl HFL.out hcell.out ?c2 ?c4 ?c5 ?c3 ?_)
    case c2 =>
      intro u hu
      obtain ⟨x, _, rfl⟩ := List.mem_map.1 hu
      rfl
    case c4 => simp only [maxLen]; omega
    case c5 => omega
    case c3 => exact HE.out.size
    intro v' w6 hown6 hgr6 _
    have HB : Hid (Below w.heap.size w w6) := HE.out.grown hgr6 HE.out.size (fun b hb => (o0.out.lt b hb).1)
    have HO : Hid (OwnT w6 w.heap.size v' ls) := by
      show World.ownsRow _ _ _ _ _ _ _
      simpa using hown6
    clear hown6 hgr6
    go_wp2_with fail
    go_ret
    exact ⟨v', rfl, HO.out, HB.out⟩
end Go.Proofs.YtnjlefggkfagmaaGreatDoor

/- Walks of package tree: Path. -/
set_option linter.unusedVariables false
set_option linter.unusedSimpArgs false
namespace Go.Proofs.YtnjlefggkfagmaaGreatDoor
open Go.RowKit

def lenOf : Value → Nat
  | .slice _ n _ => n
  | _ => 0
theorem TextsAt.cap {w : World} {A : Option Addr} {n c : Nat} {ls : List (List UInt8)} (h : TextsAt w (.slice A n c) ls) : ls.length ≤ c := by
  obtain ⟨A', c', h1, h2, _⟩ := h
  injection h1 with _ _ h3
  subst h3
  simpa using h2
theorem pathF_one {f : Nat} {l : List (List UInt8)} {i : Nat} (h : l.length ≤ 1) : pathF f l i = [] := by
  cases f with
  | zero => rfl
  | succ f => unfold pathF; rw [if_pos h]
theorem pathF_lt {f : Nat} {l : List (List UInt8)} {i : Nat} (h : 2 ≤ l.length) (hi : i < halfN l.length) : pathF (f + 1) l i = totalT (l.drop (halfN l.length)) :: pathF f (l.take (halfN l.length)) i := by
  conv => lhs; unfold pathF
  rw [if_neg (by omega), if_pos hi]
theorem pathF_ge {f : Nat} {l : List (List UInt8)} {i : Nat} (h : 2 ≤ l.length) (hi : ¬ i < halfN l.length) : pathF (f + 1) l i = totalT (l.take (halfN l.length)) :: pathF f (l.drop (halfN l.length)) (i - halfN l.length) := by
  conv => lhs; unfold pathF
  rw [if_neg (by omega), if_neg hi]
theorem own_sl4 {w : World} {B : Nat} {e : TypeId} {s n : Nat} {v : Value} {xs : List Value} (h : w.ownsRow B e s v n xs) : ∃ A c, v = .slice A n c := by
  obtain ⟨_, h⟩ := h
  rcases h with ⟨hv, h0⟩ | ⟨g, cap, cur, hv, _⟩
  · exact ⟨none, 0, by rw [hv, h0]⟩
  · exact ⟨_, _, hv⟩
theorem own_blk4 {w : World} {B : Nat} {A : Option Addr} {n c : Nat} {xs : List Value} {e : TypeId} {s : Nat} (h : w.ownsRow B e s (.slice A n c) n xs) (hn : 0 < n) : ∃ g, A = some ⟨g, 0, none⟩ ∧ B ≤ g ∧ ∃ cur, Blk w g e cur ∧ n * s ≤ cur.size ∧ cur.toList.take (n * s) = xs := by
  obtain ⟨_, h⟩ := h
  rcases h with ⟨_, h0⟩ | ⟨g, cap, cur, hv, hB, hg, h1, h2, h3, h4⟩
  · omega
  · injection hv with e1 e2 e3
    exact ⟨g, e1, hB, cur, hg, by rw [h3]; exact Nat.mul_le_mul_right _ h1, h4⟩
theorem own_cell4 {w : World} {B g n c : Nat} {acc : List (List UInt8)} (h : OwnT w B (.slice (some ⟨g, 0, none⟩) n c) acc) {j : Nat} {x : List UInt8} (hx : acc[j]? = some x) : w.cell? ⟨g, j, none⟩ = some (.string (bs x)) := by
  obtain ⟨a, e, _, hc⟩ := (TextsAt.of_own h).at_ hx
  obtain rfl := Option.some.inj e
  rwa [show (⟨g, 0, none⟩ : Addr).add j = ⟨g, j, none⟩ by unfold Addr.add; split <;> simp_all] at hc
theorem below_setCells {B g : Nat} {w : World} (hg : B ≤ g) (q o : Nat) (vs : List Value) : Below B w ((w.drewN q).setCells g o vs) := by
  have : ∀ (vs : List Value) (o : Nat) (w' : World), Below B w w' → Below B w (w'.setCells g o vs) := by
    intro vs
    induction vs with
    | nil => intro o w' h; exact h
    | cons u r ih => intro o w' h; exact ih _ _ (h.setCell (p := ⟨g, o, none⟩) hg u)
  exact this vs o _ (below_drewN (Below.refl _ _) q)
theorem rev_texts {w : World} {B g n c : Nat} {acc : List (List UInt8)} (h : OwnT w B (.slice (some ⟨g, 0, none⟩) n c) acc) (q : Nat) : TextsAt ((w.drewN q).setCells g 0 ((Lib.strsOf (fun j => bs (acc.getD j [])) acc.length).reverse.map encStr)) (.slice (some ⟨g, 0, none⟩) n c) acc.reverse := by
  have hs : Lib.strsOf (fun j => bs (acc.getD j [])) acc.length = acc := by
    unfold Lib.strsOf
    apply List.ext_getElem
    · simp
    · intro i h1 h2
      simp [List.getD_eq_getElem?_getD, List.getElem?_eq_getElem h2, bs]
  have hm : (Lib.strsOf (fun j => bs (acc.getD j [])) acc.length).reverse.map encStr = flatS acc.reverse := by
    rw [hs]
    rfl
  rw [hm]
  have hn : n = acc.length := by
    obtain ⟨_, h⟩ := h
    rcases h with ⟨h0, _⟩ | ⟨g', cap, cur, hv, _⟩
    · cases h0
    · injection hv
  obtain ⟨A, c', h1, hcap, _, _⟩ := TextsAt.of_own h
  injection h1 with _ _ h1c
  subst h1c
  have hold : ∀ j, j < (flatS acc.reverse).length → ((w.drewN q).cell? ⟨g, 0 + j, none⟩).isSome = true := fun j hj => by
    rw [flatS_len, List.length_reverse] at hj
    rw [Nat.zero_add]
    have := own_cell4 h (List.getElem?_eq_getElem hj)
    rw [World.cell?_drewN, this]
    rfl
  refine ⟨some ⟨g, 0, none⟩, c, by rw [List.length_map, List.length_reverse, hn], by rw [List.length_map, List.length_reverse]; simpa using hcap, by simp [strV], fun k x hx => ?_⟩
  rw [List.getElem?_map, Option.map_eq_some_iff] at hx
  obtain ⟨y, hy, rfl⟩ := hx
  have hk : k < acc.reverse.length := (List.getElem?_eq_some_iff.1 hy).1
  have hk' : k < (flatS acc.reverse).length := by rw [flatS_len]; exact hk
  have hc := World.cell?_setCells_in g (flatS acc.reverse) 0 (w.drewN q) hold k hk'
  rw [Nat.zero_add] at hc
  have he : (flatS acc.reverse)[k] = .string (bs y) := by
    have h5 : (flatS acc.reverse)[k]? = some (.string (bs y)) := by unfold flatS; rw [List.getElem?_map, hy]; rfl
    rw [List.getElem?_eq_getElem hk'] at h5
    exact Option.some.inj h5
  rw [he] at hc
  have hlt : g < ((w.drewN q).setCells g 0 (flatS acc.reverse)).heap.size := World.block_lt_of_cell? _ ⟨g, k, none⟩ hc
  refine ⟨⟨g, 0, none⟩, rfl, hlt, fun j u hu => ?_⟩
  have hj : j = 0 := by
    rcases Nat.eq_zero_or_pos j with hz | hz
    · exact hz
    · rw [List.getElem?_eq_none (by simp only [strV, List.length_cons, List.length_nil]; omega)] at hu; cases hu
  subst hj
  simp only [strV, List.getElem?_cons_zero, Option.some.injEq] at hu
  subst hu
  rw [show ((⟨g, 0, none⟩ : Addr).add (k * 1)).add 0 = ⟨g, k, none⟩ by rw [add_of_add, Nat.add_zero, Nat.mul_one]; unfold Addr.add; split <;> simp_all]
  exact hc
theorem flatS_snoc (l : List (List UInt8)) (x : List UInt8) : flatS (l ++ [x]) = flatS l ++ [.string (bs x)] := by simp [flatS]
structure PaI (ls : List (List UInt8)) (i : Nat) (w : World) (t0 t6 : Value) (ik : Nat) (wr : World) (lk : List (List UInt8)) (f : Nat) (acc : List (List UInt8)) : Prop where
  at_ : TextsAt w t0 lk
  fit : ∀ x ∈ lk, x.length ≤ 100000000000
  path : acc ++ pathF f lk ik = pathF ls.length ls i
  own : OwnT wr w.heap.size t6 acc
  below : Below w.heap.size w wr
def PathR (ls : List (List UInt8)) (i : Nat) (w : World) (e : Ending) (w' : World) : Prop := ∃ v', e = .returned (.tuple #[v', .int .i64 0]) ∧ TextsAt w' v' (pathV ls i) ∧ Below w.heap.size w w'
/-- .. and the path lies in an array of its own -/
def PathO (ls : List (List UInt8)) (i : Nat) (w : World) (e : Ending) (w' : World) : Prop := ∃ v', e = .returned (.tuple #[v', .int .i64 0]) ∧ TextsAt w' v' (pathV ls i) ∧ Below w.heap.size w w' ∧ ∀ g, v'.ownBlock = some g → w.heap.size ≤ g ∧ g < w'.heap.size
set_option maxRecDepth 100000 in
set_option maxHeartbeats 600000 in
theorem Path_own (ls : List (List UInt8)) (hl : ls.length ≤ 1000000000) (hp : properT ls = true) (hx : ∀ x ∈ ls, x.length ≤ 100000000000) (i : Nat) (hi : i < ls.length) (v : Value) (w : World) (hv : TextsAt w v ls) (hg : Glob w) :
    Calls Tryz.prog 29 #[v, .int .i64 (i : Int)] w (PathO ls i w) := by
  have CP := tproper_any ls (by omega) hx v w hv
  rw [hp] at CP
  obtain ⟨i0, hi0, hz0, hz1, hz2⟩ := info_parts (show (Tryz.prog.info? 9).map (fun i => (i.zero, i.size, i.bytes)) = some (some (.string ⟨#[]⟩), 1, 16) by kernel_rfl)
  have HS0 := hide hv
  have HX0 := hide hx
  have HG := hide hg
  obtain ⟨A0, c0, rfl, _⟩ := hv.slice
  have q0 : decide ((i : Int) < 0) = false := decide_eq_false (by omega)
  have q1 : decide (ls.length ≤ i) = false := decide_eq_false (by omega)
  have q2 : ¬ ls.length ≤ i := by omega
  clear hv hx hg hp
  go_enter Tryz.func29, Tryz.ntmps29
  go_wp2_with fail
  refine CP.mono ?_
  rintro e w1 ⟨rfl, hb⟩
  have HB1 := hide hb
  have HS1 := hide (HS0.out.to hb)
  clear hb CP HS0
  go_wp2_with fail
  go_loopw [0, 1, 6, 7] (fun t0 t1 t6 _ wr => ∃ (lk : List (List UInt8)) (ik f : Nat) (acc : List (List UInt8)), t1 = .int .i64 (ik : Int) ∧ (∃ A c, t0 = .slice A lk.length c) ∧ (ik < lk.length ∧ lk.length ≤ ls.length ∧ lk.length ≤ f ∧ acc.length + lk.length ≤ ls.length) ∧ Aside (PaI ls i w1 t0 t6 ik wr lk f acc)) (fun t0 _ _ _ _ => lenOf t0)
  case atStart => exact ⟨ls, i, ls.length, [], rfl, ⟨_, _, rfl⟩, ⟨hi, Nat.le_refl _, Nat.le_refl _, by simp⟩, ⟨HS1.out, HX0.out, rfl, World.ownsRow_nil _ _ _ _, Below.refl _ _⟩⟩
  case round =>
    obtain ⟨lk, ik, f, acc, rfl, ⟨A, c, rfl⟩, ⟨h1, h2, h3, h4⟩, hI⟩ := hrel
    have HI : Hid (PaI ls i w1 (.slice A lk.length c) _ ik wr lk f acc) := hI
    clear hI
    by_cases hlt : 2 ≤ lk.length
    · have e1 : decide ((1 : Int) < (lk.length : Int)) = true := decide_eq_true (by omega)
      obtain ⟨f', rfl⟩ : ∃ f', f = f' + 1 := ⟨f - 1, by omega⟩
      have hh := half_lt hlt
      have CH := fun w => half_any lk.length (by omega) w
      obtain ⟨x0, hx0⟩ : ∃ x, lk[0]? = some x := ⟨_, List.getElem?_eq_getElem (by omega)⟩
      obtain ⟨a, rfl, ha, _⟩ := HI.out.at_.at_ hx0
      have hcap := HI.out.at_.cap
      have HPL := fun h : ik < halfN lk.length => pathF_lt (f := f') hlt h
      have HPG := fun h : ¬ ik < halfN lk.length => pathF_ge (f := f') hlt h
      clear hx0
      generalize hk : halfN lk.length = k at *
      clear hk
      have CT1 := total_any (lk.drop k) (by rw [List.length_drop]; omega) (fun x h => HI.out.fit x (List.mem_of_mem_drop h)) _ wr ((HI.out.at_.drop (k := k) (by omega) (c - k) (by omega)).to HI.out.below) (HG.out.to HB1.out |>.to HI.out.below)
      have CT2 := total_any (lk.take k) (by rw [List.length_take]; omega) (fun x h => HI.out.fit x (List.mem_of_mem_take h)) _ wr ((HI.out.at_.take (k := k) (by omega) c (by omega)).to HI.out.below) (HG.out.to HB1.out |>.to HI.out.below)
      have k1 : (k : Int) ≤ (c : Int) := by omega
      have k0 : (0 : Int) ≤ (k : Int) := by omega
      have k2 : (k : Int) ≤ (lk.length : Int) := by omega
      have k3 : ((k : Int) == (c : Int)) = false := by rw [beq_eq_false_iff_ne]; omega
      have k4 : k ≠ c := by omega
      have k5 : k ≤ lk.length := by omega
      have k6 : k ≤ c := by omega
      by_cases hik : ik < k
      · have e2 : decide ((ik : Int) < (k : Int)) = true := decide_eq_true (by omega)
        have HP := hide (HPL hik)
        clear HPL HPG CT2
        generalize totalT (lk.drop k) = d at *
        go_wp2_with ((with_reducible refine (CH _).mono ?_); rintro e w' ⟨rfl, rfl⟩)
        refine CT1.mono ?_
        rintro e w4 ⟨rfl, hb4⟩
        have HB4 := hide (below_to HI.out.below (Nat.le_refl _) hb4)
        have HO4 := hide (own_to4 HI.out.own hb4)
        have HSZ : Hid (w1.heap.size ≤ w4.heap.size) := HB4.out.size
        have HACC : acc.length ≤ 1000000000 := by omega
        clear hb4 CT1
        go_wp2_with (at_builtin; refine wpList_append_own _ rfl (.tmp 30) (.tmp 35) _ rfl w1.heap.size 9 i0 (.string ⟨#[]⟩) 1 16 Tryz.underlying22 hi0 hz0 hz1 hz2 rfl (by omega) _ acc.length (flatS acc) rfl ?c0 ⟨_, 0, none⟩ 1 1 [.string (bs d)] rfl rfl ?c1 ?c2 ?c4 ?c5 ?c3 ?_)
        case c0 => exact own_to4 HO4.out (below_one _ _)
        case c1 => exact cells_new4 (xs := [.string (bs d)]) (by simp)
        case c2 => intro u hu; simp only [List.mem_cons, List.not_mem_nil, or_false] at hu; rcases hu with rfl; rfl
        case c4 => simp only [maxLen]; omega
        case c5 => omega
        case c3 => have := HSZ.out; simp; omega
        intro v' w6 hown6 hgr6 _
        have HB6 := hide ((below_alloc HB4.out (Nat.le_refl _) _).grown hgr6 (by have := HSZ.out; simp; omega) (fun b hb => (HO4.out.lt b hb).1))
        have HO6 : Hid (OwnT w6 w1.heap.size v' (acc ++ [d])) := by
          show World.ownsRow _ _ _ _ _ _ _
          rw [flatS_snoc, List.length_append]
          exact hown6
        have HS6 : Hid (TextsAt w1 (.slice (some a) k c) (lk.take k)) := HI.out.at_.take k5 c k6
        clear hown6 hgr6
        go_wp2_with fail
        refine ⟨⟨lk.take k, ik, f', acc ++ [d], rfl, ⟨_, _, by rw [List.length_take, Nat.min_eq_left k5]⟩, ⟨by rw [List.length_take]; omega, by rw [List.length_take]; omega, by rw [List.length_take]; omega, by rw [List.length_append, List.length_take, List.length_cons, List.length_nil]; omega⟩, ⟨HS6.out, fun x h => HI.out.fit x (List.mem_of_mem_take h), by rw [List.append_assoc, List.singleton_append, ← HP.out]; exact HI.out.path, HO6.out, HB6.out⟩⟩, ?_⟩
        show k < lk.length
        omega
      · have e2 : decide ((ik : Int) < (k : Int)) = false := decide_eq_false (by omega)
        have HP := hide (HPG hik)
        clear HPL HPG CT1
        generalize totalT (lk.take k) = d at *
        go_wp2_with ((with_reducible refine (CH _).mono ?_); rintro e w' ⟨rfl, rfl⟩)
        refine CT2.mono ?_
        rintro e w4 ⟨rfl, hb4⟩
        have HB4 := hide (below_to HI.out.below (Nat.le_refl _) hb4)
        have HO4 := hide (own_to4 HI.out.own hb4)
        have HSZ : Hid (w1.heap.size ≤ w4.heap.size) := HB4.out.size
        have HACC : acc.length ≤ 1000000000 := by omega
        clear hb4 CT2
        go_wp2_with (at_builtin; refine wpList_append_own _ rfl (.tmp 40) (.tmp 45) _ rfl w1.heap.size 9 i0 (.string ⟨#[]⟩) 1 16 Tryz.underlying22 hi0 hz0 hz1 hz2 rfl (by omega) _ acc.length (flatS acc) rfl ?c0 ⟨_, 0, none⟩ 1 1 [.string (bs d)] rfl rfl ?c1 ?c2 ?c4 ?c5 ?c3 ?_)
        case c0 => exact own_to4 HO4.out (below_one _ _)
        case c1 => exact cells_new4 (xs := [.string (bs d)]) (by simp)
        case c2 => intro u hu; simp only [List.mem_cons, List.not_mem_nil, or_false] at hu; rcases hu with rfl; rfl
        case c4 => simp only [maxLen]; omega
        case c5 => omega
        case c3 => have := HSZ.out; simp; omega
        intro v' w6 hown6 hgr6 _
        have HB6 := hide ((below_alloc HB4.out (Nat.le_refl _) _).grown hgr6 (by have := HSZ.out; simp; omega) (fun b hb => (HO4.out.lt b hb).1))
        have HO6 : Hid (OwnT w6 w1.heap.size v' (acc ++ [d])) := by
          show World.ownsRow _ _ _ _ _ _ _
          rw [flatS_snoc, List.length_append]
          exact hown6
        have HS6 : Hid (TextsAt w1 (.slice (some (a.add k)) (lk.length - k) (c - k)) (lk.drop k)) := HI.out.at_.drop k5 (c - k) (by omega)
        clear hown6 hgr6
        go_wp2_with fail
        refine ⟨⟨lk.drop k, ik - k, f', acc ++ [d], by rw [show ((ik - k : Nat) : Int) = (ik : Int) - (k : Int) by omega], ⟨_, _, by rw [List.length_drop]⟩, ⟨by rw [List.length_drop]; omega, by rw [List.length_drop]; omega, by rw [List.length_drop]; omega, by rw [List.length_append, List.length_drop, List.length_cons, List.length_nil]; omega⟩, ⟨HS6.out, fun x h => HI.out.fit x (List.mem_of_mem_drop h), by rw [List.append_assoc, List.singleton_append, ← HP.out]; exact HI.out.path, HO6.out, HB6.out⟩⟩, ?_⟩
        show lk.length - k < lk.length
        omega
    · have e1 : decide ((1 : Int) < (lk.length : Int)) = false := decide_eq_false (by omega)
      have HPN : Hid (acc = pathF ls.length ls i) := by
        have := HI.out.path
        rw [pathF_one (by omega), List.append_nil] at this
        exact this
      have HO := hide HI.out.own
      obtain ⟨A2, c2, rfl⟩ := own_sl4 HI.out.own
      go_wp2_with fail
      cases hacc : acc with
      | nil =>
        rw [hacc] at HO HPN
        have CR : Calls Tryz.prog 72 #[.slice A2 ([] : List (List UInt8)).length c2] wr fun e w' => e = .returned (.tuple #[]) ∧ w' = wr := Tryz.slices_Reverse_string_empty A2 c2 wr
        refine CR.mono ?_
        rintro e w8 ⟨rfl, rfl⟩
        go_wp2_with fail
        go_ret2
        exact ⟨_, rfl, TextsAt.of_own (B := w1.heap.size) (by unfold pathV; rw [← HPN.out]; exact HO.out), below_to HB1.out (Nat.le_refl _) HI.out.below, fun g e => ⟨Nat.le_trans HB1.out.size (HO.out.lt g e).1, (HO.out.lt g e).2⟩⟩
      | cons x r =>
        rw [← hacc]
        have hne : 0 < acc.length := by rw [hacc]; simp
        clear hacc
        obtain ⟨g, rfl, hgB, cur, hblk, hcap2, htake⟩ := own_blk4 HO.out hne
        have hal : acc.length ≤ 1000000000 := by omega
        have CR := Tryz.slices_Reverse_string_cells g 0 acc.length c2 (fun j => bs (acc.getD j [])) wr (by omega) (fun j hj => by
          rw [Nat.zero_add]
          exact own_cell4 HO.out (by rw [List.getD_eq_getElem?_getD, List.getElem?_eq_getElem hj]; rfl)) (fun j hj => hblk.frozen _)
        refine CR.mono ?_
        rintro e w8 ⟨rfl, q, rfl⟩
        have HRV := hide (rev_texts HO.out q)
        have HBR : Hid (Below w1.heap.size wr ((wr.drewN q).setCells g 0 ((Lib.strsOf (fun j => bs (acc.getD j [])) acc.length).reverse.map encStr))) := below_setCells hgB _ _ _
        clear CR
        generalize (wr.drewN q).setCells g 0 ((Lib.strsOf (fun j => bs (acc.getD j [])) acc.length).reverse.map encStr) = w9 at *
        go_wp2_with fail
        go_ret2
        exact ⟨_, rfl, by unfold pathV; rw [← HPN.out]; exact HRV.out, below_to HB1.out (Nat.le_refl _) (HI.out.below.trans HBR.out), fun g' e => by cases e; exact ⟨Nat.le_trans HB1.out.size hgB, Nat.lt_of_lt_of_le hblk.lt HBR.out.size⟩⟩
end Go.Proofs.YtnjlefggkfagmaaGreatDoor

/- Worlds that differ at one block; rows under a store elsewhere. -/
set_option linter.unusedVariables false
set_option linter.unusedSimpArgs false
namespace Go.Proofs.YtnjlefggkfagmaaGreatDoor
open Go.RowKit

theorem RowsAt.store {w : World} {size : Nat} {A : Option Addr} {n c : Nat} {ls : List (List Value)} (h : RowsAt w size (.slice A n c) ls) {p : Addr} (hp : ∀ a, A = some a → a.block ≠ p.block) (u : Value) : RowsAt (w.setCell p u) size (.slice A n c) ls := by
  obtain ⟨A', c', h1, h2, h3, h4⟩ := h
  have e := h1
  injection e with e1 e2 e3
  subst e1
  refine ⟨A, c', h1, h2, h3, fun k x hx => ?_⟩
  obtain ⟨a, ha, hl, hc⟩ := h4 k x hx
  refine ⟨a, ha, by simpa [World.setCell] using hl, fun j v hv => ?_⟩
  rw [World.cell?_setCell_other _ _ _ _ (fun h => hp a ha (by rw [h, block_of_add, block_of_add]))]
  exact hc j v hv
/-- all is as it was but for the blocks p and q -/
structure Two (p q : Nat) (w w' : World) : Prop where
  os : w'.os = w.os
  tape : w'.tape = w.tape
  output : w'.output = w.output
  size : w.heap.size ≤ w'.heap.size
  block : ∀ k, k < w.heap.size → k ≠ p → k ≠ q → w'.heap[k]? = w.heap[k]?
section
variable {p q : Nat} {a w w' : World}
theorem Two.refl (p q : Nat) (w : World) : Two p q w w := ⟨rfl, rfl, rfl, Nat.le_refl _, fun _ _ _ _ => rfl⟩
theorem Two.trans {b c : World} (h : Two p q a b) (k : Two p q b c) : Two p q a c := ⟨k.os.trans h.os, k.tape.trans h.tape, k.output.trans h.output, Nat.le_trans h.size k.size, fun i hi h1 h2 => (k.block i (Nat.lt_of_lt_of_le hi h.size) h1 h2).trans (h.block i hi h1 h2)⟩
theorem Two.of (h : Below w.heap.size w w') : Two p q w w' := ⟨h.os, h.tape, h.output, h.size, fun k hk _ _ => h.block k hk⟩
theorem Two.to {w2 : World} (h : Two p q w w') (h' : Below w'.heap.size w' w2) : Two p q w w2 := h.trans (Two.of h')
theorem Two.set1 (h : Two p q a w) (i : Nat) (u : Value) : Two p q a (w.setCell ⟨p, i, none⟩ u) := h.trans ⟨rfl, rfl, rfl, by simp [World.setCell], fun k hk h1 _ => Below.heap_setCell _ _ _ _ h1⟩
theorem Two.set2 (h : Two p q a w) (i : Nat) (u : Value) : Two p q a (w.setCell ⟨q, i, none⟩ u) := h.trans ⟨rfl, rfl, rfl, by simp [World.setCell], fun k hk _ h2 => Below.heap_setCell _ _ _ _ h2⟩
theorem Two.drewN (h : Two p q a w) (n : Nat) : Two p q a (w.drewN n) := ⟨h.os, h.tape, h.output, h.size, h.block⟩
theorem Two.blk {g : Nat} {t : TypeId} {cs : Array Value} (H : Blk w g t cs) (hb : Two p q w w') (h1 : g ≠ p) (h2 : g ≠ q) : Blk w' g t cs := (hb.block g H.lt h1 h2).trans H
theorem Two.further (h : Two p q a w) (hb : Below a.heap.size w w') : Two p q a w' := ⟨hb.os.trans h.os, hb.tape.trans h.tape, hb.output.trans h.output, Nat.le_trans h.size hb.size, fun k hk h1 h2 => (hb.block k hk).trans (h.block k hk h1 h2)⟩
theorem Two.below {B : Nat} (h : Two p q w w') (hB : B ≤ w.heap.size) (h1 : B ≤ p) (h2 : B ≤ q) : Below B w w' := ⟨h.os, h.tape, h.output, h.size, fun k hk => h.block k (by omega) (by omega) (by omega)⟩
end
end Go.Proofs.YtnjlefggkfagmaaGreatDoor

/- Walks of package tree: the proof's digests, taken one by one. -/
set_option linter.unusedVariables false
set_option linter.unusedSimpArgs false
namespace Go.Proofs.YtnjlefggkfagmaaGreatDoor
open Go.RowKit

/-- the digests that are left, the next one first; whether one was missing -/
structure PS (bl bpf : Nat) (st : List (List UInt8)) (sh : Bool) (w : World) : Prop where
  row : ∃ A n c, Blk w bl 99 #[.slice A n c] ∧ TextsAt w (.slice A n c) st.reverse ∧ ∀ a, A = some a → a.block ≠ bl ∧ a.block ≠ bpf
  prf : Blk w bpf 115 #[.pointer (some ⟨bl, 0, none⟩), .bool sh]
  ne : bl ≠ bpf
theorem PS.to {bl bpf : Nat} {st : List (List UInt8)} {sh : Bool} {w w' : World} (h : PS bl bpf st sh w) (hb : Below w.heap.size w w') : PS bl bpf st sh w' := by
  obtain ⟨A, n, c, h1, h2, h3⟩ := h.row
  exact ⟨⟨A, n, c, h1.to hb, h2.to hb, h3⟩, h.prf.to hb, h.ne⟩
set_option maxRecDepth 100000 in
set_option maxHeartbeats 1000000 in
theorem ppop_any (bl bpf : Nat) (st : List (List UInt8)) (hst : st.length ≤ 1000000000) (sh : Bool) (w : World) (hS : PS bl bpf st sh w) :
    Calls Tryz.prog 108 #[.pointer (some ⟨bl, 0, none⟩)] w fun e w' => e = .returned (.string (bs (st.headD []))) ∧ PS bl bpf st.tail sh w' ∧ Two bl bpf w w' := by
  obtain ⟨A, n, c, hb, ht, hfar⟩ := hS.row
  have HP := hide hS.prf
  have HN := hide hS.ne
  have HB := hide hb
  have HT := hide ht
  have HF := hide hfar
  have c0 := (hb.cell 0).trans rfl
  have f0 := hb.frozen 0
  obtain rfl : n = st.length := by
    obtain ⟨A', c', h⟩ := ht.slice
    have := h.1
    injection this with _ h2 _
    rw [h2, List.length_reverse]
  cases st with
  | nil =>
    clear hS hb ht hfar
    go_enter Tryz.func108, Tryz.ntmps108
    go_wp2_with fail
    go_ret
    exact ⟨rfl, ⟨⟨A, _, c, HB.out, HT.out, HF.out⟩, HP.out, HN.out⟩, Two.refl _ _ _⟩
  | cons d r =>
    have hm : (d :: r).length = r.length + 1 := rfl
    rw [hm] at HB HT c0
    have hcap := HT.out.cap
    rw [List.length_reverse] at hcap
    have hat : (d :: r).reverse[r.length]? = some d := by rw [List.reverse_cons, List.getElem?_append_right (by rw [List.length_reverse]; exact Nat.le_refl _), List.length_reverse, Nat.sub_self]; rfl
    obtain ⟨a, rfl, ha, cd⟩ := HT.out.at_ hat
    have HT2 : Hid (TextsAt w (.slice (some a) r.length c) r.reverse) := by
      have := HT.out.take (k := r.length) (by rw [List.length_reverse]; exact Nat.le_succ _) c (by omega)
      rw [List.reverse_cons, List.take_append_of_le_length (by rw [List.length_reverse]; exact Nat.le_refl _), List.take_of_length_le (by rw [List.length_reverse]; exact Nat.le_refl _)] at this
      exact this
    have hc1 : r.length + 1 ≤ c := hcap
    have hl : r.length ≤ 1000000000 := by omega
    clear hS hb ht hfar hat hm hcap hst
    generalize r.length = m at *
    have z1 : IntKind.i64.wrap ((m : Int) + 1 - 1) = (m : Int) := by rw [IntWalk.i64_in _ (by omega)]; omega
    have z2 : IntKind.i64.wrap (((m + 1 : Nat) : Int) - 1) = (m : Int) := by rw [IntWalk.i64_in _ (by omega)]; omega
    have i0 : (0 : Int) ≤ (m : Int) := by omega
    have i1 : (m : Int) < ((m + 1 : Nat) : Int) := by omega
    have i2 : (m : Int) ≤ (c : Int) := by omega
    go_enter Tryz.func108, Tryz.ntmps108
    go_wp2_with fail
    go_quiet (fail)
    go_wp2_with fail
    go_region
    go_wp2_with fail
    go_ret
    refine ⟨rfl, ⟨⟨some a, m, c, (HB.out.drewN _).set_ 0 _, ?_, HF.out⟩, (HP.out.drewN _).far (Ne.symm HN.out) _, HN.out⟩, ((Two.refl _ _ _).drewN _).set1 0 _⟩
    exact RowsAt.store (p := ⟨bl, 0, none⟩) (RowsAt.to HT2.out (below_drewN (Below.refl _ _) _)) (fun a' h => (HF.out a' h).1) _
def nextS (st : List (List UInt8)) (sh : Bool) : Bool := sh || (st.headD []).isEmpty
set_option maxRecDepth 100000 in
set_option maxHeartbeats 1000000 in
theorem pnext_any (bl bpf : Nat) (st : List (List UInt8)) (hst : st.length ≤ 1000000000) (sh : Bool) (w : World) (hS : PS bl bpf st sh w) :
    Calls Tryz.prog 76 #[.pointer (some ⟨bpf, 0, none⟩)] w fun e w' => e = .returned (.string (bs (st.headD []))) ∧ PS bl bpf st.tail (nextS st sh) w' ∧ Two bl bpf w w' := by
  have CP := ppop_any bl bpf st hst sh w hS
  have c0 := (hS.prf.cell 0).trans rfl
  have HV : Hid (nextS st sh = (sh || (st.headD []).isEmpty)) := rfl
  clear hS
  generalize st.headD [] = d at *
  go_enter Tryz.func76, Tryz.ntmps76
  go_wp2_with fail
  refine CP.mono ?_
  rintro e w2 ⟨rfl, hS2, hb⟩
  obtain ⟨A, n, c, hb1, ht, hfar⟩ := hS2.row
  have HB1 := hide hb1
  have HT := hide ht
  have HF := hide hfar
  have HP := hide hS2.prf
  have HN := hide hS2.ne
  have HW := hide hb
  have d0 := (HP.out.cell 0).trans rfl
  have d1 := (HP.out.cell 1).trans rfl
  have f1 := HP.out.frozen 1
  have fin : ∀ b : Bool, Hid (nextS st sh = b) → Hid (PS bl bpf st.tail (nextS st sh) (w2.setCell ⟨bpf, 1, none⟩ (.bool b)) ∧ Two bl bpf w (w2.setCell ⟨bpf, 1, none⟩ (.bool b))) := fun b hv => by
    rw [hv.out]
    exact ⟨⟨⟨A, n, c, HB1.out.far HN.out _, RowsAt.store (p := ⟨bpf, 1, none⟩) HT.out (fun a' h => (HF.out a' h).2) _, HF.out⟩, HP.out.set_ 1 _, HN.out⟩, HW.out.set2 1 _⟩
  clear hS2 hb1 ht hfar hb CP c0
  cases hs : sh with
  | true =>
    have FN := fin true (by show _ = _; rw [HV.out, hs]; rfl)
    rw [hs] at d1
    clear fin hs HV
    go_wp2_with fail
    go_ret
    exact ⟨rfl, FN.out.1, FN.out.2⟩
  | false =>
    cases he : d.isEmpty with
    | true =>
      have e1 : (bs d).toList.isEmpty = true := by rw [bs_toList]; exact he
      have FN := fin true (by show _ = _; rw [HV.out, hs, he]; rfl)
      rw [hs] at d1
      clear fin hs HV he
      go_wp2_with fail
      go_ret
      exact ⟨rfl, FN.out.1, FN.out.2⟩
    | false =>
      have e1 : (bs d).toList.isEmpty = false := by rw [bs_toList]; exact he
      have FN := fin false (by show _ = _; rw [HV.out, hs, he]; rfl)
      rw [hs] at d1
      clear fin hs HV he
      go_wp2_with fail
      go_ret
      exact ⟨rfl, FN.out.1, FN.out.2⟩
set_option maxRecDepth 100000 in
set_option maxHeartbeats 1000000 in
theorem pdone_any (bl bpf : Nat) (st : List (List UInt8)) (sh : Bool) (w : World) (hS : PS bl bpf st sh w) :
    Calls Tryz.prog 78 #[.pointer (some ⟨bpf, 0, none⟩)] w fun e w' => e = .returned (.bool (!sh && st.isEmpty)) ∧ w' = w := by
  obtain ⟨A, n, c, hb1, ht, hfar⟩ := hS.row
  have c0 := (hS.prf.cell 0).trans rfl
  have c1 := (hS.prf.cell 1).trans rfl
  have b0 := (hb1.cell 0).trans rfl
  obtain rfl : n = st.length := by
    obtain ⟨A', c', h⟩ := ht.slice
    have := h.1
    injection this with _ h2 _
    rw [h2, List.length_reverse]
  clear hS hb1 ht hfar
  cases sh with
  | true =>
    go_enter Tryz.func78, Tryz.ntmps78
    go_wp2_with fail
    go_ret
    exact ⟨rfl, rfl⟩
  | false =>
    cases st with
    | nil =>
      go_enter Tryz.func78, Tryz.ntmps78
      go_wp2_with fail
      go_ret
      exact ⟨rfl, rfl⟩
    | cons d r =>
      have e1 : (((d :: r).length : Int) == 0) = false := by rw [beq_eq_false_iff_ne, List.length_cons]; omega
      have e2 : ((r.length : Int) + 1 == 0) = false := by rw [beq_eq_false_iff_ne]; omega
      go_enter Tryz.func78, Tryz.ntmps78
      go_wp2_with fail
      go_ret
      exact ⟨rfl, rfl⟩
end Go.Proofs.YtnjlefggkfagmaaGreatDoor

/- Walks of package tree: Check. -/
set_option linter.unusedVariables false
set_option linter.unusedSimpArgs false
namespace Go.Proofs.YtnjlefggkfagmaaGreatDoor
open Go.RowKit

/-- what a proof's digests make of a leaf: the root, what is left, whether one was missing -/
def upG (leaf : List UInt8) : Nat → Nat → Nat → List (List UInt8) → Bool → List UInt8 × List (List UInt8) × Bool
  | 0, _, _, st, sh => (leaf, st, sh)
  | f + 1, n, i, st, sh => if n = 1 then (leaf, st, sh) else
    if i < halfN n then (nodeD (upG leaf f (halfN n) i st.tail (nextS st sh)).1 (st.headD []), (upG leaf f (halfN n) i st.tail (nextS st sh)).2)
    else (nodeD (st.headD []) (upG leaf f (n - halfN n) (i - halfN n) st.tail (nextS st sh)).1, (upG leaf f (n - halfN n) (i - halfN n) st.tail (nextS st sh)).2)
theorem upG_one (leaf : List UInt8) (f i : Nat) (st : List (List UInt8)) (sh : Bool) : upG leaf (f + 1) 1 i st sh = (leaf, st, sh) := by unfold upG; rw [if_pos rfl]
theorem upG_lt (leaf : List UInt8) {f n i : Nat} (hn : n ≠ 1) (hi : i < halfN n) (st : List (List UInt8)) (sh : Bool) : upG leaf (f + 1) n i st sh = (nodeD (upG leaf f (halfN n) i st.tail (nextS st sh)).1 (st.headD []), (upG leaf f (halfN n) i st.tail (nextS st sh)).2) := by
  conv => lhs; unfold upG
  rw [if_neg hn, if_pos hi]
theorem upG_ge (leaf : List UInt8) {f n i : Nat} (hn : n ≠ 1) (hi : ¬ i < halfN n) (st : List (List UInt8)) (sh : Bool) : upG leaf (f + 1) n i st sh = (nodeD (st.headD []) (upG leaf f (n - halfN n) (i - halfN n) st.tail (nextS st sh)).1, (upG leaf f (n - halfN n) (i - halfN n) st.tail (nextS st sh)).2) := by
  conv => lhs; unfold upG
  rw [if_neg hn, if_neg hi]
theorem nodeD_len (a b : List UInt8) : (nodeD a b).length = 16 := isD_len (listD_isD _)
theorem upG_len {leaf : List UInt8} (hl : leaf.length ≤ 100000000000) : ∀ (f n i : Nat) (st : List (List UInt8)) (sh : Bool), (upG leaf f n i st sh).1.length ≤ 100000000000
  | 0, n, i, st, sh => hl
  | f + 1, n, i, st, sh => by
    unfold upG
    split
    · exact hl
    · split
      · show (nodeD _ _).length ≤ _; rw [nodeD_len]; decide
      · show (nodeD _ _).length ≤ _; rw [nodeD_len]; decide
structure US (bl bpf bp bup bleaf : Nat) (leaf : List UInt8) (st : List (List UInt8)) (sh : Bool) (w : World) : Prop where
  ps : PS bl bpf st sh w
  p : Blk w bp 112 #[.pointer (some ⟨bpf, 0, none⟩)]
  up : Blk w bup 97 #[.func (.func 75) #[] #[.pointer (some ⟨bleaf, 0, none⟩), .pointer (some ⟨bp, 0, none⟩), .pointer (some ⟨bup, 0, none⟩)]]
  lf : Blk w bleaf 9 #[.string (bs leaf)]
  n1 : bp ≠ bl ∧ bp ≠ bpf ∧ bup ≠ bl ∧ bup ≠ bpf ∧ bleaf ≠ bl ∧ bleaf ≠ bpf
  gl : Tryz.prog.globals.size ≤ bl ∧ Tryz.prog.globals.size ≤ bpf
theorem US.to {bl bpf bp bup bleaf : Nat} {leaf : List UInt8} {st : List (List UInt8)} {sh : Bool} {w w' : World} (h : US bl bpf bp bup bleaf leaf st sh w) (hb : Below w.heap.size w w') : US bl bpf bp bup bleaf leaf st sh w' := ⟨h.ps.to hb, h.p.to hb, h.up.to hb, h.lf.to hb, h.n1, h.gl⟩
theorem US.two {bl bpf bp bup bleaf : Nat} {leaf : List UInt8} {st st' : List (List UInt8)} {sh sh' : Bool} {w w' : World} (h : US bl bpf bp bup bleaf leaf st sh w) (hb : Two bl bpf w w') (h' : PS bl bpf st' sh' w') : US bl bpf bp bup bleaf leaf st' sh' w' :=
  ⟨h', Two.blk h.p hb h.n1.1 h.n1.2.1, Two.blk h.up hb h.n1.2.2.1 h.n1.2.2.2.1, Two.blk h.lf hb h.n1.2.2.2.2.1 h.n1.2.2.2.2.2, h.n1, h.gl⟩
theorem Glob.two {p q : Nat} {w w' : World} (h : Glob w) (hb : Two p q w w') (h1 : Tryz.prog.globals.size ≤ p) (h2 : Tryz.prog.globals.size ≤ q) : Glob w' := h.belowB (hb.below h.top h1 h2) (Nat.le_refl _)
theorem ent_up : ∀ args w, (callFunc 75 args).run Tryz.prog w = .ok (.enter 75 args) w := enters_fn Tryz.func75 (by kernel_rfl) rfl
def UpOk (bl bpf bp bup bleaf : Nat) (leaf : List UInt8) (f : Nat) : Prop := ∀ (n i : Nat) (st : List (List UInt8)) (sh : Bool) (w : World), 1 ≤ n → n ≤ f → n ≤ 1000000 → i < n → st.length ≤ 1000000000 → (∀ d ∈ st, d.length ≤ 100000000000) →
  US bl bpf bp bup bleaf leaf st sh w → Glob w → Calls Tryz.prog 75 #[.int .i64 (n : Int), .int .i64 (i : Int), .pointer (some ⟨bleaf, 0, none⟩), .pointer (some ⟨bp, 0, none⟩), .pointer (some ⟨bup, 0, none⟩)] w
    fun e w' => e = .returned (.string (bs (upG leaf f n i st sh).1)) ∧ US bl bpf bp bup bleaf leaf (upG leaf f n i st sh).2.1 (upG leaf f n i st sh).2.2 w' ∧ Two bl bpf w w'
theorem head_le {st : List (List UInt8)} (h : ∀ d ∈ st, d.length ≤ 100000000000) : (st.headD []).length ≤ 100000000000 := by
  cases st with
  | nil => decide
  | cons d r => exact h d (by simp)
set_option maxRecDepth 100000 in
set_option maxHeartbeats 1000000 in
theorem up_step (bl bpf bp bup bleaf : Nat) (leaf : List UInt8) (hleaf : leaf.length ≤ 100000000000) (f : Nat) (ih : UpOk bl bpf bp bup bleaf leaf f) : UpOk bl bpf bp bup bleaf leaf (f + 1) := by
  intro n i st sh w h1 hf hn hi hst hd hS hg
  have hE := ent_up
  have HS := hide hS
  have l0 := (hS.lf.cell 0).trans rfl
  have p0 := (hS.p.cell 0).trans rfl
  clear hS
  by_cases hn1 : n = 1
  · subst hn1
    have HV := hide (upG_one leaf f i st sh)
    clear p0 ih
    go_enter Tryz.func75, Tryz.ntmps75
    go_wp2_with fail
    go_ret
    exact ⟨by rw [HV.out]; rfl, by rw [HV.out]; exact HS.out, Two.refl _ _ _⟩
  · have e1 : ((n : Int) == 1) = false := by rw [beq_eq_false_iff_ne]; omega
    have hh := half_lt (n := n) (by omega)
    have CH := fun w => half_any n (by omega) w
    have CX := fun w h => pnext_any bl bpf st hst sh w h
    have HVL := fun h : i < halfN n => upG_lt leaf (f := f) hn1 h st sh
    have HVG := fun h : ¬ i < halfN n => upG_ge leaf (f := f) hn1 h st sh
    have hd' : ∀ d ∈ st.tail, d.length ≤ 100000000000 := fun d h => hd d (List.mem_of_mem_tail h)
    have hst' : st.tail.length ≤ 1000000000 := by rw [List.length_tail]; omega
    have hhd := head_le hd
    have HG := hide hg
    generalize hk : halfN n = k at *
    generalize st.headD [] = d at *
    generalize st.tail = st' at *
    generalize nextS st sh = sh' at *
    clear hk
    obtain ⟨U, hU, g, u0, rfl, hgu, hi'⟩ := cls w
    have HGU := hide hgu
    have HHI := hide hi'
    have CHg : ∀ u, Calls Tryz.prog 71 #[.int .i64 (n : Int)] (g u) fun e w' => e = .returned (.int .i64 (k : Int)) ∧ ∃ u', w' = g u' := fun u => (CH (g u)).mono fun e w' ⟨he, hw⟩ => ⟨he, u, hw⟩
    have p1 : ∀ u, (g u).cell? ⟨bp, 0, none⟩ = some (.pointer (some ⟨bpf, 0, none⟩)) := fun u => ((HS.out.to (hgu u)).p.cell 0).trans rfl
    have z1 : IntKind.i64.wrap ((n : Int) - (k : Int)) = (n : Int) - (k : Int) := IntWalk.i64_in _ (by omega)
    clear hgu hi' CH p0 l0 hg
    go_enter Tryz.func75, Tryz.ntmps75
    go_wp2_with fail
    refine wp_region_class_tail g 3 (by kernel_rfl) (by kernel_rfl) (HHI.out _ (HGU.out _).drew) ?_
    simp only [List.take_succ_cons, List.take_zero, List.drop_succ_cons, List.drop_zero]
    repeat (go_big_quiet_step (with_reducible exact CHg _))
    refine wpQuiet_nil ?_
    intro w5 hw5
    obtain ⟨u, rfl⟩ := hw5
    go_wp2_with fail
    refine (CX (g u) (HS.out.to (HGU.out u)).ps).mono ?_
    rintro e w4 ⟨rfl, hps, htw⟩
    have HTW : Hid (Two bl bpf (g u0) w4) := (Two.of (HGU.out u)).trans htw
    have HS4 := hide (HS.out.two HTW.out hps)
    have HG4 : Hid (Glob w4) := HG.out.two HTW.out HS.out.gl.1 HS.out.gl.2
    clear hps htw CX CHg p1
    by_cases hik : i < k
    · have e2 : decide ((i : Int) < (k : Int)) = true := decide_eq_true (by omega)
      have HV := hide (HVL hik)
      have CU := ih k i st' sh' w4 (by omega) (by omega) (by omega) hik hst' hd' HS4.out HG4.out
      have hrl := upG_len hleaf f k i st' sh'
      have u0' := (HS4.out.up.cell 0).trans rfl
      clear ih HVL HVG
      generalize upG leaf f k i st' sh' = R at *
      go_wp2_with fail
      refine CU.mono ?_
      rintro e w6 ⟨rfl, hus, htw⟩
      have HTW6 : Hid (Two bl bpf (g u0) w6) := HTW.out.trans htw
      have HS6 := hide hus
      have CN := node_any R.1 d hrl hhd w6 (HG.out.two HTW6.out HS.out.gl.1 HS.out.gl.2)
      clear hus htw CU
      go_wp2_with ((with_reducible refine CN.mono ?_); rintro e w7 ⟨rfl, hb7⟩)
      go_ret
      exact ⟨by rw [HV.out]; rfl, by rw [HV.out]; exact HS6.out.to (by assumption), HTW6.out.to (by assumption)⟩
    · have e2 : decide ((i : Int) < (k : Int)) = false := decide_eq_false (by omega)
      have z2 : IntKind.i64.wrap ((i : Int) - (k : Int)) = (i : Int) - (k : Int) := IntWalk.i64_in _ (by omega)
      have HV := hide (HVG hik)
      have CU0 := ih (n - k) (i - k) st' sh' w4 (by omega) (by omega) (by omega) (by omega) hst' hd' HS4.out HG4.out
      rw [show ((n - k : Nat) : Int) = (n : Int) - (k : Int) by omega, show ((i - k : Nat) : Int) = (i : Int) - (k : Int) by omega] at CU0
      have hrl := upG_len hleaf f (n - k) (i - k) st' sh'
      have u0' := (HS4.out.up.cell 0).trans rfl
      clear ih HVL HVG
      generalize upG leaf f (n - k) (i - k) st' sh' = R at *
      go_wp2_with fail
      refine CU0.mono ?_
      rintro e w6 ⟨rfl, hus, htw⟩
      have HTW6 : Hid (Two bl bpf (g u0) w6) := HTW.out.trans htw
      have HS6 := hide hus
      have CN := node_any d R.1 hhd hrl w6 (HG.out.two HTW6.out HS.out.gl.1 HS.out.gl.2)
      clear hus htw CU0
      go_wp2_with ((with_reducible refine CN.mono ?_); rintro e w7 ⟨rfl, hb7⟩)
      go_ret
      exact ⟨by rw [HV.out]; rfl, by rw [HV.out]; exact HS6.out.to (by assumption), HTW6.out.to (by assumption)⟩
theorem up_any (bl bpf bp bup bleaf : Nat) (leaf : List UInt8) (hleaf : leaf.length ≤ 100000000000) : ∀ f, UpOk bl bpf bp bup bleaf leaf f
  | 0 => fun n i st sh w h1 h2 => by omega
  | f + 1 => up_step bl bpf bp bup bleaf leaf hleaf f (up_any bl bpf bp bup bleaf leaf hleaf f)
end Go.Proofs.YtnjlefggkfagmaaGreatDoor

/- Walks of package tree: Check. -/
set_option linter.unusedVariables false
set_option linter.unusedSimpArgs false
namespace Go.Proofs.YtnjlefggkfagmaaGreatDoor
open Go.RowKit

def upV (leaf : List UInt8) (n i : Nat) (path : List (List UInt8)) (root : List UInt8) : Bool := decide ((upG leaf n n i path.reverse false).1 = root) && (!(upG leaf n n i path.reverse false).2.2 && (upG leaf n n i path.reverse false).2.1.isEmpty)
def checkV (root : List UInt8) (n i : Int) (leaf : List UInt8) (path : List (List UInt8)) : Bool :=
  if n ≤ 1000000 ∧ 0 ≤ i ∧ i < n ∧ properT path = true ∧ isD leaf = true then upV leaf n.toNat i.toNat path root else false
set_option maxRecDepth 100000 in
set_option maxHeartbeats 2000000 in
theorem Check_any (root : List UInt8) (n i : Int) (leaf : List UInt8) (path : List (List UInt8)) (hleaf : leaf.length ≤ 100000000000) (hp : path.length ≤ 1000000000) (hx : ∀ x ∈ path, x.length ≤ 100000000000) (v : Value) (w : World) (hv : TextsAt w v path) (hg : Glob w) :
    Calls Tryz.prog 32 #[.string (bs root), .int .i64 n, .int .i64 i, .string (bs leaf), v] w fun e w' => e = .returned (.bool (checkV root n i leaf path)) ∧ Below w.heap.size w w' := by
  have HX := hide hx
  have HB0 := hide (below_one w (.cells #[.string (bs leaf)] 9))
  have KL0 := hide (Blk.new w 9 #[.string (bs leaf)])
  have KG0 := hide (hg.alloc (.cells #[.string (bs leaf)] 9))
  have hgt := hg.top
  have CC := Clone_any path hp v (w.alloc (.cells #[.string (bs leaf)] 9)) (RowsAt.to hv HB0.out)
  unfold CloneR at CC
  have hE := ent_up
  clear hv hg hx
  go_enter Tryz.func32, Tryz.ntmps32
  go_wp2_with fail
  have C1 := CC
  refine C1.mono ?_
  rintro e w1 ⟨v1, rfl, hKO, hb⟩
  have HB1 := hide (below_to HB0.out (Nat.le_refl _) hb)
  have KL1 := hide (KL0.out.to hb)
  have KG1 := hide (KG0.out.to hb)
  have KO1 := hide hKO
  clear hb C1 HB0 KL0 KG0 hKO
  have KR1 : Hid (TextsAt w1 v1 path) := TextsAt.of_own KO1.out
  obtain ⟨A1, k1, rfl, _⟩ := KR1.out.slice
  have KS : Hid (∀ a, A1 = some a → w.heap.size + 1 ≤ a.block ∧ a.block < w1.heap.size) := fun a h => by
    have h' := KO1.out.lt a.block (by rw [h]; rfl)
    have h'' : (w.alloc (.cells #[.string (bs leaf)] 9)).heap.size = w.heap.size + 1 := by simp
    rw [h''] at h'
    exact h'
  clear KO1
  have HLW : Hid (w.heap.size < w1.heap.size) := KL1.out.lt
  have KD2 := hide (Blk.new w1 99 #[.slice A1 path.length k1])
  have HB2 := hide (below_alloc HB1.out (Nat.le_refl _) (.cells #[.slice A1 path.length k1] 99))
  have KL2 := hide (KL1.out.to (below_one w1 (.cells #[.slice A1 path.length k1] 99)))
  have KG2 := hide (KG1.out.to (below_one w1 (.cells #[.slice A1 path.length k1] 99)))
  have KR2 := hide (KR1.out.to (below_one w1 (.cells #[.slice A1 path.length k1] 99)))
  clear HB1 KL1 KG1 KR1
  by_cases c1 : n ≤ 1000000
  · have e1 : decide (1000000 < n) = false := decide_eq_false (by omega)
    by_cases c2 : 0 ≤ i
    · have e2 : decide (i < 0) = false := decide_eq_false (by omega)
      by_cases c3 : i < n
      · have e3 : decide (n ≤ i) = false := decide_eq_false (by omega)
        obtain ⟨N, rfl⟩ : ∃ N : Nat, n = N := ⟨n.toNat, by omega⟩
        obtain ⟨I, rfl⟩ : ∃ I : Nat, i = I := ⟨i.toNat, by omega⟩
        have d0 := (KD2.out.cell 0).trans rfl
        have CP := tproper_any path (by omega) HX.out _ (w1.alloc (.cells #[.slice A1 path.length k1] 99)) KR2.out
        have e4 : decide ((N : Int) ≤ (I : Int)) = false := decide_eq_false (by omega)
        have e5 : decide ((I : Int) < 0) = false := decide_eq_false (by omega)
        have e6 : decide ((1000000 : Int) < (N : Int)) = false := decide_eq_false (by omega)
        have e7 : decide (N ≤ I) = false := decide_eq_false (by omega)
        clear e1 e2 e3
        go_wp2_with fail
        cases hpr : properT path with
        | false =>
          rw [hpr] at CP
          have C3 := CP
          refine C3.mono ?_
          rintro e w3 ⟨rfl, hb⟩
          have HB3 := hide (below_to HB2.out (Nat.le_refl _) hb)
          have KL3 := hide (KL2.out.to hb)
          have KG3 := hide (KG2.out.to hb)
          have KR3 := hide (KR2.out.to hb)
          have KD3 := hide (KD2.out.to hb)
          clear hb C3 HB2 KL2 KG2 KR2 KD2
          go_wp2_with fail
          go_ret
          exact ⟨ret_bool (by unfold checkV; rw [if_neg (fun h => by rw [hpr] at h; exact absurd h.2.2.2.1 (by simp))]), HB3.out⟩
        | true =>
          rw [hpr] at CP
          have C3 := CP
          refine C3.mono ?_
          rintro e w3 ⟨rfl, hb⟩
          have HB3 := hide (below_to HB2.out (Nat.le_refl _) hb)
          have KL3 := hide (KL2.out.to hb)
          have KG3 := hide (KG2.out.to hb)
          have KR3 := hide (KR2.out.to hb)
          have KD3 := hide (KD2.out.to hb)
          clear hb C3 HB2 KL2 KG2 KR2 KD2
          have l0 := (KL3.out.cell 0).trans rfl
          have d1 := (KD3.out.cell 0).trans rfl
          have CI := Is_any leaf (by omega) w3
          go_wp2_with fail
          cases hld : isD leaf with
          | false =>
            rw [hld] at CI
            have C4 := CI
            refine C4.mono ?_
            rintro e w4 ⟨rfl, hb⟩
            have HB4 := hide (below_to HB3.out (Nat.le_refl _) hb)
            have KL4 := hide (KL3.out.to hb)
            have KG4 := hide (KG3.out.to hb)
            have KR4 := hide (KR3.out.to hb)
            have KD4 := hide (KD3.out.to hb)
            clear hb C4 HB3 KL3 KG3 KR3 KD3
            go_wp2_with fail
            go_ret
            exact ⟨ret_bool (by unfold checkV; rw [if_neg (fun h => by rw [hld] at h; exact absurd h.2.2.2.2 (by simp))]), HB4.out⟩
          | true =>
            rw [hld] at CI
            have C4 := CI
            refine C4.mono ?_
            rintro e w4 ⟨rfl, hb⟩
            have HB4 := hide (below_to HB3.out (Nat.le_refl _) hb)
            have KL4 := hide (KL3.out.to hb)
            have KG4 := hide (KG3.out.to hb)
            have KR4 := hide (KR3.out.to hb)
            have KD4 := hide (KD3.out.to hb)
            clear hb C4 HB3 KL3 KG3 KR3 KD3
            have HV : Hid (checkV root (N : Int) (I : Int) leaf path = upV leaf N I path root) := by
              show _ = _
              unfold checkV
              rw [if_pos ⟨c1, c2, c3, hpr, hld⟩, Int.toNat_natCast, Int.toNat_natCast]
            go_wp2_with fail
            have s1 : (w4.alloc (.cells #[.pointer (some ⟨w1.heap.size, 0, none⟩), .bool false] 115)).heap.size = w4.heap.size + 1 := by simp
            have s2 : ((w4.alloc (.cells #[.pointer (some ⟨w1.heap.size, 0, none⟩), .bool false] 115)).alloc (.cells #[.pointer (some ⟨w4.heap.size, 0, none⟩)] 112)).heap.size = w4.heap.size + 1 + 1 := by simp
            have HBW : Hid (Below w4.heap.size w4 (((w4.alloc (.cells #[.pointer (some ⟨w1.heap.size, 0, none⟩), .bool false] 115)).alloc (.cells #[.pointer (some ⟨w4.heap.size, 0, none⟩)] 112)).alloc (.cells #[.func (.func 75) #[] #[.pointer (some ⟨w.heap.size, 0, none⟩), .pointer (some ⟨w4.heap.size + 1, 0, none⟩), .pointer (some ⟨w4.heap.size + 1 + 1, 0, none⟩)]] 97))) := below_alloc (below_two _ _ _) (Nat.le_refl _) _
            have HLT : Hid (w1.heap.size < w4.heap.size) := KD4.out.lt
            have HGT : Hid (Tryz.prog.globals.size ≤ w.heap.size) := hgt
            have HUS : Hid (US w1.heap.size w4.heap.size (w4.heap.size + 1) (w4.heap.size + 1 + 1) w.heap.size leaf path.reverse false (((w4.alloc (.cells #[.pointer (some ⟨w1.heap.size, 0, none⟩), .bool false] 115)).alloc (.cells #[.pointer (some ⟨w4.heap.size, 0, none⟩)] 112)).alloc (.cells #[.func (.func 75) #[] #[.pointer (some ⟨w.heap.size, 0, none⟩), .pointer (some ⟨w4.heap.size + 1, 0, none⟩), .pointer (some ⟨w4.heap.size + 1 + 1, 0, none⟩)]] 97))) := by
              have a1 := HLT.out
              have a2 := HLW.out
              refine ⟨⟨⟨A1, path.length, k1, KD4.out.to HBW.out, by rw [List.reverse_reverse]; exact RowsAt.to KR4.out HBW.out, fun a h => ?_⟩, ((Blk.new w4 _ _).alloc _).alloc _, Nat.ne_of_lt a1⟩, ?_, ?_, KL4.out.to HBW.out, ⟨by omega, by omega, by omega, by omega, by omega, by omega⟩, ⟨by omega, by omega⟩⟩
              · have := KS.out a h
                exact ⟨by omega, by omega⟩
              · have := Blk.new (w4.alloc (.cells #[.pointer (some ⟨w1.heap.size, 0, none⟩), .bool false] 115)) 112 #[.pointer (some ⟨w4.heap.size, 0, none⟩)]
                rw [s1] at this
                exact this.alloc _
              · have := Blk.new ((w4.alloc (.cells #[.pointer (some ⟨w1.heap.size, 0, none⟩), .bool false] 115)).alloc (.cells #[.pointer (some ⟨w4.heap.size, 0, none⟩)] 112)) 97 #[.func (.func 75) #[] #[.pointer (some ⟨w.heap.size, 0, none⟩), .pointer (some ⟨w4.heap.size + 1, 0, none⟩), .pointer (some ⟨w4.heap.size + 1 + 1, 0, none⟩)]]
                rw [s2] at this
                exact this
            have CU := up_any w1.heap.size w4.heap.size (w4.heap.size + 1) (w4.heap.size + 1 + 1) w.heap.size leaf hleaf N N I path.reverse false (((w4.alloc (.cells #[.pointer (some ⟨w1.heap.size, 0, none⟩), .bool false] 115)).alloc (.cells #[.pointer (some ⟨w4.heap.size, 0, none⟩)] 112)).alloc (.cells #[.func (.func 75) #[] #[.pointer (some ⟨w.heap.size, 0, none⟩), .pointer (some ⟨w4.heap.size + 1, 0, none⟩), .pointer (some ⟨w4.heap.size + 1 + 1, 0, none⟩)]] 97)) (by omega) (Nat.le_refl _) (by omega) (by omega) (by rw [List.length_reverse]; exact hp) (fun d h => HX.out d (by simpa using h)) HUS.out (KG4.out.to HBW.out)
            have HUV : Hid (upV leaf N I path root = (decide ((upG leaf N N I path.reverse false).1 = root) && (!(upG leaf N N I path.reverse false).2.2 && (upG leaf N N I path.reverse false).2.1.isEmpty))) := rfl
            have HBS : Hid (w.heap.size ≤ (((w4.alloc (.cells #[.pointer (some ⟨w1.heap.size, 0, none⟩), .bool false] 115)).alloc (.cells #[.pointer (some ⟨w4.heap.size, 0, none⟩)] 112)).alloc (.cells #[.func (.func 75) #[] #[.pointer (some ⟨w.heap.size, 0, none⟩), .pointer (some ⟨w4.heap.size + 1, 0, none⟩), .pointer (some ⟨w4.heap.size + 1 + 1, 0, none⟩)]] 97)).heap.size) := Nat.le_trans HB4.out.size HBW.out.size
            have HBB := hide (HB4.out.trans (HBW.out.mono HB4.out.size))
            clear s1 s2 HUS HBW KL4 KG4 KR4 KD4 HB4 d0 d1 l0 CP CI CC
            generalize upG leaf N N I path.reverse false = r at *
            generalize ((w4.alloc (.cells #[.pointer (some ⟨w1.heap.size, 0, none⟩), .bool false] 115)).alloc (.cells #[.pointer (some ⟨w4.heap.size, 0, none⟩)] 112)).alloc (.cells #[.func (.func 75) #[] #[.pointer (some ⟨w.heap.size, 0, none⟩), .pointer (some ⟨w4.heap.size + 1, 0, none⟩), .pointer (some ⟨w4.heap.size + 1 + 1, 0, none⟩)]] 97) = w9 at *
            refine CU.mono ?_
            rintro e w10 ⟨rfl, hus, htw⟩
            have HU := hide hus
            have HB10 : Hid (Below w.heap.size w w10) := HBB.out.trans (htw.below HBS.out (Nat.le_of_lt HLW.out) (Nat.le_of_lt (Nat.lt_trans HLW.out HLT.out)))
            have pp := (hus.p.cell 0).trans rfl
            have CD := pdone_any w1.heap.size w4.heap.size r.2.1 r.2.2 w10 hus.ps
            clear hus htw CU HBB
            by_cases hr : r.1 = root
            · have er : ((bs r.1).toList == (bs root).toList) = true := by rw [hr]; simp
              have HF : Hid (checkV root (N : Int) (I : Int) leaf path = (!r.2.2 && r.2.1.isEmpty)) := by show _ = _; rw [HV.out, HUV.out, decide_eq_true hr]; rfl
              clear hr
              generalize (!r.2.2 && r.2.1.isEmpty) = b at *
              go_wp2_with ((with_reducible refine CD.mono ?_); rintro e w' ⟨rfl, rfl⟩)
              go_ret
              exact ⟨ret_bool (by rw [HF.out]), HB10.out⟩
            · have er : ((bs r.1).toList == (bs root).toList) = false := by rw [beq_eq_false_iff_ne, bs_toList, bs_toList]; exact hr
              have HF : Hid (checkV root (N : Int) (I : Int) leaf path = false) := by show _ = _; rw [HV.out, HUV.out, decide_eq_false hr]; rfl
              clear hr
              go_wp2_with fail
              go_ret
              exact ⟨ret_bool (by rw [HF.out]), HB10.out⟩
      · have e3 : decide (n ≤ i) = true := decide_eq_true (by omega)
        clear KS HLW
        go_wp2_with fail
        go_ret
        exact ⟨ret_bool (by unfold checkV; rw [if_neg (fun h => by have := h.2.2.1; omega)]), HB2.out⟩
    · have e2 : decide (i < 0) = true := decide_eq_true (by omega)
      clear KS HLW
      go_wp2_with fail
      go_ret
      exact ⟨ret_bool (by unfold checkV; rw [if_neg (fun h => by have := h.2.1; omega)]), HB2.out⟩
  · have e1 : decide (1000000 < n) = true := decide_eq_true (by omega)
    clear KS HLW
    go_wp2_with fail
    go_ret
    exact ⟨ret_bool (by unfold checkV; rw [if_neg (fun h => by have := h.1; omega)]), HB2.out⟩
end Go.Proofs.YtnjlefggkfagmaaGreatDoor

/- A region that draws its order, walked once whatever the order: each operation owes its own fact, out of the facts of those that it waits for; memory may be made, and a box stored into. -/
set_option linter.unusedVariables false
set_option linter.unusedSimpArgs false
namespace Go.Proofs.YtnjlefggkfagmaaGreatDoor
open Go Go.RowKit

section
variable {P : Program} {ops : Array Oper} {Q : Exit → Act → World → Prop} {md : Region.Mode} {C : World → Prop} {a0 : Act}

/-- what the region does not write is as before -/
def Same (ops : Array Oper) (a0 a : Act) : Prop := a.defers = a0.defers ∧ a.tmps.size = a0.tmps.size ∧ ∀ t, (∀ (i : Nat) (o : Oper), ops[i]? = some o → o.dst ≠ some t) → a.tmps[t]? = a0.tmps[t]?
theorem Same.refl (ops : Array Oper) (a : Act) : Same ops a a := ⟨rfl, rfl, fun _ _ => rfl⟩
theorem Same.put {a : Act} (h : Same ops a0 a) {i : Nat} {o : Oper} (ho : ops[i]? = some o) (v : Value) : Same ops a0 (a.put o.dst v) := by
  obtain ⟨h1, h2, h3⟩ := h
  refine ⟨?_, ?_, fun t ht => ?_⟩
  · unfold Act.put; split <;> exact h1
  · unfold Act.put; split
    · simpa using h2
    · exact h2
  · have hne := ht i o ho
    unfold Act.put
    split
    · rename_i d hd
      have : d ≠ t := fun e => hne (by rw [hd, e])
      simp [Array.getElem?_setIfInBounds_ne this]
      exact h3 t ht
    · exact h3 t ht

theorem wpAny_inv (Kn : Nat → Act → World → Prop) (Rel : Nat → World → World → Prop)
    (hacyc : ∀ (i : Nat) (o : Oper), ops[i]? = some o → ∀ e ∈ o.after, Region.binds md e = true → e.on < i)
    (hC : ∀ i w w', C w → Rel i w w' → C w')
    (hkeep : ∀ (i j : Nat) (o : Oper), i ≠ j → ops[i]? = some o → Region.waitsFor md ops j i = false → ∀ a v w w', Kn j a w → Rel i w w' → Kn j (a.put o.dst v) w')
    (hop : ∀ (i : Nat) (o : Oper), ops[i]? = some o → ∀ a w, C w → Same ops a0 a → (∀ e ∈ o.after, Region.binds md e = true → Kn e.on a w) →
      wpOp P ops Q i (fun a' w' => ∃ v, a' = a.put o.dst v ∧ Rel i w w' ∧ Kn i (a.put o.dst v) w') a w)
    (hfin : ∀ a w, C w → Same ops a0 a → (∀ i, i < ops.size → Kn i a w) → Q .normal a w) :
    ∀ (f : Nat) (L : List Nat) (listed : Array Bool) (a : Act) (w : World), L.length ≤ f → listed.size = ops.size → (∀ i, i < ops.size → listed.getD i true = false → i ∈ L) → C w → Same ops a0 a →
      (∀ (j : Nat) (oj : Oper), ops[j]? = some oj → listed.getD j false = true → ∀ e ∈ oj.after, Region.binds md e = true → listed.getD e.on false = true) →
      (∀ i, i < ops.size → listed.getD i false = true → Kn i a w) → wpAny P md ops Q f listed a w := by
  have hfull : ∀ listed : Array Bool, listed.size = ops.size → Region.ready md ops listed = [] → ∀ (d i : Nat), i < d → i < ops.size → listed.getD i false = true := by
    intro listed hsz hr d
    induction d with
    | zero => intro i hi; omega
    | succ d ih =>
      intro i hi hin
      rcases Nat.lt_or_ge i d with h | h
      · exact ih i h hin
      · obtain rfl : i = d := by omega
        cases hl : listed.getD i false with
        | true => rfl
        | false =>
          have hmem : i ∈ Region.ready md ops listed := by
            rw [mem_ready]
            refine ⟨getD_in (by omega) hl, ops[i], Array.getElem?_eq_getElem hin, fun e he hb => ?_⟩
            have := hacyc i ops[i] (Array.getElem?_eq_getElem hin) e he hb
            exact ih e.on this (by omega)
          rw [hr] at hmem
          cases hmem
  intro f
  induction f with
  | zero =>
    intro L listed a w hL hsz hun hw hs hcl hk
    have hall : ∀ i, i < ops.size → listed.getD i false = true := by
      intro i hi
      cases hl : listed.getD i false with
      | true => rfl
      | false =>
        have := hun i hi (getD_in (by omega) hl)
        have hL0 : L = [] := List.length_eq_zero_iff.1 (by omega)
        rw [hL0] at this
        cases this
    have hr : Region.ready md ops listed = [] := by
      apply List.eq_nil_iff_forall_not_mem.2
      intro i hi
      obtain ⟨h1, o, ho, _⟩ := mem_ready.1 hi
      have hlt : i < ops.size := (Array.getElem?_eq_some_iff.1 ho).1
      have h2 := hall i hlt
      rw [getD_both h1] at h2
      cases h2
    exact ⟨hr, hfin a w hw hs (fun i hi => hk i hi (hall i hi))⟩
  | succ f ih =>
    intro L listed a w hL hsz hun hw hs hcl hk
    refine ⟨fun hr => hfin a w hw hs (fun i hi => hk i hi (hfull listed hsz hr _ i hi hi)), fun i hi => ?_⟩
    obtain ⟨hiun, o, ho, hall⟩ := mem_ready.1 hi
    have hlt : i < ops.size := (Array.getElem?_eq_some_iff.1 ho).1
    refine wpOp_mono ?_ (hop i o ho a w hw hs (fun e he hb => hk e.on (by have := hacyc i o ho e he hb; omega) (hall e he hb)))
    rintro a' w' ⟨v, rfl, hrel, hkn⟩
    have hiL := hun i hlt hiun
    refine ih (L.erase i) (listed.setIfInBounds i true) _ w' ?_ (by simpa using hsz) ?_ (hC i _ _ hw hrel) (hs.put ho v) ?_ ?_
    · rw [List.length_erase_of_mem hiL]; omega
    · intro j hj hjl
      rcases Nat.decEq j i with hji | hji
      · rw [getD_set_ne true (Ne.symm hji)] at hjl
        exact (List.mem_erase_of_ne hji).2 (hun j hj hjl)
      · subst hji
        rw [Array.getD_eq_getD_getElem?, Array.getElem?_setIfInBounds_self_of_lt (by omega)] at hjl
        cases hjl
    · intro j oj hoj hjl e he hb
      rcases Nat.decEq j i with hji | hji
      · rw [getD_set_ne false (Ne.symm hji)] at hjl
        exact getD_set_true (hcl j oj hoj hjl e he hb)
      · subst hji
        have : oj = o := Option.some.inj (hoj.symm.trans ho)
        subst this
        exact getD_set_true (hall e he hb)
    · intro j hj hjl
      rcases Nat.decEq j i with hji | hji
      · rw [getD_set_ne false (Ne.symm hji)] at hjl
        refine hkeep i j o (Ne.symm hji) ho ?_ a v w w' (hk j hj hjl) hrel
        cases hwf : Region.waitsFor md ops j i with
        | false => rfl
        | true =>
          obtain ⟨oj, hoj, e, he, hb, hon⟩ := Region.waitsFor_spec hwf
          have h1 := hcl j oj hoj hjl e he hb
          rw [hon, getD_both hiun] at h1
          cases h1
      · subst hji; exact hkn

/-! ### facts by lists: the values that are known ahead; what holds besides -/
def Kn (ops : Array Oper) (V : List (Option Value)) (Fs : List (Nat × (Act → World → Prop))) (i : Nat) (a : Act) (w : World) : Prop :=
  (∀ (o : Oper) (v : Value) (d : Tmp), ops[i]? = some o → V[i]? = some (some v) → o.dst = some d → a.tmps[d]? = some v) ∧ ∀ p ∈ Fs, p.1 = i → p.2 a w
/-- the region is fit for it -/
def looseB (ops : Array Oper) (n : Nat) : Bool :=
  (List.range ops.size).all fun i => match ops[i]? with
    | none => true
    | some o => (o.after.all fun e => !Region.binds .any e || decide (e.on < i)) &&
      (match o.dst with
       | none => true
       | some d => decide (d < n) && (List.range ops.size).all fun j => (i == j) || (match ops[j]? with
          | none => true
          | some oj => (oj.dst != some d) && (!(oj.looksAt ops).contains d || Region.waitsFor .any ops j i)))
theorem looseB_spec {n : Nat} (h : looseB ops n = true) : ∀ (i : Nat) (o : Oper), ops[i]? = some o → (∀ e ∈ o.after, Region.binds .any e = true → e.on < i) ∧
    ∀ d, o.dst = some d → d < n ∧ ∀ (j : Nat) (oj : Oper), i ≠ j → ops[j]? = some oj → oj.dst ≠ some d ∧ (d ∈ oj.looksAt ops → Region.waitsFor .any ops j i = true) := by
  intro i o ho
  have hlt : i < ops.size := (Array.getElem?_eq_some_iff.1 ho).1
  have h1 := List.all_eq_true.1 h i (List.mem_range.2 hlt)
  simp only [ho, Bool.and_eq_true] at h1
  refine ⟨fun e he hb => ?_, fun d hd => ?_⟩
  · have := Array.all_eq_true_iff_forall_mem.1 h1.1 e he
    simpa [hb] using this
  · have h2 := h1.2
    simp only [hd, Bool.and_eq_true, decide_eq_true_eq] at h2
    refine ⟨h2.1, fun j oj hij hoj => ?_⟩
    have hjlt : j < ops.size := (Array.getElem?_eq_some_iff.1 hoj).1
    have h3 := List.all_eq_true.1 h2.2 j (List.mem_range.2 hjlt)
    simp only [hoj, Bool.or_eq_true, Bool.and_eq_true, bne_iff_ne, beq_iff_eq] at h3
    rcases h3 with h3 | h3
    · exact absurd h3 hij
    · refine ⟨h3.1, fun hm => ?_⟩
      rcases h3.2 with h4 | h4
      · simp only [Bool.not_eq_true', List.contains_eq_mem, decide_eq_false_iff_not] at h4
        exact absurd hm h4
      · exact h4

/-- what operation i owes -/
def Owes (P : Program) (ops : Array Oper) (Q : Exit → Act → World → Prop) (C : World → Prop) (a0 : Act) (V : List (Option Value)) (Fs : List (Nat × (Act → World → Prop))) (Rel : Nat → World → World → Prop) (i : Nat) (o : Oper) : Prop :=
  ∀ (a : Act) (w : World) (K : Act → World → Prop), C w → Same ops a0 a → (∀ e ∈ o.after, Region.binds .any e = true → Kn ops V Fs e.on a w) →
    (∀ v w', Rel i w w' → (∀ v0, V[i]? = some (some v0) → v = v0) → (∀ p ∈ Fs, p.1 = i → p.2 (a.put o.dst v) w') → K (a.put o.dst v) w') →
    if Region.wanted o (yielded ops a.tmps) then o.wp P a w K Q else K (a.put o.dst undef) w
def AllOwe (P : Program) (ops : Array Oper) (Q : Exit → Act → World → Prop) (C : World → Prop) (a0 : Act) (V : List (Option Value)) (Fs : List (Nat × (Act → World → Prop))) (Rel : Nat → World → World → Prop) : List Oper → Nat → Prop
  | [], _ => True
  | o :: l, k => Owes P ops Q C a0 V Fs Rel k o ∧ AllOwe P ops Q C a0 V Fs Rel l (k + 1)
theorem AllOwe.at {V : List (Option Value)} {Fs : List (Nat × (Act → World → Prop))} {Rel : Nat → World → World → Prop} : ∀ (l : List Oper) (k : Nat), AllOwe P ops Q C a0 V Fs Rel l k → ∀ (j : Nat) (o : Oper), l[j]? = some o → Owes P ops Q C a0 V Fs Rel (k + j) o
  | [], _, _, j, o, ho => by simp at ho
  | x :: l, k, h, 0, o, ho => by
    simp only [List.getElem?_cons_zero, Option.some.injEq] at ho
    subst ho
    exact h.1
  | x :: l, k, h, j + 1, o, ho => by
    simp only [List.getElem?_cons_succ] at ho
    have := AllOwe.at l (k + 1) h.2 j o ho
    rwa [show k + 1 + j = k + (j + 1) by omega] at this

/-- the slots of an operation: its own and those that it looks at -/
def Oper.slots (ops : Array Oper) (i : Nat) : List Tmp := match ops[i]? with
  | none => []
  | some o => o.dst.toList ++ o.looksAt ops
theorem wpAny_loose {w : World} {l : List Oper} (V : List (Option Value)) (Fs : List (Nat × (Act → World → Prop))) (Rel : Nat → World → World → Prop)
    (hB : looseB l.toArray a0.tmps.size = true) (hCw : C w.drew) (hC : ∀ i w w', C w → Rel i w w' → C w')
    (hst : ∀ p ∈ Fs, ∀ (i : Nat) (a a' : Act) (w w' : World), i ≠ p.1 → Region.waitsFor .any l.toArray p.1 i = false → (∀ t, (Oper.slots l.toArray p.1).contains t = true → a'.tmps[t]? = a.tmps[t]?) → Rel i w w' → p.2 a w → p.2 a' w')
    (hop : AllOwe P l.toArray Q C a0 V Fs Rel l 0)
    (hfin : ∀ a w, C w → Same l.toArray a0 a → (∀ i, i < l.length → Kn l.toArray V Fs i a w) → Q .normal a w) : wpAny P .any l.toArray Q l.toArray.size (Array.replicate l.toArray.size false) a0 w.drew := by
  have hspec := looseB_spec hB
  refine (wpAny_inv (C := C) (a0 := a0) (Kn l.toArray V Fs) Rel (fun i o ho => (hspec i o ho).1) hC ?_ ?_ ?_ _ (List.range l.toArray.size) _ _ _ (by simp) (by simp) ?_ hCw (Same.refl _ _) ?_ ?_)
  · intro i j o hij ho hwf a v w w' hk hrel
    refine ⟨fun oj u d hoj hu hd => ?_, fun p hp hpj => ?_⟩
    · have h1 := hk.1 oj u d hoj hu hd
      unfold Act.put
      split
      · rename_i di hdi
        have hne : di ≠ d := fun e => ((hspec i o ho).2 di hdi).2 j oj hij hoj |>.1 (by rw [hd, e])
        show (a.tmps.setIfInBounds di v)[d]? = _
        rw [Array.getElem?_setIfInBounds_ne hne]
        exact h1
      · exact h1
    · refine hst p hp i a _ w w' (by rw [hpj]; exact hij) (by rw [hpj]; exact hwf) (fun t ht => ?_) hrel (hk.2 p hp hpj)
      rw [hpj, List.contains_iff_mem] at ht
      unfold Act.put
      split
      · rename_i di hdi
        show (a.tmps.setIfInBounds di v)[t]? = _
        have hne : di ≠ t := by
          intro e
          subst e
          unfold Oper.slots at ht
          split at ht
          · cases ht
          · rename_i oj hoj
            have h2 := ((hspec i o ho).2 di hdi).2 j oj hij hoj
            rcases List.mem_append.1 ht with h3 | h3
            · rw [Option.mem_toList] at h3
              exact h2.1 h3
            · rw [h2.2 h3] at hwf
              cases hwf
        rw [Array.getElem?_setIfInBounds_ne hne]
      · rfl
  · intro i o ho a w hw hs hk
    have h := AllOwe.at l 0 hop i o (by simpa using ho)
    rw [Nat.zero_add] at h
    unfold wpOp
    simp only [ho]
    have hput : ∀ (v : Value) (w' : World), Rel i w w' → (∀ v0, V[i]? = some (some v0) → v = v0) → (∀ p ∈ Fs, p.1 = i → p.2 (a.put o.dst v) w') → ∃ u, a.put o.dst v = a.put o.dst u ∧ Rel i w w' ∧ Kn l.toArray V Fs i (a.put o.dst u) w' := by
      intro v w' hr hv hf
      refine ⟨v, rfl, hr, fun oj u d hoj hu hd => ?_, hf⟩
      have : oj = o := Option.some.inj (hoj.symm.trans ho)
      subst this
      have hvu := hv u hu
      subst hvu
      have hlt := ((hspec i oj ho).2 d hd).1
      unfold Act.put
      rw [hd]
      show (a.tmps.setIfInBounds d v)[d]? = _
      rw [Array.getElem?_setIfInBounds_self_of_lt (by rw [hs.2.1]; exact hlt)]
    have h' := h a w (fun a' w' => ∃ u, a' = a.put o.dst u ∧ Rel i w w' ∧ Kn l.toArray V Fs i (a.put o.dst u) w') hw hs hk hput
    split
    · rename_i hwt
      rw [if_pos hwt] at h'
      exact .inl h'
    · rename_i hwt
      rw [if_neg hwt] at h'
      exact h'
  · intro a w hw hs hk
    exact hfin a w hw hs (fun i hi => hk i (by simpa using hi))
  · intro i hi _
    simpa using hi
  · intro j oj _ hl
    rw [getD_replicate_false] at hl
    cases hl
  · intro i _ hl
    rw [getD_replicate_false] at hl
    cases hl

theorem wp_region_loose {id : Nat} {w : World} {l : List Oper} (V : List (Option Value)) (Fs : List (Nat × (Act → World → Prop))) (Rel : Nat → World → World → Prop)
    (hm : P.follows .mixedOrders = true) (hB : looseB l.toArray a0.tmps.size = true) (hCw : C w.drew) (hC : ∀ i w w', C w → Rel i w w' → C w')
    (hst : ∀ p ∈ Fs, ∀ (i : Nat) (a a' : Act) (w w' : World), i ≠ p.1 → Region.waitsFor .any l.toArray p.1 i = false → (∀ t, (Oper.slots l.toArray p.1).contains t = true → a'.tmps[t]? = a.tmps[t]?) → Rel i w w' → p.2 a w → p.2 a' w')
    (hop : AllOwe P l.toArray Q C a0 V Fs Rel l 0)
    (hfin : ∀ a w, C w → Same l.toArray a0 a → (∀ i, i < l.length → Kn l.toArray V Fs i a w) → Q .normal a w) : (Code.region id l.toArray true).wp P Q a0 w :=
  wp_region_any hm (wpAny_loose V Fs Rel hB hCw hC hst hop hfin)

end
/-! ### words for its use -/
def noDst (ops : Array Oper) (t : Tmp) : Bool := ops.all fun o => o.dst != some t
theorem Same.at {ops : Array Oper} {a0 a : Act} (h : Same ops a0 a) (t : Tmp) (hno : noDst ops t = true) {v : Value} (hv : a0.tmps[t]? = some v) : a.tmps[t]? = some v := by
  rw [h.2.2 t (fun i o ho e => by
    have := Array.all_eq_true_iff_forall_mem.1 hno o (Array.mem_of_getElem? ho)
    rw [e] at this
    simp at this)]
  exact hv
theorem Kn.at {ops : Array Oper} {V : List (Option Value)} {Fs : List (Nat × (Act → World → Prop))} {i : Nat} {a : Act} {w : World} (h : Kn ops V Fs i a w) {o : Oper} {d : Tmp} {v : Value} (ho : ops[i]? = some o) (hd : o.dst = some d) (hv : V[i]? = some (some v)) : a.tmps[d]? = some v := h.1 o v d ho hv hd
theorem waits_on {ops : Array Oper} {V : List (Option Value)} {Fs : List (Nat × (Act → World → Prop))} {a : Act} {w : World} {o : Oper} (h : ∀ e ∈ o.after, Region.binds .any e = true → Kn ops V Fs e.on a w) (j : Nat)
    (hj : (o.after.any fun e => Region.binds .any e && e.on == j) = true) : Kn ops V Fs j a w := by
  obtain ⟨e, he, hb⟩ := Array.any_eq_true'.1 hj
  simp only [Bool.and_eq_true, beq_iff_eq] at hb
  rw [← hb.2]
  exact h e he hb.1
theorem vok {V : List (Option Value)} {i : Nat} {v : Value} (h : V[i]? = some (some v)) : ∀ v0, V[i]? = some (some v0) → v = v0 := fun v0 h0 => by
  rw [h] at h0
  exact Option.some.inj (Option.some.inj h0)
theorem vfree {V : List (Option Value)} {i : Nat} {v : Value} (h : V[i]? = some none) : ∀ v0, V[i]? = some (some v0) → v = v0 := fun v0 h0 => by
  rw [h] at h0
  cases h0
theorem facts_nil {i : Nat} {a : Act} {w : World} : ∀ p ∈ ([] : List (Nat × (Act → World → Prop))), p.1 = i → p.2 a w := fun p hp => by cases hp
theorem facts_cons {i j : Nat} {F : Act → World → Prop} {Fs : List (Nat × (Act → World → Prop))} {a : Act} {w : World} (h1 : j = i → F a w) (h2 : ∀ p ∈ Fs, p.1 = i → p.2 a w) : ∀ p ∈ (j, F) :: Fs, p.1 = i → p.2 a w := fun p hp hi => by
  rcases List.mem_cons.1 hp with rfl | hp
  · exact h1 hi
  · exact h2 p hp hi
section
variable {ops : Array Oper} {Rel : Nat → World → World → Prop}
theorem keeps_nil : ∀ p ∈ ([] : List (Nat × (Act → World → Prop))), ∀ (i : Nat) (a a' : Act) (w w' : World), i ≠ p.1 → Region.waitsFor .any ops p.1 i = false → (∀ t, (Oper.slots ops p.1).contains t = true → a'.tmps[t]? = a.tmps[t]?) → Rel i w w' → p.2 a w → p.2 a' w' := fun p hp => by cases hp
theorem keeps_cons {j : Nat} {F : Act → World → Prop} {Fs : List (Nat × (Act → World → Prop))} (h1 : ∀ (i : Nat) (a a' : Act) (w w' : World), i ≠ j → Region.waitsFor .any ops j i = false → (∀ t, (Oper.slots ops j).contains t = true → a'.tmps[t]? = a.tmps[t]?) → Rel i w w' → F a w → F a' w')
    (h2 : ∀ p ∈ Fs, ∀ (i : Nat) (a a' : Act) (w w' : World), i ≠ p.1 → Region.waitsFor .any ops p.1 i = false → (∀ t, (Oper.slots ops p.1).contains t = true → a'.tmps[t]? = a.tmps[t]?) → Rel i w w' → p.2 a w → p.2 a' w') :
    ∀ p ∈ (j, F) :: Fs, ∀ (i : Nat) (a a' : Act) (w w' : World), i ≠ p.1 → Region.waitsFor .any ops p.1 i = false → (∀ t, (Oper.slots ops p.1).contains t = true → a'.tmps[t]? = a.tmps[t]?) → Rel i w w' → p.2 a w → p.2 a' w' := fun p hp => by
  rcases List.mem_cons.1 hp with rfl | hp
  · exact h1
  · exact h2 p hp
end
/-- guards -/
theorem want_free {o : Oper} {f : Nat → Option Bool} (hg : o.guard = none) : Region.wanted o f = true := by unfold Region.wanted; rw [hg]
theorem want_yes {ops : Array Oper} {a : Act} {o og : Oper} {g : Nat} {b : Bool} {d : Tmp} (hg : o.guard = some (g, b)) (ho : ops[g]? = some og) (hd : og.dst = some d) (hv : a.tmps[d]? = some (.bool b)) : Region.wanted o (yielded ops a.tmps) = true := by
  unfold Region.wanted yielded
  rw [hg]
  simp [ho, hd, hv]
theorem want_no {ops : Array Oper} {a : Act} {o og : Oper} {g : Nat} {b c : Bool} {d : Tmp} (hg : o.guard = some (g, b)) (ho : ops[g]? = some og) (hd : og.dst = some d) (hv : a.tmps[d]? = some (.bool c)) (hbc : (c == b) = false) : ¬ Region.wanted o (yielded ops a.tmps) = true := by
  unfold Region.wanted yielded
  rw [hg]
  simp only [ho, hd, hv, Option.bind_some]
  cases b <;> cases c <;> simp_all
/-- the frame at the end -/
def litT (T : Array Value) : List (Tmp × Value) → Array Value
  | [] => T
  | p :: l => litT (T.setIfInBounds p.1 p.2) l
theorem litT_size : ∀ (l : List (Tmp × Value)) (T : Array Value), (litT T l).size = T.size
  | [], _ => rfl
  | p :: l, T => by show (litT (T.setIfInBounds p.1 p.2) l).size = _; rw [litT_size l]; simp
theorem litT_other : ∀ (l : List (Tmp × Value)) (T : Array Value) (t : Tmp), (∀ p ∈ l, p.1 ≠ t) → (litT T l)[t]? = T[t]?
  | [], _, _, _ => rfl
  | p :: l, T, t, h => by
    show (litT (T.setIfInBounds p.1 p.2) l)[t]? = _
    rw [litT_other l _ t (fun q hq => h q (List.mem_cons_of_mem _ hq)), Array.getElem?_setIfInBounds_ne (h p (List.mem_cons_self ..))]
theorem litT_in (u : Tmp → Option Value) : ∀ (l : List (Tmp × Value)) (T : Array Value) (t : Tmp), (∀ p ∈ l, u p.1 = some p.2) → (∃ p ∈ l, p.1 = t) → t < T.size → (litT T l)[t]? = u t
  | [], _, _, _, ⟨p, hp, _⟩, _ => by cases hp
  | p :: l, T, t, h, hex, ht => by
    show (litT (T.setIfInBounds p.1 p.2) l)[t]? = _
    by_cases hl : ∃ q ∈ l, q.1 = t
    · exact litT_in u l _ t (fun q hq => h q (List.mem_cons_of_mem _ hq)) hl (by simpa using ht)
    · rw [litT_other l _ t (fun q hq e => hl ⟨q, hq, e⟩)]
      obtain ⟨q, hq, hqt⟩ := hex
      rcases List.mem_cons.1 hq with rfl | hq
      · subst hqt
        rw [Array.getElem?_setIfInBounds_self_of_lt ht, h q (List.mem_cons_self ..)]
      · exact absurd ⟨q, hq, hqt⟩ hl
def coverB (ops : Array Oper) (l : List (Tmp × Value)) : Bool := ops.all fun o => match o.dst with | none => true | some d => l.any fun p => p.1 == d
theorem Same.lit {ops : Array Oper} {a0 a : Act} (h : Same ops a0 a) (l : List (Tmp × Value)) (hc : coverB ops l = true) (hv : ∀ p ∈ l, a.tmps[p.1]? = some p.2) : a = ⟨litT a0.tmps l, a0.defers⟩ := by
  have ht : a.tmps = litT a0.tmps l := by
    apply Array.ext_getElem?
    intro t
    by_cases hex : ∃ p ∈ l, p.1 = t
    · rcases Nat.lt_or_ge t a0.tmps.size with hlt | hge
      · rw [litT_in (fun t => a.tmps[t]?) l _ t hv hex hlt]
      · rw [Array.getElem?_eq_none (by rw [h.2.1]; exact hge), Array.getElem?_eq_none (by rw [litT_size]; exact hge)]
    · rw [litT_other l _ t (fun p hp e => hex ⟨p, hp, e⟩)]
      refine h.2.2 t (fun i o ho e => hex ?_)
      have h1 := Array.all_eq_true_iff_forall_mem.1 hc o (Array.mem_of_getElem? ho)
      simp only [e, List.any_eq_true, beq_iff_eq] at h1
      exact h1
  cases a
  simp only at ht
  rw [ht]
  have := h.1
  simp only at this
  rw [this]
theorem lits_nil {a : Act} : ∀ p ∈ ([] : List (Tmp × Value)), a.tmps[p.1]? = some p.2 := fun p hp => by cases hp
theorem lits_cons {a : Act} {d : Tmp} {v : Value} {l : List (Tmp × Value)} (h : a.tmps[d]? = some v) (h' : ∀ p ∈ l, a.tmps[p.1]? = some p.2) : ∀ p ∈ (d, v) :: l, a.tmps[p.1]? = some p.2 := fun p hp => by
  rcases List.mem_cons.1 hp with rfl | hp
  · exact h
  · exact h' p hp
/-! ### a store into a box that the region made -/
def BoxRel (B : Nat) (T : TypeId) (w w' : World) : Prop := Below B w w' ∧ (∀ b t cs, t ≠ T → Blk w b t cs → Blk w' b t cs) ∧ ∀ b cs, Blk w b T cs → ∃ cs', cs'.size = cs.size ∧ Blk w' b T cs'
theorem BoxRel.refl (B : Nat) (T : TypeId) (w : World) : BoxRel B T w w := ⟨Below.refl _ _, fun _ _ _ _ h => h, fun _ cs h => ⟨cs, rfl, h⟩⟩
theorem BoxRel.set_ {B : Nat} {T : TypeId} {w w' : World} (h : BoxRel B T w w') {b : Nat} {cs : Array Value} (hb : Blk w' b T cs) (hB : B ≤ b) (i : Nat) (v : Value) : BoxRel B T w (w'.setCell ⟨b, i, none⟩ v) := by
  refine ⟨h.1.setCell hB v, fun g t cs' ht hg => ?_, fun g cs' hg => ?_⟩
  · have h1 := h.2.1 g t cs' ht hg
    have hne : g ≠ b := by
      rintro rfl
      unfold Blk at h1 hb
      rw [h1] at hb
      cases hb
      exact ht rfl
    exact h1.far (p := ⟨b, i, none⟩) hne v
  · obtain ⟨c2, hs, h1⟩ := h.2.2 g cs' hg
    rcases Nat.decEq g b with hne | hne
    · exact ⟨c2, hs, h1.far (p := ⟨b, i, none⟩) hne v⟩
    · subst hne
      exact ⟨_, by rw [Array.size_setIfInBounds]; exact hs, h1.set_ i v⟩
theorem size2 {cs : Array Value} (h : cs.size = 2) : ∃ x y, cs = #[x, y] := by
  rcases cs with ⟨l⟩
  match l, h with
  | [x, y], _ => exact ⟨x, y, rfl⟩
/-- a box of two cells, what it holds unknown -/
def Box2 (B : Nat) (T : TypeId) (s : Tmp) (a : Act) (w : World) : Prop := ∃ b x y, a.tmps[s]? = some (.pointer (some ⟨b, 0, none⟩)) ∧ B ≤ b ∧ Blk w b T #[x, y]
/-- .. known -/
def BoxIs (B : Nat) (T : TypeId) (s : Tmp) (cs : Array Value) (a : Act) (w : World) : Prop := ∃ b, a.tmps[s]? = some (.pointer (some ⟨b, 0, none⟩)) ∧ B ≤ b ∧ Blk w b T cs
theorem Box2.keep {B : Nat} {T : TypeId} {s : Tmp} {a a' : Act} {w w' : World} (h : Box2 B T s a w) (hs : a'.tmps[s]? = a.tmps[s]?) (hr : BoxRel B T w w' ∨ Below w.heap.size w w') : Box2 B T s a' w' := by
  obtain ⟨b, x, y, h1, h2, h3⟩ := h
  rcases hr with hr | hr
  · obtain ⟨cs', hsz, h4⟩ := hr.2.2 _ _ h3
    obtain ⟨x', y', rfl⟩ := size2 (cs := cs') (by rw [hsz]; rfl)
    exact ⟨b, x', y', hs.trans h1, h2, h4⟩
  · exact ⟨b, x, y, hs.trans h1, h2, h3.to hr⟩
theorem BoxIs.keep {B : Nat} {T : TypeId} {s : Tmp} {cs : Array Value} {a a' : Act} {w w' : World} (h : BoxIs B T s cs a w) (hs : a'.tmps[s]? = a.tmps[s]?) (hr : Below w.heap.size w w') : BoxIs B T s cs a' w' := by
  obtain ⟨b, h1, h2, h3⟩ := h
  exact ⟨b, hs.trans h1, h2, h3.to hr⟩
/-- a slice that the region made -/
def RowIs (t : TypeId) (s : Tmp) (n : Nat) (cs : Array Value) (a : Act) (w : World) : Prop := ∃ b, a.tmps[s]? = some (.slice (some ⟨b, 0, none⟩) n n) ∧ Blk w b t cs
theorem RowIs.keep {t : TypeId} {s : Tmp} {n : Nat} {cs : Array Value} {a a' : Act} {w w' : World} (h : RowIs t s n cs a w) (hs : a'.tmps[s]? = a.tmps[s]?) (hr : (∃ B T, t ≠ T ∧ BoxRel B T w w') ∨ Below w.heap.size w w') : RowIs t s n cs a' w' := by
  obtain ⟨b, h1, h3⟩ := h
  rcases hr with ⟨B, T, ht, hr⟩ | hr
  · exact ⟨b, hs.trans h1, hr.2.1 _ _ _ ht h3⟩
  · exact ⟨b, hs.trans h1, h3.to hr⟩
theorem Same.put_at {ops : Array Oper} {a0 a : Act} (h : Same ops a0 a) {s : Tmp} (hs : (decide (s < a0.tmps.size)) = true) (v : Value) : (a.put (some s) v).tmps[s]? = some v := by
  show (a.tmps.setIfInBounds s v)[s]? = _
  rw [Array.getElem?_setIfInBounds_self_of_lt (by rw [h.2.1]; exact of_decide_eq_true hs)]
/-! ### the same in a class of worlds that one letter names -/
section
variable {P : Program} {ops : Array Oper} {Q : Exit → Act → World → Prop} {a0 : Act} {U : Type} {g : U → World}
def OwesG (P : Program) (ops : Array Oper) (Q : Exit → Act → World → Prop) (g : U → World) (a0 : Act) (V : List (Option Value)) (Fs : List (Nat × (Act → World → Prop))) (Rel : Nat → World → World → Prop) (i : Nat) (o : Oper) : Prop :=
  ∀ (a : Act) (u : U) (K : Act → World → Prop), Same ops a0 a → (∀ e ∈ o.after, Region.binds .any e = true → Kn ops V Fs e.on a (g u)) →
    (∀ v w', Rel i (g u) w' → (∀ v0, V[i]? = some (some v0) → v = v0) → (∀ p ∈ Fs, p.1 = i → p.2 (a.put o.dst v) w') → K (a.put o.dst v) w') →
    if Region.wanted o (yielded ops a.tmps) then o.wp P a (g u) K Q else K (a.put o.dst undef) (g u)
def AllOweG (P : Program) (ops : Array Oper) (Q : Exit → Act → World → Prop) (g : U → World) (a0 : Act) (V : List (Option Value)) (Fs : List (Nat × (Act → World → Prop))) (Rel : Nat → World → World → Prop) : List Oper → Nat → Prop
  | [], _ => True
  | o :: l, k => OwesG P ops Q g a0 V Fs Rel k o ∧ AllOweG P ops Q g a0 V Fs Rel l (k + 1)
theorem AllOweG.all {V : List (Option Value)} {Fs : List (Nat × (Act → World → Prop))} {Rel : Nat → World → World → Prop} : ∀ (l : List Oper) (k : Nat), AllOweG P ops Q g a0 V Fs Rel l k → AllOwe P ops Q (fun w' => ∃ u, w' = g u) a0 V Fs Rel l k
  | [], _, _ => trivial
  | o :: l, k, h => ⟨fun a w K hw hs hd hK => by
      obtain ⟨u, rfl⟩ := hw
      exact h.1 a u K hs hd hK, AllOweG.all l (k + 1) h.2⟩
theorem wpAny_looseG {w : World} {l : List Oper} (g : U → World) (V : List (Option Value)) (Fs : List (Nat × (Act → World → Prop))) (Rel : Nat → World → World → Prop)
    (hB : looseB l.toArray a0.tmps.size = true) (hCw : ∃ u, w.drew = g u) (hC : ∀ i u w', Rel i (g u) w' → ∃ u', w' = g u')
    (hst : ∀ p ∈ Fs, ∀ (i : Nat) (a a' : Act) (w w' : World), i ≠ p.1 → Region.waitsFor .any l.toArray p.1 i = false → (∀ t, (Oper.slots l.toArray p.1).contains t = true → a'.tmps[t]? = a.tmps[t]?) → Rel i w w' → p.2 a w → p.2 a' w')
    (hop : AllOweG P l.toArray Q g a0 V Fs Rel l 0)
    (hfin : ∀ a u, Same l.toArray a0 a → (∀ i, i < l.length → Kn l.toArray V Fs i a (g u)) → Q .normal a (g u)) : wpAny P .any l.toArray Q l.toArray.size (Array.replicate l.toArray.size false) a0 w.drew :=
  wpAny_loose (C := fun w' => ∃ u, w' = g u) V Fs Rel hB hCw (fun i w w' hw hr => by obtain ⟨u, rfl⟩ := hw; exact hC i u w' hr) hst (AllOweG.all l 0 hop)
    (fun a w hw hs hk => by obtain ⟨u, rfl⟩ := hw; exact hfin a u hs hk)
theorem wp_region_looseG {id : Nat} {w : World} {l : List Oper} (g : U → World) (V : List (Option Value)) (Fs : List (Nat × (Act → World → Prop))) (Rel : Nat → World → World → Prop)
    (hm : P.follows .mixedOrders = true) (hB : looseB l.toArray a0.tmps.size = true) (hCw : ∃ u, w.drew = g u) (hC : ∀ i u w', Rel i (g u) w' → ∃ u', w' = g u')
    (hst : ∀ p ∈ Fs, ∀ (i : Nat) (a a' : Act) (w w' : World), i ≠ p.1 → Region.waitsFor .any l.toArray p.1 i = false → (∀ t, (Oper.slots l.toArray p.1).contains t = true → a'.tmps[t]? = a.tmps[t]?) → Rel i w w' → p.2 a w → p.2 a' w')
    (hop : AllOweG P l.toArray Q g a0 V Fs Rel l 0)
    (hfin : ∀ a u, Same l.toArray a0 a → (∀ i, i < l.length → Kn l.toArray V Fs i a (g u)) → Q .normal a (g u)) : (Code.region id l.toArray true).wp P Q a0 w :=
  wp_region_loose (C := fun w' => ∃ u, w' = g u) V Fs Rel hm hB hCw (fun i w w' hw hr => by obtain ⟨u, rfl⟩ := hw; exact hC i u w' hr) hst (AllOweG.all l 0 hop)
    (fun a w hw hs hk => by obtain ⟨u, rfl⟩ := hw; exact hfin a u hs hk)
end
/-- the drawn regions' spelling of a whole number that fits -/
theorem w64 {x : Int} (h0 : -9223372036854775808 ≤ x) (h1 : x < 9223372036854775808) : IntKind.i64.wrap x = x := by
  rw [IntKind.wrap_i64]; omega
/-! ### stores into an old block f, whose contents go through the stages cs 0 .. cs m -/
structure OldI (f : Nat) (T : TypeId) (cs : Nat → Array Value) (m : Nat) (w1 w : World) : Prop where
  below : Below f w1 w
  st : ∃ s, s ≤ m ∧ Blk w f T (cs s)
/-- at stage k or later -/
def StF (f : Nat) (T : TypeId) (cs : Nat → Array Value) (m k : Nat) (_ : Act) (w : World) : Prop := ∃ s, k ≤ s ∧ s ≤ m ∧ Blk w f T (cs s)
def RelS (f : Nat) (T : TypeId) (cs : Nat → Array Value) (m k : Nat) (w w' : World) : Prop := Below f w w' ∧ (∀ g t c, g ≠ f → Blk w g t c → Blk w' g t c) ∧ ∃ s, k ≤ s ∧ s ≤ m ∧ Blk w' f T (cs s)
section
variable {f m k : Nat} {T : TypeId} {cs : Nat → Array Value} {w1 w w' : World}
theorem OldI.step (h : OldI f T cs m w1 w) (hb : Below w.heap.size w w') : OldI f T cs m w1 w' := by
  obtain ⟨s, hs, hB⟩ := h.st
  exact ⟨h.below.trans (hb.mono (Nat.le_of_lt hB.lt)), s, hs, hB.to hb⟩
theorem OldI.store (h : OldI f T cs m w1 w) (hr : RelS f T cs m k w w') : OldI f T cs m w1 w' := by
  obtain ⟨s, _, hs, hB⟩ := hr.2.2
  exact ⟨h.below.trans hr.1, s, hs, hB⟩
theorem StF.step {a a' : Act} (h : StF f T cs m k a w) (hb : Below w.heap.size w w') : StF f T cs m k a' w' := by
  obtain ⟨s, h1, h2, hB⟩ := h
  exact ⟨s, h1, h2, hB.to hb⟩
theorem StF.later {a' : Act} {j : Nat} (hr : RelS f T cs m j w w') (hj : k ≤ j) : StF f T cs m k a' w' := by
  obtain ⟨s, h1, h2, hB⟩ := hr.2.2
  exact ⟨s, by omega, h2, hB⟩
/-- a slice that the region made, not the old block -/
def RowOf (f : Nat) (t : TypeId) (s : Tmp) (n : Nat) (c : Array Value) (a : Act) (w : World) : Prop := ∃ b, a.tmps[s]? = some (.slice (some ⟨b, 0, none⟩) n n) ∧ b ≠ f ∧ Blk w b t c
theorem RowOf.keep {t : TypeId} {s : Tmp} {n : Nat} {c : Array Value} {a a' : Act} (h : RowOf f t s n c a w) (hs : a'.tmps[s]? = a.tmps[s]?) (hr : (∃ j, RelS f T cs m j w w') ∨ Below w.heap.size w w') : RowOf f t s n c a' w' := by
  obtain ⟨b, h1, h2, h3⟩ := h
  rcases hr with ⟨j, hr⟩ | hr
  · exact ⟨b, hs.trans h1, h2, hr.2.1 _ _ _ h2 h3⟩
  · exact ⟨b, hs.trans h1, h2, h3.to hr⟩
end
theorem size1 {cs : Array Value} (h : cs.size = 1) : ∃ x0, cs = #[x0] := by
  rcases cs with ⟨l⟩
  match l, h with
  | [x0], _ => exact ⟨x0, rfl⟩
def Box1 (B : Nat) (T : TypeId) (s : Tmp) (a : Act) (w : World) : Prop := ∃ b x0, a.tmps[s]? = some (.pointer (some ⟨b, 0, none⟩)) ∧ B ≤ b ∧ Blk w b T #[x0]
theorem Box1.keep {B : Nat} {T : TypeId} {s : Tmp} {a a' : Act} {w w' : World} (h : Box1 B T s a w) (hs : a'.tmps[s]? = a.tmps[s]?) (hr : BoxRel B T w w' ∨ Below w.heap.size w w') : Box1 B T s a' w' := by
  obtain ⟨b, x0, h1, h2, h3⟩ := h
  rcases hr with hr | hr
  · obtain ⟨cs', hsz, h4⟩ := hr.2.2 _ _ h3
    obtain ⟨y0, rfl⟩ := size1 (cs := cs') (by rw [hsz]; rfl)
    exact ⟨b, y0, hs.trans h1, h2, h4⟩
  · exact ⟨b, x0, hs.trans h1, h2, h3.to hr⟩
theorem size3 {cs : Array Value} (h : cs.size = 3) : ∃ x0 x1 x2, cs = #[x0, x1, x2] := by
  rcases cs with ⟨l⟩
  match l, h with
  | [x0, x1, x2], _ => exact ⟨x0, x1, x2, rfl⟩
def Box3 (B : Nat) (T : TypeId) (s : Tmp) (a : Act) (w : World) : Prop := ∃ b x0 x1 x2, a.tmps[s]? = some (.pointer (some ⟨b, 0, none⟩)) ∧ B ≤ b ∧ Blk w b T #[x0, x1, x2]
theorem Box3.keep {B : Nat} {T : TypeId} {s : Tmp} {a a' : Act} {w w' : World} (h : Box3 B T s a w) (hs : a'.tmps[s]? = a.tmps[s]?) (hr : BoxRel B T w w' ∨ Below w.heap.size w w') : Box3 B T s a' w' := by
  obtain ⟨b, x0, x1, x2, h1, h2, h3⟩ := h
  rcases hr with hr | hr
  · obtain ⟨cs', hsz, h4⟩ := hr.2.2 _ _ h3
    obtain ⟨y0, y1, y2, rfl⟩ := size3 (cs := cs') (by rw [hsz]; rfl)
    exact ⟨b, y0, y1, y2, hs.trans h1, h2, h4⟩
  · exact ⟨b, x0, x1, x2, hs.trans h1, h2, h3.to hr⟩
theorem size4 {cs : Array Value} (h : cs.size = 4) : ∃ x0 x1 x2 x3, cs = #[x0, x1, x2, x3] := by
  rcases cs with ⟨l⟩
  match l, h with
  | [x0, x1, x2, x3], _ => exact ⟨x0, x1, x2, x3, rfl⟩
def Box4 (B : Nat) (T : TypeId) (s : Tmp) (a : Act) (w : World) : Prop := ∃ b x0 x1 x2 x3, a.tmps[s]? = some (.pointer (some ⟨b, 0, none⟩)) ∧ B ≤ b ∧ Blk w b T #[x0, x1, x2, x3]
theorem Box4.keep {B : Nat} {T : TypeId} {s : Tmp} {a a' : Act} {w w' : World} (h : Box4 B T s a w) (hs : a'.tmps[s]? = a.tmps[s]?) (hr : BoxRel B T w w' ∨ Below w.heap.size w w') : Box4 B T s a' w' := by
  obtain ⟨b, x0, x1, x2, x3, h1, h2, h3⟩ := h
  rcases hr with hr | hr
  · obtain ⟨cs', hsz, h4⟩ := hr.2.2 _ _ h3
    obtain ⟨y0, y1, y2, y3, rfl⟩ := size4 (cs := cs') (by rw [hsz]; rfl)
    exact ⟨b, y0, y1, y2, y3, hs.trans h1, h2, h4⟩
  · exact ⟨b, x0, x1, x2, x3, hs.trans h1, h2, h3.to hr⟩
theorem size5 {cs : Array Value} (h : cs.size = 5) : ∃ x0 x1 x2 x3 x4, cs = #[x0, x1, x2, x3, x4] := by
  rcases cs with ⟨l⟩
  match l, h with
  | [x0, x1, x2, x3, x4], _ => exact ⟨x0, x1, x2, x3, x4, rfl⟩
def Box5 (B : Nat) (T : TypeId) (s : Tmp) (a : Act) (w : World) : Prop := ∃ b x0 x1 x2 x3 x4, a.tmps[s]? = some (.pointer (some ⟨b, 0, none⟩)) ∧ B ≤ b ∧ Blk w b T #[x0, x1, x2, x3, x4]
theorem Box5.keep {B : Nat} {T : TypeId} {s : Tmp} {a a' : Act} {w w' : World} (h : Box5 B T s a w) (hs : a'.tmps[s]? = a.tmps[s]?) (hr : BoxRel B T w w' ∨ Below w.heap.size w w') : Box5 B T s a' w' := by
  obtain ⟨b, x0, x1, x2, x3, x4, h1, h2, h3⟩ := h
  rcases hr with hr | hr
  · obtain ⟨cs', hsz, h4⟩ := hr.2.2 _ _ h3
    obtain ⟨y0, y1, y2, y3, y4, rfl⟩ := size5 (cs := cs') (by rw [hsz]; rfl)
    exact ⟨b, y0, y1, y2, y3, y4, hs.trans h1, h2, h4⟩
  · exact ⟨b, x0, x1, x2, x3, x4, hs.trans h1, h2, h3.to hr⟩
theorem evt {a : Act} {t : Tmp} {v : Value} (h : a.tmps[t]? = some v) : a.eval (.tmp t) = v := by
  show a.tmps.getD t undef = v
  rw [Array.getD_eq_getD_getElem?, h]; rfl
end Go.Proofs.YtnjlefggkfagmaaGreatDoor

/- Within a round of a loop over a function: a drawn region goes as in the open. -/
set_option linter.unusedVariables false
set_option linter.unusedSimpArgs false
namespace Go.Proofs.YtnjlefggkfagmaaGreatDoor
open Go Go.RowKit

/-- no operation defers -/
def noDefer (ops : Array Oper) : Bool := ops.all fun o => match o.op with | .defer _ => false | _ => true
theorem Oper_wpIn_of {P : Program} {l n : Nat} {o : Oper} {a : Act} {w : World} {K : Act → World → Prop} {Q : Exit → Act → World → Prop} (hd : ∀ c, o.op ≠ .defer c) (h : o.wp P a w K Q) : o.wpIn (Fence.wide.inRound l) n P a w K Q := by
  unfold Oper.wp at h
  unfold Oper.wpIn
  refine ⟨fun _ _ => trivial, ?_⟩
  rw [Oper.semAt_eq _ _ _ hd]
  generalize (execOp a.eval o).run P w = r at h ⊢
  cases r with
  | ok x w' =>
    cases x <;> simp only [Oper.upon] at h <;> simp only [Oper.uponIn]
    case value v => exact h
    case skip => exact h
    case defer d => exact h
    case enter f args => exact ⟨fun h' => absurd h' (by simp [Fence.wide]), CallsIn.inRound l (callsIn_wide.2 h)⟩
    case row r args => exact ⟨fun h' => absurd h' (by simp [Fence.wide]), fun c cs _ => let ⟨v, w'', hr, s⟩ := h c cs; ⟨v, w'', hr, stepsIn_wide.2 s⟩⟩
  | halt x w' => cases x <;> simp only [Oper.upon] at h <;> simp only [Oper.uponIn] <;> first | exact h | exact h.elim
theorem wpOpIn_of {P : Program} {ops : Array Oper} {l n i : Nat} {a : Act} {w : World} {K : Act → World → Prop} {Q : Exit → Act → World → Prop} (hd : noDefer ops = true) (hno : ¬ LetsOut Q) (h : wpOp P ops Q i K a w) : wpOpIn (Fence.wide.inRound l) n P ops Q i K a w := by
  unfold wpOp at h
  unfold wpOpIn
  split
  · rename_i ho; simpa only [ho] using h
  · rename_i o ho
    simp only [ho] at h
    split
    · rename_i hw
      rw [if_pos hw] at h
      rcases h with h | h
      · refine Oper_wpIn_of (fun c hc => ?_) h
        have := Array.all_eq_true_iff_forall_mem.1 hd o (Array.mem_of_getElem? ho)
        rw [hc] at this
        cases this
      · exact absurd h.2 hno
    · rename_i hw
      rw [if_neg hw] at h
      exact ⟨fun _ _ => trivial, h⟩
theorem wpAnyIn_of {P : Program} {ops : Array Oper} {l n : Nat} {md : Region.Mode} {Q : Exit → Act → World → Prop} (hd : noDefer ops = true) (hno : ¬ LetsOut Q) : ∀ (f : Nat) (listed : Array Bool) (a : Act) (w : World), wpAny P md ops Q f listed a w → wpAnyIn (Fence.wide.inRound l) n P md ops Q f listed a w
  | 0, _, _, _, h => h
  | f + 1, _, _, _, h => ⟨h.1, fun i hi => wpOpIn_of hd hno (wpOp_mono (fun a w h' => wpAnyIn_of hd hno f _ a w h') (h.2 i hi))⟩
/-- a drawn region in a round -/
theorem wpIn_region_of {P : Program} {id l n : Nat} {ops : Array Oper} {a : Act} {w : World} {Q : Exit → Act → World → Prop} (hm : P.follows .mixedOrders = true) (hd : noDefer ops = true) (hno : ¬ LetsOut Q)
    (h : wpAny P .any ops Q ops.size (Array.replicate ops.size false) a w.drew) : (Code.region id ops true).wpIn (Fence.wide.inRound l) n P Q a w :=
  wpIn_region_any hm (wpAnyIn_of hd hno _ _ _ _ h)
end Go.Proofs.YtnjlefggkfagmaaGreatDoor

/- Pages in memory; slices.ContainsFunc over texts; isLog. -/
set_option linter.unusedVariables false
set_option linter.unusedSimpArgs false
namespace Go.Proofs.YtnjlefggkfagmaaGreatDoor
open Go.RowKit

/-- a page -/
structure Pg where
  fr : Int
  size : Int
  root : List UInt8
  items : List (List UInt8)
  paths : List (List (List UInt8))
/-- a slice of lists of texts -/
def PathsAt (w : World) (v : Value) (ps : List (List (List UInt8))) : Prop := ∃ A c, v = .slice A ps.length c ∧ ps.length ≤ c ∧ ∀ k p, ps[k]? = some p → ∃ a vv, A = some a ∧ a.block < w.heap.size ∧ w.cell? (a.add k) = some vv ∧ TextsAt w vv p
theorem PathsAt.to {w w' : World} {v : Value} {ps : List (List (List UInt8))} (h : PathsAt w v ps) (hb : Below w.heap.size w w') : PathsAt w' v ps := by
  obtain ⟨A, c, h1, h2, h3⟩ := h
  refine ⟨A, c, h1, h2, fun k p hp => ?_⟩
  obtain ⟨a, vv, e, hl, hc, ht⟩ := h3 k p hp
  exact ⟨a, vv, e, Nat.lt_of_lt_of_le hl hb.size, (hb.cell (p := a.add k) (by rw [block_of_add]; exact hl)).trans hc, ht.to hb⟩
theorem PathsAt.nil (w : World) : PathsAt w (.slice none 0 0) [] := ⟨none, 0, rfl, Nat.le_refl _, fun k p h => by simp at h⟩
theorem PathsAt.slice {w : World} {v : Value} {ps : List (List (List UInt8))} (h : PathsAt w v ps) : ∃ A c, v = .slice A ps.length c ∧ ps.length ≤ c := by
  obtain ⟨A, c, h1, h2, _⟩ := h
  exact ⟨A, c, h1, h2⟩
theorem PathsAt.at_ {w : World} {A : Option Addr} {n c : Nat} {ps : List (List (List UInt8))} (h : PathsAt w (.slice A n c) ps) {k : Nat} {p : List (List UInt8)} (hp : ps[k]? = some p) : ∃ a vv, A = some a ∧ a.block < w.heap.size ∧ w.cell? (a.add k) = some vv ∧ TextsAt w vv p := by
  obtain ⟨A', c', h1, _, h3⟩ := h
  injection h1 with e1
  subst e1
  exact h3 k p hp
theorem TextsAt.nil (w : World) : TextsAt w (.slice none 0 0) [] := RowsAt.nil w 1
/-- sizes that the walks meet -/
structure Pg.fit (p : Pg) : Prop where
  ni : p.items.length ≤ 1000
  li : ∀ x ∈ p.items, x.length ≤ 100000
  np : p.paths.length ≤ 1000
  nq : ∀ q ∈ p.paths, q.length ≤ 200000
  lq : ∀ q ∈ p.paths, ∀ x ∈ q, x.length ≤ 100000
  lr : p.root.length ≤ 100000
  f0 : -9223372036854775808 ≤ p.fr ∧ p.fr ≤ 9223372036854775807
  s0 : -9223372036854775808 ≤ p.size ∧ p.size ≤ 9223372036854775807
set_option maxRecDepth 100000 in
set_option maxHeartbeats 4000000 in
theorem IndexFunc_str (K : FuncId) (hE : ∀ args w, (callFunc K args).run Tryz.prog w = .ok (.enter K args) w) (p : List UInt8 → Bool) (ls : List (List UInt8)) (hn : ls.length ≤ 140737488355328) (v : Value) (w : World) (hv : TextsAt w v ls)
    (hF : ∀ x ∈ ls, ∀ w', Below w.heap.size w w' → Calls Tryz.prog K #[.string (bs x)] w' fun e w'' => e = .returned (.bool (p x)) ∧ Below w'.heap.size w' w'') :
    Calls Tryz.prog 91 #[v, .func (.func K) #[] #[]] w (IdxR (ls.any p) w) := by
  obtain ⟨A, c, rfl, hc⟩ := hv.slice
  have HS := hide hv
  have HF := hide hF
  clear hv hF
  go_enter Tryz.func91, Tryz.ntmps91
  go_wp2_with fail
  go_loopw [5, 8] (fun _ i wr => ∃ k : Nat, i = .int .i64 (k : Int) ∧ k ≤ ls.length ∧ Aside (Below w.heap.size w wr) ∧ Aside (ls.any p = (ls.drop k).any p)) (fun _ i _ => ls.length - (intOf i).toNat)
  case atStart => exact ⟨0, rfl, by omega, Below.refl _ _, rfl⟩
  case round =>
    obtain ⟨k, rfl, hk, hB, hA⟩ := hrel
    have HB : Hid (Below w.heap.size w wr) := hB
    have HA : Hid (ls.any p = (ls.drop k).any p) := hA
    clear hB hA
    by_cases hlt : k < ls.length
    · have e1 : decide ((k : Int) < (ls.length : Int)) = true := decide_eq_true (by omega)
      obtain ⟨x, hx⟩ : ∃ x, ls[k]? = some x := ⟨_, List.getElem?_eq_getElem hlt⟩
      obtain ⟨a, rfl, ha, c0⟩ := (HS.out.to HB.out).at_ hx
      have CV := HF.out x (List.mem_of_getElem? hx) wr HB.out
      have HD := hide (drop_at' hx)
      clear hx
      cases hp : p x with
      | true =>
        rw [hp] at CV
        have HV : Hid (ls.any p = true) := by show _ = _; rw [HA.out, HD.out, List.any_cons, hp]; rfl
        clear hp
        go_wp2_with ((with_reducible refine CV.mono ?_); rintro e w4 ⟨rfl, hb4⟩)
        go_ret
        exact ⟨_, rfl, by rw [HV.out]; exact decide_eq_true (by omega), below_to HB.out (Nat.le_refl _) (by assumption)⟩
      | false =>
        rw [hp] at CV
        have HV : Hid (ls.any p = (ls.drop (k + 1)).any p) := by show _ = _; rw [HA.out, HD.out, List.any_cons, hp]; rfl
        clear hp
        go_wp2_with ((with_reducible refine CV.mono ?_); rintro e w4 ⟨rfl, hb4⟩)
        refine ⟨⟨k + 1, by go_num, by omega, below_to HB.out (Nat.le_refl _) (by assumption), HV.out⟩, ?_⟩
        simp [intOf]; omega
    · obtain rfl : k = ls.length := by omega
      have e1 : decide ((ls.length : Int) < (ls.length : Int)) = false := by simp
      have HV : Hid (ls.any p = false) := by show _ = _; rw [HA.out, List.drop_length]; rfl
      go_wp2_with fail
      go_ret
      exact ⟨-1, rfl, by rw [HV.out]; rfl, HB.out⟩
set_option maxHeartbeats 1000000 in
theorem ContainsFunc_str (K : FuncId) (hE : ∀ args w, (callFunc K args).run Tryz.prog w = .ok (.enter K args) w) (p : List UInt8 → Bool) (ls : List (List UInt8)) (hn : ls.length ≤ 140737488355328) (v : Value) (w : World) (hv : TextsAt w v ls)
    (hF : ∀ x ∈ ls, ∀ w', Below w.heap.size w w' → Calls Tryz.prog K #[.string (bs x)] w' fun e w'' => e = .returned (.bool (p x)) ∧ Below w'.heap.size w' w'') :
    Calls Tryz.prog 45 #[v, .func (.func K) #[] #[]] w fun e w' => e = .returned (.bool (ls.any p)) ∧ Below w.heap.size w w' := by
  have CI := IndexFunc_str K hE p ls hn v w hv hF
  clear hv hF
  go_enter Tryz.func45, Tryz.ntmps45
  go_wp2_with fail
  refine CI.mono ?_
  rintro e w2 ⟨i, rfl, hi, hb⟩
  have HI := hide hi
  have HB := hide hb
  clear hi hb
  go_wp2_with fail
  go_ret
  exact ⟨ret_bool HI.out, HB.out⟩
theorem ent_isLog1 : ∀ args w, (callFunc 70 args).run Tryz.prog w = .ok (.enter 70 args) w := enters_fn Tryz.func70 (by kernel_rfl) rfl
set_option maxHeartbeats 1000000 in
theorem isLog1_any (x : List UInt8) (hx : x.length ≤ 100000000000) (w : World) : Calls Tryz.prog 70 #[.string (bs x)] w fun e w' => e = .returned (.bool (decide (20000 < x.length))) ∧ Below w.heap.size w w' := by
  have hsz : (bs x).size = x.length := bs_size x
  have HV : Hid (decide ((20000 : Int) < (x.length : Int)) = decide (20000 < x.length)) := decide_eq_decide.2 (by omega)
  go_enter Tryz.func70, Tryz.ntmps70
  go_wp2_with fail
  go_ret
  exact ⟨ret_bool (by first | exact HV.out | rfl), Below.refl _ _⟩
def logB (l : List (List UInt8)) : Bool := !(l.any fun x => decide (20000 < x.length)) && decide (l.length ≤ 10000)
set_option maxHeartbeats 1000000 in
theorem isLog_any (ls : List (List UInt8)) (hn : ls.length ≤ 1000) (hx : ∀ x ∈ ls, x.length ≤ 100000) (v : Value) (w : World) (hv : TextsAt w v ls) :
    Calls Tryz.prog 27 #[v] w fun e w' => e = .returned (.bool (logB ls)) ∧ Below w.heap.size w w' := by
  have CI := ContainsFunc_str 70 ent_isLog1 (fun x => decide (20000 < x.length)) ls (by omega) v w hv (fun x h w' _ => isLog1_any x (by have := hx x h; omega) w')
  obtain ⟨A, c, rfl, hc⟩ := hv.slice
  have HV : Hid (logB ls = !(ls.any fun x => decide (20000 < x.length))) := by show _ = _; unfold logB; rw [decide_eq_true (by omega), Bool.and_true]
  have e1 : decide ((ls.length : Int) ≤ 10000) = true := decide_eq_true (by omega)
  have e2 : decide (ls.length ≤ 10000) = true := decide_eq_true (by omega)
  clear hv hx
  generalize (ls.any fun x => decide (20000 < x.length)) = b at *
  cases b
  all_goals
    go_enter Tryz.func27, Tryz.ntmps27
    go_wp2_with ((with_reducible refine CI.mono ?_); rintro e w' ⟨rfl, hb⟩)
    go_ret
    exact ⟨ret_bool (by rw [HV.out]; rfl), by assumption⟩
theorem ent_formed1 : ∀ args w, (callFunc 73 args).run Tryz.prog w = .ok (.enter 73 args) w := enters_fn Tryz.func73 (by kernel_rfl) rfl
set_option maxHeartbeats 1000000 in
theorem formed1_any (x : List UInt8) (hx : x.length ≤ 100000000000) (w : World) : Calls Tryz.prog 73 #[.string (bs x)] w fun e w' => e = .returned (.bool (!isD x)) ∧ Below w.heap.size w w' := by
  have CI := Is_any x (by omega) w
  go_enter Tryz.func73, Tryz.ntmps73
  go_wp2_with ((with_reducible refine CI.mono ?_); rintro e w' ⟨rfl, hb⟩)
  go_ret
  exact ⟨rfl, by assumption⟩
end Go.Proofs.YtnjlefggkfagmaaGreatDoor

/- A drawn region whose tail is in a forced order, at the wide fence and in a round. -/
set_option linter.unusedVariables false
set_option linter.unusedSimpArgs false
namespace Go.Proofs.YtnjlefggkfagmaaGreatDoor
open Go Go.RowKit

theorem Oper_wpIn_ofW {P : Program} {n : Nat} {o : Oper} {a : Act} {w : World} {K : Act → World → Prop} {Q : Exit → Act → World → Prop} (hd : ∀ c, o.op ≠ .defer c) (h : o.wp P a w K Q) : o.wpIn Fence.wide n P a w K Q := by
  unfold Oper.wp at h
  unfold Oper.wpIn
  refine ⟨fun _ _ => trivial, ?_⟩
  rw [show Oper.semAt Fence.wide.round a.eval o = execOp a.eval o from rfl]
  generalize (execOp a.eval o).run P w = r at h ⊢
  cases r with
  | ok x w' =>
    cases x <;> simp only [Oper.upon] at h <;> simp only [Oper.uponIn]
    case value v => exact h
    case skip => exact h
    case defer d => exact h
    case enter f args => exact ⟨fun h' => absurd h' (by simp [Fence.wide]), callsIn_wide.2 h⟩
    case row r args => exact ⟨fun h' => absurd h' (by simp [Fence.wide]), fun c cs _ => let ⟨v, w'', hr, s⟩ := h c cs; ⟨v, w'', hr, stepsIn_wide.2 s⟩⟩
  | halt x w' => cases x <;> simp only [Oper.upon] at h <;> simp only [Oper.uponIn] <;> first | exact h | exact h.elim
theorem wpOpIn_ofW {P : Program} {ops : Array Oper} {n i : Nat} {a : Act} {w : World} {K : Act → World → Prop} {Q : Exit → Act → World → Prop} (hd : noDefer ops = true) (hno : ¬ LetsOut Q) (h : wpOp P ops Q i K a w) : wpOpIn Fence.wide n P ops Q i K a w := by
  unfold wpOp at h
  unfold wpOpIn
  split
  · rename_i ho; simpa only [ho] using h
  · rename_i o ho
    simp only [ho] at h
    split
    · rename_i hw
      rw [if_pos hw] at h
      rcases h with h | h
      · refine Oper_wpIn_ofW (fun c hc => ?_) h
        have := Array.all_eq_true_iff_forall_mem.1 hd o (Array.mem_of_getElem? ho)
        rw [hc] at this
        cases this
      · exact absurd h.2 hno
    · rename_i hw
      rw [if_neg hw] at h
      exact ⟨fun _ _ => trivial, h⟩
theorem wpAnyIn_ofW {P : Program} {ops : Array Oper} {n : Nat} {md : Region.Mode} {Q : Exit → Act → World → Prop} (hd : noDefer ops = true) (hno : ¬ LetsOut Q) : ∀ (f : Nat) (listed : Array Bool) (a : Act) (w : World), wpAny P md ops Q f listed a w → wpAnyIn Fence.wide n P md ops Q f listed a w
  | 0, _, _, _, h => h
  | f + 1, _, _, _, h => ⟨h.1, fun i hi => wpOpIn_ofW hd hno (wpOp_mono (fun a w h' => wpAnyIn_ofW hd hno f _ a w h') (h.2 i hi))⟩
/-- a drawn region at the wide fence -/
theorem wpIn_region_ofW {P : Program} {id n : Nat} {ops : Array Oper} {a : Act} {w : World} {Q : Exit → Act → World → Prop} (hm : P.follows .mixedOrders = true) (hd : noDefer ops = true) (hno : ¬ LetsOut Q)
    (h : wpAny P .any ops Q ops.size (Array.replicate ops.size false) a w.drew) : (Code.region id ops true).wpIn Fence.wide n P Q a w :=
  wpIn_region_any hm (wpAnyIn_ofW hd hno _ _ _ _ h)
section
variable {P : Program} {ops : Array Oper} {md : Region.Mode} {C : World → Prop} {F : Fence} {m : Nat}
theorem wpAnyIn_of_T {n g : Nat} {L : Array Bool → Act → Prop} {Q : Exit → Act → World → Prop} (hop : ∀ i K a w, wpOp P ops Q i K a w → wpOpIn F m P ops Q i K a w) (hL : ∀ listed a w, C w → L listed a → wpAnyIn F m P md ops Q g listed a w) :
    ∀ (f : Nat) (listed : Array Bool) (a : Act) (w : World), C w → wpAnyT P md ops C n L f listed a → wpAnyIn F m P md ops Q (f + g) listed a w := by
  intro f
  induction f with
  | zero => intro listed a w hw h; rw [Nat.zero_add]; exact hL _ _ _ hw h
  | succ f ih =>
    intro listed a w hw h
    rw [Nat.succ_add]
    exact ⟨fun h0 => absurd h0 h.1, fun i hi => hop _ _ _ _ (wpOp_of_qOp hw (fun a' w' hw' h' => ih _ a' w' hw' h') (h.2 i hi).2)⟩
theorem wpAnyIn_of_seq {Q' : Exit → Act → World → Prop} : ∀ (l : List Oper) (k : Nat) (listed : Array Bool) (a : Act) (w : World), (∀ j, l[j]? = ops[k + j]?) →
    Region.seqB md ops l.length k listed = true → wpListIn F m P ops Q' l a w → wpAnyIn F m P md ops Q' l.length listed a w
  | [], _, _, _, _, _, hB, h => ⟨by simpa [Region.seqB] using hB, h⟩
  | o :: l, k, listed, a, w, hl, hB, h => by
    have h0 : ops[k]? = some o := by simpa using (hl 0).symm
    simp only [List.length_cons, Region.seqB, Bool.and_eq_true, decide_eq_true_eq] at hB
    refine ⟨fun h1 => (by rw [hB.1] at h1; cases h1), fun i hi => ?_⟩
    rw [hB.1] at hi
    have hik : i = k := by simpa using hi
    subst hik
    have hw : wpOpIn F m P ops Q' i (wpListIn F m P ops Q' l) a w := by unfold wpOpIn; simp only [h0]; exact h
    exact wpOpIn_mono (fun a' w' h' => wpAnyIn_of_seq l (i + 1) _ a' w' (fun j => by have := hl (j + 1); simpa [Nat.add_assoc, Nat.add_comm 1 j] using this) hB.2 h') hw
/-- the head is of the class, the tail's order is forced -/
theorem wpIn_region_class_tail {U : Type} (g : U → World) (n : Nat) {id : Nat} {Q : Exit → Act → World → Prop} {a : Act} {w : World} {l : List Oper} (hm : P.follows .mixedOrders = true) (hop : ∀ i K a w, wpOp P l.toArray Q i K a w → wpOpIn F m P l.toArray Q i K a w)
    (hB : Region.lexTailB .any l.toArray n = true) (hC : ∃ u, w.drew = g u)
    (h : wpQuiet P l.toArray (fun w' => ∃ u, w' = g u) (fun a' => ∀ w', (∃ u, w' = g u) → wpListIn F m P l.toArray Q (l.drop n) a' w') (l.take n) a) : (Code.region id l.toArray true).wpIn F m P Q a w := by
  simp only [Region.lexTailB, Bool.and_eq_true, decide_eq_true_eq] at hB
  obtain ⟨⟨⟨⟨hsel, hn⟩, hs⟩, hc⟩, hlex⟩ := hB
  have hsz : l.toArray.size = l.length := by simp
  have htl : (l.take n).length = n := by simp; omega
  have hdl : (l.drop n).length = l.toArray.size - n := by simp
  have inv0 : HeadInv .any l.toArray n (Array.replicate l.toArray.size false) :=
    ⟨by simp, fun j oj _ hl => (by rw [getD_replicate_false] at hl; cases hl), fun t _ ht => getD_in (by simpa using ht) (getD_replicate_false _ _)⟩
  have H := wpAnyT_lex (md := .any) (g := l.toArray.size - n) hsel hs hc hn (l.take n) 0 _ a (fun j hj => by
    rw [htl] at hj
    simp [hj]) (by simpa using htl) inv0 (by rw [htl]; exact hlex) h
  refine wpIn_region_any hm ?_
  have := wpAnyIn_of_T (Q := Q) (F := F) (m := m) hop (g := l.toArray.size - n) (fun listed a' w' hw' hL => by
    have := wpAnyIn_of_seq (md := .any) (F := F) (m := m) (Q' := Q) (l.drop n) n listed a' w' (fun j => by simp [List.getElem?_drop]) (by rw [hdl]; exact hL.1) (hL.2 w' hw')
    rwa [hdl] at this) _ _ _ _ hC H
  rw [htl, show n + (l.toArray.size - n) = l.toArray.size by omega] at this
  exact this
end
end Go.Proofs.YtnjlefggkfagmaaGreatDoor

/- page.items and its closure. -/
set_option linter.unusedVariables false
set_option linter.unusedSimpArgs false
namespace Go.Proofs.YtnjlefggkfagmaaGreatDoor
open Go.RowKit Go.Shelf
attribute [local go_sem] Oper.semAt_some

/-- the path slice at place k -/
def vpsOf (w : World) (v : Value) (k : Nat) : Value := match v with | .slice (some a) _ _ => (w.cell? (a.add k)).getD undef | _ => undef
theorem PathsAt.vps {w : World} {v : Value} {ps : List (List (List UInt8))} (h : PathsAt w v ps) {k : Nat} {p : List (List UInt8)} (hp : ps[k]? = some p) : TextsAt w (vpsOf w v k) p ∧ ∃ a c, v = .slice (some a) ps.length c ∧ a.block < w.heap.size ∧ w.cell? (a.add k) = some (vpsOf w v k) := by
  obtain ⟨A, c, h1, h2, h3⟩ := h
  obtain ⟨a, vv, e, hl, hc, ht⟩ := h3 k p hp
  subst h1 e
  have : vpsOf w (.slice (some a) ps.length c) k = vv := by unfold vpsOf; simp only [hc]; rfl
  rw [this]
  exact ⟨ht, a, c, rfl, hl, hc⟩
/-- the five cells of a page -/
def Pg.cs (p : Pg) (vi vp : Value) : Array Value := #[.int .i64 p.fr, .int .i64 p.size, .string (bs p.root), vi, vp]
/-- what a round keeps -/
def KpX (n₀ bx : Nat) (W W' : World) : Prop := Below n₀ W W' ∧ W'.heap[bx]? = W.heap[bx]?
theorem KpX.t {n₀ bx : Nat} {A B C : World} (h : KpX n₀ bx A B) (k : KpX n₀ bx B C) : KpX n₀ bx A C := ⟨h.1.trans k.1, k.2.trans h.2⟩
theorem KpX.refl (n₀ bx : Nat) (W : World) : KpX n₀ bx W W := ⟨Below.refl _ _, rfl⟩
theorem KpX.b {n₀ bx : Nat} {w : World} (h : n₀ ≤ w.heap.size) (hb : bx < w.heap.size) (W : World) (l : Nat) (o o' : Obj) (hl : w.heap.size ≤ l) (ho : W.heap[l]? = some o) (h1 : o.isCells = false) (h2 : o.isWalk = false) : KpX n₀ bx W (W.putObj l o') := by
  refine ⟨belowK_b h W l o o' hl ho h1 h2, ?_⟩
  show (W.heap.setIfInBounds l o')[bx]? = _
  rw [Array.getElem?_setIfInBounds_ne (by omega)]
theorem KpX.of {n₀ bx : Nat} {W W' : World} (h : Below W.heap.size W W') (hn : n₀ ≤ W.heap.size) (hb : bx < W.heap.size) : KpX n₀ bx W W' := ⟨h.mono hn, h.block bx hb⟩
/-- item k of a page -/
def Pg.enc (p : Pg) (w : World) (vp : Value) (k : Fin p.items.length) : Array Value := #[.agg #[.int .i64 (p.fr + (k : Nat)), .string (bs p.items[k]), vpsOf w vp k]]
theorem finRange_snoc (n k : Nat) (hk : k < n) : (List.finRange n).take (k + 1) = (List.finRange n).take k ++ [⟨k, hk⟩] := by
  rw [List.take_succ_eq_append_getElem (by simpa using hk)]
  simp
set_option maxHeartbeats 1000000 in
theorem items_any (p : Pg) (vi vp : Value) (w : World) : Calls Tryz.prog 31 #[.agg (p.cs vi vp)] w fun e w' => e = .returned (.func (.func 74) #[] #[.pointer (some ⟨w.heap.size, 0, none⟩)]) ∧ w' = w.alloc (.cells (p.cs vi vp) 38) := by
  unfold Pg.cs
  go_enter Tryz.func31, Tryz.ntmps31
  go_wp2_with fail
  go_ret
  exact ⟨rfl, rfl⟩
end Go.Proofs.YtnjlefggkfagmaaGreatDoor

/- The items of a page, one after the other. -/
set_option linter.unusedVariables false
set_option linter.unusedSimpArgs false
namespace Go.Proofs.YtnjlefggkfagmaaGreatDoor
open Go.RowKit Go.Shelf
attribute [local go_sem] Oper.semAt_some

set_option maxRecDepth 100000 in
set_option maxHeartbeats 2000000 in
theorem items1_in (n : Nat) (hn : 1 ≤ n) (l bx : Nat) (p : Pg) (hl : p.items.length ≤ 1000) (hp : p.paths.length = p.items.length) (hf : 0 ≤ p.fr ∧ p.fr ≤ 10000) (vi vp : Value) (w0 : World) (hvi : TextsAt w0 vi p.items) (hvp : PathsAt w0 vp p.paths)
    (J Jx : List (Fin p.items.length) → World → Prop) (hJd : ∀ pre W, J pre W → J pre W.drew)
    (hY : ∀ pre x W, J pre W → pre.length < p.items.length → YieldAt Fence.wide (n - 1) Tryz.prog l (p.enc w0 vp x) W fun e W' =>
      (e = .returned (.bool true) ∧ J (pre ++ [x]) W' ∧ KpX w0.heap.size bx W W') ∨ (e = .returned (.bool false) ∧ Jx (pre ++ [x]) W'))
    (W : World) (hb0 : Below w0.heap.size w0 W) (hbx : Blk W bx 38 (p.cs vi vp)) (h0 : J [] W) :
    CallsIn Fence.wide n Tryz.prog 74 #[.func (.yield l) #[] #[], .pointer (some ⟨bx, 0, none⟩)] W fun e W' => (∃ v, e = .returned v) ∧
      ((∃ ys, ys = List.finRange p.items.length ∧ J ys W') ∨ (∃ pre, True ∧ Jx pre W')) := by
  have HY := hide hY
  have HI := hide hvi
  have HP := hide hvp
  have HB0 := hide hb0
  have HX := hide hbx
  obtain ⟨Ai, ci, rfl, hci⟩ := hvi.slice
  obtain ⟨Ap, cp, rfl, hcp⟩ := hvp.slice
  have x3 : W.cell? ⟨bx, 3, none⟩ = some (.slice Ai p.items.length ci) := (hbx.cell 3).trans rfl
  clear hY hvi hvp hb0 hbx
  refine callsIn_of_wp Tryz.func74 rfl trivial ?_ rfl
  simp only [Tryz.ntmps74, List.size_toArray, List.length_cons, List.length_nil, Nat.reduceAdd, Nat.reduceSub, Array.replicate_succ, Array.replicate_zero, List.push_toArray, List.append_toArray, List.nil_append, List.cons_append]
  gi_wp2
  gi_loopw [8] (fun i wr => ∃ k : Nat, k ≤ p.items.length ∧ i = .int .i64 k ∧ Aside (J ((List.finRange p.items.length).take k) wr) ∧ Aside (KpX w0.heap.size bx W wr))
    (fun i _ => p.items.length - (intOf i).toNat)
  case atStart => exact ⟨0, Nat.zero_le _, rfl, h0, KpX.refl _ _ _⟩
  case round =>
    obtain ⟨k, hk, rfl, hJs, hnx⟩ := hrel
    have HJ := hide hJs
    have HK := hide hnx
    clear hJs hnx
    by_cases hlt : k < p.items.length
    · have e1 : decide ((k : Int) < (p.items.length : Int)) = true := decide_eq_true (by omega)
      obtain ⟨x, hx⟩ : ∃ x, p.items[k]? = some x := ⟨_, List.getElem?_eq_getElem hlt⟩
      obtain ⟨q, hq⟩ : ∃ q, p.paths[k]? = some q := ⟨_, List.getElem?_eq_getElem (by omega)⟩
      have hB := HB0.out.trans HK.out.1
      obtain ⟨ai, e2, hai, ci0⟩ := (HI.out.to hB).at_ hx
      obtain ⟨ht, ap, cp', e3, hap, cp0⟩ := HP.out.vps hq
      injection e3 with e3a e3b e3c
      subst e2 e3a
      have hbw : wr.heap[bx]? = W.heap[bx]? := HK.out.2
      have b0 : wr.cell? ⟨bx, 0, none⟩ = some (.int .i64 p.fr) := ((show Blk wr bx _ _ from hbw.trans HX.out).cell 0).trans rfl
      have b4 : wr.cell? ⟨bx, 4, none⟩ = some (.slice (some ap) p.paths.length cp) := ((show Blk wr bx _ _ from hbw.trans HX.out).cell 4).trans rfl
      have c1 := (hB.cell (p := ap.add k) (by rw [block_of_add]; exact hap)).trans cp0
      have hlp : k < p.paths.length := by omega
      have hE : p.enc w0 (.slice (some ap) p.paths.length cp) ⟨k, hlt⟩ = #[.agg #[.int .i64 (p.fr + k), .string (bs x), vpsOf w0 (.slice (some ap) p.paths.length cp) k]] := by
        unfold Pg.enc
        rw [show p.items[(⟨k, hlt⟩ : Fin p.items.length)] = x from (List.getElem?_eq_some_iff.1 hx).2]
      obtain ⟨fn, tmps, assign, body, hy, hR⟩ := HY.out _ ⟨k, hlt⟩ wr.drew (hJd _ _ HJ.out) (by rw [List.length_take, List.length_finRange]; omega)
      rw [hE] at hy
      have HR := hide hR
      generalize vpsOf w0 (.slice (some ap) p.paths.length cp) k = vq at *
      obtain ⟨Aq, cq, rfl, hcq⟩ := ht.slice
      clear hbw hx hq ht hE hR
      have hno : ∀ a w, ¬ (bodyPost Tryz.prog Tryz.f74 fun e W' => (∃ v, e = Ending.returned v) ∧ ((∃ ys, ys = List.finRange p.items.length ∧ J ys W') ∨ ∃ pre, True ∧ Jx pre W')) .outgrown a w := by
        rintro a w ⟨⟨v, h⟩, _⟩
        cases h
      have HNO := hide hno
      clear hno
      have ek : IntKind.i64.wrap (p.fr + (k : Int)) = p.fr + (k : Int) := IntWalk.i64_in _ (by omega)
      gi_wp2
      refine wpIn_region_class_tail (U := Unit) (fun _ => wr.drew) 12 (by kernel_rfl) (fun i K a w h => wpOpIn_ofW (by kernel_rfl) (fun ⟨a, w, h⟩ => HNO.out a w h) h) (by kernel_rfl) ⟨(), rfl⟩ ?_
      simp only [List.take_succ_cons, List.take_zero, List.drop_succ_cons, List.drop_zero]
      have b0' := fun (u : Unit) => (show wr.drew.cell? ⟨bx, 0, none⟩ = _ from b0)
      have b4' := fun (u : Unit) => (show wr.drew.cell? ⟨bx, 4, none⟩ = _ from b4)
      have c1' := fun (u : Unit) => (show wr.drew.cell? (ap.add k) = _ from c1)
      repeat (go_big_quiet_step (fail))
      refine wpQuiet_nil ?_
      intro w2 hw2
      obtain ⟨u, rfl⟩ := hw2
      clear b0' b4' c1'
      have hk1 : KpX w0.heap.size bx wr wr.drew := ⟨(Below.refl _ _).drew, rfl⟩
      have HK2 := hide (HK.out.t hk1)
      clear hk1
      gi_wp2
      refine HR.out.mono ?_
      rintro e W3 (⟨rfl, hJ3, hk3⟩ | ⟨rfl, hJx3⟩)
      · have HJ3 := hide hJ3
        have HK3 := hide (HK2.out.t hk3)
        clear hJ3 hk3
        gi_wp2
        go_roundw
        case rel => exact ⟨k + 1, by omega, by go_num, by show J _ _; rw [finRange_snoc _ k hlt]; exact HJ3.out, HK3.out⟩
        case measure => simp [intOf]; omega
      · gi_wp2
        refine bodyPost_ret (results_none rfl _ _ _) rfl ?_
        exact ⟨⟨_, rfl⟩, .inr ⟨_, trivial, hJx3⟩⟩
    · obtain rfl : k = p.items.length := by omega
      have e1 : decide ((p.items.length : Int) < (p.items.length : Int)) = false := by simp
      gi_wp2
      go_end0
      exact ⟨⟨_, rfl⟩, .inl ⟨_, rfl, by have := HJ.out; rwa [List.take_of_length_le (by simp)] at this⟩⟩
theorem items_stops (n : Nat) (hn : 1 ≤ n) (bx : Nat) (p : Pg) (hl : p.items.length ≤ 1000) (hp : p.paths.length = p.items.length) (hf : 0 ≤ p.fr ∧ p.fr ≤ 10000) (vi vp : Value) (w0 : World) (hvi : TextsAt w0 vi p.items) (hvp : PathsAt w0 vp p.paths)
    (w : World) (hb0 : Below w0.heap.size w0 w) (hbx : Blk w bx 38 (p.cs vi vp)) :
    SeqStopsK Fence.wide n Tryz.prog 74 #[.pointer (some ⟨bx, 0, none⟩)] (p.enc w0 vp) (KpX w0.heap.size bx) (fun ys => ys = List.finRange p.items.length) (fun _ => True) p.items.length w := fun l J Jx W hW hJ _ hY h0 =>
  items1_in n hn l bx p hl hp hf vi vp w0 hvi hvp J Jx (fun pre W1 h => hJ pre W1 W1.drew none h ⟨rfl, rfl, rfl, Nat.le_refl _, fun _ _ _ => rfl⟩ (fun r e => by cases e)) hY W (hb0.trans (hW.mono hb0.size)) ((hW.block bx hbx.lt).trans hbx) h0
end Go.Proofs.YtnjlefggkfagmaaGreatDoor
