/- Several texts as one, in build order. -/
import Derived.Test.YtnpdhbagfkilkaaProg
import Derived.WalkKit
import Derived.WalkSpells
import Derived.WalkLawsBesides
import Derived.Lib.Hide
import Derived.Deep.QuietTactic
import Derived.BigQuiet
import Derived.BigRegion
import Derived.Deep.LoopGhost
import Derived.Deep.DeepFit
import Derived.Deep.RegionWith
import Derived.Deep.RegionHeld3
import Derived.StillTailTactics
import Derived.Laws.EntriesVeiled
import Derived.Laws.OwnMore
import Derived.Laws.Rows
import Derived.Deep.AppendLies
import Derived.Deep.Draws
import Derived.ProofKit
import Derived.ChangeOld
import Derived.Below
import Derived.SizedLaws
import Derived.Deep.Slices
import Derived.Deep.Fields
import Derived.Maps.Own
import Derived.MapKept
import Derived.WideKeyArr
import Derived.WideKeyArr2
import Derived.Test.YtnpdhbagfkilkaaShelf
import Derived.Laws.RangeAny
import Derived.Laws.RangeString
/- Base words for the walks of this seat: memory that reads as lists, blocks known whole, frames. -/
set_option linter.unusedVariables false
set_option linter.unusedSimpArgs false
namespace Go.Proofs.Ytnpdhbagfkilkaa
open Go.RowKit

theorem hide {p : Prop} (h : p) : Hid p := h

theorem ret_bool {a b : Bool} (h : a = b) : Ending.returned (.bool a) = .returned (.bool b) := by rw [h]

theorem below_drewN {B : Nat} {a w : World} (h : Below B a w) (n : Nat) : Below B a (w.drewN n) := ⟨h.os, h.tape, h.output, h.size, h.block⟩

theorem block_of_add (a : Addr) (n : Nat) : (a.add n).block = a.block := by unfold Addr.add; split <;> rfl
theorem add_of_add (a : Addr) (i j : Nat) : (a.add i).add j = a.add (i + j) := by
  unfold Addr.add
  by_cases hi : i = 0 <;> by_cases hj : j = 0 <;> simp [hi, hj, Nat.add_assoc]

/-- the slice value '.slice A n c' holds the cells xs, below block B -/
def Reads (w : World) (B size : Nat) (A : Option Addr) (n : Nat) (xs : List Value) : Prop :=
  xs.length = n * size ∧ (0 < n → ∃ ad, A = some ad ∧ ad.block < B ∧ ∀ j u, xs[j]? = some u → w.cell? (ad.add j) = some u)

section
variable {w w' : World} {B B' size n : Nat} {A : Option Addr} {xs : List Value}
theorem Reads.none_ : Reads w B size A 0 [] := ⟨by simp, fun h => absurd h (by omega)⟩
theorem Reads.keep (h : Reads w B size A n xs) (hk : ∀ p : Addr, p.block < B → w'.cell? p = w.cell? p) : Reads w' B size A n xs :=
  ⟨h.1, fun hn => by
    obtain ⟨ad, e, hb, hc⟩ := h.2 hn
    exact ⟨ad, e, hb, fun j u hu => (hk _ (by rw [block_of_add]; exact hb)).trans (hc j u hu)⟩⟩
theorem Reads.more (h : Reads w B size A n xs) (hB : B ≤ B') : Reads w B' size A n xs :=
  ⟨h.1, fun hn => by
    obtain ⟨ad, e, hb, hc⟩ := h.2 hn
    exact ⟨ad, e, by omega, hc⟩⟩
theorem Reads.below {C : Nat} (h : Reads w B size A n xs) (hb : Below C w w') (hB : B ≤ C) : Reads w' B size A n xs := h.keep fun _ hp => hb.cell (by omega)
theorem Reads.alloc (h : Reads w B size A n xs) (hB : B ≤ w.heap.size) (o : Obj) : Reads (w.alloc o) B size A n xs := h.keep fun p hp => World.cell?_alloc_lt w o p (by omega)
/-- element k of a slice of elements of 'size' cells -/
theorem Reads.at_ {k : Nat} (h : Reads w B size A n xs) (hk : k < n) : ∃ ad, A = some ad ∧ ad.block < B ∧ ∀ j, j < size → ∃ u, xs[k * size + j]? = some u ∧ w.cell? ((ad.add (k * size)).add j) = some u := by
  obtain ⟨ad, e, hb, hc⟩ := h.2 (by omega)
  refine ⟨ad, e, hb, fun j hj => ?_⟩
  have hl : k * size + j < xs.length := by
    rw [h.1]
    have : (k + 1) * size ≤ n * size := Nat.mul_le_mul_right _ (by omega)
    rw [Nat.add_mul] at this
    omega
  exact ⟨xs[k * size + j], List.getElem?_eq_getElem hl, by rw [add_of_add]; exact hc _ _ (List.getElem?_eq_getElem hl)⟩
end

/-- block g is just the cells cs of element type t, none frozen -/
def Blk (w : World) (g : Nat) (t : TypeId) (cs : Array Value) : Prop := w.heap[g]? = some (.cells cs t (0, 0))

section
variable {w w' : World} {g : Nat} {t : TypeId} {cs : Array Value}
theorem Blk.lt (h : Blk w g t cs) : g < w.heap.size := by
  rcases Nat.lt_or_ge g w.heap.size with hlt | hge
  · exact hlt
  · unfold Blk at h; rw [Array.getElem?_eq_none hge] at h; cases h
theorem Blk.cell (h : Blk w g t cs) (i : Nat) : w.cell? ⟨g, i, none⟩ = cs[i]? := cell_of_row w g i cs t (0, 0) h
theorem Blk.frozen (h : Blk w g t cs) (i : Nat) : w.frozen? ⟨g, i, none⟩ = false := by
  unfold Blk at h
  simp [World.frozen?, h]
theorem Blk.new (w : World) (t : TypeId) (cs : Array Value) : Blk (w.alloc (.cells cs t)) w.heap.size t cs := heap_alloc_new w _
theorem Blk.drew (h : Blk w g t cs) : Blk w.drew g t cs := h
theorem Blk.drewN (h : Blk w g t cs) (n : Nat) : Blk (w.drewN n) g t cs := h
theorem Blk.alloc (h : Blk w g t cs) (o : Obj) : Blk (w.alloc o) g t cs := (Below.heap_alloc w o g h.lt).trans h
theorem Blk.set_ (h : Blk w g t cs) (i : Nat) (u : Value) : Blk (w.setCell ⟨g, i, none⟩ u) g t (cs.setIfInBounds i u) := by
  unfold Blk at h ⊢
  simp [World.setCell, Array.getElem?_modify, h]
theorem Blk.far (h : Blk w g t cs) {p : Addr} (hp : g ≠ p.block) (u : Value) : Blk (w.setCell p u) g t cs := (Below.heap_setCell w p u g hp).trans h
theorem Blk.below {B : Nat} (h : Blk w g t cs) (hb : Below B w w') (hg : g < B) : Blk w' g t cs := (hb.block g hg).trans h
end

end Go.Proofs.Ytnpdhbagfkilkaa

/- What came in, opened type by type: cells that read as data of a type, with the reach. -/
set_option linter.unusedVariables false
set_option linter.unusedSimpArgs false
namespace Go.Proofs.Ytnpdhbagfkilkaa
open Go.RowKit Go.ChangeShapes Go.WideShapes Go.Deep

theorem maxR {n : Nat} (h : n ≤ reachBytes) : n ≤ maxLen := by unfold reachBytes at h; unfold maxLen; omega
theorem maxN {n c b : Nat} (hn : n ≤ c) (h : c * (b + 1) ≤ reachBytes) : n ≤ 140737488355328 := by
  unfold reachBytes at h
  have : c * 1 ≤ c * (b + 1) := Nat.mul_le_mul_left _ (by omega)
  omega
/-- the cells cs came in as a datum of type t -/
def CameC {H : Type} (enc : TypeId × Value → H) (P : Program) (w : World) (t : TypeId) (cs : List Value) : Prop :=
  ∃ (n : Nat) (d : DataW H) (p : List MemPlace), DataW.trod enc P w 0 (fun _ => true) true n t cs = some (d, p) ∧ ∀ k ∈ d.weights P t, k ≤ reachBytes

section
variable {H : Type} {enc : TypeId × Value → H} {P : Program} {w : World} {t e : TypeId} {cs : List Value}

theorem CameC.of_trod {v : Value} {d : DataW H} {p : List MemPlace} (h : DataW.Trod enc P w 0 (fun _ => true) true t v d p) (hw : ∀ k ∈ d.weights P t, k ≤ reachBytes) : CameC enc P w t v.cells.toList := by
  obtain ⟨n, hn⟩ := h
  exact ⟨n, d, p, hn, hw⟩
theorem weights_each {ts : List TypeId} {ds : List (DataW H)} (h : (DataW.weightsEach P ts ds).all (· ≤ reachBytes) = true) (j : Nat) {d : DataW H} (ht : ts[j]? = some t) (hd : ds[j]? = some d) : ∀ k ∈ d.weights P t, k ≤ reachBytes := fun k hk => by
  have := List.all_eq_true.1 h _ (DataW.weights_mem_each ht hd k hk)
  simpa using this
theorem weights_all {d : DataW H} : ∀ {l : List (DataW H)}, d ∈ l → ∀ k ∈ d.weights P e, k ∈ DataW.weightsAll P e l
  | [], h, _, _ => by simp at h
  | x :: l, h, k, hk => by
    simp only [DataW.weightsAll, List.mem_append]
    rcases List.mem_cons.1 h with rfl | h
    · exact .inl hk
    · exact .inr (weights_all h k hk)

theorem CameC.int {q : IntKind} (ht : P.underlying t = some (.int q)) (h : CameC enc P w t cs) : ∃ n, cs = [.int q n] ∧ (Lit.int q n).wf = true := by
  obtain ⟨n, d, p, h, _⟩ := h
  obtain ⟨z, h1, _, h2⟩ := DataW.trod_int ht h
  exact ⟨z, h1, h2⟩
theorem CameC.string (ht : P.underlying t = some .string) (h : CameC enc P w t cs) : ∃ s : ByteArray, cs = [.string s] ∧ s.size ≤ reachBytes := by
  obtain ⟨n, d, p, h, hw⟩ := h
  obtain ⟨s, h1, h2, _⟩ := DataW.trod_string ht h
  obtain ⟨rfl, rfl⟩ := Prod.mk.injEq .. ▸ h2
  exact ⟨s, h1, by simpa using hw s.size (by simp [DataW.weights])⟩
theorem CameC.slice (ht : P.underlying t = some (.slice e)) (h : CameC enc P w t cs) :
    cs = [.slice none 0 0] ∨ ∃ (a : Addr) (n c : Nat), cs = [.slice (some a) n c] ∧ n ≤ c ∧ c * P.bytesOf e ≤ reachBytes ∧ c ≤ maxLen ∧
      ∀ i, i < n → ∃ cs', cs'.length = P.cellsOf e ∧ (∀ j, j < P.cellsOf e → w.cell? (a.add (i * P.cellsOf e + j)) = cs'[j]?) ∧ CameC enc P w e cs' := by
  obtain ⟨m, d, p, h, hw⟩ := h
  rcases DataW.trod_slice ht h with ⟨h0, _⟩ | ⟨a, n, c, elems, rest, k, _, rfl, hx, _, hl, hm, hlen, hel, hsp, _⟩
  · exact .inl h0
  · obtain ⟨rfl, rfl⟩ := Prod.mk.injEq .. ▸ hx
    have hr := (hsp rfl).1
    refine .inr ⟨a, n, c, rfl, hl, ?_, hm, fun i hi => ?_⟩
    · have := hw ((elems.length + rest.length) * P.bytesOf e) (by simp [DataW.weights, ht])
      rwa [hlen, hr, show n + (c - n) = c by omega] at this
    · have hg : elems[i]? = some (elems[i]'(by omega)) := List.getElem?_eq_getElem (by omega)
      have he := hel i hi
      rw [hg] at he
      obtain ⟨cs', h1, h2⟩ := Option.bind_eq_some_iff.1 he
      obtain ⟨_, hcl, hat⟩ := World.cells?_some h1
      refine ⟨cs', hcl, fun j hj => ?_, k, (elems[i]'(by omega)).1, (elems[i]'(by omega)).2, h2, fun q hq => hw q ?_⟩
      · rw [← add_of_add]; exact hat j hj
      · simp only [DataW.weights, ht, List.mem_cons, List.mem_append]
        exact .inr (.inl (weights_all (List.mem_map.2 ⟨_, List.getElem_mem (by omega), rfl⟩) q hq))
theorem CameC.struct {fs : Array Field} (ht : P.underlying t = some (.struct fs)) (h : CameC enc P w t cs) : cs.length = P.cellsOf t ∧ ∀ (i : Nat) (f : Field), fs[i]? = some f → CameC enc P w f.type ((cs.drop f.offset).take (P.cellsOf f.type)) := by
  obtain ⟨m, d, p, h, hw⟩ := h
  obtain ⟨xs, n, _, hx, hl, hlen, hf⟩ := DataW.trod_struct ht h
  obtain ⟨rfl, rfl⟩ := Prod.mk.injEq .. ▸ hx
  refine ⟨hl, fun i f hi => ?_⟩
  have hlt : i < xs.length := by rw [hlen]; exact (Array.getElem?_eq_some_iff.1 hi).1
  have hg : xs[i]? = some xs[i] := List.getElem?_eq_getElem hlt
  have h1 := hf i f hi
  rw [hg] at h1
  refine ⟨n, xs[i].1, xs[i].2, h1, fun q hq => hw q ?_⟩
  simp only [DataW.weights, ht]
  refine DataW.weights_mem_each (j := i) (t := f.type) (d := xs[i].1) ?_ ?_ q hq
  · rw [List.getElem?_map, Array.getElem?_toList, hi]; rfl
  · rw [List.getElem?_map, hg]; rfl
/-- a struct of one-cell fields, cell by cell -/
theorem CameC.fields {fs : Array Field} (ht : P.underlying t = some (.struct fs)) (hone : oneCellFields P fs = true) (hC : P.cellsOf t = fs.size) (h : CameC enc P w t cs) : cs.length = fs.size ∧ ∀ (i : Nat) (f : Field), fs[i]? = some f → ∃ v, cs[i]? = some v ∧ CameC enc P w f.type [v] := by
  obtain ⟨h1, h2⟩ := h.struct ht
  rw [hC] at h1
  refine ⟨h1, fun i f hi => ?_⟩
  obtain ⟨ho, hk⟩ := hone_of hone i f hi
  have hlt : i < cs.length := by rw [h1]; exact (Array.getElem?_eq_some_iff.1 hi).1
  have h3 := h2 i f hi
  rw [ho, hk, List.drop_eq_getElem_cons hlt] at h3
  exact ⟨cs[i], List.getElem?_eq_getElem hlt, h3⟩

/-- a slice of integers that came in reads as a list -/
theorem CameC.intList {q : IntKind} (ht : P.underlying t = some (.slice e)) (he : P.underlying e = some (.int q)) (hc : P.cellsOf e = 1) (h : CameC enc P w t cs) :
    ∃ (A : Option Addr) (n c : Nat) (zs : List Int), cs = [.slice A n c] ∧ Reads w w.heap.size 1 A n (zs.map (Value.int q)) ∧ c * P.bytesOf e ≤ reachBytes ∧ n ≤ c ∧ ∀ z ∈ zs, (Lit.int q z).wf = true := by
  rcases h.slice ht with rfl | ⟨a, n, c, rfl, hl, hb, _, hi⟩
  · exact ⟨none, 0, 0, [], rfl, Reads.none_, by rw [Nat.zero_mul]; exact Nat.zero_le _, Nat.le_refl _, by simp⟩
  · rw [hc] at hi
    have hz : ∀ i, ∃ z : Int, (i < n → w.cell? (a.add i) = some (.int q z)) ∧ (Lit.int q z).wf = true := fun i => by
      by_cases h : i < n
      · obtain ⟨cs', hl', hat, hcm⟩ := hi i h
        obtain ⟨z, rfl, hw⟩ := hcm.int he
        have := hat 0 (by omega)
        exact ⟨z, fun _ => by simpa using this, hw⟩
      · exact ⟨0, fun h' => absurd h' h, by cases q <;> decide⟩
    have hf := fun i => (hz i).choose_spec
    refine ⟨some a, n, c, (List.range n).map fun i => (hz i).choose, rfl, ⟨by simp, fun h0 => ⟨a, rfl, ?_, fun j u hu => ?_⟩⟩, hb, hl, fun z hzm => ?_⟩
    · have := World.block_lt_of_cell? w _ ((hf 0).1 h0)
      rwa [block_of_add] at this
    · simp only [List.getElem?_map, Option.map_eq_some_iff] at hu
      obtain ⟨z, ⟨i, hi', rfl⟩, rfl⟩ := hu
      rw [List.getElem?_eq_some_iff] at hi'
      obtain ⟨hj, e'⟩ := hi'
      simp at hj e'
      subst e'
      exact (hf j).1 hj
    · simp only [List.mem_map, List.mem_range] at hzm
      obtain ⟨i, _, rfl⟩ := hzm
      exact (hf i).2
end
end Go.Proofs.Ytnpdhbagfkilkaa

/- The plain side of layer 18: weights, which are valid, distances. No program in sight. -/
set_option linter.unusedVariables false
set_option linter.unusedSimpArgs false
namespace Go.Proofs.Ytnpdhbagfkilkaa

def okByte (c : UInt8) : Bool := 32 ≤ c && c ≤ 126
def okText (l : List UInt8) : Bool := l.all okByte && decide (l.length ≤ 120)

structure Wt where
  ins : Int
  del : Int
  chg : Int
  swp : Int
  near : List (Int × Int × Int)

namespace Wt
def num (W : Wt) (j : Nat) : Int := match j with | 0 => W.ins | 1 => W.del | 2 => W.chg | _ => W.swp
def numOk (n : Int) : Bool := decide (0 ≤ n) && decide (n ≤ 1000)
def nearOk (W : Wt) (n : Int × Int × Int) : Bool := decide (32 ≤ n.1) && decide (n.2.1 ≤ 126) && decide (n.1 < n.2.1) && decide (0 ≤ n.2.2) && decide (n.2.2 ≤ W.chg)
def pr (n : Int × Int × Int) : Int × Int := (n.1, n.2.1)
def apart : List (Int × Int) → Bool
  | [] => true
  | x :: l => !l.contains x && apart l
def valid (W : Wt) : Bool := numOk W.ins && numOk W.del && numOk W.chg && numOk W.swp && W.near.all W.nearOk && apart (W.near.map pr) && decide (W.near.length ≤ 200)

theorem valid_num {W : Wt} (h : W.valid = true) : 0 ≤ W.ins ∧ W.ins ≤ 1000 ∧ 0 ≤ W.del ∧ W.del ≤ 1000 ∧ 0 ≤ W.chg ∧ W.chg ≤ 1000 ∧ 0 ≤ W.swp ∧ W.swp ≤ 1000 := by
  simp only [valid, numOk, Bool.and_eq_true, decide_eq_true_eq] at h
  omega
theorem valid_near {W : Wt} (h : W.valid = true) : ∀ n ∈ W.near, 32 ≤ n.1 ∧ n.2.1 ≤ 126 ∧ n.1 < n.2.1 ∧ 0 ≤ n.2.2 ∧ n.2.2 ≤ W.chg := by
  simp only [valid, Bool.and_eq_true, List.all_eq_true, nearOk, decide_eq_true_eq] at h
  intro n hn
  have := h.1.1.2 n hn
  omega
theorem valid_len {W : Wt} (h : W.valid = true) : W.near.length ≤ 200 := by
  simp only [valid, Bool.and_eq_true, decide_eq_true_eq] at h
  exact h.2
theorem apart_iff (l : List (Int × Int)) : apart l = true ↔ l.Pairwise (· ≠ ·) := by
  induction l with
  | nil => simp [apart]
  | cons x l ih =>
    simp only [apart, Bool.and_eq_true, List.pairwise_cons, ih]
    constructor
    · rintro ⟨h1, h2⟩
      refine ⟨fun y hy e => ?_, h2⟩
      subst e
      simp at h1
      exact h1 hy
    · rintro ⟨h1, h2⟩
      refine ⟨?_, h2⟩
      simp
      exact fun hx => h1 x hx rfl
theorem valid_apart {W : Wt} (h : W.valid = true) : (W.near.map pr).Pairwise (· ≠ ·) := by
  simp only [valid, Bool.and_eq_true] at h
  exact (apart_iff _).1 h.1.2

theorem bad_num {W : Wt} {j : Nat} (hj : j < 4) (h : W.num j < 0 ∨ 1000 < W.num j) : W.valid = false := by
  rw [← Bool.not_eq_true]
  intro hv
  have := valid_num hv
  match j, hj with
  | 0, _ | 1, _ | 2, _ | 3, _ => simp only [num] at h; omega
theorem bad_near {W : Wt} {k : Nat} (hk : k < W.near.length) (h : W.nearOk W.near[k] = false) : W.valid = false := by
  rw [← Bool.not_eq_true]
  intro hv
  simp only [valid, Bool.and_eq_true, List.all_eq_true] at hv
  have := hv.1.1.2 _ (List.getElem_mem hk)
  rw [h] at this
  cases this
theorem bad_seen {W : Wt} {k : Nat} (hk : k < W.near.length) (h : pr W.near[k] ∈ (W.near.take k).map pr) : W.valid = false := by
  rw [← Bool.not_eq_true]
  intro hv
  have ha := valid_apart hv
  obtain ⟨n, hn, e⟩ := List.mem_map.1 h
  obtain ⟨i, hi, rfl⟩ := List.mem_take_iff_getElem.1 hn
  rw [List.pairwise_iff_getElem] at ha
  have := ha i k (by simp; omega) (by simpa using hk) (by omega)
  apply this
  simp only [List.getElem_map]
  exact e
theorem good_all {W : Wt} (hn : ∀ j, j < 4 → 0 ≤ W.num j ∧ W.num j ≤ 1000) (h : ∀ n ∈ W.near, W.nearOk n = true) (ha : (W.near.map pr).Pairwise (· ≠ ·)) : W.valid = decide (W.near.length ≤ 200) := by
  have h0 := hn 0 (by omega)
  have h1 := hn 1 (by omega)
  have h2 := hn 2 (by omega)
  have h3 := hn 3 (by omega)
  simp only [num] at h0 h1 h2 h3
  unfold valid
  rw [(apart_iff _).2 ha, List.all_eq_true.2 h]
  simp [numOk, h0, h1, h2, h3]
/-- the cost of changing one byte into a different one -/
def look (l : List (Int × Int × Int)) (a b : Int) : Option Int := (l.find? fun n => (n.1 == a && n.2.1 == b) || (n.1 == b && n.2.1 == a)).map (·.2.2)
/-- byte k as a number -/
def at_ (x : List UInt8) (k : Nat) : Int := ((x[k]?.getD 0).toNat : Int)
abbrev no : Int × Int × Int := (-1, 0, 0)
def same (x y : List UInt8) (i j : Nat) : Int × Int × Int := if i < x.length ∧ j < y.length ∧ at_ x i = at_ y j then (0, 1, 1) else no
def change (W : Wt) (x y : List UInt8) (i j : Nat) : Int × Int × Int := if i < x.length ∧ j < y.length ∧ at_ x i ≠ at_ y j then ((look W.near (at_ x i) (at_ y j)).getD W.chg, 1, 1) else no
def insert (W : Wt) (y : List UInt8) (j : Nat) : Int × Int × Int := if j < y.length then (W.ins, 0, 1) else no
def delete (W : Wt) (x : List UInt8) (i : Nat) : Int × Int × Int := if i < x.length then (W.del, 1, 0) else no
def swap (W : Wt) (x y : List UInt8) (i j : Nat) : Int × Int × Int :=
  if i + 1 < x.length ∧ j + 1 < y.length ∧ at_ x i ≠ at_ y j ∧ at_ x i = at_ y (j + 1) ∧ at_ x (i + 1) = at_ y j then (W.swp, 2, 2) else no
/-- the six steps at places -/
def steps (W : Wt) (x y : List UInt8) (i j : Nat) : List (Int × Int × Int) := [no, same x y i j, change W x y i j, insert W y j, delete W x i, swap W x y i j]
end Wt
end Go.Proofs.Ytnpdhbagfkilkaa

/- Walks: small functions of the reference and the law's helpers. -/
set_option linter.unusedVariables false
set_option linter.unusedSimpArgs false
namespace Go.Proofs.Ytnpdhbagfkilkaa
open Go.RowKit


theorem take_snoc (s : ByteArray) (k : Nat) (h : k < s.size) : s.data.toList.take (k + 1) = s.data.toList.take k ++ [s[k]] := by
  rw [List.take_succ_eq_append_getElem (by simpa using h)]; rfl

theorem okByte_iff (c : UInt8) : okByte c = true ↔ 32 ≤ (c.toNat : Int) ∧ (c.toNat : Int) ≤ 126 := by
  unfold okByte
  simp [UInt8.le_iff_toNat_le]; omega
theorem okText_bad (s : ByteArray) (k : Nat) (h : k < s.size) (hb : okByte s[k] = false) : okText s.data.toList = false := by
  unfold okText
  have : s.data.toList.all okByte = false := by
    rw [List.all_eq_false]
    exact ⟨s[k], by simp; exact Array.getElem_mem h, by simp [hb]⟩
  simp [this]
theorem okText_good (s : ByteArray) (h : (s.data.toList.take s.size).all okByte = true) : okText s.data.toList = decide (s.size ≤ 120) := by
  unfold okText
  rw [List.take_of_length_le (by simp)] at h
  simp [h]

set_option maxHeartbeats 400000 in
theorem isText1_any (r : Int) (w : World) :
    Calls Try.prog 38 #[.int .i32 r] w fun e w' => e = .returned (.bool (decide (r < 32) || decide (126 < r))) ∧ w = w' := by
  by_cases h1 : r < 32
  · go_enter Try.func38, Try.ntmps38
    go_wp2
    go_ret
    exact ⟨by simp [h1], rfl⟩
  · by_cases h2 : 126 < r
    all_goals
      go_enter Try.func38, Try.ntmps38
      go_wp2
      go_ret
      exact ⟨by simp [h1, h2], rfl⟩

set_option maxHeartbeats 400000 in
theorem refText_any (s : ByteArray) (w : World) (hs : s.size ≤ maxLen) :
    Calls Try.prog 29 #[.string s] w fun e w' => e = .returned (.bool (okText s.data.toList)) ∧ w = w' := by
  unfold maxLen at hs
  go_enter Try.func29, Try.ntmps29
  go_wp2
  go_loop [3] (fun i => ∃ k : Nat, k ≤ s.size ∧ i = .int .i64 k ∧ (s.data.toList.take k).all okByte = true) (fun i => s.size - (intOf i).toNat)
  case atStart => exact ⟨0, Nat.zero_le _, rfl, rfl⟩
  case round =>
    obtain ⟨k, hk, rfl, hall⟩ := hrel
    have Hall := hide hall
    clear hall
    by_cases hlt : k < s.size
    · have HT := hide (take_snoc s k hlt)
      have HB := hide (okByte_iff s[k])
      by_cases h1 : (s[k].toNat : Int) < 32
      · have HF := hide (okText_bad s k hlt (by rw [← Bool.not_eq_true, okByte_iff]; omega))
        go_wp2
        go_ret
        exact ⟨ret_bool (by rw [HF.out]), rfl⟩
      · by_cases h2 : (126 : Int) < (s[k].toNat : Int)
        · have HF := hide (okText_bad s k hlt (by rw [← Bool.not_eq_true, okByte_iff]; omega))
          go_wp2
          go_ret
          exact ⟨ret_bool (by rw [HF.out]), rfl⟩
        · go_wp2
          go_round
          case rel => exact ⟨k + 1, by omega, by go_num, by rw [HT.out, List.all_append, Hall.out]; simpa using HB.out.2 ⟨by omega, by omega⟩⟩
          case measure => simp [intOf]; omega
    · obtain rfl : k = s.size := by omega
      have HF := hide (okText_good s Hall.out)
      go_wp2
      go_ret
      exact ⟨ret_bool (by rw [HF.out]; simp; omega), rfl⟩
end Go.Proofs.Ytnpdhbagfkilkaa

/- Walks: lists of ints compared; the least of some numbers. -/
set_option linter.unusedVariables false
set_option linter.unusedSimpArgs false
namespace Go.Proofs.Ytnpdhbagfkilkaa
open Go.RowKit

/-- the slice value '.slice A n c' holds just the integers l, below block B -/
def Ints (w : World) (B : Nat) (A : Option Addr) (n : Nat) (l : List Int) : Prop := Reads w B 1 A n (l.map (Value.int .i64))
theorem Ints.len {w : World} {B n : Nat} {A : Option Addr} {l : List Int} (h : Ints w B A n l) : l.length = n := by
  have := h.1; simpa using this
theorem Ints.at_ {w : World} {B n k : Nat} {A : Option Addr} {l : List Int} (h : Ints w B A n l) (hk : k < n) :
    ∃ ad, A = some ad ∧ ad.block < B ∧ w.cell? (ad.add k) = some (.int .i64 (l[k]?.getD 0)) := by
  obtain ⟨ad, e, hb, hc⟩ := Reads.at_ h hk
  obtain ⟨u, hu, hcell⟩ := hc 0 (by omega)
  refine ⟨ad, e, hb, ?_⟩
  have hl : k < l.length := by rw [h.len]; exact hk
  simp only [Nat.mul_one, Nat.add_zero, List.getElem?_map, List.getElem?_eq_getElem hl, Option.map_some] at hu
  simp only [Nat.mul_one] at hcell
  have e0 : (ad.add k).add 0 = ad.add k := by simp [Addr.add]
  rw [e0] at hcell
  rw [hcell, ← Option.some.inj hu, List.getElem?_eq_getElem hl]; rfl
theorem Ints.below {w w' : World} {B C n : Nat} {A : Option Addr} {l : List Int} (h : Ints w B A n l) (hb : Below C w w') (hB : B ≤ C) : Ints w' B A n l := Reads.below h hb hB
theorem Ints.more {w : World} {B C n : Nat} {A : Option Addr} {l : List Int} (h : Ints w B A n l) (hB : B ≤ C) : Ints w C A n l := Reads.more h hB

def takeEq (a b : List Int) (k : Nat) : Prop := a.take k = b.take k
theorem takeEq_succ {a b : List Int} {k : Nat} (h : takeEq a b k) (ha : k < a.length) (hb : k < b.length) (he : a[k]?.getD 0 = b[k]?.getD 0) : takeEq a b (k + 1) := by
  unfold takeEq at h ⊢
  rw [List.take_succ_eq_append_getElem ha, List.take_succ_eq_append_getElem hb, h]
  rw [List.getElem?_eq_getElem ha, List.getElem?_eq_getElem hb] at he
  simp at he
  rw [he]

set_option maxHeartbeats 400000 in
theorem ints_any (A B : Option Addr) (n m c d : Nat) (xs ys : List Int) (X : Nat) (w : World) (ha : Ints w X A n xs) (hb : Ints w X B m ys) (hn : n ≤ 140737488355328) (hm : m ≤ 140737488355328) :
    Calls Try.prog 22 #[.slice A n c, .slice B m d] w fun e w' => e = .returned (.bool (decide (xs = ys))) ∧ ∃ k, w' = w.drewN k := by
  have la := hide ha.len
  have lb := hide hb.len
  have HA := hide ha
  have HB := hide hb
  clear ha hb
  by_cases hnm : n = m
  · subst hnm
    go_enter Try.func22, Try.ntmps22
    go_wp2
    go_loopw [5] (fun i wr => ∃ k : Nat, k ≤ n ∧ i = .int .i64 k ∧ takeEq xs ys k ∧ ∃ q, wr = w.drewN q) (fun i _ => n - (intOf i).toNat)
    case atStart => exact ⟨0, Nat.zero_le _, rfl, by simp [takeEq], 0, rfl⟩
    case round =>
      obtain ⟨k, hk, rfl, heq, q, rfl⟩ := hrel
      by_cases hlt : k < n
      · obtain ⟨ad, rfl, _, hca⟩ := HA.out.at_ hlt
        obtain ⟨bd, rfl, _, hcb⟩ := HB.out.at_ hlt
        by_cases hxy : xs[k]?.getD 0 = ys[k]?.getD 0
        · have hb0 : ((xs[k]?.getD 0) != (ys[k]?.getD 0)) = false := by simp [hxy]
          have HX := hide hxy
          have Heq := hide heq
          clear hxy heq
          go_wp2
          go_quiet (fail)
          go_wp2
          go_roundw
          case rel => exact ⟨k + 1, by omega, by go_num, takeEq_succ Heq.out (by rw [la.out]; exact hlt) (by rw [lb.out]; exact hlt) HX.out, by first | exact ⟨_, rfl⟩ | exact ⟨_, World.drewN_drewN _ _ _⟩⟩
          case measure => simp [intOf]; omega
        · have hb0 : ((xs[k]?.getD 0) != (ys[k]?.getD 0)) = true := by simp [hxy]
          go_wp2
          go_quiet (fail)
          go_wp2
          go_ret
          exact ⟨ret_bool (by simp; intro h; apply hxy; rw [h]), by first | exact ⟨_, rfl⟩ | exact ⟨_, World.drewN_drewN _ _ _⟩⟩
      · obtain rfl : k = n := by omega
        go_wp2
        go_ret
        exact ⟨ret_bool (by simp; have h := heq; unfold takeEq at h; rwa [List.take_of_length_le (by rw [la.out]; omega), List.take_of_length_le (by rw [lb.out]; omega)] at h), q, rfl⟩
  · have h1 : ((n : Int) != (m : Int)) = true := by simp; omega
    go_enter Try.func22, Try.ntmps22
    go_wp2
    go_ret
    exact ⟨ret_bool (by simp; intro h; apply hnm; rw [← la.out, ← lb.out, h]), 0, rfl⟩
end Go.Proofs.Ytnpdhbagfkilkaa

/- Maps that the call itself makes: a block that is a list of entries, in the order of their coming. -/
set_option linter.unusedVariables false
set_option linter.unusedSimpArgs false
namespace Go.Proofs.Ytnpdhbagfkilkaa
open Go.RowKit

/-- what the map's operations ask of the keys -/
structure KeySem (P : Program) (k : TypeId) (S : Value → Prop) : Prop where
  check : ∀ (w : World) (em : Bool) {v : Value}, S v → (Instr.checkKey em 10000 k v).run P w = .ok () w
  find : ∀ (w : World) {x : Value}, S x → ∀ es : List MapEntry, (∀ e ∈ es, S e.key) →
    ((Instr.findKey k x es).run P w = .ok none w ∧ ∀ e ∈ es, e.key ≠ x) ∨ ∃ j e, (Instr.findKey k x es).run P w = .ok (some (j, e.val)) w ∧ es[j]? = some e ∧ e.key = x
  stays : ∀ (w : World) {v : Value}, S v → (Instr.keyThatStays v v).run P w = .ok v w

theorem KeySem.of_keyed {P : Program} {k : TypeId} (K : Maps.Keyed P k) : KeySem P k (fun v => ∃ l, keyOf P k v = some l) :=
  ⟨fun w em _ ⟨_, h⟩ => K.check w em h, fun w _ ⟨_, h⟩ es hes => K.find w h es hes, fun w _ ⟨_, h⟩ => K.stays w h⟩

/-! keys that are pairs of integers: '[2]int', '[2]byte' -/
def pairKey (q : IntKind) (a b : Int) : Value := .agg #[.int q a, .int q b]
theorem pairKey_inj {q : IntKind} {a b c d : Int} (h : pairKey q a b = pairKey q c d) : a = c ∧ b = d := by
  simpa [pairKey] using h
theorem keyOf_pair {P : Program} {k e : TypeId} {q : IntKind} (A : WideMaps.ArrKey P k e 2) (he : P.underlying e = some (.int q)) (hsz : ∃ m, P.types.size = m + 2) {a b : Int}
    (wa : (Lit.int q a).wf = true) (wb : (Lit.int q b).wf = true) : ∃ l, keyOf P k (pairKey q a b) = some l := by
  obtain ⟨m0, hm0⟩ := hsz
  have hkt := A.keyType ⟨m0 + 1, hm0⟩
  unfold keyOf
  simp only [A.hu]
  rw [if_pos (by simp [hkt, Value.formed, A.hu, A.size, pairKey]), hm0]
  unfold Program.keyLits
  simp only [A.hu, Value.cells, pairKey]
  rw [if_pos (by rw [A.size]; rfl)]
  simp [A.one, Program.keyLits, he, wa, wb, List.range_succ, bind, Option.bind, pure]

/-! the block -/
def EntList (l : List (Value × Value)) : List MapEntry := l.zipIdx.map fun x => { key := x.1.1, val := x.1.2, born := x.2 }
theorem EntList_length (l : List (Value × Value)) : (EntList l).length = l.length := by simp [EntList]
theorem EntList_get (l : List (Value × Value)) (j : Nat) : (EntList l)[j]? = (l[j]?).map fun x => { key := x.1, val := x.2, born := j } := by
  simp [EntList, List.getElem?_zipIdx]
  cases l[j]? <;> simp
theorem EntList_append (l : List (Value × Value)) (x : Value × Value) : EntList (l ++ [x]) = EntList l ++ [{ key := x.1, val := x.2, born := l.length }] := by
  simp [EntList, List.zipIdx_append]
theorem EntList_set (l : List (Value × Value)) (j : Nat) (x : Value × Value) : EntList (l.set j x) = (EntList l).set j { key := x.1, val := x.2, born := j } := by
  apply List.ext_getElem?
  intro i
  rw [EntList_get, List.getElem?_set, List.getElem?_set, EntList_length, EntList_get]
  by_cases h : j = i
  · subst h
    by_cases hl : j < l.length <;> simp [hl]
  · simp [h]

/-- block m is a map with just the entries l: keys apart, each a key of the type -/
structure MapIs (S : Value → Prop) (w : World) (m : Nat) (l : List (Value × Value)) : Prop where
  heap : w.heap[m]? = some (.map (EntList l).toArray l.length)
  keys : ∀ x ∈ l, S x.1
  apart : l.Pairwise fun x y => x.1 ≠ y.1

section
variable {P : Program} {k e t : TypeId} {S : Value → Prop} {w w' : World} {m : Nat} {l : List (Value × Value)}

theorem MapIs.lt (h : MapIs S w m l) : m < w.heap.size := by
  rcases Nat.lt_or_ge m w.heap.size with hlt | hge
  · exact hlt
  · have := h.heap; rw [Array.getElem?_eq_none hge] at this; cases this
theorem MapIs.new (S : Value → Prop) (w : World) : MapIs S (w.alloc (.map #[] 0)) w.heap.size [] :=
  ⟨by rw [heap_alloc_new]; rfl, by simp, by simp⟩
theorem MapIs.same (h : MapIs S w m l) (he : w'.heap[m]? = w.heap[m]?) : MapIs S w' m l := ⟨he.trans h.heap, h.keys, h.apart⟩
theorem MapIs.below {B : Nat} (h : MapIs S w m l) (hb : Below B w w') (hm : m < B) : MapIs S w' m l := h.same (hb.block m hm)
theorem MapIs.alloc (h : MapIs S w m l) (o : Obj) : MapIs S (w.alloc o) m l := h.same (Below.heap_alloc w o m h.lt)
theorem MapIs.setCell (h : MapIs S w m l) {p : Addr} (hp : m ≠ p.block) (u : Value) : MapIs S (w.setCell p u) m l := h.same (Below.heap_setCell w p u m hp)
theorem MapIs.drewN (h : MapIs S w m l) (n : Nat) : MapIs S (w.drewN n) m l := ⟨h.heap, h.keys, h.apart⟩

theorem MapIs.entKeys (h : MapIs S w m l) : ∀ e ∈ EntList l, S e.key := by
  intro e he
  obtain ⟨j, hj⟩ := List.getElem?_of_mem he
  rw [EntList_get] at hj
  cases hl : l[j]? with
  | none => simp [hl] at hj
  | some x =>
    simp [hl] at hj
    subst hj
    exact h.keys x (List.mem_of_getElem? hl)

theorem MapIs.find (h : MapIs S w m l) (K : KeySem P k S) {x : Value} (hx : S x) (W : World) :
    ((Instr.findKey k x (EntList l)).run P W = .ok none W ∧ ∀ y ∈ l, y.1 ≠ x) ∨ ∃ j v, (Instr.findKey k x (EntList l)).run P W = .ok (some (j, v)) W ∧ l[j]? = some (x, v) := by
  rcases K.find W hx (EntList l) h.entKeys with ⟨h1, h2⟩ | ⟨j, e, h1, h2, h3⟩
  · refine .inl ⟨h1, fun y hy => ?_⟩
    obtain ⟨j, hj⟩ := List.getElem?_of_mem hy
    have := h2 { key := y.1, val := y.2, born := j } (List.mem_of_getElem? (i := j) (by rw [EntList_get, hj]; rfl))
    exact this
  · rw [EntList_get] at h2
    cases hl : l[j]? with
    | none => simp [hl] at h2
    | some y =>
      simp [hl] at h2
      subst h2
      exact .inr ⟨j, y.2, h1, by rw [hl, ← h3]⟩


/-- what a key leads to -/
def has (l : List (Value × Value)) (x v : Value) : Prop := (x, v) ∈ l
def lacks (l : List (Value × Value)) (x : Value) : Prop := ∀ y ∈ l, y.1 ≠ x

theorem run_lookup_ok (h : MapIs S w m l) (K : KeySem P k S) (ht : P.underlying t = some (.map k e)) {z : Value} (hz : (zeroValue e).run P w = .ok z w) {x : Value} (hx : S x) :
    ((Instr.lookup t (.map (some m)) x true).run P w = .ok (.tuple #[z, .bool false]) w ∧ lacks l x) ∨
    ∃ v, (Instr.lookup t (.map (some m)) x true).run P w = .ok (.tuple #[v, .bool true]) w ∧ has l x v := by
  rcases h.find K hx w with ⟨h1, h2⟩ | ⟨j, v, h1, h2⟩
  · exact .inl ⟨by simp [Instr.lookup, run_underlying ht, MapKept.run_getObj_map h.heap, K.check w _ hx, h1, hz, Result.andThen], h2⟩
  · exact .inr ⟨v, by simp [Instr.lookup, run_underlying ht, MapKept.run_getObj_map h.heap, K.check w _ hx, h1, Result.andThen], List.mem_of_getElem? h2⟩

theorem run_lookup (h : MapIs S w m l) (K : KeySem P k S) (ht : P.underlying t = some (.map k e)) {z : Value} (hz : (zeroValue e).run P w = .ok z w) {x : Value} (hx : S x) :
    ((Instr.lookup t (.map (some m)) x false).run P w = .ok z w ∧ lacks l x) ∨
    ∃ v, (Instr.lookup t (.map (some m)) x false).run P w = .ok v w ∧ has l x v := by
  rcases h.find K hx w with ⟨h1, h2⟩ | ⟨j, v, h1, h2⟩
  · exact .inl ⟨by simp [Instr.lookup, run_underlying ht, MapKept.run_getObj_map h.heap, K.check w _ hx, h1, hz, Result.andThen], h2⟩
  · exact .inr ⟨v, by simp [Instr.lookup, run_underlying ht, MapKept.run_getObj_map h.heap, K.check w _ hx, h1, Result.andThen], List.mem_of_getElem? h2⟩

theorem MapIs.not_both {x v : Value} (h1 : lacks l x) (h2 : has l x v) : False := h1 _ h2 rfl
theorem run_lookup_lacks (h : MapIs S w m l) (K : KeySem P k S) (ht : P.underlying t = some (.map k e)) {z : Value} (hz : (zeroValue e).run P w = .ok z w) {x : Value} (hx : S x) (hl : lacks l x) :
    (Instr.lookup t (.map (some m)) x false).run P w = .ok z w := by
  rcases run_lookup h K ht hz hx with ⟨h1, _⟩ | ⟨v, _, h2⟩
  · exact h1
  · exact absurd h2 (fun h => MapIs.not_both hl h)
theorem run_lookup_ok_lacks (h : MapIs S w m l) (K : KeySem P k S) (ht : P.underlying t = some (.map k e)) {z : Value} (hz : (zeroValue e).run P w = .ok z w) {x : Value} (hx : S x) (hl : lacks l x) :
    (Instr.lookup t (.map (some m)) x true).run P w = .ok (.tuple #[z, .bool false]) w := by
  rcases run_lookup_ok h K ht hz hx with ⟨h1, _⟩ | ⟨v, _, h2⟩
  · exact h1
  · exact absurd h2 (fun h => MapIs.not_both hl h)

theorem has_inj (h : MapIs S w m l) {x v v' : Value} (h1 : has l x v) (h2 : has l x v') : v = v' := by
  have ha := h.apart
  clear h
  unfold has at h1 h2
  induction l with
  | nil => cases h1
  | cons y r ih =>
    rw [List.pairwise_cons] at ha
    rcases List.mem_cons.1 h1 with e1 | m1 <;> rcases List.mem_cons.1 h2 with e2 | m2
    · rw [← e1] at e2; exact (Prod.mk.inj e2).2.symm
    · exact absurd (by rw [← e1]) (ha.1 _ m2)
    · exact absurd (by rw [← e2]) (ha.1 _ m1)
    · exact ih m1 m2 ha.2

theorem run_lookup_has (h : MapIs S w m l) (K : KeySem P k S) (ht : P.underlying t = some (.map k e)) {z : Value} (hz : (zeroValue e).run P w = .ok z w) {x v : Value} (hx : S x) (hl : has l x v) :
    (Instr.lookup t (.map (some m)) x false).run P w = .ok v w := by
  rcases run_lookup h K ht hz hx with ⟨_, h2⟩ | ⟨v', h1, h2⟩
  · exact absurd hl (fun h => MapIs.not_both h2 h)
  · rw [has_inj h hl h2]; exact h1
theorem run_lookup_ok_has (h : MapIs S w m l) (K : KeySem P k S) (ht : P.underlying t = some (.map k e)) {z : Value} (hz : (zeroValue e).run P w = .ok z w) {x v : Value} (hx : S x) (hl : has l x v) :
    (Instr.lookup t (.map (some m)) x true).run P w = .ok (.tuple #[v, .bool true]) w := by
  rcases run_lookup_ok h K ht hz hx with ⟨_, h2⟩ | ⟨v', h1, h2⟩
  · exact absurd hl (fun h => MapIs.not_both h2 h)
  · rw [has_inj h hl h2]; exact h1

/-- the world with the map's block put anew -/
def putMap (w : World) (m : Nat) (l : List (Value × Value)) : World := { w with heap := w.heap.setIfInBounds m (.map (EntList l).toArray l.length) }
theorem putMap_other (w : World) (m : Nat) (l : List (Value × Value)) {i : Nat} (h : i ≠ m) : (putMap w m l).heap[i]? = w.heap[i]? := by
  simp [putMap, Array.getElem?_setIfInBounds]; intro e; exact absurd e.symm h
theorem putMap_cell {l' : List (Value × Value)} (w : World) (m : Nat) (l : List (Value × Value)) (h : MapIs S w m l') (p : Addr) : (putMap w m l).cell? p = w.cell? p := by
  by_cases hp : p.block = m
  · unfold World.cell?
    rw [hp, h.heap]
    have : (putMap w m l).heap[m]? = some (.map (EntList l).toArray l.length) := by simp [putMap, h.lt]
    rw [this]
  · exact World.cell?_of_block (w := w) (putMap_other w m l hp)
theorem putMap_below {B : Nat} {W : World} (h : Below B W w) (hm : B ≤ m) : Below B W (putMap w m l) :=
  h.trans ⟨rfl, rfl, rfl, by simp [putMap], fun i hi => putMap_other w m l (by omega)⟩
theorem putMap_blk {g : Nat} {ty : TypeId} {cs : Array Value} (h : Blk w g ty cs) (hm : g ≠ m) : Blk (putMap w m l) g ty cs := (putMap_other w m l hm).trans h
theorem putMap_is (h : MapIs S w m l) {l' : List (Value × Value)} (hk : ∀ x ∈ l', S x.1) (ha : l'.Pairwise fun x y => x.1 ≠ y.1) : MapIs S (putMap w m l') m l' :=
  ⟨by simp [putMap, h.lt], hk, ha⟩

theorem MapIs.append_is (h : MapIs S w m l) {x v : Value} (hx : S x) (hl : lacks l x) : MapIs S (putMap w m (l ++ [(x, v)])) m (l ++ [(x, v)]) := by
  refine putMap_is h (fun y hy => ?_) ?_
  · rcases List.mem_append.1 hy with h1 | h1
    · exact h.keys y h1
    · rw [List.mem_singleton.1 h1]; exact hx
  · rw [List.pairwise_append]
    refine ⟨h.apart, by simp, fun a ha b hb => ?_⟩
    rw [List.mem_singleton.1 hb]
    exact hl a ha
theorem MapIs.set_is (h : MapIs S w m l) {j : Nat} {x v u : Value} (hj : l[j]? = some (x, u)) : MapIs S (putMap w m (l.set j (x, v))) m (l.set j (x, v)) := by
  have hjl : j < l.length := (List.getElem?_eq_some_iff.1 hj).1
  have hkeys : (l.set j (x, v)).map (·.1) = l.map (·.1) := by
    apply List.ext_getElem?
    intro i
    simp only [List.getElem?_map, List.getElem?_set]
    by_cases hi : j = i
    · subst hi; rw [hj]; simp [hjl]
    · simp [hi]
  refine putMap_is h (fun y hy => ?_) ?_
  · have : y.1 ∈ (l.set j (x, v)).map (·.1) := List.mem_map.2 ⟨y, hy, rfl⟩
    rw [hkeys] at this
    obtain ⟨z, hz, e⟩ := List.mem_map.1 this
    rw [← e]; exact h.keys z hz
  · have h1 : (l.map (·.1)).Pairwise (· ≠ ·) := List.pairwise_map.2 h.apart
    rw [← hkeys] at h1
    exact List.pairwise_map.1 h1

/-- 'm[x] = v' at a key that is not there -/
theorem run_update_new (h : MapIs S w m l) (K : KeySem P k S) (ht : P.underlying t = some (.map k e)) {x v : Value} (hx : S x) (hl : lacks l x) :
    (Instr.mapUpdate t (.map (some m)) x v).run P w = .ok () (putMap w m (l ++ [(x, v)])) := by
  rcases h.find K hx w with ⟨h1, h2⟩ | ⟨j, u, h1, h2⟩
  · have e1 : (EntList l).toArray.push { key := x, val := v, born := l.length } = (EntList (l ++ [(x, v)])).toArray := by rw [EntList_append]; simp
    simp [Instr.mapUpdate, run_underlying ht, MapKept.run_getObj_map h.heap, K.check w false hx, h1, MapKept.run_setObj_map _ h.heap, Result.andThen, putMap, ← e1]
  · exact absurd rfl (hl _ (List.mem_of_getElem? h2))
/-- the entry for 'm[x] op= ..', 'm[x], .. = ..' at a key that is not there -/
theorem run_mapEntry_new (h : MapIs S w m l) (K : KeySem P k S) (ht : P.underlying t = some (.map k e)) {z : Value} (hz : (zeroValue e).run P w = .ok z w) {x : Value} (hx : S x) (hl : lacks l x) :
    (Instr.mapEntry t (.map (some m)) x).run P w = .ok (.tuple #[z, .int .i64 l.length]) (putMap w m (l ++ [(x, z)])) := by
  rcases h.find K hx w with ⟨h1, h2⟩ | ⟨j, u, h1, h2⟩
  · have e1 : (EntList l).toArray.push { key := x, val := z, born := l.length } = (EntList (l ++ [(x, z)])).toArray := by rw [EntList_append]; simp
    simp [Instr.mapEntry, run_underlying ht, MapKept.run_getObj_map h.heap, K.check w false hx, h1, hz, MapKept.run_setObj_map _ h.heap, Result.andThen, putMap, ← e1, goInt]
  · exact absurd rfl (hl _ (List.mem_of_getElem? h2))
theorem run_entryStore (h : MapIs S w m l) {j : Nat} {x u v : Value} (hj : l[j]? = some (x, u)) :
    (Instr.entryStore t (.map (some m)) (.int .i64 j) v).run P w = .ok () (putMap w m (l.set j (x, v))) := by
  have hjl : j < l.length := (List.getElem?_eq_some_iff.1 hj).1
  have hf : (EntList l).toArray.findIdx? (fun e => (e.born : Int) == (j : Int)) = some j := by
    simp only [List.findIdx?_toArray]
    rw [List.findIdx?_eq_some_iff_getElem]
    refine ⟨by rw [EntList_length]; exact hjl, ?_, ?_⟩
    · have h1 := EntList_get l j
      rw [List.getElem?_eq_getElem (by rw [EntList_length]; exact hjl), hj] at h1
      have h2 := Option.some.inj h1
      simp [h2]
    · intro i hi
      have h1 := EntList_get l i
      rw [List.getElem?_eq_getElem (by rw [EntList_length]; omega), List.getElem?_eq_getElem (by omega)] at h1
      have h2 := Option.some.inj h1
      simp [h2]; omega
  have e1 : ((EntList l).modify j fun e => { e with val := v }) = EntList (l.set j (x, v)) := by
    apply List.ext_getElem?
    intro i
    rw [EntList_set]
    simp only [List.getElem?_modify, List.getElem?_set, EntList_length, EntList_get]
    by_cases hi : j = i
    · subst hi; rw [hj]; simp [hjl]
    · simp [hi]
  simp only [List.findIdx?_toArray] at hf
  simp [Instr.entryStore, MapKept.run_getObj_map h.heap, asInt, asIntOf, hf, MapKept.run_setObj_map _ h.heap, Result.andThen, putMap, e1]
end
end Go.Proofs.Ytnpdhbagfkilkaa

/- Walks: edit.Valid. -/
set_option linter.unusedVariables false
set_option linter.unusedSimpArgs false
namespace Go.Proofs.Ytnpdhbagfkilkaa
open Go.RowKit

/-- weights as a value -/
def wval (W : Wt) (A : Option Addr) (n c : Nat) : Value := .agg #[.int .i64 W.ins, .int .i64 W.del, .int .i64 W.chg, .int .i64 W.swp, .slice A n c]
def nearCells (l : List (Int × Int × Int)) : List Value := l.flatMap fun n => [.int .i64 n.1, .int .i64 n.2.1, .int .i64 n.2.2]
def Near (w : World) (B : Nat) (A : Option Addr) (n : Nat) (l : List (Int × Int × Int)) : Prop := l.length = n ∧ Reads w B 3 A n (nearCells l)

theorem nearCells_get (l : List (Int × Int × Int)) (k : Nat) (hk : k < l.length) :
    (nearCells l)[k * 3]? = some (.int .i64 l[k].1) ∧ (nearCells l)[k * 3 + 1]? = some (.int .i64 l[k].2.1) ∧ (nearCells l)[k * 3 + 2]? = some (.int .i64 l[k].2.2) := by
  induction l generalizing k with
  | nil => simp at hk
  | cons x l ih =>
    cases k with
    | zero => simp [nearCells]
    | succ k =>
      have := ih k (by simpa using hk)
      simp only [nearCells, List.flatMap_cons] at this ⊢
      rw [List.getElem?_append_right (by simp; omega), List.getElem?_append_right (by simp; omega), List.getElem?_append_right (by simp; omega)]
      simp only [List.length_cons, List.length_nil, List.getElem_cons_succ]
      rw [show (k + 1) * 3 - (0 + 1 + 1 + 1) = k * 3 from by omega, show (k + 1) * 3 + 1 - (0 + 1 + 1 + 1) = k * 3 + 1 from by omega, show (k + 1) * 3 + 2 - (0 + 1 + 1 + 1) = k * 3 + 2 from by omega]
      exact this
theorem Near.at_ {w : World} {B n k : Nat} {A : Option Addr} {l : List (Int × Int × Int)} (h : Near w B A n l) (hk : k < n) :
    ∃ ad n1 n2 n3, ∃ hl : k < l.length, A = some ad ∧ ad.block < B ∧ l[k] = (n1, n2, n3) ∧ w.cell? (ad.add (k * 3)) = some (.int .i64 n1) ∧ w.cell? ⟨(ad.add (k * 3)).block, (ad.add (k * 3)).off + 1, none⟩ = some (.int .i64 n2) ∧ w.cell? ⟨(ad.add (k * 3)).block, (ad.add (k * 3)).off + 2, none⟩ = some (.int .i64 n3) := by
  obtain ⟨hlen, hr⟩ := h
  obtain ⟨ad, e, hb, hc⟩ := Reads.at_ hr hk
  have hl : k < l.length := by omega
  obtain ⟨g0, g1, g2⟩ := nearCells_get l k hl
  obtain ⟨u0, a0, c0⟩ := hc 0 (by omega)
  obtain ⟨u1, a1, c1⟩ := hc 1 (by omega)
  obtain ⟨u2, a2, c2⟩ := hc 2 (by omega)
  rw [Nat.add_zero, g0] at a0
  rw [g1] at a1
  rw [g2] at a2
  have e0 : (ad.add (k * 3)).add 0 = ad.add (k * 3) := by rw [add_of_add, Nat.add_zero]
  rw [e0] at c0
  exact ⟨ad, _, _, _, hl, e, hb, rfl, c0.trans a0.symm, c1.trans a1.symm, c2.trans a2.symm⟩
theorem Near.below {w w' : World} {B C n : Nat} {A : Option Addr} {l : List (Int × Int × Int)} (h : Near w B A n l) (hb : Below C w w') (hB : B ≤ C) : Near w' B A n l := ⟨h.1, Reads.below h.2 hb hB⟩
theorem Near.more {w : World} {B C n : Nat} {A : Option Addr} {l : List (Int × Int × Int)} (h : Near w B A n l) (hB : B ≤ C) : Near w C A n l := ⟨h.1, Reads.more h.2 hB⟩

def numsOk (W : Wt) (k : Nat) : Prop := ∀ j, j < k → 0 ≤ W.num j ∧ W.num j ≤ 1000
theorem numsOk_succ {W : Wt} {k : Nat} (h : numsOk W k) (h1 : 0 ≤ W.num k) (h2 : W.num k ≤ 1000) : numsOk W (k + 1) := fun j hj => by
  rcases Nat.lt_or_ge j k with h' | h'
  · exact h j h'
  · obtain rfl : j = k := by omega
    exact ⟨h1, h2⟩

theorem arr2int : WideMaps.ArrKey Try.prog 64 3 2 := ⟨Try.underlying64, by kernel_rfl, by kernel_rfl, by kernel_rfl⟩
theorem law2int : KeySem Try.prog 64 (fun v => ∃ l, keyOf Try.prog 64 v = some l) := KeySem.of_keyed (Maps.Keyed.of_law arr2int.law)
theorem types_two : ∃ m, Try.prog.types.size = m + 2 := by
  have h : 2 ≤ Try.prog.types.size := of_decide_eq_true (by kernel_rfl)
  exact ⟨_, (Nat.sub_add_cancel h).symm⟩
def S2int (v : Value) : Prop := ∃ l, keyOf Try.prog 64 v = some l
def seenOf (l : List (Int × Int × Int)) : List (Value × Value) := l.map fun n => (pairKey .i64 n.1 n.2.1, .bool true)

structure SeenRel (wr w : World) (W : Wt) (A : Option Addr) (n c k : Nat) : Prop where
  blk : Blk wr w.heap.size 24 #[.int .i64 W.ins, .int .i64 W.del, .int .i64 W.chg, .int .i64 W.swp, .slice A n c]
  map : MapIs S2int wr (w.heap.size + 1) (seenOf (W.near.take k))
  bel : Below w.heap.size w wr
  good : ∀ x ∈ W.near.take k, W.nearOk x = true
theorem SeenRel.start (w : World) (W : Wt) (A : Option Addr) (n c : Nat) : SeenRel ((w.alloc (.cells #[.int .i64 W.ins, .int .i64 W.del, .int .i64 W.chg, .int .i64 W.swp, .slice A n c] 24)).alloc (.map #[] 0)) w W A n c 0 :=
  ⟨(Blk.new _ _ _).alloc _, by simpa [seenOf] using MapIs.new S2int (w.alloc (.cells #[.int .i64 W.ins, .int .i64 W.del, .int .i64 W.chg, .int .i64 W.swp, .slice A n c] 24)), ((Below.refl _ _).alloc (Nat.le_refl _) _).alloc (by simp) _, by simp⟩

theorem wf_small {x : Int} (h1 : -9223372036854775808 ≤ x) (h2 : x ≤ 9223372036854775807) : (Lit.int .i64 x).wf = true := WalkArith.wf_i64 ⟨h1, h2⟩
theorem seenOf_has {l : List (Int × Int × Int)} {x : Value} (h : ¬ lacks (seenOf l) x) : has (seenOf l) x (.bool true) := by
  unfold lacks at h
  unfold has
  simp only [Classical.not_forall, Classical.not_not] at h
  obtain ⟨y, hy, e⟩ := h
  obtain ⟨n, hn, rfl⟩ := List.mem_map.1 hy
  rw [← e]
  exact hy
theorem seenOf_mem {l : List (Int × Int × Int)} {n1 n2 n3 : Int} (h : has (seenOf l) (pairKey .i64 n1 n2) (.bool true)) : Wt.pr (n1, n2, n3) ∈ l.map Wt.pr := by
  obtain ⟨n, hn, e⟩ := List.mem_map.1 h
  refine List.mem_map.2 ⟨n, hn, ?_⟩
  have := pairKey_inj (Prod.mk.inj e).1
  simp [Wt.pr, this]
theorem seenOf_apart {l : List (Int × Int × Int)} (h : (seenOf l).Pairwise fun x y => x.1 ≠ y.1) : (l.map Wt.pr).Pairwise (· ≠ ·) := by
  rw [seenOf, List.pairwise_map] at h
  rw [List.pairwise_map]
  refine h.imp (fun {a b} hab e => hab ?_)
  simp only [Wt.pr, Prod.mk.injEq] at e
  simp [e]
theorem SeenRel.step {wr w : World} {W : Wt} {A : Option Addr} {n c k : Nat} (h : SeenRel wr w W A n c k) (o1 o2 : Obj) (hl : k < W.near.length) {n1 n2 n3 : Int} (hat : W.near[k] = (n1, n2, n3)) (hg : W.nearOk W.near[k] = true)
    (hS : S2int (pairKey .i64 n1 n2)) (hs : lacks (seenOf (W.near.take k)) (pairKey .i64 n1 n2)) :
    SeenRel (putMap ((wr.alloc o1).alloc o2) (w.heap.size + 1) (seenOf (W.near.take k) ++ [(pairKey .i64 n1 n2, .bool true)])) w W A n c (k + 1) := by
  have hlt := h.map.lt
  have htake : W.near.take (k + 1) = W.near.take k ++ [(n1, n2, n3)] := by rw [List.take_succ_eq_append_getElem hl, hat]
  refine ⟨putMap_blk ((h.blk.alloc o1).alloc o2) (by omega), ?_, putMap_below ((h.bel.alloc (by omega) o1).alloc (by simp; omega) o2) (by omega), ?_⟩
  · have e : seenOf (W.near.take (k + 1)) = seenOf (W.near.take k) ++ [(pairKey .i64 n1 n2, .bool true)] := by rw [htake]; simp [seenOf]
    rw [e]
    exact ((h.map.alloc o1).alloc o2).append_is hS hs
  · rw [htake]
    intro x hx
    rcases List.mem_append.1 hx with h1 | h1
    · exact h.good x h1
    · rw [List.mem_singleton.1 h1, ← hat]; exact hg

set_option maxHeartbeats 400000 in
theorem valid_try (W : Wt) (A : Option Addr) (n c : Nat) (X : Nat) (w : World) (hN : Near w X A n W.near) (hX : X ≤ w.heap.size) (hn : n ≤ 140737488355328) :
    Calls Try.prog 20 #[wval W A n c] w fun e w' => e = .returned (.bool W.valid) ∧ Below w.heap.size w w' := by
  have HN := hide hN
  clear hN
  obtain ⟨I, D, C, S, near⟩ := W
  have i0 : ∀ w, (Instr.index 60 (.agg #[.int .i64 I, .int .i64 D, .int .i64 C, .int .i64 S]) (.int .i64 0)).run Try.prog w = .ok (.int .i64 I) w := fun _ => by kernel_rfl
  have i1 : ∀ w, (Instr.index 60 (.agg #[.int .i64 I, .int .i64 D, .int .i64 C, .int .i64 S]) (.int .i64 1)).run Try.prog w = .ok (.int .i64 D) w := fun _ => by kernel_rfl
  have i2 : ∀ w, (Instr.index 60 (.agg #[.int .i64 I, .int .i64 D, .int .i64 C, .int .i64 S]) (.int .i64 2)).run Try.prog w = .ok (.int .i64 C) w := fun _ => by kernel_rfl
  have i3 : ∀ w, (Instr.index 60 (.agg #[.int .i64 I, .int .i64 D, .int .i64 C, .int .i64 S]) (.int .i64 3)).run Try.prog w = .ok (.int .i64 S) w := fun _ => by kernel_rfl
  have hmm := @run_makeMap Try.prog
  go_enter Try.func20, Try.ntmps20
  unfold wval
  go_wp2
  go_loop [18] (fun i => ∃ k : Nat, k ≤ 4 ∧ i = .int .i64 k ∧ numsOk ⟨I, D, C, S, near⟩ k) (fun i => 4 - (intOf i).toNat)
  case atStart => exact ⟨0, by omega, rfl, fun j hj => by omega⟩
  case round =>
    obtain ⟨k, hk, rfl, hnum⟩ := hrel
    have Hnum := hide hnum
    clear hnum
    by_cases hlt : k < 4
    · have hx : ∃ x : Int, (∀ w, (Instr.index 60 (.agg #[.int .i64 I, .int .i64 D, .int .i64 C, .int .i64 S]) (.int .i64 k)).run Try.prog w = .ok (.int .i64 x) w) ∧ Wt.num ⟨I, D, C, S, near⟩ k = x := by
        match k, hlt with
        | 0, _ => exact ⟨I, i0, rfl⟩
        | 1, _ => exact ⟨D, i1, rfl⟩
        | 2, _ => exact ⟨C, i2, rfl⟩
        | 3, _ => exact ⟨S, i3, rfl⟩
      clear i0 i1 i2 i3
      obtain ⟨x, ix, ex⟩ := hx
      have Ex := hide ex
      clear ex
      by_cases h1 : x < 0
      · have HF := hide (Wt.bad_num (W := ⟨I, D, C, S, near⟩) hlt (.inl (by rw [Ex.out]; exact h1)))
        go_wp2
        go_ret
        exact ⟨ret_bool (by rw [HF.out]), (Below.refl _ _).alloc (Nat.le_refl _) _⟩
      · by_cases h2 : 1000 < x
        · have HF := hide (Wt.bad_num (W := ⟨I, D, C, S, near⟩) hlt (.inr (by rw [Ex.out]; exact h2)))
          go_wp2
          go_ret
          exact ⟨ret_bool (by rw [HF.out]), (Below.refl _ _).alloc (Nat.le_refl _) _⟩
        · go_wp2
          go_round
          case rel => exact ⟨k + 1, by omega, by go_num, numsOk_succ Hnum.out (by rw [Ex.out]; omega) (by rw [Ex.out]; omega)⟩
          case measure => simp [intOf]; omega
    · obtain rfl : k = 4 := by omega
      clear i0 i1 i2 i3
      go_wp2
      go_loopw [32] (fun i wr => ∃ k : Nat, k ≤ n ∧ i = .int .i64 k ∧ SeenRel wr w ⟨I, D, C, S, near⟩ A n c k) (fun i _ => n - (intOf i).toNat)
      case atStart => exact ⟨0, by omega, rfl, SeenRel.start w ⟨I, D, C, S, near⟩ A n c⟩
      case round =>
        obtain ⟨k, hk, rfl, hrel⟩ := hrel
        obtain ⟨hblk, hmap, hbel, hgood⟩ := hrel
        by_cases hlt : k < n
        · obtain ⟨ad, n1, n2, n3, hl, rfl, hadb, hat, c1, c2, c3⟩ := (HN.out.below hbel hX).at_ hlt
          have d2 : wr.cell? ⟨w.heap.size, 2, none⟩ = some (.int .i64 C) := hblk.cell 2
          have hz : w.heap.size + 1 < wr.heap.size := hmap.lt
          have hz' : w.heap.size < wr.heap.size := by omega
          have HL := hide HN.out.1
          have Hat := hide hat
          have Hgood := hide hgood
          have hbad : ∀ b : Bool, Wt.nearOk ⟨I, D, C, S, near⟩ (n1, n2, n3) = b → Hid (Wt.nearOk ⟨I, D, C, S, near⟩ near[k] = b) := fun b hb => by rw [hat]; exact hb
          have Hbad := hide hbad
          clear hat hgood hbad
          by_cases t1 : n1 < 32
          · have HF := hide (Wt.bad_near hl (Hbad.out false (by simp [Wt.nearOk]; omega)).out)
            clear Hbad
            go_wp2
            go_ret
            exact ⟨ret_bool (by rw [HF.out]), (hbel.alloc (by omega) _).alloc (by simp; omega) _⟩
          by_cases t2 : 126 < n2
          · have HF := hide (Wt.bad_near hl (Hbad.out false (by simp [Wt.nearOk]; omega)).out)
            clear Hbad
            go_wp2
            go_ret
            exact ⟨ret_bool (by rw [HF.out]), (hbel.alloc (by omega) _).alloc (by simp; omega) _⟩
          by_cases t3 : n2 ≤ n1
          · have HF := hide (Wt.bad_near hl (Hbad.out false (by simp [Wt.nearOk]; omega)).out)
            clear Hbad
            go_wp2
            go_ret
            exact ⟨ret_bool (by rw [HF.out]), (hbel.alloc (by omega) _).alloc (by simp; omega) _⟩
          by_cases t4 : n3 < 0
          · have HF := hide (Wt.bad_near hl (Hbad.out false (by simp [Wt.nearOk]; omega)).out)
            clear Hbad
            go_wp2
            go_ret
            exact ⟨ret_bool (by rw [HF.out]), (hbel.alloc (by omega) _).alloc (by simp; omega) _⟩
          by_cases t5 : C < n3
          · have HF := hide (Wt.bad_near hl (Hbad.out false (by simp [Wt.nearOk]; omega)).out)
            clear Hbad
            go_wp2
            go_ret
            exact ⟨ret_bool (by rw [HF.out]), (hbel.alloc (by omega) _).alloc (by simp; omega) _⟩
          have HG := hide (Hbad.out true (by simp [Wt.nearOk]; omega)).out
          clear Hbad
          have hS : S2int (pairKey .i64 n1 n2) := keyOf_pair arr2int Try.underlying3 types_two (wf_small (by omega) (by omega)) (wf_small (by omega) (by omega))
          by_cases hs : lacks (seenOf (near.take k)) (pairKey .i64 n1 n2)
          · have hlk : ∀ o1 o2 : Obj, (Instr.lookup 61 (.map (some (w.heap.size + 1))) (.agg #[.int .i64 n1, .int .i64 n2]) false).run Try.prog ((wr.alloc o1).alloc o2) = .ok (.bool false) ((wr.alloc o1).alloc o2) :=
              fun o1 o2 => run_lookup_lacks ((hmap.alloc o1).alloc o2) law2int Try.underlying61 (by kernel_rfl) hS hs
            have hup : ∀ o1 o2 : Obj, (Instr.mapUpdate 61 (.map (some (w.heap.size + 1))) (.agg #[.int .i64 n1, .int .i64 n2]) (.bool true)).run Try.prog ((wr.alloc o1).alloc o2) = .ok () (putMap ((wr.alloc o1).alloc o2) (w.heap.size + 1) (seenOf (near.take k) ++ [(pairKey .i64 n1 n2, .bool true)])) :=
              fun o1 o2 => run_update_new ((hmap.alloc o1).alloc o2) law2int Try.underlying61 hS hs
            have Hnew : Hid (∀ o1 o2 : Obj, SeenRel (putMap ((wr.alloc o1).alloc o2) (w.heap.size + 1) (seenOf (near.take k) ++ [(pairKey .i64 n1 n2, .bool true)])) w ⟨I, D, C, S, near⟩ (some ad) n c (k + 1)) :=
              fun o1 o2 => SeenRel.step ⟨hblk, hmap, hbel, Hgood.out⟩ o1 o2 hl Hat.out HG.out hS hs
            clear hmap hblk
            go_wp2
            go_roundw
            case rel => exact ⟨k + 1, by omega, by go_num, Hnew.out _ _⟩
            case measure => simp [intOf]; omega
          · have hex : has (seenOf (near.take k)) (pairKey .i64 n1 n2) (.bool true) := seenOf_has hs
            have hlk : ∀ o1 o2 : Obj, (Instr.lookup 61 (.map (some (w.heap.size + 1))) (.agg #[.int .i64 n1, .int .i64 n2]) false).run Try.prog ((wr.alloc o1).alloc o2) = .ok (.bool true) ((wr.alloc o1).alloc o2) :=
              fun o1 o2 => run_lookup_has ((hmap.alloc o1).alloc o2) law2int Try.underlying61 (z := .bool false) (by kernel_rfl) hS hex
            have HF := hide (Wt.bad_seen (W := ⟨I, D, C, S, near⟩) hl (by rw [Hat.out]; exact seenOf_mem hex))
            go_wp2
            go_ret
            exact ⟨ret_bool (by rw [HF.out]), (hbel.alloc (by omega) _).alloc (by simp; omega) _⟩
        · obtain rfl : k = n := by omega
          have HL := HN.out.1
          have ha := hmap.apart
          have d4 : wr.cell? ⟨w.heap.size, 4, none⟩ = some (.slice A k c) := hblk.cell 4
          have HF := hide (Wt.good_all (W := ⟨I, D, C, S, near⟩) Hnum.out (by rwa [List.take_of_length_le (by simp; omega)] at hgood) (by rw [List.take_of_length_le (by simp; omega)] at ha; exact seenOf_apart ha))
          have HL' := hide HL
          clear HL ha hgood
          go_wp2
          go_ret
          exact ⟨ret_bool (by rw [HF.out]; simp [HL'.out]; omega), hbel⟩
end Go.Proofs.Ytnpdhbagfkilkaa

/- Walks: edit.open. -/
set_option linter.unusedVariables false
set_option linter.unusedSimpArgs false
namespace Go.Proofs.Ytnpdhbagfkilkaa
open Go.RowKit

theorem arr2byte : WideMaps.ArrKey Try.prog 71 5 2 := ⟨Try.underlying71, by kernel_rfl, by kernel_rfl, by kernel_rfl⟩
def S2byte (v : Value) : Prop := ∃ l, keyOf Try.prog 71 v = some l
theorem law2byte : KeySem Try.prog 71 S2byte := KeySem.of_keyed (Maps.Keyed.of_law arr2byte.law)
def nearMap (l : List (Int × Int × Int)) : List (Value × Value) := l.flatMap fun n => [(pairKey .u8 n.1 n.2.1, .int .i64 n.2.2), (pairKey .u8 n.2.1 n.1, .int .i64 n.2.2)]
theorem wf_byte {x : Int} (h1 : 0 ≤ x) (h2 : x ≤ 255) : (Lit.int .u8 x).wf = true := by
  simp [Lit.wf, IntKind.min, IntKind.max, IntKind.signed, IntKind.bits]; omega
theorem S2byte_of {a b : Int} (h1 : 0 ≤ a) (h2 : a ≤ 255) (h3 : 0 ≤ b) (h4 : b ≤ 255) : S2byte (pairKey .u8 a b) :=
  keyOf_pair arr2byte Try.underlying5 types_two (wf_byte h1 h2) (wf_byte h3 h4)

def edCells (W : Wt) (A : Option Addr) (n c m : Nat) (x y : ByteArray) : Array Value := #[.int .i64 W.ins, .int .i64 W.del, .int .i64 W.chg, .int .i64 W.swp, .slice A n c, .map (some m), .string x, .string y]

structure OpenRel (wr w : World) (W : Wt) (A : Option Addr) (n c : Nat) (x y : ByteArray) (k : Nat) : Prop where
  blk : Blk wr (w.heap.size + 2) 70 (edCells W A n c (w.heap.size + 1) x y)
  map : MapIs S2byte wr (w.heap.size + 1) (nearMap (W.near.take k))
  bel : Below w.heap.size w wr

theorem OpenRel.start (w : World) (W : Wt) (A : Option Addr) (n c : Nat) (x y : ByteArray) : OpenRel (((w.alloc (.cells #[.int .i64 W.ins, .int .i64 W.del, .int .i64 W.chg, .int .i64 W.swp, .slice A n c] 24)).alloc (.map #[] 0)).alloc (.cells (edCells W A n c (w.heap.size + 1) x y) 70)) w W A n c x y 0 := by
  have h1 := MapIs.new S2byte (w.alloc (.cells #[.int .i64 W.ins, .int .i64 W.del, .int .i64 W.chg, .int .i64 W.swp, .slice A n c] 24))
  have h2 := Blk.new ((w.alloc (.cells #[.int .i64 W.ins, .int .i64 W.del, .int .i64 W.chg, .int .i64 W.swp, .slice A n c] 24)).alloc (.map #[] 0)) 70 (edCells W A n c (w.heap.size + 1) x y)
  exact ⟨by simpa using h2, by simpa [nearMap] using h1.alloc _, (((Below.refl _ _).alloc (Nat.le_refl _) _).alloc (by simp) _).alloc (by simp; omega) _⟩

theorem nearMap_lacks {W : Wt} (hW : W.valid = true) {k : Nat} (hk : k < W.near.length) {n1 n2 n3 : Int} (hat : W.near[k] = (n1, n2, n3)) :
    lacks (nearMap (W.near.take k)) (pairKey .u8 n1 n2) ∧ lacks (nearMap (W.near.take k)) (pairKey .u8 n2 n1) := by
  have hn := Wt.valid_near hW
  have ha := Wt.valid_apart hW
  have hk1 := hn _ (List.getElem_mem hk)
  rw [hat] at hk1
  dsimp only at hk1
  rw [List.pairwise_iff_getElem] at ha
  have main : ∀ y ∈ nearMap (W.near.take k), y.1 ≠ pairKey .u8 n1 n2 ∧ y.1 ≠ pairKey .u8 n2 n1 := by
    intro y hy
    obtain ⟨p, hp, hy⟩ := List.mem_flatMap.1 hy
    obtain ⟨i, hi, rfl⟩ := List.mem_take_iff_getElem.1 hp
    have hi1 := hn _ (List.getElem_mem (show i < W.near.length by omega))
    have hne := ha i k (by simp; omega) (by simpa using hk) (by omega)
    simp only [List.getElem_map, Wt.pr, hat, ne_eq, Prod.mk.injEq] at hne
    simp only [List.mem_cons, List.not_mem_nil, or_false] at hy
    rcases hy with rfl | rfl
    · exact ⟨fun e => hne (pairKey_inj e), fun e => by have := pairKey_inj e; omega⟩
    · exact ⟨fun e => by have := pairKey_inj e; omega, fun e => hne ⟨(pairKey_inj e).2, (pairKey_inj e).1⟩⟩
  exact ⟨fun y hy => (main y hy).1, fun y hy => (main y hy).2⟩

/-- the four steps on the map's block -/
def openWorld (w : World) (m : Nat) (l : List (Value × Value)) (k1 k2 c : Value) : World :=
  putMap (putMap (putMap (putMap w m (l ++ [(k1, .int .i64 0)])) m (l ++ [(k1, c)])) m (l ++ [(k1, c)] ++ [(k2, .int .i64 0)])) m (l ++ [(k1, c)] ++ [(k2, c)])

def opW3 (W2 : World) (m : Nat) (l : List (Value × Value)) (n1 n2 : Int) : World := putMap W2 m (l ++ [(pairKey .u8 n1 n2, .int .i64 0)])
def opW4 (W2 : World) (m : Nat) (l : List (Value × Value)) (n1 n2 n3 : Int) : World := putMap (opW3 W2 m l n1 n2) m (l ++ [(pairKey .u8 n1 n2, .int .i64 n3)])
def opW5 (W2 : World) (m : Nat) (l : List (Value × Value)) (n1 n2 n3 : Int) : World := putMap (opW4 W2 m l n1 n2 n3) m (l ++ [(pairKey .u8 n1 n2, .int .i64 n3)] ++ [(pairKey .u8 n2 n1, .int .i64 0)])
def opW6 (W2 : World) (m : Nat) (l : List (Value × Value)) (n1 n2 n3 : Int) : World := putMap (opW5 W2 m l n1 n2 n3) m (l ++ [(pairKey .u8 n1 n2, .int .i64 n3)] ++ [(pairKey .u8 n2 n1, .int .i64 n3)])
theorem open_facts {wr w : World} {W : Wt} {A : Option Addr} {n c k : Nat} {x y : ByteArray} (h : OpenRel wr w W A n c x y k) (hl : k < W.near.length) {n1 n2 n3 : Int} (hat : W.near[k] = (n1, n2, n3))
    (hlk : lacks (nearMap (W.near.take k)) (pairKey .u8 n1 n2) ∧ lacks (nearMap (W.near.take k)) (pairKey .u8 n2 n1)) (v1 : 32 ≤ n1) (v2 : n2 ≤ 126) (v3 : n1 < n2) (q : Nat) {U : World}
    (e : (wr.alloc (.cells #[.int .i64 n1, .int .i64 n2, .int .i64 n3] 63)).drewN q = U) (m : Nat) (em : m = w.heap.size + 1) (l : List (Value × Value)) (el : l = nearMap (W.near.take k)) :
    ((Instr.mapEntry 68 (.map (some m)) (.agg #[.int .u8 n1, .int .u8 n2])).run Try.prog U.drew = .ok (.tuple #[.int .i64 0, .int .i64 l.length]) (opW3 U.drew m l n1 n2) ∧
     (Instr.entryStore 68 (.map (some m)) (.int .i64 l.length) (.int .i64 n3)).run Try.prog (opW3 U.drew m l n1 n2) = .ok () (opW4 U.drew m l n1 n2 n3) ∧
     (Instr.mapEntry 68 (.map (some m)) (.agg #[.int .u8 n2, .int .u8 n1])).run Try.prog (opW4 U.drew m l n1 n2 n3) = .ok (.tuple #[.int .i64 0, .int .i64 (l.length + 1)]) (opW5 U.drew m l n1 n2 n3) ∧
     (Instr.entryStore 68 (.map (some m)) (.int .i64 (l.length + 1)) (.int .i64 n3)).run Try.prog (opW5 U.drew m l n1 n2 n3) = .ok () (opW6 U.drew m l n1 n2 n3)) ∧
    (U.cell? ⟨w.heap.size + 1 + 1, 5, none⟩ = some (.map (some m)) ∧ (opW3 U.drew m l n1 n2).cell? ⟨w.heap.size + 1 + 1, 5, none⟩ = some (.map (some m)) ∧ (opW4 U.drew m l n1 n2 n3).cell? ⟨w.heap.size + 1 + 1, 5, none⟩ = some (.map (some m)) ∧ (opW5 U.drew m l n1 n2 n3).cell? ⟨w.heap.size + 1 + 1, 5, none⟩ = some (.map (some m))) ∧
    (U.cell? ⟨wr.heap.size, 2, none⟩ = some (.int .i64 n3) ∧ (opW3 U.drew m l n1 n2).cell? ⟨wr.heap.size, 2, none⟩ = some (.int .i64 n3) ∧ (opW4 U.drew m l n1 n2 n3).cell? ⟨wr.heap.size, 2, none⟩ = some (.int .i64 n3) ∧ (opW5 U.drew m l n1 n2 n3).cell? ⟨wr.heap.size, 2, none⟩ = some (.int .i64 n3)) ∧
    OpenRel (opW6 U.drew m l n1 n2 n3) w W A n c x y (k + 1) := by
  subst em el
  let m := w.heap.size + 1
  let l := nearMap (W.near.take k)
  let k1 := pairKey .u8 n1 n2
  let k2 := pairKey .u8 n2 n1
  let W2 := U.drew
  let W3 := opW3 U.drew m l n1 n2
  let W4 := opW4 U.drew m l n1 n2 n3
  let W5 := opW5 U.drew m l n1 n2 n3
  let W6 := opW6 U.drew m l n1 n2 n3
  have hz := h.map.lt
  have hz2 := h.blk.lt
  have hk1 : S2byte k1 := S2byte_of (by omega) (by omega) (by omega) (by omega)
  have hk2 : S2byte k2 := S2byte_of (by omega) (by omega) (by omega) (by omega)
  have hne : k1 ≠ k2 := fun e => by have := pairKey_inj e; omega
  have M2 : MapIs S2byte W2 m l := by
    have h1 : MapIs S2byte U m l := by rw [← e]; exact (h.map.alloc _).drewN q
    exact ⟨h1.heap, h1.keys, h1.apart⟩
  have M3 : MapIs S2byte W3 m (l ++ [(k1, .int .i64 0)]) := M2.append_is hk1 hlk.1
  have g3 : (l ++ [(k1, Value.int .i64 0)])[l.length]? = some (k1, .int .i64 0) := by simp
  have s3 : (l ++ [(k1, Value.int .i64 0)]).set l.length (k1, .int .i64 n3) = l ++ [(k1, .int .i64 n3)] := by simp
  have M4 : MapIs S2byte W4 m (l ++ [(k1, .int .i64 n3)]) := by have := M3.set_is (v := .int .i64 n3) g3; rwa [s3] at this
  have l4 : lacks (l ++ [(k1, Value.int .i64 n3)]) k2 := by
    intro z hz
    rcases List.mem_append.1 hz with h1 | h1
    · exact hlk.2 z h1
    · rw [List.mem_singleton.1 h1]; exact hne
  have M5 : MapIs S2byte W5 m (l ++ [(k1, .int .i64 n3)] ++ [(k2, .int .i64 0)]) := M4.append_is hk2 l4
  have g5 : (l ++ [(k1, Value.int .i64 n3)] ++ [(k2, Value.int .i64 0)])[l.length + 1]? = some (k2, .int .i64 0) := by simp
  have s5 : (l ++ [(k1, Value.int .i64 n3)] ++ [(k2, Value.int .i64 0)]).set (l.length + 1) (k2, .int .i64 n3) = l ++ [(k1, .int .i64 n3)] ++ [(k2, .int .i64 n3)] := by simp
  have M6 : MapIs S2byte W6 m (l ++ [(k1, .int .i64 n3)] ++ [(k2, .int .i64 n3)]) := by have := M5.set_is (v := .int .i64 n3) g5; rwa [s5] at this
  have hz0 : ∀ w, (zeroValue 3).run Try.prog w = .ok (.int .i64 0) w := fun _ => by kernel_rfl
  have c2 : U.cell? ⟨w.heap.size + 1 + 1, 5, none⟩ = some (.map (some m)) := by
    rw [← e]
    exact (h.blk.alloc _).cell 5
  have d2 : U.cell? ⟨wr.heap.size, 2, none⟩ = some (.int .i64 n3) := by
    rw [← e]
    exact (Blk.new wr 63 _).cell 2
  have p3 : ∀ p, W3.cell? p = U.cell? p := putMap_cell W2 m _ M2
  have p4 : ∀ p, W4.cell? p = U.cell? p := fun p => (putMap_cell W3 m _ M3 p).trans (p3 p)
  have p5 : ∀ p, W5.cell? p = U.cell? p := fun p => (putMap_cell W4 m _ M4 p).trans (p4 p)
  refine ⟨⟨run_mapEntry_new M2 law2byte Try.underlying68 (hz0 _) hk1 hlk.1, ?_, ?_, ?_⟩, ⟨c2, (p3 _).trans c2, (p4 _).trans c2, (p5 _).trans c2⟩, ⟨d2, (p3 _).trans d2, (p4 _).trans d2, (p5 _).trans d2⟩, ?_⟩
  · have := run_entryStore (P := Try.prog) (t := 68) (v := .int .i64 n3) M3 g3
    rw [s3] at this
    exact this
  · have := run_mapEntry_new M4 law2byte Try.underlying68 (hz0 _) hk2 l4
    have e2 : ((l ++ [(k1, Value.int .i64 n3)]).length : Int) = (l.length : Int) + 1 := by simp
    rw [e2] at this
    exact this
  · have := run_entryStore (P := Try.prog) (t := 68) (v := .int .i64 n3) M5 g5
    rw [s5] at this
    have e2 : ((l.length + 1 : Nat) : Int) = (l.length : Int) + 1 := by simp
    rw [e2] at this
    exact this
  · have hb2 : Blk W2 (w.heap.size + 2) 70 (edCells W A n c (w.heap.size + 1) x y) := by
      have h1 : Blk U (w.heap.size + 2) 70 (edCells W A n c (w.heap.size + 1) x y) := by rw [← e]; exact h.blk.alloc _
      exact h1
    have hl2 : Below w.heap.size w W2 := by
      have h1 : Below w.heap.size w U := by rw [← e]; exact below_drewN (h.bel.alloc (by omega) _) q
      exact h1.drew
    refine ⟨putMap_blk (putMap_blk (putMap_blk (putMap_blk hb2 (by omega)) (by omega)) (by omega)) (by omega), ?_, putMap_below (putMap_below (putMap_below (putMap_below hl2 (by omega)) (by omega)) (by omega)) (by omega)⟩
    have et : nearMap (W.near.take (k + 1)) = l ++ [(k1, .int .i64 n3)] ++ [(k2, .int .i64 n3)] := by
      rw [List.take_succ_eq_append_getElem hl, hat]
      simp [nearMap, l, k1, k2]
    rw [et]
    exact M6

set_option maxHeartbeats 400000 in
theorem open_any (W : Wt) (hW : W.valid = true) (x y : ByteArray) (A : Option Addr) (n c : Nat) (X : Nat) (w : World) (hN : Near w X A n W.near) (hX : X ≤ w.heap.size) :
    Calls Try.prog 27 #[wval W A n c, .string x, .string y] w fun e w' => e = .returned (.pointer (some ⟨w.heap.size + 2, 0, none⟩)) ∧ OpenRel w' w W A n c x y n := by
  have HN := hide hN
  clear hN
  have HW := hide hW
  clear hW
  have hn200 : n ≤ 200 := by rw [← HN.out.1]; exact Wt.valid_len HW.out
  obtain ⟨I, D, C, S, near⟩ := W
  have hmm := @run_makeMap Try.prog
  go_enter Try.func27, Try.ntmps27
  unfold wval
  go_wp2
  go_loopw [21] (fun i wr => ∃ k : Nat, k ≤ n ∧ i = .int .i64 k ∧ OpenRel wr w ⟨I, D, C, S, near⟩ A n c x y k) (fun i _ => n - (intOf i).toNat)
  case atStart => exact ⟨0, by omega, rfl, OpenRel.start w ⟨I, D, C, S, near⟩ A n c x y⟩
  case round =>
    obtain ⟨k, hk, rfl, hrel⟩ := hrel
    by_cases hlt : k < n
    · obtain ⟨ad, n1, n2, n3, hl, rfl, hadb, hat, c1, c2, c3⟩ := (HN.out.below hrel.bel hX).at_ hlt
      have hz : w.heap.size + 1 < wr.heap.size := hrel.map.lt
      have hz' : w.heap.size + 2 < wr.heap.size := hrel.blk.lt
      have d1 : wr.cell? ⟨w.heap.size + 2, 5, none⟩ = some (.map (some (w.heap.size + 1))) := hrel.blk.cell 5
      have hv := Wt.valid_near HW.out _ (List.getElem_mem hl)
      simp only [hat] at hv
      obtain ⟨v1, v2, v3, v4, v5⟩ := hv
      have Hlk := hide (nearMap_lacks HW.out hl hat)
      have Hat := hide hat
      have Hrel := hide hrel
      clear hat hrel
      go_wp2
      go_quiet (fail)
      go_wp2
      generalize hU : World.drewN (World.alloc wr (Obj.cells #[Value.int IntKind.i64 n1, Value.int IntKind.i64 n2, Value.int IntKind.i64 n3] 63)) nq = U
      obtain ⟨l, el⟩ : ∃ l, l = nearMap (near.take k) := ⟨_, rfl⟩
      obtain ⟨⟨q1, q2, q3, q4⟩, ⟨r1, r2, r3, r4⟩, ⟨s1, s2, s3, s4⟩, hfin⟩ := open_facts (W := ⟨I, D, C, S, near⟩) Hrel.out hl Hat.out Hlk.out v1 v2 v3 nq hU _ rfl l el
      have Hfin := hide hfin
      clear hfin hU el c1 c2 c3 d1
      go_region
      go_wp2
      go_roundw
      case rel => exact ⟨k + 1, by omega, by go_num, Hfin.out⟩
      case measure => simp [intOf]; omega
    · obtain rfl : k = n := by omega
      have Hrel := hide hrel
      clear hrel
      go_wp2
      go_ret
      exact ⟨rfl, Hrel.out⟩
end Go.Proofs.Ytnpdhbagfkilkaa

/- Laws for the walk: a struct stored into a block that is known whole; the world behind it is a new name. -/
set_option linter.unusedVariables false
set_option linter.unusedSimpArgs false
namespace Go.Proofs.Ytnpdhbagfkilkaa
open Go.RowKit

section
variable {P : Program} {w : World}

theorem setRow_grown (w : World) (g : Nat) (cs : Array Value) : w.grownBy (w.setRow g cs) (some g) :=
  ⟨rfl, rfl, rfl, by simp [World.setRow], fun i hi hne => by
    unfold World.setRow
    simp only [Array.getElem?_modify]
    rw [if_neg (fun e => hne (by rw [e]))]⟩

/-- 'only block g has turned' -/
def Only (w w' : World) (g : Nat) : Prop := w.grownBy w' (some g)
theorem Only.refl (w : World) (g : Nat) : Only w w g := World.grownBy.refl w _
theorem Only.below {B g : Nat} {w0 w w' : World} (h : Below B w0 w) (ho : Only w w' g) (hB : B ≤ w.heap.size) (hg : B ≤ g) : Below B w0 w' := h.grown ho hB (fun k hk => by cases hk; exact hg)
theorem Only.cell {g : Nat} {w w' : World} (ho : Only w w' g) {p : Addr} (hp : p.block < w.heap.size) (hne : p.block ≠ g) : w'.cell? p = w.cell? p :=
  World.cell?_of_block (ho.block p.block hp (fun e => hne (by injection e)))
theorem Only.frozen {g : Nat} {w w' : World} (ho : Only w w' g) {p : Addr} (hp : p.block < w.heap.size) (hne : p.block ≠ g) : w'.frozen? p = w.frozen? p :=
  World.frozen?_of_block (ho.block p.block hp (fun e => hne (by injection e)))
theorem Only.blk {g i : Nat} {w w' : World} {t : TypeId} {cs : Array Value} (ho : Only w w' g) (h : Blk w i t cs) (hne : i ≠ g) : Blk w' i t cs :=
  (ho.block i h.lt (fun e => hne (by injection e))).trans h
theorem Only.same {g i : Nat} {w w' : World} (ho : Only w w' g) (hi : i < w.heap.size) (hne : i ≠ g) : w'.heap[i]? = w.heap[i]? := ho.block i hi (fun e => hne (by injection e))

def splice (old : Array Value) (off : Nat) (cs : Array Value) : Array Value := (old.toList.take off ++ cs.toList ++ old.toList.drop (off + cs.size)).toArray

theorem run_storeVar_part (w : World) (g off : Nat) (t ty : TypeId) (old cells : Array Value) (hg : Blk w g t old) (hi : (P.info? ty).map (·.size) = some cells.size)
    (ho : off + cells.size ≤ old.size) (h1 : ∀ v ∈ cells.toList, v.oneCell' = true) :
    (storeVar ty ⟨g, off, none⟩ (.agg cells)).run P w = .ok () (w.setRow g (splice old off cells)) := by
  have := run_storeCells_at P g off t cells.toList 0 old w hg (by simpa using ho) h1
  cases hq : P.info? ty with
  | none => simp [hq] at hi
  | some i =>
    have hs : cells.size = i.size := by simp [hq] at hi; omega
    simp [storeVar, sizeOf, typeInfo, hq, Value.cells, hs, this, splice]

theorem wpList_store_part {ops : Array Oper} {rest : List Oper} {o : Oper} {a : Act} {Q : Exit → Act → World → Prop} (hgd : o.guard = none) (ty : TypeId) (x y : Operand) (ho : o.op = .store ty x y)
    (g off : Nat) (cells : Array Value) (hx : a.eval x = .pointer (some ⟨g, off, none⟩)) (hy : a.eval y = .agg cells)
    (t : TypeId) (old : Array Value) (hg : Blk w g t old) (hi : (P.info? ty).map (·.size) = some cells.size)
    (hold : off + cells.size ≤ old.size) (h1 : ∀ v ∈ cells.toList, v.oneCell' = true)
    (h : ∀ w', Only w w' g → Blk w' g t (splice old off cells) → wpList P ops Q rest (a.put o.dst undef) w') : wpList P ops Q (o :: rest) a w :=
  wpList_plain hgd fun K hK => by
    unfold Oper.wp execOp
    simp only [ho, hx, hy, Instr.storeAt, Instr.sureAddr, Sem.run_bind, Sem.run_pure, Result.andThen_ok, run_storeVar_part w g off t ty old cells hg hi hold h1]
    exact hK _ _ (h _ (setRow_grown w g _) (setRow_heap w g old _ t (0, 0) hg))

theorem wpList_load_all {ops : Array Oper} {rest : List Oper} {o : Oper} {a : Act} {Q : Exit → Act → World → Prop} (hgd : o.guard = none) (ty : TypeId) (x : Operand) (ho : o.op = .load ty x)
    (g : Nat) (hx : a.eval x = .pointer (some ⟨g, 0, none⟩)) (t : TypeId) (cs : Array Value) (d : TypeDesc) (hg : Blk w g t cs)
    (hu : P.underlying ty = some d) (hd : (match d with | .struct _ | .array _ _ => true | _ => false) = true) (hi : (P.info? ty).map (·.size) = some cs.size)
    (h : wpList P ops Q rest (a.put o.dst (.agg cs)) w) : wpList P ops Q (o :: rest) a w :=
  wpList_load_row hgd ty x ho g hx t cs (0, 0) d hg hu hd hi h

theorem results_cell_blk {fn : Func} {p : Tmp} {ty : TypeId} (h : fn.results = #[.cell p ty]) (tmps : Array Value) (w : World) (g : Nat) (t : TypeId) (cs : Array Value) (d : TypeDesc)
    (hp : tmps.getD p undef = .pointer (some ⟨g, 0, none⟩)) (hg : Blk w g t cs)
    (hu : P.underlying ty = some d) (hd : (match d with | .struct _ | .array _ _ => true | _ => false) = true) (hi : (P.info? ty).map (·.size) = some cs.size) :
    (results fn tmps).run P w = .ok (.agg cs) w := results_cell_row h tmps w g t cs (0, 0) d hp hg hu hd hi
end
end Go.Proofs.Ytnpdhbagfkilkaa

/- Walks: the editor's steps. -/
set_option linter.unusedVariables false
set_option linter.unusedSimpArgs false
namespace Go.Proofs.Ytnpdhbagfkilkaa
open Go.RowKit

/-- the editor at block g -/
structure Ed (w : World) (g m : Nat) (W : Wt) (A : Option Addr) (n c : Nat) (x y : ByteArray) : Prop where
  blk : Blk w g 70 (edCells W A n c m x y)
  map : MapIs S2byte w m (nearMap W.near)
theorem Ed.below {w w' : World} {g m B : Nat} {W : Wt} {A : Option Addr} {n c : Nat} {x y : ByteArray} (h : Ed w g m W A n c x y) (hb : Below B w w') (hg : g < B) (hm : m < B) : Ed w' g m W A n c x y :=
  ⟨h.blk.below hb hg, h.map.below hb hm⟩

def triple (s : Int × Int × Int) : List Value := [.int .i64 s.1, .int .i64 s.2.1, .int .i64 s.2.2]
def stepArr (l : List (Int × Int × Int)) : Array Value := (l.flatMap triple).toArray
def initArr (k : Nat) : Array Value := stepArr (List.replicate k Wt.no ++ List.replicate (6 - k) (0, 0, 0))

theorem initArr0 : initArr 0 = #[.int .i64 0, .int .i64 0, .int .i64 0, .int .i64 0, .int .i64 0, .int .i64 0, .int .i64 0, .int .i64 0, .int .i64 0, .int .i64 0, .int .i64 0, .int .i64 0, .int .i64 0, .int .i64 0, .int .i64 0, .int .i64 0, .int .i64 0, .int .i64 0] := rfl
theorem Ed.facts {w : World} {g m : Nat} {W : Wt} {A : Option Addr} {n c : Nat} {x y : ByteArray} (h : Ed w g m W A n c x y) :
    w.cell? ⟨g, 0, none⟩ = some (.int .i64 W.ins) ∧ w.cell? ⟨g, 1, none⟩ = some (.int .i64 W.del) ∧ w.cell? ⟨g, 2, none⟩ = some (.int .i64 W.chg) ∧ w.cell? ⟨g, 3, none⟩ = some (.int .i64 W.swp) ∧
    w.cell? ⟨g, 5, none⟩ = some (.map (some m)) ∧ w.cell? ⟨g, 6, none⟩ = some (.string x) ∧ w.cell? ⟨g, 7, none⟩ = some (.string y) :=
  ⟨h.blk.cell 0, h.blk.cell 1, h.blk.cell 2, h.blk.cell 3, h.blk.cell 5, h.blk.cell 6, h.blk.cell 7⟩
theorem Ed.only {w w' : World} {g m o : Nat} {W : Wt} {A : Option Addr} {n c : Nat} {x y : ByteArray} (ho : Only w w' o) (h : Ed w g m W A n c x y) (hg : g ≠ o) (hm : m ≠ o) : Ed w' g m W A n c x y :=
  ⟨ho.blk h.blk hg, h.map.same (ho.same h.map.lt hm)⟩
theorem Ed.drewN {w : World} {g m : Nat} {W : Wt} {A : Option Addr} {n c : Nat} {x y : ByteArray} (h : Ed w g m W A n c x y) (q : Nat) : Ed (w.drewN q) g m W A n c x y := ⟨h.blk, h.map.drewN q⟩

/-- while the steps are made: the result's block, the local's block -/
structure StRel (wr w : World) (g m : Nat) (W : Wt) (A : Option Addr) (n c : Nat) (x y : ByteArray) (l : List (Int × Int × Int)) : Prop where
  res : Blk wr w.heap.size 53 (initArr 0)
  out : Blk wr (w.heap.size + 1) 53 (stepArr l)
  bel : Below w.heap.size w wr
  ed : Ed wr g m W A n c x y
def initL (k : Nat) : List (Int × Int × Int) := List.replicate k Wt.no ++ List.replicate (6 - k) (0, 0, 0)
theorem StRel.start {w : World} {g m : Nat} {W : Wt} {A : Option Addr} {n c : Nat} {x y : ByteArray} (h : Ed w g m W A n c x y) :
    StRel ((w.alloc (.cells (initArr 0) 53)).alloc (.cells (initArr 0) 53)) w g m W A n c x y (initL 0) := by
  have hb : Below w.heap.size w ((w.alloc (.cells (initArr 0) 53)).alloc (.cells (initArr 0) 53)) := ((Below.refl _ _).alloc (Nat.le_refl _) _).alloc (by simp) _
  exact ⟨heap_alloc2_old _ _ _, heap_alloc2_new _ _ _, hb, h.below hb h.blk.lt h.map.lt⟩
theorem initL_cell (k : Nat) (hk : k < 6) : (stepArr (initL k))[k * 3]? = some (.int .i64 0) := by
  match k, hk with
  | 0, _ | 1, _ | 2, _ | 3, _ | 4, _ | 5, _ => rfl
theorem initL_set (k : Nat) (hk : k < 6) : (stepArr (initL k)).setIfInBounds (k * 3) (.int .i64 (-1)) = stepArr (initL (k + 1)) := by
  match k, hk with
  | 0, _ | 1, _ | 2, _ | 3, _ | 4, _ | 5, _ => rfl
theorem StRel.next {wr w : World} {g m : Nat} {W : Wt} {A : Option Addr} {n c : Nat} {x y : ByteArray} {k : Nat} (h : StRel wr w g m W A n c x y (initL k)) (hk : k < 6) (hg : g < w.heap.size) (hm : m < w.heap.size) :
    StRel (wr.setCell ⟨w.heap.size + 1, k * 3, none⟩ (.int .i64 (-1))) w g m W A n c x y (initL (k + 1)) := by
  have h1 := h.out.set_ (k * 3) (.int .i64 (-1))
  rw [initL_set k hk] at h1
  exact ⟨h.res.far (by simp) _, h1, h.bel.setCell (by simp) _, h.ed.below (B := w.heap.size) ((Below.refl _ _).setCell (by simp) _) hg hm⟩

theorem splice_step {l : List (Int × Int × Int)} (hl : l.length = 6) {q : Nat} (hq : q < 6) (a b c : Int) : splice (stepArr l) (3 * q) #[.int .i64 a, .int .i64 b, .int .i64 c] = stepArr (l.set q (a, b, c)) := by
  match l, hl with
  | [t0, t1, t2, t3, t4, t5], _ =>
    match q, hq with
    | 0, _ | 1, _ | 2, _ | 3, _ | 4, _ | 5, _ => rfl
theorem stepArr_size {l : List (Int × Int × Int)} (hl : l.length = 6) : (stepArr l).size = 18 := by
  match l, hl with
  | [t0, t1, t2, t3, t4, t5], _ => rfl
theorem fit3 {l : List (Int × Int × Int)} (hl : l.length = 6) {q : Nat} (hq : q < 6) {a b c : Value} : 3 * q + (#[a, b, c] : Array Value).size ≤ (stepArr l).size := by
  rw [stepArr_size hl]; show 3 * q + 3 ≤ 18; omega
theorem fit18 {l : List (Int × Int × Int)} (hl : l.length = 6) : 0 + (stepArr l).size ≤ (initArr 0).size := by
  rw [stepArr_size hl]; exact Nat.le_refl _
theorem stepArr_one (l : List (Int × Int × Int)) : ∀ v ∈ (stepArr l).toList, v.oneCell' = true := by
  intro v hv
  simp only [stepArr, List.mem_flatMap, triple] at hv
  obtain ⟨s, _, hv⟩ := hv
  simp at hv
  rcases hv with rfl | rfl | rfl <;> rfl
theorem splice_all {l : List (Int × Int × Int)} (hl : l.length = 6) : splice (initArr 0) 0 (stepArr l) = stepArr l := by
  match l, hl with
  | [t0, t1, t2, t3, t4, t5], _ => rfl
theorem three_one (a b c : Int) : ∀ v ∈ (#[Value.int .i64 a, .int .i64 b, .int .i64 c] : Array Value).toList, v.oneCell' = true := by
  intro v hv
  simp at hv
  rcases hv with rfl | rfl | rfl <;> rfl
theorem at_byte (x : ByteArray) {i : Nat} (h : i < x.size) : Wt.at_ x.data.toList i = (x[i].toNat : Int) := by
  unfold Wt.at_
  rw [List.getElem?_eq_getElem (by simpa using h)]
  rfl
/-- a step put into the local -/
theorem StRel.put {w1 w2 w : World} {g m : Nat} {W : Wt} {A : Option Addr} {n c : Nat} {x y : ByteArray} {l : List (Int × Int × Int)} (h : StRel w1 w g m W A n c x y l) (hl : l.length = 6) {q : Nat} (hq : q < 6) {a b d : Int}
    (ho : Only w1 w2 (w.heap.size + 1)) (hb : Blk w2 (w.heap.size + 1) 53 (splice (stepArr l) (3 * q) #[.int .i64 a, .int .i64 b, .int .i64 d])) (hg : g < w.heap.size) (hm : m < w.heap.size) :
    StRel w2 w g m W A n c x y (l.set q (a, b, d)) := by
  rw [splice_step hl hq] at hb
  have := h.out.lt
  exact ⟨ho.blk h.res (by omega), hb, ho.below h.bel (by omega) (by omega), h.ed.only ho (by omega) (by omega)⟩
theorem StRel.drewN {w1 w : World} {g m : Nat} {W : Wt} {A : Option Addr} {n c : Nat} {x y : ByteArray} {l : List (Int × Int × Int)} (h : StRel w1 w g m W A n c x y l) (q : Nat) : StRel (w1.drewN q) w g m W A n c x y l :=
  ⟨h.res, h.out, below_drewN h.bel q, h.ed.drewN q⟩
/-- the end: the result's block holds them -/
theorem StRel.fin {w1 w2 w : World} {g m : Nat} {W : Wt} {A : Option Addr} {n c : Nat} {x y : ByteArray} {l : List (Int × Int × Int)} (h : StRel w1 w g m W A n c x y l) (hl : l.length = 6)
    (ho : Only w1 w2 w.heap.size) (hb : Blk w2 w.heap.size 53 (splice (initArr 0) 0 (stepArr l))) :
    Blk w2 w.heap.size 53 (stepArr l) ∧ Below w.heap.size w w2 := by
  rw [splice_all hl] at hb
  have := h.res.lt
  exact ⟨hb, ho.below h.bel (by omega) (by omega)⟩

set_option maxHeartbeats 1000000 in
theorem stepsA (W : Wt) (hW : W.valid = true) (x y : ByteArray) (A : Option Addr) (n c g m i j : Nat) (w : World) (hE : Ed w g m W A n c x y) (hx : x.size ≤ 120) (hy : y.size ≤ 120) (hi : i ≤ x.size) (hj : j ≤ y.size) (hij : ¬ i < x.size) (hjj : ¬ j < y.size) :
    Calls Try.prog 31 #[.pointer (some ⟨g, 0, none⟩), .int .i64 i, .int .i64 j] w fun e w' => e = .returned (.agg (stepArr (W.steps x.data.toList y.data.toList i j))) ∧ Below w.heap.size w w' := by
  have hg := hE.blk.lt
  have hm := hE.map.lt
  have hmO : m < w.heap.size := hm
  have HS := hide (StRel.start hE)
  rw [initArr0] at HS
  clear hE
  have HW := hide hW
  clear hW
  go_enter Try.func31, Try.ntmps31
  go_wp2
  go_loopw [15] (fun q wr => ∃ k : Nat, k ≤ 6 ∧ q = .int .i64 k ∧ StRel wr w g m W A n c x y (initL k)) (fun q _ => 6 - (intOf q).toNat)
  case atStart => exact ⟨0, by omega, rfl, HS.out⟩
  case round =>
    obtain ⟨k, hk, rfl, hrel⟩ := hrel
    by_cases hlt : k < 6
    · have d0 : wr.cell? ⟨w.heap.size + 1, k * 3, none⟩ = some (.int .i64 0) := (hrel.out.cell _).trans (initL_cell k hlt)
      have d1 : wr.frozen? ⟨w.heap.size + 1, k * 3, none⟩ = false := hrel.out.frozen _
      have Hn := hide (hrel.next hlt hg hm)
      clear hrel
      go_wp2
      go_roundw
      case rel => exact ⟨k + 1, by omega, by go_num, Hn.out⟩
      case measure => simp [intOf]; omega
    · obtain rfl : k = 6 := by omega
      obtain ⟨e0, e1, e2, e3, e5, e6, e7⟩ := hrel.ed.facts
      clear HS
      have HS := hide hrel
      clear hrel hlt hk
      have HF : Hid (W.steps x.data.toList y.data.toList i j = [Wt.no, Wt.no, Wt.no, Wt.no, Wt.no, Wt.no]) := by
        show _ = _
        simp [Wt.steps, Wt.same, Wt.change, Wt.insert, Wt.delete, Wt.swap, hij, hjj, show ¬ i + 1 < x.size by omega]
      go_wp2
      go_quiet (fail)
      go_wp2_with (first
        | ((with_reducible show wpList _ _ _ (Oper.mk _ (Op.load 53 (.tmp 7)) _ _ _ _ :: _) _ _); refine wpList_load_all rfl 53 (.tmp 7) rfl (w.heap.size + 1) rfl 53 _ _ HS.out.out Try.underlying53 rfl (by kernel_rfl) ?_)
        | ((with_reducible show wpList _ _ _ (Oper.mk _ (Op.store 53 (.tmp 6) (.tmp 139)) _ _ _ _ :: _) _ _); refine wpList_store_part rfl 53 (.tmp 6) (.tmp 139) rfl w.heap.size 0 _ rfl rfl 53 _ HS.out.res (by kernel_rfl) (fit18 rfl) (stepArr_one _) ?_; intro w2 ho2 hb2; have HZ := hide (StRel.fin (l := (initL 6)) (by first | exact HS.out | exact HS.out.drewN _) rfl ho2 hb2); clear ho2 hb2))
      refine bodyPost_ret (results_cell_blk rfl _ _ w.heap.size 53 _ _ rfl HZ.out.1 Try.underlying53 rfl (by kernel_rfl)) rfl ⟨?_, HZ.out.2⟩
      rw [HF.out]
      rfl

set_option maxHeartbeats 1000000 in
theorem stepsB (W : Wt) (hW : W.valid = true) (x y : ByteArray) (A : Option Addr) (n c g m i j : Nat) (w : World) (hE : Ed w g m W A n c x y) (hx : x.size ≤ 120) (hy : y.size ≤ 120) (hi : i ≤ x.size) (hj : j ≤ y.size) (hij : ¬ i < x.size) (hjj : j < y.size) :
    Calls Try.prog 31 #[.pointer (some ⟨g, 0, none⟩), .int .i64 i, .int .i64 j] w fun e w' => e = .returned (.agg (stepArr (W.steps x.data.toList y.data.toList i j))) ∧ Below w.heap.size w w' := by
  have hg := hE.blk.lt
  have hm := hE.map.lt
  have hmO : m < w.heap.size := hm
  have HS := hide (StRel.start hE)
  rw [initArr0] at HS
  clear hE
  have HW := hide hW
  clear hW
  go_enter Try.func31, Try.ntmps31
  go_wp2
  go_loopw [15] (fun q wr => ∃ k : Nat, k ≤ 6 ∧ q = .int .i64 k ∧ StRel wr w g m W A n c x y (initL k)) (fun q _ => 6 - (intOf q).toNat)
  case atStart => exact ⟨0, by omega, rfl, HS.out⟩
  case round =>
    obtain ⟨k, hk, rfl, hrel⟩ := hrel
    by_cases hlt : k < 6
    · have d0 : wr.cell? ⟨w.heap.size + 1, k * 3, none⟩ = some (.int .i64 0) := (hrel.out.cell _).trans (initL_cell k hlt)
      have d1 : wr.frozen? ⟨w.heap.size + 1, k * 3, none⟩ = false := hrel.out.frozen _
      have Hn := hide (hrel.next hlt hg hm)
      clear hrel
      go_wp2
      go_roundw
      case rel => exact ⟨k + 1, by omega, by go_num, Hn.out⟩
      case measure => simp [intOf]; omega
    · obtain rfl : k = 6 := by omega
      obtain ⟨e0, e1, e2, e3, e5, e6, e7⟩ := hrel.ed.facts
      clear HS
      have HS := hide hrel
      clear hrel hlt hk
      have HF : Hid (W.steps x.data.toList y.data.toList i j = [Wt.no, Wt.no, Wt.no, (W.ins, 0, 1), Wt.no, Wt.no]) := by
        show _ = _
        simp [Wt.steps, Wt.same, Wt.change, Wt.insert, Wt.delete, Wt.swap, hij, hjj, show ¬ i + 1 < x.size by omega]
      go_wp2
      go_quiet (fail)
      go_wp2_with (first
        | ((with_reducible show wpList _ _ _ (Oper.mk _ (Op.store 52 (.tmp 129) (.tmp 128)) _ _ _ _ :: _) _ _); refine wpList_store_part rfl 52 (.tmp 129) (.tmp 128) rfl (w.heap.size + 1) (3 * 3) _ rfl rfl 53 _ HS.out.out (by kernel_rfl) (fit3 rfl (by omega)) (three_one _ _ _) ?_; intro w2 ho2 hb2; have HT := hide (StRel.put (l := (initL 6)) (q := 3) (by first | exact HS.out | exact HS.out.drewN _) rfl (by omega) ho2 hb2 hg hm); clear HS ho2 hb2 e0 e1 e2 e3 e5 e6 e7; have HS := HT; clear HT; obtain ⟨e0, e1, e2, e3, e5, e6, e7⟩ := HS.out.ed.facts)
        | ((with_reducible show wpList _ _ _ (Oper.mk _ (Op.load 53 (.tmp 7)) _ _ _ _ :: _) _ _); refine wpList_load_all rfl 53 (.tmp 7) rfl (w.heap.size + 1) rfl 53 _ _ HS.out.out Try.underlying53 rfl (by kernel_rfl) ?_)
        | ((with_reducible show wpList _ _ _ (Oper.mk _ (Op.store 53 (.tmp 6) (.tmp 139)) _ _ _ _ :: _) _ _); refine wpList_store_part rfl 53 (.tmp 6) (.tmp 139) rfl w.heap.size 0 _ rfl rfl 53 _ HS.out.res (by kernel_rfl) (fit18 rfl) (stepArr_one _) ?_; intro w2 ho2 hb2; have HZ := hide (StRel.fin (l := ((initL 6).set 3 (W.ins, 0, 1))) (by first | exact HS.out | exact HS.out.drewN _) rfl ho2 hb2); clear ho2 hb2))
      refine bodyPost_ret (results_cell_blk rfl _ _ w.heap.size 53 _ _ rfl HZ.out.1 Try.underlying53 rfl (by kernel_rfl)) rfl ⟨?_, HZ.out.2⟩
      rw [HF.out]
      rfl

set_option maxHeartbeats 1000000 in
theorem stepsC (W : Wt) (hW : W.valid = true) (x y : ByteArray) (A : Option Addr) (n c g m i j : Nat) (w : World) (hE : Ed w g m W A n c x y) (hx : x.size ≤ 120) (hy : y.size ≤ 120) (hi : i ≤ x.size) (hj : j ≤ y.size) (hij : i < x.size) (hjj : ¬ j < y.size) :
    Calls Try.prog 31 #[.pointer (some ⟨g, 0, none⟩), .int .i64 i, .int .i64 j] w fun e w' => e = .returned (.agg (stepArr (W.steps x.data.toList y.data.toList i j))) ∧ Below w.heap.size w w' := by
  have hg := hE.blk.lt
  have hm := hE.map.lt
  have hmO : m < w.heap.size := hm
  have HS := hide (StRel.start hE)
  rw [initArr0] at HS
  clear hE
  have HW := hide hW
  clear hW
  go_enter Try.func31, Try.ntmps31
  go_wp2
  go_loopw [15] (fun q wr => ∃ k : Nat, k ≤ 6 ∧ q = .int .i64 k ∧ StRel wr w g m W A n c x y (initL k)) (fun q _ => 6 - (intOf q).toNat)
  case atStart => exact ⟨0, by omega, rfl, HS.out⟩
  case round =>
    obtain ⟨k, hk, rfl, hrel⟩ := hrel
    by_cases hlt : k < 6
    · have d0 : wr.cell? ⟨w.heap.size + 1, k * 3, none⟩ = some (.int .i64 0) := (hrel.out.cell _).trans (initL_cell k hlt)
      have d1 : wr.frozen? ⟨w.heap.size + 1, k * 3, none⟩ = false := hrel.out.frozen _
      have Hn := hide (hrel.next hlt hg hm)
      clear hrel
      go_wp2
      go_roundw
      case rel => exact ⟨k + 1, by omega, by go_num, Hn.out⟩
      case measure => simp [intOf]; omega
    · obtain rfl : k = 6 := by omega
      obtain ⟨e0, e1, e2, e3, e5, e6, e7⟩ := hrel.ed.facts
      clear HS
      have HS := hide hrel
      clear hrel hlt hk
      have HF : Hid (W.steps x.data.toList y.data.toList i j = [Wt.no, Wt.no, Wt.no, Wt.no, (W.del, 1, 0), Wt.no]) := by
        show _ = _
        simp [Wt.steps, Wt.same, Wt.change, Wt.insert, Wt.delete, Wt.swap, hij, hjj, show ¬ j + 1 < y.size by omega]
      go_wp2
      go_quiet (fail)
      go_wp2_with (first
        | ((with_reducible show wpList _ _ _ (Oper.mk _ (Op.store 52 (.tmp 138) (.tmp 137)) _ _ _ _ :: _) _ _); refine wpList_store_part rfl 52 (.tmp 138) (.tmp 137) rfl (w.heap.size + 1) (3 * 4) _ rfl rfl 53 _ HS.out.out (by kernel_rfl) (fit3 rfl (by omega)) (three_one _ _ _) ?_; intro w2 ho2 hb2; have HT := hide (StRel.put (l := (initL 6)) (q := 4) (by first | exact HS.out | exact HS.out.drewN _) rfl (by omega) ho2 hb2 hg hm); clear HS ho2 hb2 e0 e1 e2 e3 e5 e6 e7; have HS := HT; clear HT; obtain ⟨e0, e1, e2, e3, e5, e6, e7⟩ := HS.out.ed.facts)
        | ((with_reducible show wpList _ _ _ (Oper.mk _ (Op.load 53 (.tmp 7)) _ _ _ _ :: _) _ _); refine wpList_load_all rfl 53 (.tmp 7) rfl (w.heap.size + 1) rfl 53 _ _ HS.out.out Try.underlying53 rfl (by kernel_rfl) ?_)
        | ((with_reducible show wpList _ _ _ (Oper.mk _ (Op.store 53 (.tmp 6) (.tmp 139)) _ _ _ _ :: _) _ _); refine wpList_store_part rfl 53 (.tmp 6) (.tmp 139) rfl w.heap.size 0 _ rfl rfl 53 _ HS.out.res (by kernel_rfl) (fit18 rfl) (stepArr_one _) ?_; intro w2 ho2 hb2; have HZ := hide (StRel.fin (l := ((initL 6).set 4 (W.del, 1, 0))) (by first | exact HS.out | exact HS.out.drewN _) rfl ho2 hb2); clear ho2 hb2))
      refine bodyPost_ret (results_cell_blk rfl _ _ w.heap.size 53 _ _ rfl HZ.out.1 Try.underlying53 rfl (by kernel_rfl)) rfl ⟨?_, HZ.out.2⟩
      rw [HF.out]
      rfl

end Go.Proofs.Ytnpdhbagfkilkaa

/- Walks: the editor's steps, where both texts go on (equal bytes). -/
set_option linter.unusedVariables false
set_option linter.unusedSimpArgs false
namespace Go.Proofs.Ytnpdhbagfkilkaa
open Go.RowKit

set_option maxHeartbeats 1000000 in
theorem stepsDno1 (W : Wt) (hW : W.valid = true) (x y : ByteArray) (A : Option Addr) (n c g m i j : Nat) (w : World) (hE : Ed w g m W A n c x y) (hx : x.size ≤ 120) (hy : y.size ≤ 120) (hi : i ≤ x.size) (hj : j ≤ y.size) (hij : i < x.size) (hjj : j < y.size) (hab : x[i].toNat = y[j].toNat) (hlack : lacks (nearMap W.near) (pairKey .u8 x[i].toNat y[j].toNat)) (hl : ¬ i + 1 < x.size) :
    Calls Try.prog 31 #[.pointer (some ⟨g, 0, none⟩), .int .i64 i, .int .i64 j] w fun e w' => e = .returned (.agg (stepArr (W.steps x.data.toList y.data.toList i j))) ∧ Below w.heap.size w w' := by
  have hg := hE.blk.lt
  have hm := hE.map.lt
  have hmO : m < w.heap.size := hm
  have HS := hide (StRel.start hE)
  rw [initArr0] at HS
  clear hE
  have HW := hide hW
  clear hW
  go_enter Try.func31, Try.ntmps31
  go_wp2
  go_loopw [15] (fun q wr => ∃ k : Nat, k ≤ 6 ∧ q = .int .i64 k ∧ StRel wr w g m W A n c x y (initL k)) (fun q _ => 6 - (intOf q).toNat)
  case atStart => exact ⟨0, by omega, rfl, HS.out⟩
  case round =>
    obtain ⟨k, hk, rfl, hrel⟩ := hrel
    by_cases hlt : k < 6
    · have d0 : wr.cell? ⟨w.heap.size + 1, k * 3, none⟩ = some (.int .i64 0) := (hrel.out.cell _).trans (initL_cell k hlt)
      have d1 : wr.frozen? ⟨w.heap.size + 1, k * 3, none⟩ = false := hrel.out.frozen _
      have Hn := hide (hrel.next hlt hg hm)
      clear hrel
      go_wp2
      go_roundw
      case rel => exact ⟨k + 1, by omega, by go_num, Hn.out⟩
      case measure => simp [intOf]; omega
    · obtain rfl : k = 6 := by omega
      obtain ⟨e0, e1, e2, e3, e5, e6, e7⟩ := hrel.ed.facts
      clear HS
      have HS := hide hrel
      clear hrel hlt hk
      have hlk : ∀ q, (Instr.lookup 68 (.map (some m)) (.agg #[.int .u8 x[i].toNat, .int .u8 y[j].toNat]) true).run Try.prog (wr.drewN q) = .ok (.tuple #[.int .i64 0, .bool false]) (wr.drewN q) :=
        fun q => run_lookup_ok_lacks (HS.out.ed.map.drewN q) law2byte Try.underlying68 (z := .int .i64 0) (by kernel_rfl) (S2byte_of (by omega) (by have := x[i].toNat_lt; omega) (by omega) (by have := y[j].toNat_lt; omega)) hlack
      clear hlack
      have hax : Wt.at_ x.data.toList i = (x[i].toNat : Int) := at_byte x hij
      have hby : Wt.at_ y.data.toList j = (y[j].toNat : Int) := at_byte y hjj
      have HF : Hid (W.steps x.data.toList y.data.toList i j = [Wt.no, (0, 1, 1), Wt.no, (W.ins, 0, 1), (W.del, 1, 0), Wt.no]) := by
        show _ = _
        have hs : Wt.swap W x.data.toList y.data.toList i j = Wt.no := by simp [Wt.swap, hax, hby, hl, hab]
        simp [Wt.steps, Wt.same, Wt.change, Wt.insert, Wt.delete, hs, hij, hjj, hax, hby, hab]
      clear hax hby
      have hb0 : ((x[i].toNat : Int) == (y[j].toNat : Int)) = true := by simp [hab]
      have hb1 : ((x[i].toNat : Int) != (y[j].toNat : Int)) = false := by simp [hab]
      clear hab
      go_wp2
      go_quiet (fail)
      go_wp2
      go_quiet (fail)
      go_wp2_with (first
        | ((with_reducible show wpList _ _ _ (Oper.mk _ (Op.store 52 (.tmp 69) (.tmp 68)) _ _ _ _ :: _) _ _); refine wpList_store_part rfl 52 (.tmp 69) (.tmp 68) rfl (w.heap.size + 1) (3 * 1) _ rfl rfl 53 _ HS.out.out (by kernel_rfl) (fit3 rfl (by omega)) (three_one _ _ _) ?_; intro w2 ho2 hb2; have HT := hide (StRel.put (l := (initL 6)) (q := 1) (by first | exact HS.out | exact HS.out.drewN _) rfl (by omega) ho2 hb2 hg hm); clear HS ho2 hb2 e0 e1 e2 e3 e5 e6 e7; have HS := HT; clear HT; obtain ⟨e0, e1, e2, e3, e5, e6, e7⟩ := HS.out.ed.facts)
        | ((with_reducible show wpList _ _ _ (Oper.mk _ (Op.store 52 (.tmp 129) (.tmp 128)) _ _ _ _ :: _) _ _); refine wpList_store_part rfl 52 (.tmp 129) (.tmp 128) rfl (w.heap.size + 1) (3 * 3) _ rfl rfl 53 _ HS.out.out (by kernel_rfl) (fit3 rfl (by omega)) (three_one _ _ _) ?_; intro w2 ho2 hb2; have HT := hide (StRel.put (l := ((initL 6).set 1 (0, 1, 1))) (q := 3) (by first | exact HS.out | exact HS.out.drewN _) rfl (by omega) ho2 hb2 hg hm); clear HS ho2 hb2 e0 e1 e2 e3 e5 e6 e7; have HS := HT; clear HT; obtain ⟨e0, e1, e2, e3, e5, e6, e7⟩ := HS.out.ed.facts)
        | ((with_reducible show wpList _ _ _ (Oper.mk _ (Op.store 52 (.tmp 138) (.tmp 137)) _ _ _ _ :: _) _ _); refine wpList_store_part rfl 52 (.tmp 138) (.tmp 137) rfl (w.heap.size + 1) (3 * 4) _ rfl rfl 53 _ HS.out.out (by kernel_rfl) (fit3 rfl (by omega)) (three_one _ _ _) ?_; intro w2 ho2 hb2; have HT := hide (StRel.put (l := (((initL 6).set 1 (0, 1, 1)).set 3 (W.ins, 0, 1))) (q := 4) (by first | exact HS.out | exact HS.out.drewN _) rfl (by omega) ho2 hb2 hg hm); clear HS ho2 hb2 e0 e1 e2 e3 e5 e6 e7; have HS := HT; clear HT; obtain ⟨e0, e1, e2, e3, e5, e6, e7⟩ := HS.out.ed.facts)
        | ((with_reducible show wpList _ _ _ (Oper.mk _ (Op.load 53 (.tmp 7)) _ _ _ _ :: _) _ _); refine wpList_load_all rfl 53 (.tmp 7) rfl (w.heap.size + 1) rfl 53 _ _ HS.out.out Try.underlying53 rfl (by kernel_rfl) ?_)
        | ((with_reducible show wpList _ _ _ (Oper.mk _ (Op.store 53 (.tmp 6) (.tmp 139)) _ _ _ _ :: _) _ _); refine wpList_store_part rfl 53 (.tmp 6) (.tmp 139) rfl w.heap.size 0 _ rfl rfl 53 _ HS.out.res (by kernel_rfl) (fit18 rfl) (stepArr_one _) ?_; intro w2 ho2 hb2; have HZ := hide (StRel.fin (l := ((((initL 6).set 1 (0, 1, 1)).set 3 (W.ins, 0, 1)).set 4 (W.del, 1, 0))) (by first | exact HS.out | exact HS.out.drewN _) rfl ho2 hb2); clear ho2 hb2))
      refine bodyPost_ret (results_cell_blk rfl _ _ w.heap.size 53 _ _ rfl HZ.out.1 Try.underlying53 rfl (by kernel_rfl)) rfl ⟨?_, HZ.out.2⟩
      rw [HF.out]
      rfl

set_option maxHeartbeats 1000000 in
theorem stepsDno2 (W : Wt) (hW : W.valid = true) (x y : ByteArray) (A : Option Addr) (n c g m i j : Nat) (w : World) (hE : Ed w g m W A n c x y) (hx : x.size ≤ 120) (hy : y.size ≤ 120) (hi : i ≤ x.size) (hj : j ≤ y.size) (hij : i < x.size) (hjj : j < y.size) (hab : x[i].toNat = y[j].toNat) (hlack : lacks (nearMap W.near) (pairKey .u8 x[i].toNat y[j].toNat)) (hl : i + 1 < x.size) (hr : ¬ j + 1 < y.size) :
    Calls Try.prog 31 #[.pointer (some ⟨g, 0, none⟩), .int .i64 i, .int .i64 j] w fun e w' => e = .returned (.agg (stepArr (W.steps x.data.toList y.data.toList i j))) ∧ Below w.heap.size w w' := by
  have hg := hE.blk.lt
  have hm := hE.map.lt
  have hmO : m < w.heap.size := hm
  have HS := hide (StRel.start hE)
  rw [initArr0] at HS
  clear hE
  have HW := hide hW
  clear hW
  go_enter Try.func31, Try.ntmps31
  go_wp2
  go_loopw [15] (fun q wr => ∃ k : Nat, k ≤ 6 ∧ q = .int .i64 k ∧ StRel wr w g m W A n c x y (initL k)) (fun q _ => 6 - (intOf q).toNat)
  case atStart => exact ⟨0, by omega, rfl, HS.out⟩
  case round =>
    obtain ⟨k, hk, rfl, hrel⟩ := hrel
    by_cases hlt : k < 6
    · have d0 : wr.cell? ⟨w.heap.size + 1, k * 3, none⟩ = some (.int .i64 0) := (hrel.out.cell _).trans (initL_cell k hlt)
      have d1 : wr.frozen? ⟨w.heap.size + 1, k * 3, none⟩ = false := hrel.out.frozen _
      have Hn := hide (hrel.next hlt hg hm)
      clear hrel
      go_wp2
      go_roundw
      case rel => exact ⟨k + 1, by omega, by go_num, Hn.out⟩
      case measure => simp [intOf]; omega
    · obtain rfl : k = 6 := by omega
      obtain ⟨e0, e1, e2, e3, e5, e6, e7⟩ := hrel.ed.facts
      clear HS
      have HS := hide hrel
      clear hrel hlt hk
      have hlk : ∀ q, (Instr.lookup 68 (.map (some m)) (.agg #[.int .u8 x[i].toNat, .int .u8 y[j].toNat]) true).run Try.prog (wr.drewN q) = .ok (.tuple #[.int .i64 0, .bool false]) (wr.drewN q) :=
        fun q => run_lookup_ok_lacks (HS.out.ed.map.drewN q) law2byte Try.underlying68 (z := .int .i64 0) (by kernel_rfl) (S2byte_of (by omega) (by have := x[i].toNat_lt; omega) (by omega) (by have := y[j].toNat_lt; omega)) hlack
      clear hlack
      have hax : Wt.at_ x.data.toList i = (x[i].toNat : Int) := at_byte x hij
      have hby : Wt.at_ y.data.toList j = (y[j].toNat : Int) := at_byte y hjj
      have HF : Hid (W.steps x.data.toList y.data.toList i j = [Wt.no, (0, 1, 1), Wt.no, (W.ins, 0, 1), (W.del, 1, 0), Wt.no]) := by
        show _ = _
        have hs : Wt.swap W x.data.toList y.data.toList i j = Wt.no := by simp [Wt.swap, hax, hby, hl, hr, hab]
        simp [Wt.steps, Wt.same, Wt.change, Wt.insert, Wt.delete, hs, hij, hjj, hax, hby, hab]
      clear hax hby
      have hb0 : ((x[i].toNat : Int) == (y[j].toNat : Int)) = true := by simp [hab]
      have hb1 : ((x[i].toNat : Int) != (y[j].toNat : Int)) = false := by simp [hab]
      clear hab
      go_wp2
      go_quiet (fail)
      go_wp2
      go_quiet (fail)
      go_wp2_with (first
        | ((with_reducible show wpList _ _ _ (Oper.mk _ (Op.store 52 (.tmp 69) (.tmp 68)) _ _ _ _ :: _) _ _); refine wpList_store_part rfl 52 (.tmp 69) (.tmp 68) rfl (w.heap.size + 1) (3 * 1) _ rfl rfl 53 _ HS.out.out (by kernel_rfl) (fit3 rfl (by omega)) (three_one _ _ _) ?_; intro w2 ho2 hb2; have HT := hide (StRel.put (l := (initL 6)) (q := 1) (by first | exact HS.out | exact HS.out.drewN _) rfl (by omega) ho2 hb2 hg hm); clear HS ho2 hb2 e0 e1 e2 e3 e5 e6 e7; have HS := HT; clear HT; obtain ⟨e0, e1, e2, e3, e5, e6, e7⟩ := HS.out.ed.facts)
        | ((with_reducible show wpList _ _ _ (Oper.mk _ (Op.store 52 (.tmp 129) (.tmp 128)) _ _ _ _ :: _) _ _); refine wpList_store_part rfl 52 (.tmp 129) (.tmp 128) rfl (w.heap.size + 1) (3 * 3) _ rfl rfl 53 _ HS.out.out (by kernel_rfl) (fit3 rfl (by omega)) (three_one _ _ _) ?_; intro w2 ho2 hb2; have HT := hide (StRel.put (l := ((initL 6).set 1 (0, 1, 1))) (q := 3) (by first | exact HS.out | exact HS.out.drewN _) rfl (by omega) ho2 hb2 hg hm); clear HS ho2 hb2 e0 e1 e2 e3 e5 e6 e7; have HS := HT; clear HT; obtain ⟨e0, e1, e2, e3, e5, e6, e7⟩ := HS.out.ed.facts)
        | ((with_reducible show wpList _ _ _ (Oper.mk _ (Op.store 52 (.tmp 138) (.tmp 137)) _ _ _ _ :: _) _ _); refine wpList_store_part rfl 52 (.tmp 138) (.tmp 137) rfl (w.heap.size + 1) (3 * 4) _ rfl rfl 53 _ HS.out.out (by kernel_rfl) (fit3 rfl (by omega)) (three_one _ _ _) ?_; intro w2 ho2 hb2; have HT := hide (StRel.put (l := (((initL 6).set 1 (0, 1, 1)).set 3 (W.ins, 0, 1))) (q := 4) (by first | exact HS.out | exact HS.out.drewN _) rfl (by omega) ho2 hb2 hg hm); clear HS ho2 hb2 e0 e1 e2 e3 e5 e6 e7; have HS := HT; clear HT; obtain ⟨e0, e1, e2, e3, e5, e6, e7⟩ := HS.out.ed.facts)
        | ((with_reducible show wpList _ _ _ (Oper.mk _ (Op.load 53 (.tmp 7)) _ _ _ _ :: _) _ _); refine wpList_load_all rfl 53 (.tmp 7) rfl (w.heap.size + 1) rfl 53 _ _ HS.out.out Try.underlying53 rfl (by kernel_rfl) ?_)
        | ((with_reducible show wpList _ _ _ (Oper.mk _ (Op.store 53 (.tmp 6) (.tmp 139)) _ _ _ _ :: _) _ _); refine wpList_store_part rfl 53 (.tmp 6) (.tmp 139) rfl w.heap.size 0 _ rfl rfl 53 _ HS.out.res (by kernel_rfl) (fit18 rfl) (stepArr_one _) ?_; intro w2 ho2 hb2; have HZ := hide (StRel.fin (l := ((((initL 6).set 1 (0, 1, 1)).set 3 (W.ins, 0, 1)).set 4 (W.del, 1, 0))) (by first | exact HS.out | exact HS.out.drewN _) rfl ho2 hb2); clear ho2 hb2))
      refine bodyPost_ret (results_cell_blk rfl _ _ w.heap.size 53 _ _ rfl HZ.out.1 Try.underlying53 rfl (by kernel_rfl)) rfl ⟨?_, HZ.out.2⟩
      rw [HF.out]
      rfl

set_option maxHeartbeats 1000000 in
theorem stepsDno3 (W : Wt) (hW : W.valid = true) (x y : ByteArray) (A : Option Addr) (n c g m i j : Nat) (w : World) (hE : Ed w g m W A n c x y) (hx : x.size ≤ 120) (hy : y.size ≤ 120) (hi : i ≤ x.size) (hj : j ≤ y.size) (hij : i < x.size) (hjj : j < y.size) (hab : x[i].toNat = y[j].toNat) (hlack : lacks (nearMap W.near) (pairKey .u8 x[i].toNat y[j].toNat)) (hl : i + 1 < x.size) (hr : j + 1 < y.size) :
    Calls Try.prog 31 #[.pointer (some ⟨g, 0, none⟩), .int .i64 i, .int .i64 j] w fun e w' => e = .returned (.agg (stepArr (W.steps x.data.toList y.data.toList i j))) ∧ Below w.heap.size w w' := by
  have hg := hE.blk.lt
  have hm := hE.map.lt
  have hmO : m < w.heap.size := hm
  have HS := hide (StRel.start hE)
  rw [initArr0] at HS
  clear hE
  have HW := hide hW
  clear hW
  go_enter Try.func31, Try.ntmps31
  go_wp2
  go_loopw [15] (fun q wr => ∃ k : Nat, k ≤ 6 ∧ q = .int .i64 k ∧ StRel wr w g m W A n c x y (initL k)) (fun q _ => 6 - (intOf q).toNat)
  case atStart => exact ⟨0, by omega, rfl, HS.out⟩
  case round =>
    obtain ⟨k, hk, rfl, hrel⟩ := hrel
    by_cases hlt : k < 6
    · have d0 : wr.cell? ⟨w.heap.size + 1, k * 3, none⟩ = some (.int .i64 0) := (hrel.out.cell _).trans (initL_cell k hlt)
      have d1 : wr.frozen? ⟨w.heap.size + 1, k * 3, none⟩ = false := hrel.out.frozen _
      have Hn := hide (hrel.next hlt hg hm)
      clear hrel
      go_wp2
      go_roundw
      case rel => exact ⟨k + 1, by omega, by go_num, Hn.out⟩
      case measure => simp [intOf]; omega
    · obtain rfl : k = 6 := by omega
      obtain ⟨e0, e1, e2, e3, e5, e6, e7⟩ := hrel.ed.facts
      clear HS
      have HS := hide hrel
      clear hrel hlt hk
      have hlk : ∀ q, (Instr.lookup 68 (.map (some m)) (.agg #[.int .u8 x[i].toNat, .int .u8 y[j].toNat]) true).run Try.prog (wr.drewN q) = .ok (.tuple #[.int .i64 0, .bool false]) (wr.drewN q) :=
        fun q => run_lookup_ok_lacks (HS.out.ed.map.drewN q) law2byte Try.underlying68 (z := .int .i64 0) (by kernel_rfl) (S2byte_of (by omega) (by have := x[i].toNat_lt; omega) (by omega) (by have := y[j].toNat_lt; omega)) hlack
      clear hlack
      have hax : Wt.at_ x.data.toList i = (x[i].toNat : Int) := at_byte x hij
      have hby : Wt.at_ y.data.toList j = (y[j].toNat : Int) := at_byte y hjj
      have HF : Hid (W.steps x.data.toList y.data.toList i j = [Wt.no, (0, 1, 1), Wt.no, (W.ins, 0, 1), (W.del, 1, 0), Wt.no]) := by
        show _ = _
        have hs : Wt.swap W x.data.toList y.data.toList i j = Wt.no := by simp [Wt.swap, hax, hby, hl, hr, hab]
        simp [Wt.steps, Wt.same, Wt.change, Wt.insert, Wt.delete, hs, hij, hjj, hax, hby, hab]
      clear hax hby
      have hb0 : ((x[i].toNat : Int) == (y[j].toNat : Int)) = true := by simp [hab]
      have hb1 : ((x[i].toNat : Int) != (y[j].toNat : Int)) = false := by simp [hab]
      clear hab
      go_wp2
      go_quiet (fail)
      go_wp2
      go_quiet (fail)
      go_wp2_with (first
        | ((with_reducible show wpList _ _ _ (Oper.mk _ (Op.store 52 (.tmp 69) (.tmp 68)) _ _ _ _ :: _) _ _); refine wpList_store_part rfl 52 (.tmp 69) (.tmp 68) rfl (w.heap.size + 1) (3 * 1) _ rfl rfl 53 _ HS.out.out (by kernel_rfl) (fit3 rfl (by omega)) (three_one _ _ _) ?_; intro w2 ho2 hb2; have HT := hide (StRel.put (l := (initL 6)) (q := 1) (by first | exact HS.out | exact HS.out.drewN _) rfl (by omega) ho2 hb2 hg hm); clear HS ho2 hb2 e0 e1 e2 e3 e5 e6 e7; have HS := HT; clear HT; obtain ⟨e0, e1, e2, e3, e5, e6, e7⟩ := HS.out.ed.facts)
        | ((with_reducible show wpList _ _ _ (Oper.mk _ (Op.store 52 (.tmp 129) (.tmp 128)) _ _ _ _ :: _) _ _); refine wpList_store_part rfl 52 (.tmp 129) (.tmp 128) rfl (w.heap.size + 1) (3 * 3) _ rfl rfl 53 _ HS.out.out (by kernel_rfl) (fit3 rfl (by omega)) (three_one _ _ _) ?_; intro w2 ho2 hb2; have HT := hide (StRel.put (l := ((initL 6).set 1 (0, 1, 1))) (q := 3) (by first | exact HS.out | exact HS.out.drewN _) rfl (by omega) ho2 hb2 hg hm); clear HS ho2 hb2 e0 e1 e2 e3 e5 e6 e7; have HS := HT; clear HT; obtain ⟨e0, e1, e2, e3, e5, e6, e7⟩ := HS.out.ed.facts)
        | ((with_reducible show wpList _ _ _ (Oper.mk _ (Op.store 52 (.tmp 138) (.tmp 137)) _ _ _ _ :: _) _ _); refine wpList_store_part rfl 52 (.tmp 138) (.tmp 137) rfl (w.heap.size + 1) (3 * 4) _ rfl rfl 53 _ HS.out.out (by kernel_rfl) (fit3 rfl (by omega)) (three_one _ _ _) ?_; intro w2 ho2 hb2; have HT := hide (StRel.put (l := (((initL 6).set 1 (0, 1, 1)).set 3 (W.ins, 0, 1))) (q := 4) (by first | exact HS.out | exact HS.out.drewN _) rfl (by omega) ho2 hb2 hg hm); clear HS ho2 hb2 e0 e1 e2 e3 e5 e6 e7; have HS := HT; clear HT; obtain ⟨e0, e1, e2, e3, e5, e6, e7⟩ := HS.out.ed.facts)
        | ((with_reducible show wpList _ _ _ (Oper.mk _ (Op.load 53 (.tmp 7)) _ _ _ _ :: _) _ _); refine wpList_load_all rfl 53 (.tmp 7) rfl (w.heap.size + 1) rfl 53 _ _ HS.out.out Try.underlying53 rfl (by kernel_rfl) ?_)
        | ((with_reducible show wpList _ _ _ (Oper.mk _ (Op.store 53 (.tmp 6) (.tmp 139)) _ _ _ _ :: _) _ _); refine wpList_store_part rfl 53 (.tmp 6) (.tmp 139) rfl w.heap.size 0 _ rfl rfl 53 _ HS.out.res (by kernel_rfl) (fit18 rfl) (stepArr_one _) ?_; intro w2 ho2 hb2; have HZ := hide (StRel.fin (l := ((((initL 6).set 1 (0, 1, 1)).set 3 (W.ins, 0, 1)).set 4 (W.del, 1, 0))) (by first | exact HS.out | exact HS.out.drewN _) rfl ho2 hb2); clear ho2 hb2))
      refine bodyPost_ret (results_cell_blk rfl _ _ w.heap.size 53 _ _ rfl HZ.out.1 Try.underlying53 rfl (by kernel_rfl)) rfl ⟨?_, HZ.out.2⟩
      rw [HF.out]
      rfl

set_option maxHeartbeats 1000000 in
theorem stepsDyes1 (W : Wt) (hW : W.valid = true) (x y : ByteArray) (A : Option Addr) (n c g m i j : Nat) (w : World) (hE : Ed w g m W A n c x y) (hx : x.size ≤ 120) (hy : y.size ≤ 120) (hi : i ≤ x.size) (hj : j ≤ y.size) (hij : i < x.size) (hjj : j < y.size) (hab : x[i].toNat = y[j].toNat) (c0 : Int) (hhas : has (nearMap W.near) (pairKey .u8 x[i].toNat y[j].toNat) (.int .i64 c0)) (hl : ¬ i + 1 < x.size) :
    Calls Try.prog 31 #[.pointer (some ⟨g, 0, none⟩), .int .i64 i, .int .i64 j] w fun e w' => e = .returned (.agg (stepArr (W.steps x.data.toList y.data.toList i j))) ∧ Below w.heap.size w w' := by
  have hg := hE.blk.lt
  have hm := hE.map.lt
  have hmO : m < w.heap.size := hm
  have HS := hide (StRel.start hE)
  rw [initArr0] at HS
  clear hE
  have HW := hide hW
  clear hW
  go_enter Try.func31, Try.ntmps31
  go_wp2
  go_loopw [15] (fun q wr => ∃ k : Nat, k ≤ 6 ∧ q = .int .i64 k ∧ StRel wr w g m W A n c x y (initL k)) (fun q _ => 6 - (intOf q).toNat)
  case atStart => exact ⟨0, by omega, rfl, HS.out⟩
  case round =>
    obtain ⟨k, hk, rfl, hrel⟩ := hrel
    by_cases hlt : k < 6
    · have d0 : wr.cell? ⟨w.heap.size + 1, k * 3, none⟩ = some (.int .i64 0) := (hrel.out.cell _).trans (initL_cell k hlt)
      have d1 : wr.frozen? ⟨w.heap.size + 1, k * 3, none⟩ = false := hrel.out.frozen _
      have Hn := hide (hrel.next hlt hg hm)
      clear hrel
      go_wp2
      go_roundw
      case rel => exact ⟨k + 1, by omega, by go_num, Hn.out⟩
      case measure => simp [intOf]; omega
    · obtain rfl : k = 6 := by omega
      obtain ⟨e0, e1, e2, e3, e5, e6, e7⟩ := hrel.ed.facts
      clear HS
      have HS := hide hrel
      clear hrel hlt hk
      have hlk : ∀ q, (Instr.lookup 68 (.map (some m)) (.agg #[.int .u8 x[i].toNat, .int .u8 y[j].toNat]) true).run Try.prog (wr.drewN q) = .ok (.tuple #[.int .i64 c0, .bool true]) (wr.drewN q) :=
        fun q => run_lookup_ok_has (HS.out.ed.map.drewN q) law2byte Try.underlying68 (z := .int .i64 0) (by kernel_rfl) (S2byte_of (by omega) (by have := x[i].toNat_lt; omega) (by omega) (by have := y[j].toNat_lt; omega)) hhas
      clear hhas
      have hax : Wt.at_ x.data.toList i = (x[i].toNat : Int) := at_byte x hij
      have hby : Wt.at_ y.data.toList j = (y[j].toNat : Int) := at_byte y hjj
      have HF : Hid (W.steps x.data.toList y.data.toList i j = [Wt.no, (0, 1, 1), Wt.no, (W.ins, 0, 1), (W.del, 1, 0), Wt.no]) := by
        show _ = _
        have hs : Wt.swap W x.data.toList y.data.toList i j = Wt.no := by simp [Wt.swap, hax, hby, hl, hab]
        simp [Wt.steps, Wt.same, Wt.change, Wt.insert, Wt.delete, hs, hij, hjj, hax, hby, hab]
      clear hax hby
      have hb0 : ((x[i].toNat : Int) == (y[j].toNat : Int)) = true := by simp [hab]
      have hb1 : ((x[i].toNat : Int) != (y[j].toNat : Int)) = false := by simp [hab]
      clear hab
      go_wp2
      go_quiet (fail)
      go_wp2
      go_quiet (fail)
      go_wp2_with (first
        | ((with_reducible show wpList _ _ _ (Oper.mk _ (Op.store 52 (.tmp 69) (.tmp 68)) _ _ _ _ :: _) _ _); refine wpList_store_part rfl 52 (.tmp 69) (.tmp 68) rfl (w.heap.size + 1) (3 * 1) _ rfl rfl 53 _ HS.out.out (by kernel_rfl) (fit3 rfl (by omega)) (three_one _ _ _) ?_; intro w2 ho2 hb2; have HT := hide (StRel.put (l := (initL 6)) (q := 1) (by first | exact HS.out | exact HS.out.drewN _) rfl (by omega) ho2 hb2 hg hm); clear HS ho2 hb2 e0 e1 e2 e3 e5 e6 e7; have HS := HT; clear HT; obtain ⟨e0, e1, e2, e3, e5, e6, e7⟩ := HS.out.ed.facts)
        | ((with_reducible show wpList _ _ _ (Oper.mk _ (Op.store 52 (.tmp 129) (.tmp 128)) _ _ _ _ :: _) _ _); refine wpList_store_part rfl 52 (.tmp 129) (.tmp 128) rfl (w.heap.size + 1) (3 * 3) _ rfl rfl 53 _ HS.out.out (by kernel_rfl) (fit3 rfl (by omega)) (three_one _ _ _) ?_; intro w2 ho2 hb2; have HT := hide (StRel.put (l := ((initL 6).set 1 (0, 1, 1))) (q := 3) (by first | exact HS.out | exact HS.out.drewN _) rfl (by omega) ho2 hb2 hg hm); clear HS ho2 hb2 e0 e1 e2 e3 e5 e6 e7; have HS := HT; clear HT; obtain ⟨e0, e1, e2, e3, e5, e6, e7⟩ := HS.out.ed.facts)
        | ((with_reducible show wpList _ _ _ (Oper.mk _ (Op.store 52 (.tmp 138) (.tmp 137)) _ _ _ _ :: _) _ _); refine wpList_store_part rfl 52 (.tmp 138) (.tmp 137) rfl (w.heap.size + 1) (3 * 4) _ rfl rfl 53 _ HS.out.out (by kernel_rfl) (fit3 rfl (by omega)) (three_one _ _ _) ?_; intro w2 ho2 hb2; have HT := hide (StRel.put (l := (((initL 6).set 1 (0, 1, 1)).set 3 (W.ins, 0, 1))) (q := 4) (by first | exact HS.out | exact HS.out.drewN _) rfl (by omega) ho2 hb2 hg hm); clear HS ho2 hb2 e0 e1 e2 e3 e5 e6 e7; have HS := HT; clear HT; obtain ⟨e0, e1, e2, e3, e5, e6, e7⟩ := HS.out.ed.facts)
        | ((with_reducible show wpList _ _ _ (Oper.mk _ (Op.load 53 (.tmp 7)) _ _ _ _ :: _) _ _); refine wpList_load_all rfl 53 (.tmp 7) rfl (w.heap.size + 1) rfl 53 _ _ HS.out.out Try.underlying53 rfl (by kernel_rfl) ?_)
        | ((with_reducible show wpList _ _ _ (Oper.mk _ (Op.store 53 (.tmp 6) (.tmp 139)) _ _ _ _ :: _) _ _); refine wpList_store_part rfl 53 (.tmp 6) (.tmp 139) rfl w.heap.size 0 _ rfl rfl 53 _ HS.out.res (by kernel_rfl) (fit18 rfl) (stepArr_one _) ?_; intro w2 ho2 hb2; have HZ := hide (StRel.fin (l := ((((initL 6).set 1 (0, 1, 1)).set 3 (W.ins, 0, 1)).set 4 (W.del, 1, 0))) (by first | exact HS.out | exact HS.out.drewN _) rfl ho2 hb2); clear ho2 hb2))
      refine bodyPost_ret (results_cell_blk rfl _ _ w.heap.size 53 _ _ rfl HZ.out.1 Try.underlying53 rfl (by kernel_rfl)) rfl ⟨?_, HZ.out.2⟩
      rw [HF.out]
      rfl

set_option maxHeartbeats 1000000 in
theorem stepsDyes2 (W : Wt) (hW : W.valid = true) (x y : ByteArray) (A : Option Addr) (n c g m i j : Nat) (w : World) (hE : Ed w g m W A n c x y) (hx : x.size ≤ 120) (hy : y.size ≤ 120) (hi : i ≤ x.size) (hj : j ≤ y.size) (hij : i < x.size) (hjj : j < y.size) (hab : x[i].toNat = y[j].toNat) (c0 : Int) (hhas : has (nearMap W.near) (pairKey .u8 x[i].toNat y[j].toNat) (.int .i64 c0)) (hl : i + 1 < x.size) (hr : ¬ j + 1 < y.size) :
    Calls Try.prog 31 #[.pointer (some ⟨g, 0, none⟩), .int .i64 i, .int .i64 j] w fun e w' => e = .returned (.agg (stepArr (W.steps x.data.toList y.data.toList i j))) ∧ Below w.heap.size w w' := by
  have hg := hE.blk.lt
  have hm := hE.map.lt
  have hmO : m < w.heap.size := hm
  have HS := hide (StRel.start hE)
  rw [initArr0] at HS
  clear hE
  have HW := hide hW
  clear hW
  go_enter Try.func31, Try.ntmps31
  go_wp2
  go_loopw [15] (fun q wr => ∃ k : Nat, k ≤ 6 ∧ q = .int .i64 k ∧ StRel wr w g m W A n c x y (initL k)) (fun q _ => 6 - (intOf q).toNat)
  case atStart => exact ⟨0, by omega, rfl, HS.out⟩
  case round =>
    obtain ⟨k, hk, rfl, hrel⟩ := hrel
    by_cases hlt : k < 6
    · have d0 : wr.cell? ⟨w.heap.size + 1, k * 3, none⟩ = some (.int .i64 0) := (hrel.out.cell _).trans (initL_cell k hlt)
      have d1 : wr.frozen? ⟨w.heap.size + 1, k * 3, none⟩ = false := hrel.out.frozen _
      have Hn := hide (hrel.next hlt hg hm)
      clear hrel
      go_wp2
      go_roundw
      case rel => exact ⟨k + 1, by omega, by go_num, Hn.out⟩
      case measure => simp [intOf]; omega
    · obtain rfl : k = 6 := by omega
      obtain ⟨e0, e1, e2, e3, e5, e6, e7⟩ := hrel.ed.facts
      clear HS
      have HS := hide hrel
      clear hrel hlt hk
      have hlk : ∀ q, (Instr.lookup 68 (.map (some m)) (.agg #[.int .u8 x[i].toNat, .int .u8 y[j].toNat]) true).run Try.prog (wr.drewN q) = .ok (.tuple #[.int .i64 c0, .bool true]) (wr.drewN q) :=
        fun q => run_lookup_ok_has (HS.out.ed.map.drewN q) law2byte Try.underlying68 (z := .int .i64 0) (by kernel_rfl) (S2byte_of (by omega) (by have := x[i].toNat_lt; omega) (by omega) (by have := y[j].toNat_lt; omega)) hhas
      clear hhas
      have hax : Wt.at_ x.data.toList i = (x[i].toNat : Int) := at_byte x hij
      have hby : Wt.at_ y.data.toList j = (y[j].toNat : Int) := at_byte y hjj
      have HF : Hid (W.steps x.data.toList y.data.toList i j = [Wt.no, (0, 1, 1), Wt.no, (W.ins, 0, 1), (W.del, 1, 0), Wt.no]) := by
        show _ = _
        have hs : Wt.swap W x.data.toList y.data.toList i j = Wt.no := by simp [Wt.swap, hax, hby, hl, hr, hab]
        simp [Wt.steps, Wt.same, Wt.change, Wt.insert, Wt.delete, hs, hij, hjj, hax, hby, hab]
      clear hax hby
      have hb0 : ((x[i].toNat : Int) == (y[j].toNat : Int)) = true := by simp [hab]
      have hb1 : ((x[i].toNat : Int) != (y[j].toNat : Int)) = false := by simp [hab]
      clear hab
      go_wp2
      go_quiet (fail)
      go_wp2
      go_quiet (fail)
      go_wp2_with (first
        | ((with_reducible show wpList _ _ _ (Oper.mk _ (Op.store 52 (.tmp 69) (.tmp 68)) _ _ _ _ :: _) _ _); refine wpList_store_part rfl 52 (.tmp 69) (.tmp 68) rfl (w.heap.size + 1) (3 * 1) _ rfl rfl 53 _ HS.out.out (by kernel_rfl) (fit3 rfl (by omega)) (three_one _ _ _) ?_; intro w2 ho2 hb2; have HT := hide (StRel.put (l := (initL 6)) (q := 1) (by first | exact HS.out | exact HS.out.drewN _) rfl (by omega) ho2 hb2 hg hm); clear HS ho2 hb2 e0 e1 e2 e3 e5 e6 e7; have HS := HT; clear HT; obtain ⟨e0, e1, e2, e3, e5, e6, e7⟩ := HS.out.ed.facts)
        | ((with_reducible show wpList _ _ _ (Oper.mk _ (Op.store 52 (.tmp 129) (.tmp 128)) _ _ _ _ :: _) _ _); refine wpList_store_part rfl 52 (.tmp 129) (.tmp 128) rfl (w.heap.size + 1) (3 * 3) _ rfl rfl 53 _ HS.out.out (by kernel_rfl) (fit3 rfl (by omega)) (three_one _ _ _) ?_; intro w2 ho2 hb2; have HT := hide (StRel.put (l := ((initL 6).set 1 (0, 1, 1))) (q := 3) (by first | exact HS.out | exact HS.out.drewN _) rfl (by omega) ho2 hb2 hg hm); clear HS ho2 hb2 e0 e1 e2 e3 e5 e6 e7; have HS := HT; clear HT; obtain ⟨e0, e1, e2, e3, e5, e6, e7⟩ := HS.out.ed.facts)
        | ((with_reducible show wpList _ _ _ (Oper.mk _ (Op.store 52 (.tmp 138) (.tmp 137)) _ _ _ _ :: _) _ _); refine wpList_store_part rfl 52 (.tmp 138) (.tmp 137) rfl (w.heap.size + 1) (3 * 4) _ rfl rfl 53 _ HS.out.out (by kernel_rfl) (fit3 rfl (by omega)) (three_one _ _ _) ?_; intro w2 ho2 hb2; have HT := hide (StRel.put (l := (((initL 6).set 1 (0, 1, 1)).set 3 (W.ins, 0, 1))) (q := 4) (by first | exact HS.out | exact HS.out.drewN _) rfl (by omega) ho2 hb2 hg hm); clear HS ho2 hb2 e0 e1 e2 e3 e5 e6 e7; have HS := HT; clear HT; obtain ⟨e0, e1, e2, e3, e5, e6, e7⟩ := HS.out.ed.facts)
        | ((with_reducible show wpList _ _ _ (Oper.mk _ (Op.load 53 (.tmp 7)) _ _ _ _ :: _) _ _); refine wpList_load_all rfl 53 (.tmp 7) rfl (w.heap.size + 1) rfl 53 _ _ HS.out.out Try.underlying53 rfl (by kernel_rfl) ?_)
        | ((with_reducible show wpList _ _ _ (Oper.mk _ (Op.store 53 (.tmp 6) (.tmp 139)) _ _ _ _ :: _) _ _); refine wpList_store_part rfl 53 (.tmp 6) (.tmp 139) rfl w.heap.size 0 _ rfl rfl 53 _ HS.out.res (by kernel_rfl) (fit18 rfl) (stepArr_one _) ?_; intro w2 ho2 hb2; have HZ := hide (StRel.fin (l := ((((initL 6).set 1 (0, 1, 1)).set 3 (W.ins, 0, 1)).set 4 (W.del, 1, 0))) (by first | exact HS.out | exact HS.out.drewN _) rfl ho2 hb2); clear ho2 hb2))
      refine bodyPost_ret (results_cell_blk rfl _ _ w.heap.size 53 _ _ rfl HZ.out.1 Try.underlying53 rfl (by kernel_rfl)) rfl ⟨?_, HZ.out.2⟩
      rw [HF.out]
      rfl

set_option maxHeartbeats 1000000 in
theorem stepsDyes3 (W : Wt) (hW : W.valid = true) (x y : ByteArray) (A : Option Addr) (n c g m i j : Nat) (w : World) (hE : Ed w g m W A n c x y) (hx : x.size ≤ 120) (hy : y.size ≤ 120) (hi : i ≤ x.size) (hj : j ≤ y.size) (hij : i < x.size) (hjj : j < y.size) (hab : x[i].toNat = y[j].toNat) (c0 : Int) (hhas : has (nearMap W.near) (pairKey .u8 x[i].toNat y[j].toNat) (.int .i64 c0)) (hl : i + 1 < x.size) (hr : j + 1 < y.size) :
    Calls Try.prog 31 #[.pointer (some ⟨g, 0, none⟩), .int .i64 i, .int .i64 j] w fun e w' => e = .returned (.agg (stepArr (W.steps x.data.toList y.data.toList i j))) ∧ Below w.heap.size w w' := by
  have hg := hE.blk.lt
  have hm := hE.map.lt
  have hmO : m < w.heap.size := hm
  have HS := hide (StRel.start hE)
  rw [initArr0] at HS
  clear hE
  have HW := hide hW
  clear hW
  go_enter Try.func31, Try.ntmps31
  go_wp2
  go_loopw [15] (fun q wr => ∃ k : Nat, k ≤ 6 ∧ q = .int .i64 k ∧ StRel wr w g m W A n c x y (initL k)) (fun q _ => 6 - (intOf q).toNat)
  case atStart => exact ⟨0, by omega, rfl, HS.out⟩
  case round =>
    obtain ⟨k, hk, rfl, hrel⟩ := hrel
    by_cases hlt : k < 6
    · have d0 : wr.cell? ⟨w.heap.size + 1, k * 3, none⟩ = some (.int .i64 0) := (hrel.out.cell _).trans (initL_cell k hlt)
      have d1 : wr.frozen? ⟨w.heap.size + 1, k * 3, none⟩ = false := hrel.out.frozen _
      have Hn := hide (hrel.next hlt hg hm)
      clear hrel
      go_wp2
      go_roundw
      case rel => exact ⟨k + 1, by omega, by go_num, Hn.out⟩
      case measure => simp [intOf]; omega
    · obtain rfl : k = 6 := by omega
      obtain ⟨e0, e1, e2, e3, e5, e6, e7⟩ := hrel.ed.facts
      clear HS
      have HS := hide hrel
      clear hrel hlt hk
      have hlk : ∀ q, (Instr.lookup 68 (.map (some m)) (.agg #[.int .u8 x[i].toNat, .int .u8 y[j].toNat]) true).run Try.prog (wr.drewN q) = .ok (.tuple #[.int .i64 c0, .bool true]) (wr.drewN q) :=
        fun q => run_lookup_ok_has (HS.out.ed.map.drewN q) law2byte Try.underlying68 (z := .int .i64 0) (by kernel_rfl) (S2byte_of (by omega) (by have := x[i].toNat_lt; omega) (by omega) (by have := y[j].toNat_lt; omega)) hhas
      clear hhas
      have hax : Wt.at_ x.data.toList i = (x[i].toNat : Int) := at_byte x hij
      have hby : Wt.at_ y.data.toList j = (y[j].toNat : Int) := at_byte y hjj
      have HF : Hid (W.steps x.data.toList y.data.toList i j = [Wt.no, (0, 1, 1), Wt.no, (W.ins, 0, 1), (W.del, 1, 0), Wt.no]) := by
        show _ = _
        have hs : Wt.swap W x.data.toList y.data.toList i j = Wt.no := by simp [Wt.swap, hax, hby, hl, hr, hab]
        simp [Wt.steps, Wt.same, Wt.change, Wt.insert, Wt.delete, hs, hij, hjj, hax, hby, hab]
      clear hax hby
      have hb0 : ((x[i].toNat : Int) == (y[j].toNat : Int)) = true := by simp [hab]
      have hb1 : ((x[i].toNat : Int) != (y[j].toNat : Int)) = false := by simp [hab]
      clear hab
      go_wp2
      go_quiet (fail)
      go_wp2
      go_quiet (fail)
      go_wp2_with (first
        | ((with_reducible show wpList _ _ _ (Oper.mk _ (Op.store 52 (.tmp 69) (.tmp 68)) _ _ _ _ :: _) _ _); refine wpList_store_part rfl 52 (.tmp 69) (.tmp 68) rfl (w.heap.size + 1) (3 * 1) _ rfl rfl 53 _ HS.out.out (by kernel_rfl) (fit3 rfl (by omega)) (three_one _ _ _) ?_; intro w2 ho2 hb2; have HT := hide (StRel.put (l := (initL 6)) (q := 1) (by first | exact HS.out | exact HS.out.drewN _) rfl (by omega) ho2 hb2 hg hm); clear HS ho2 hb2 e0 e1 e2 e3 e5 e6 e7; have HS := HT; clear HT; obtain ⟨e0, e1, e2, e3, e5, e6, e7⟩ := HS.out.ed.facts)
        | ((with_reducible show wpList _ _ _ (Oper.mk _ (Op.store 52 (.tmp 129) (.tmp 128)) _ _ _ _ :: _) _ _); refine wpList_store_part rfl 52 (.tmp 129) (.tmp 128) rfl (w.heap.size + 1) (3 * 3) _ rfl rfl 53 _ HS.out.out (by kernel_rfl) (fit3 rfl (by omega)) (three_one _ _ _) ?_; intro w2 ho2 hb2; have HT := hide (StRel.put (l := ((initL 6).set 1 (0, 1, 1))) (q := 3) (by first | exact HS.out | exact HS.out.drewN _) rfl (by omega) ho2 hb2 hg hm); clear HS ho2 hb2 e0 e1 e2 e3 e5 e6 e7; have HS := HT; clear HT; obtain ⟨e0, e1, e2, e3, e5, e6, e7⟩ := HS.out.ed.facts)
        | ((with_reducible show wpList _ _ _ (Oper.mk _ (Op.store 52 (.tmp 138) (.tmp 137)) _ _ _ _ :: _) _ _); refine wpList_store_part rfl 52 (.tmp 138) (.tmp 137) rfl (w.heap.size + 1) (3 * 4) _ rfl rfl 53 _ HS.out.out (by kernel_rfl) (fit3 rfl (by omega)) (three_one _ _ _) ?_; intro w2 ho2 hb2; have HT := hide (StRel.put (l := (((initL 6).set 1 (0, 1, 1)).set 3 (W.ins, 0, 1))) (q := 4) (by first | exact HS.out | exact HS.out.drewN _) rfl (by omega) ho2 hb2 hg hm); clear HS ho2 hb2 e0 e1 e2 e3 e5 e6 e7; have HS := HT; clear HT; obtain ⟨e0, e1, e2, e3, e5, e6, e7⟩ := HS.out.ed.facts)
        | ((with_reducible show wpList _ _ _ (Oper.mk _ (Op.load 53 (.tmp 7)) _ _ _ _ :: _) _ _); refine wpList_load_all rfl 53 (.tmp 7) rfl (w.heap.size + 1) rfl 53 _ _ HS.out.out Try.underlying53 rfl (by kernel_rfl) ?_)
        | ((with_reducible show wpList _ _ _ (Oper.mk _ (Op.store 53 (.tmp 6) (.tmp 139)) _ _ _ _ :: _) _ _); refine wpList_store_part rfl 53 (.tmp 6) (.tmp 139) rfl w.heap.size 0 _ rfl rfl 53 _ HS.out.res (by kernel_rfl) (fit18 rfl) (stepArr_one _) ?_; intro w2 ho2 hb2; have HZ := hide (StRel.fin (l := ((((initL 6).set 1 (0, 1, 1)).set 3 (W.ins, 0, 1)).set 4 (W.del, 1, 0))) (by first | exact HS.out | exact HS.out.drewN _) rfl ho2 hb2); clear ho2 hb2))
      refine bodyPost_ret (results_cell_blk rfl _ _ w.heap.size 53 _ _ rfl HZ.out.1 Try.underlying53 rfl (by kernel_rfl)) rfl ⟨?_, HZ.out.2⟩
      rw [HF.out]
      rfl

end Go.Proofs.Ytnpdhbagfkilkaa

/- Walks: the editor's steps, where both texts go on (bytes that differ, not near). -/
set_option linter.unusedVariables false
set_option linter.unusedSimpArgs false
namespace Go.Proofs.Ytnpdhbagfkilkaa
open Go.RowKit

set_option maxHeartbeats 1000000 in
theorem stepsEno1 (W : Wt) (hW : W.valid = true) (x y : ByteArray) (A : Option Addr) (n c g m i j : Nat) (w : World) (hE : Ed w g m W A n c x y) (hx : x.size ≤ 120) (hy : y.size ≤ 120) (hi : i ≤ x.size) (hj : j ≤ y.size) (hij : i < x.size) (hjj : j < y.size) (hab : x[i].toNat ≠ y[j].toNat) (hlack : lacks (nearMap W.near) (pairKey .u8 x[i].toNat y[j].toNat)) (hlook : Wt.look W.near x[i].toNat y[j].toNat = none) (hl : ¬ i + 1 < x.size) :
    Calls Try.prog 31 #[.pointer (some ⟨g, 0, none⟩), .int .i64 i, .int .i64 j] w fun e w' => e = .returned (.agg (stepArr (W.steps x.data.toList y.data.toList i j))) ∧ Below w.heap.size w w' := by
  have hg := hE.blk.lt
  have hm := hE.map.lt
  have hmO : m < w.heap.size := hm
  have HS := hide (StRel.start hE)
  rw [initArr0] at HS
  clear hE
  have HW := hide hW
  clear hW
  go_enter Try.func31, Try.ntmps31
  go_wp2
  go_loopw [15] (fun q wr => ∃ k : Nat, k ≤ 6 ∧ q = .int .i64 k ∧ StRel wr w g m W A n c x y (initL k)) (fun q _ => 6 - (intOf q).toNat)
  case atStart => exact ⟨0, by omega, rfl, HS.out⟩
  case round =>
    obtain ⟨k, hk, rfl, hrel⟩ := hrel
    by_cases hlt : k < 6
    · have d0 : wr.cell? ⟨w.heap.size + 1, k * 3, none⟩ = some (.int .i64 0) := (hrel.out.cell _).trans (initL_cell k hlt)
      have d1 : wr.frozen? ⟨w.heap.size + 1, k * 3, none⟩ = false := hrel.out.frozen _
      have Hn := hide (hrel.next hlt hg hm)
      clear hrel
      go_wp2
      go_roundw
      case rel => exact ⟨k + 1, by omega, by go_num, Hn.out⟩
      case measure => simp [intOf]; omega
    · obtain rfl : k = 6 := by omega
      obtain ⟨e0, e1, e2, e3, e5, e6, e7⟩ := hrel.ed.facts
      clear HS
      have HS := hide hrel
      clear hrel hlt hk
      have hlk : ∀ q, (Instr.lookup 68 (.map (some m)) (.agg #[.int .u8 x[i].toNat, .int .u8 y[j].toNat]) true).run Try.prog (wr.drewN q) = .ok (.tuple #[.int .i64 0, .bool false]) (wr.drewN q) :=
        fun q => run_lookup_ok_lacks (HS.out.ed.map.drewN q) law2byte Try.underlying68 (z := .int .i64 0) (by kernel_rfl) (S2byte_of (by omega) (by have := x[i].toNat_lt; omega) (by omega) (by have := y[j].toNat_lt; omega)) hlack
      clear hlack
      have hax : Wt.at_ x.data.toList i = (x[i].toNat : Int) := at_byte x hij
      have hby : Wt.at_ y.data.toList j = (y[j].toNat : Int) := at_byte y hjj
      have HF : Hid (W.steps x.data.toList y.data.toList i j = [Wt.no, Wt.no, (W.chg, 1, 1), (W.ins, 0, 1), (W.del, 1, 0), Wt.no]) := by
        show _ = _
        have hs : Wt.swap W x.data.toList y.data.toList i j = Wt.no := by simp [Wt.swap, hax, hby, hl, (show ¬ ((x[i].toNat : Int) = (y[j].toNat : Int)) by omega)]
        simp [Wt.steps, Wt.same, Wt.change, Wt.insert, Wt.delete, hs, hij, hjj, hax, hby, (show ¬ ((x[i].toNat : Int) = (y[j].toNat : Int)) by omega), hlook]
      clear hax hby hlook
      have hb0 : ((x[i].toNat : Int) == (y[j].toNat : Int)) = false := by simp; omega
      have hb1 : ((x[i].toNat : Int) != (y[j].toNat : Int)) = true := by simp; omega
      clear hab
      go_wp2
      go_quiet (fail)
      go_wp2
      go_quiet (fail)
      go_wp2_with (first
        | ((with_reducible show wpList _ _ _ (Oper.mk _ (Op.store 52 (.tmp 80) (.tmp 79)) _ _ _ _ :: _) _ _); refine wpList_store_part rfl 52 (.tmp 80) (.tmp 79) rfl (w.heap.size + 1) (3 * 2) _ rfl rfl 53 _ HS.out.out (by kernel_rfl) (fit3 rfl (by omega)) (three_one _ _ _) ?_; intro w2 ho2 hb2; have HT := hide (StRel.put (l := (initL 6)) (q := 2) (by first | exact HS.out | exact HS.out.drewN _) rfl (by omega) ho2 hb2 hg hm); clear HS ho2 hb2 e0 e1 e2 e3 e5 e6 e7; have HS := HT; clear HT; obtain ⟨e0, e1, e2, e3, e5, e6, e7⟩ := HS.out.ed.facts)
        | ((with_reducible show wpList _ _ _ (Oper.mk _ (Op.store 52 (.tmp 129) (.tmp 128)) _ _ _ _ :: _) _ _); refine wpList_store_part rfl 52 (.tmp 129) (.tmp 128) rfl (w.heap.size + 1) (3 * 3) _ rfl rfl 53 _ HS.out.out (by kernel_rfl) (fit3 rfl (by omega)) (three_one _ _ _) ?_; intro w2 ho2 hb2; have HT := hide (StRel.put (l := ((initL 6).set 2 (W.chg, 1, 1))) (q := 3) (by first | exact HS.out | exact HS.out.drewN _) rfl (by omega) ho2 hb2 hg hm); clear HS ho2 hb2 e0 e1 e2 e3 e5 e6 e7; have HS := HT; clear HT; obtain ⟨e0, e1, e2, e3, e5, e6, e7⟩ := HS.out.ed.facts)
        | ((with_reducible show wpList _ _ _ (Oper.mk _ (Op.store 52 (.tmp 138) (.tmp 137)) _ _ _ _ :: _) _ _); refine wpList_store_part rfl 52 (.tmp 138) (.tmp 137) rfl (w.heap.size + 1) (3 * 4) _ rfl rfl 53 _ HS.out.out (by kernel_rfl) (fit3 rfl (by omega)) (three_one _ _ _) ?_; intro w2 ho2 hb2; have HT := hide (StRel.put (l := (((initL 6).set 2 (W.chg, 1, 1)).set 3 (W.ins, 0, 1))) (q := 4) (by first | exact HS.out | exact HS.out.drewN _) rfl (by omega) ho2 hb2 hg hm); clear HS ho2 hb2 e0 e1 e2 e3 e5 e6 e7; have HS := HT; clear HT; obtain ⟨e0, e1, e2, e3, e5, e6, e7⟩ := HS.out.ed.facts)
        | ((with_reducible show wpList _ _ _ (Oper.mk _ (Op.load 53 (.tmp 7)) _ _ _ _ :: _) _ _); refine wpList_load_all rfl 53 (.tmp 7) rfl (w.heap.size + 1) rfl 53 _ _ HS.out.out Try.underlying53 rfl (by kernel_rfl) ?_)
        | ((with_reducible show wpList _ _ _ (Oper.mk _ (Op.store 53 (.tmp 6) (.tmp 139)) _ _ _ _ :: _) _ _); refine wpList_store_part rfl 53 (.tmp 6) (.tmp 139) rfl w.heap.size 0 _ rfl rfl 53 _ HS.out.res (by kernel_rfl) (fit18 rfl) (stepArr_one _) ?_; intro w2 ho2 hb2; have HZ := hide (StRel.fin (l := ((((initL 6).set 2 (W.chg, 1, 1)).set 3 (W.ins, 0, 1)).set 4 (W.del, 1, 0))) (by first | exact HS.out | exact HS.out.drewN _) rfl ho2 hb2); clear ho2 hb2))
      refine bodyPost_ret (results_cell_blk rfl _ _ w.heap.size 53 _ _ rfl HZ.out.1 Try.underlying53 rfl (by kernel_rfl)) rfl ⟨?_, HZ.out.2⟩
      rw [HF.out]
      rfl

set_option maxHeartbeats 1000000 in
theorem stepsEno2 (W : Wt) (hW : W.valid = true) (x y : ByteArray) (A : Option Addr) (n c g m i j : Nat) (w : World) (hE : Ed w g m W A n c x y) (hx : x.size ≤ 120) (hy : y.size ≤ 120) (hi : i ≤ x.size) (hj : j ≤ y.size) (hij : i < x.size) (hjj : j < y.size) (hab : x[i].toNat ≠ y[j].toNat) (hlack : lacks (nearMap W.near) (pairKey .u8 x[i].toNat y[j].toNat)) (hlook : Wt.look W.near x[i].toNat y[j].toNat = none) (hl : i + 1 < x.size) (hr : ¬ j + 1 < y.size) :
    Calls Try.prog 31 #[.pointer (some ⟨g, 0, none⟩), .int .i64 i, .int .i64 j] w fun e w' => e = .returned (.agg (stepArr (W.steps x.data.toList y.data.toList i j))) ∧ Below w.heap.size w w' := by
  have hg := hE.blk.lt
  have hm := hE.map.lt
  have hmO : m < w.heap.size := hm
  have HS := hide (StRel.start hE)
  rw [initArr0] at HS
  clear hE
  have HW := hide hW
  clear hW
  go_enter Try.func31, Try.ntmps31
  go_wp2
  go_loopw [15] (fun q wr => ∃ k : Nat, k ≤ 6 ∧ q = .int .i64 k ∧ StRel wr w g m W A n c x y (initL k)) (fun q _ => 6 - (intOf q).toNat)
  case atStart => exact ⟨0, by omega, rfl, HS.out⟩
  case round =>
    obtain ⟨k, hk, rfl, hrel⟩ := hrel
    by_cases hlt : k < 6
    · have d0 : wr.cell? ⟨w.heap.size + 1, k * 3, none⟩ = some (.int .i64 0) := (hrel.out.cell _).trans (initL_cell k hlt)
      have d1 : wr.frozen? ⟨w.heap.size + 1, k * 3, none⟩ = false := hrel.out.frozen _
      have Hn := hide (hrel.next hlt hg hm)
      clear hrel
      go_wp2
      go_roundw
      case rel => exact ⟨k + 1, by omega, by go_num, Hn.out⟩
      case measure => simp [intOf]; omega
    · obtain rfl : k = 6 := by omega
      obtain ⟨e0, e1, e2, e3, e5, e6, e7⟩ := hrel.ed.facts
      clear HS
      have HS := hide hrel
      clear hrel hlt hk
      have hlk : ∀ q, (Instr.lookup 68 (.map (some m)) (.agg #[.int .u8 x[i].toNat, .int .u8 y[j].toNat]) true).run Try.prog (wr.drewN q) = .ok (.tuple #[.int .i64 0, .bool false]) (wr.drewN q) :=
        fun q => run_lookup_ok_lacks (HS.out.ed.map.drewN q) law2byte Try.underlying68 (z := .int .i64 0) (by kernel_rfl) (S2byte_of (by omega) (by have := x[i].toNat_lt; omega) (by omega) (by have := y[j].toNat_lt; omega)) hlack
      clear hlack
      have hax : Wt.at_ x.data.toList i = (x[i].toNat : Int) := at_byte x hij
      have hby : Wt.at_ y.data.toList j = (y[j].toNat : Int) := at_byte y hjj
      have HF : Hid (W.steps x.data.toList y.data.toList i j = [Wt.no, Wt.no, (W.chg, 1, 1), (W.ins, 0, 1), (W.del, 1, 0), Wt.no]) := by
        show _ = _
        have hs : Wt.swap W x.data.toList y.data.toList i j = Wt.no := by simp [Wt.swap, hax, hby, hl, hr, (show ¬ ((x[i].toNat : Int) = (y[j].toNat : Int)) by omega)]
        simp [Wt.steps, Wt.same, Wt.change, Wt.insert, Wt.delete, hs, hij, hjj, hax, hby, (show ¬ ((x[i].toNat : Int) = (y[j].toNat : Int)) by omega), hlook]
      clear hax hby hlook
      have hb0 : ((x[i].toNat : Int) == (y[j].toNat : Int)) = false := by simp; omega
      have hb1 : ((x[i].toNat : Int) != (y[j].toNat : Int)) = true := by simp; omega
      clear hab
      go_wp2
      go_quiet (fail)
      go_wp2
      go_quiet (fail)
      go_wp2_with (first
        | ((with_reducible show wpList _ _ _ (Oper.mk _ (Op.store 52 (.tmp 80) (.tmp 79)) _ _ _ _ :: _) _ _); refine wpList_store_part rfl 52 (.tmp 80) (.tmp 79) rfl (w.heap.size + 1) (3 * 2) _ rfl rfl 53 _ HS.out.out (by kernel_rfl) (fit3 rfl (by omega)) (three_one _ _ _) ?_; intro w2 ho2 hb2; have HT := hide (StRel.put (l := (initL 6)) (q := 2) (by first | exact HS.out | exact HS.out.drewN _) rfl (by omega) ho2 hb2 hg hm); clear HS ho2 hb2 e0 e1 e2 e3 e5 e6 e7; have HS := HT; clear HT; obtain ⟨e0, e1, e2, e3, e5, e6, e7⟩ := HS.out.ed.facts)
        | ((with_reducible show wpList _ _ _ (Oper.mk _ (Op.store 52 (.tmp 129) (.tmp 128)) _ _ _ _ :: _) _ _); refine wpList_store_part rfl 52 (.tmp 129) (.tmp 128) rfl (w.heap.size + 1) (3 * 3) _ rfl rfl 53 _ HS.out.out (by kernel_rfl) (fit3 rfl (by omega)) (three_one _ _ _) ?_; intro w2 ho2 hb2; have HT := hide (StRel.put (l := ((initL 6).set 2 (W.chg, 1, 1))) (q := 3) (by first | exact HS.out | exact HS.out.drewN _) rfl (by omega) ho2 hb2 hg hm); clear HS ho2 hb2 e0 e1 e2 e3 e5 e6 e7; have HS := HT; clear HT; obtain ⟨e0, e1, e2, e3, e5, e6, e7⟩ := HS.out.ed.facts)
        | ((with_reducible show wpList _ _ _ (Oper.mk _ (Op.store 52 (.tmp 138) (.tmp 137)) _ _ _ _ :: _) _ _); refine wpList_store_part rfl 52 (.tmp 138) (.tmp 137) rfl (w.heap.size + 1) (3 * 4) _ rfl rfl 53 _ HS.out.out (by kernel_rfl) (fit3 rfl (by omega)) (three_one _ _ _) ?_; intro w2 ho2 hb2; have HT := hide (StRel.put (l := (((initL 6).set 2 (W.chg, 1, 1)).set 3 (W.ins, 0, 1))) (q := 4) (by first | exact HS.out | exact HS.out.drewN _) rfl (by omega) ho2 hb2 hg hm); clear HS ho2 hb2 e0 e1 e2 e3 e5 e6 e7; have HS := HT; clear HT; obtain ⟨e0, e1, e2, e3, e5, e6, e7⟩ := HS.out.ed.facts)
        | ((with_reducible show wpList _ _ _ (Oper.mk _ (Op.load 53 (.tmp 7)) _ _ _ _ :: _) _ _); refine wpList_load_all rfl 53 (.tmp 7) rfl (w.heap.size + 1) rfl 53 _ _ HS.out.out Try.underlying53 rfl (by kernel_rfl) ?_)
        | ((with_reducible show wpList _ _ _ (Oper.mk _ (Op.store 53 (.tmp 6) (.tmp 139)) _ _ _ _ :: _) _ _); refine wpList_store_part rfl 53 (.tmp 6) (.tmp 139) rfl w.heap.size 0 _ rfl rfl 53 _ HS.out.res (by kernel_rfl) (fit18 rfl) (stepArr_one _) ?_; intro w2 ho2 hb2; have HZ := hide (StRel.fin (l := ((((initL 6).set 2 (W.chg, 1, 1)).set 3 (W.ins, 0, 1)).set 4 (W.del, 1, 0))) (by first | exact HS.out | exact HS.out.drewN _) rfl ho2 hb2); clear ho2 hb2))
      refine bodyPost_ret (results_cell_blk rfl _ _ w.heap.size 53 _ _ rfl HZ.out.1 Try.underlying53 rfl (by kernel_rfl)) rfl ⟨?_, HZ.out.2⟩
      rw [HF.out]
      rfl

set_option maxHeartbeats 1000000 in
theorem stepsEno3 (W : Wt) (hW : W.valid = true) (x y : ByteArray) (A : Option Addr) (n c g m i j : Nat) (w : World) (hE : Ed w g m W A n c x y) (hx : x.size ≤ 120) (hy : y.size ≤ 120) (hi : i ≤ x.size) (hj : j ≤ y.size) (hij : i < x.size) (hjj : j < y.size) (hab : x[i].toNat ≠ y[j].toNat) (hlack : lacks (nearMap W.near) (pairKey .u8 x[i].toNat y[j].toNat)) (hlook : Wt.look W.near x[i].toNat y[j].toNat = none) (hl : i + 1 < x.size) (hr : j + 1 < y.size) (hc : x[i].toNat ≠ y[j + 1].toNat) :
    Calls Try.prog 31 #[.pointer (some ⟨g, 0, none⟩), .int .i64 i, .int .i64 j] w fun e w' => e = .returned (.agg (stepArr (W.steps x.data.toList y.data.toList i j))) ∧ Below w.heap.size w w' := by
  have hg := hE.blk.lt
  have hm := hE.map.lt
  have hmO : m < w.heap.size := hm
  have HS := hide (StRel.start hE)
  rw [initArr0] at HS
  clear hE
  have HW := hide hW
  clear hW
  go_enter Try.func31, Try.ntmps31
  go_wp2
  go_loopw [15] (fun q wr => ∃ k : Nat, k ≤ 6 ∧ q = .int .i64 k ∧ StRel wr w g m W A n c x y (initL k)) (fun q _ => 6 - (intOf q).toNat)
  case atStart => exact ⟨0, by omega, rfl, HS.out⟩
  case round =>
    obtain ⟨k, hk, rfl, hrel⟩ := hrel
    by_cases hlt : k < 6
    · have d0 : wr.cell? ⟨w.heap.size + 1, k * 3, none⟩ = some (.int .i64 0) := (hrel.out.cell _).trans (initL_cell k hlt)
      have d1 : wr.frozen? ⟨w.heap.size + 1, k * 3, none⟩ = false := hrel.out.frozen _
      have Hn := hide (hrel.next hlt hg hm)
      clear hrel
      go_wp2
      go_roundw
      case rel => exact ⟨k + 1, by omega, by go_num, Hn.out⟩
      case measure => simp [intOf]; omega
    · obtain rfl : k = 6 := by omega
      obtain ⟨e0, e1, e2, e3, e5, e6, e7⟩ := hrel.ed.facts
      clear HS
      have HS := hide hrel
      clear hrel hlt hk
      have hlk : ∀ q, (Instr.lookup 68 (.map (some m)) (.agg #[.int .u8 x[i].toNat, .int .u8 y[j].toNat]) true).run Try.prog (wr.drewN q) = .ok (.tuple #[.int .i64 0, .bool false]) (wr.drewN q) :=
        fun q => run_lookup_ok_lacks (HS.out.ed.map.drewN q) law2byte Try.underlying68 (z := .int .i64 0) (by kernel_rfl) (S2byte_of (by omega) (by have := x[i].toNat_lt; omega) (by omega) (by have := y[j].toNat_lt; omega)) hlack
      clear hlack
      have hax : Wt.at_ x.data.toList i = (x[i].toNat : Int) := at_byte x hij
      have hby : Wt.at_ y.data.toList j = (y[j].toNat : Int) := at_byte y hjj
      have hx1 : Wt.at_ x.data.toList (i + 1) = (x[i + 1].toNat : Int) := at_byte x hl
      have hy1 : Wt.at_ y.data.toList (j + 1) = (y[j + 1].toNat : Int) := at_byte y hr
      have HF : Hid (W.steps x.data.toList y.data.toList i j = [Wt.no, Wt.no, (W.chg, 1, 1), (W.ins, 0, 1), (W.del, 1, 0), Wt.no]) := by
        show _ = _
        have hs : Wt.swap W x.data.toList y.data.toList i j = Wt.no := by simp [Wt.swap, hax, hby, hl, hr, hx1, hy1, (show ¬ ((x[i].toNat : Int) = (y[j + 1].toNat : Int)) by omega)]
        simp [Wt.steps, Wt.same, Wt.change, Wt.insert, Wt.delete, hs, hij, hjj, hax, hby, (show ¬ ((x[i].toNat : Int) = (y[j].toNat : Int)) by omega), hlook]
      clear hax hby hlook hx1 hy1
      have hb0 : ((x[i].toNat : Int) == (y[j].toNat : Int)) = false := by simp; omega
      have hb1 : ((x[i].toNat : Int) != (y[j].toNat : Int)) = true := by simp; omega
      clear hab
      have hc0 : ((x[i].toNat : Int) == (y[j + 1].toNat : Int)) = false := by simp; omega
      clear hc
      go_wp2
      go_quiet (fail)
      go_wp2
      go_quiet (fail)
      go_wp2_with (first
        | ((with_reducible show wpList _ _ _ (Oper.mk _ (Op.store 52 (.tmp 80) (.tmp 79)) _ _ _ _ :: _) _ _); refine wpList_store_part rfl 52 (.tmp 80) (.tmp 79) rfl (w.heap.size + 1) (3 * 2) _ rfl rfl 53 _ HS.out.out (by kernel_rfl) (fit3 rfl (by omega)) (three_one _ _ _) ?_; intro w2 ho2 hb2; have HT := hide (StRel.put (l := (initL 6)) (q := 2) (by first | exact HS.out | exact HS.out.drewN _) rfl (by omega) ho2 hb2 hg hm); clear HS ho2 hb2 e0 e1 e2 e3 e5 e6 e7; have HS := HT; clear HT; obtain ⟨e0, e1, e2, e3, e5, e6, e7⟩ := HS.out.ed.facts)
        | ((with_reducible show wpList _ _ _ (Oper.mk _ (Op.store 52 (.tmp 129) (.tmp 128)) _ _ _ _ :: _) _ _); refine wpList_store_part rfl 52 (.tmp 129) (.tmp 128) rfl (w.heap.size + 1) (3 * 3) _ rfl rfl 53 _ HS.out.out (by kernel_rfl) (fit3 rfl (by omega)) (three_one _ _ _) ?_; intro w2 ho2 hb2; have HT := hide (StRel.put (l := ((initL 6).set 2 (W.chg, 1, 1))) (q := 3) (by first | exact HS.out | exact HS.out.drewN _) rfl (by omega) ho2 hb2 hg hm); clear HS ho2 hb2 e0 e1 e2 e3 e5 e6 e7; have HS := HT; clear HT; obtain ⟨e0, e1, e2, e3, e5, e6, e7⟩ := HS.out.ed.facts)
        | ((with_reducible show wpList _ _ _ (Oper.mk _ (Op.store 52 (.tmp 138) (.tmp 137)) _ _ _ _ :: _) _ _); refine wpList_store_part rfl 52 (.tmp 138) (.tmp 137) rfl (w.heap.size + 1) (3 * 4) _ rfl rfl 53 _ HS.out.out (by kernel_rfl) (fit3 rfl (by omega)) (three_one _ _ _) ?_; intro w2 ho2 hb2; have HT := hide (StRel.put (l := (((initL 6).set 2 (W.chg, 1, 1)).set 3 (W.ins, 0, 1))) (q := 4) (by first | exact HS.out | exact HS.out.drewN _) rfl (by omega) ho2 hb2 hg hm); clear HS ho2 hb2 e0 e1 e2 e3 e5 e6 e7; have HS := HT; clear HT; obtain ⟨e0, e1, e2, e3, e5, e6, e7⟩ := HS.out.ed.facts)
        | ((with_reducible show wpList _ _ _ (Oper.mk _ (Op.load 53 (.tmp 7)) _ _ _ _ :: _) _ _); refine wpList_load_all rfl 53 (.tmp 7) rfl (w.heap.size + 1) rfl 53 _ _ HS.out.out Try.underlying53 rfl (by kernel_rfl) ?_)
        | ((with_reducible show wpList _ _ _ (Oper.mk _ (Op.store 53 (.tmp 6) (.tmp 139)) _ _ _ _ :: _) _ _); refine wpList_store_part rfl 53 (.tmp 6) (.tmp 139) rfl w.heap.size 0 _ rfl rfl 53 _ HS.out.res (by kernel_rfl) (fit18 rfl) (stepArr_one _) ?_; intro w2 ho2 hb2; have HZ := hide (StRel.fin (l := ((((initL 6).set 2 (W.chg, 1, 1)).set 3 (W.ins, 0, 1)).set 4 (W.del, 1, 0))) (by first | exact HS.out | exact HS.out.drewN _) rfl ho2 hb2); clear ho2 hb2))
      refine bodyPost_ret (results_cell_blk rfl _ _ w.heap.size 53 _ _ rfl HZ.out.1 Try.underlying53 rfl (by kernel_rfl)) rfl ⟨?_, HZ.out.2⟩
      rw [HF.out]
      rfl

set_option maxHeartbeats 1000000 in
theorem stepsEno4 (W : Wt) (hW : W.valid = true) (x y : ByteArray) (A : Option Addr) (n c g m i j : Nat) (w : World) (hE : Ed w g m W A n c x y) (hx : x.size ≤ 120) (hy : y.size ≤ 120) (hi : i ≤ x.size) (hj : j ≤ y.size) (hij : i < x.size) (hjj : j < y.size) (hab : x[i].toNat ≠ y[j].toNat) (hlack : lacks (nearMap W.near) (pairKey .u8 x[i].toNat y[j].toNat)) (hlook : Wt.look W.near x[i].toNat y[j].toNat = none) (hl : i + 1 < x.size) (hr : j + 1 < y.size) (hc : x[i].toNat = y[j + 1].toNat) (hd : x[i + 1].toNat ≠ y[j].toNat) :
    Calls Try.prog 31 #[.pointer (some ⟨g, 0, none⟩), .int .i64 i, .int .i64 j] w fun e w' => e = .returned (.agg (stepArr (W.steps x.data.toList y.data.toList i j))) ∧ Below w.heap.size w w' := by
  have hg := hE.blk.lt
  have hm := hE.map.lt
  have hmO : m < w.heap.size := hm
  have HS := hide (StRel.start hE)
  rw [initArr0] at HS
  clear hE
  have HW := hide hW
  clear hW
  go_enter Try.func31, Try.ntmps31
  go_wp2
  go_loopw [15] (fun q wr => ∃ k : Nat, k ≤ 6 ∧ q = .int .i64 k ∧ StRel wr w g m W A n c x y (initL k)) (fun q _ => 6 - (intOf q).toNat)
  case atStart => exact ⟨0, by omega, rfl, HS.out⟩
  case round =>
    obtain ⟨k, hk, rfl, hrel⟩ := hrel
    by_cases hlt : k < 6
    · have d0 : wr.cell? ⟨w.heap.size + 1, k * 3, none⟩ = some (.int .i64 0) := (hrel.out.cell _).trans (initL_cell k hlt)
      have d1 : wr.frozen? ⟨w.heap.size + 1, k * 3, none⟩ = false := hrel.out.frozen _
      have Hn := hide (hrel.next hlt hg hm)
      clear hrel
      go_wp2
      go_roundw
      case rel => exact ⟨k + 1, by omega, by go_num, Hn.out⟩
      case measure => simp [intOf]; omega
    · obtain rfl : k = 6 := by omega
      obtain ⟨e0, e1, e2, e3, e5, e6, e7⟩ := hrel.ed.facts
      clear HS
      have HS := hide hrel
      clear hrel hlt hk
      have hlk : ∀ q, (Instr.lookup 68 (.map (some m)) (.agg #[.int .u8 x[i].toNat, .int .u8 y[j].toNat]) true).run Try.prog (wr.drewN q) = .ok (.tuple #[.int .i64 0, .bool false]) (wr.drewN q) :=
        fun q => run_lookup_ok_lacks (HS.out.ed.map.drewN q) law2byte Try.underlying68 (z := .int .i64 0) (by kernel_rfl) (S2byte_of (by omega) (by have := x[i].toNat_lt; omega) (by omega) (by have := y[j].toNat_lt; omega)) hlack
      clear hlack
      have hax : Wt.at_ x.data.toList i = (x[i].toNat : Int) := at_byte x hij
      have hby : Wt.at_ y.data.toList j = (y[j].toNat : Int) := at_byte y hjj
      have hx1 : Wt.at_ x.data.toList (i + 1) = (x[i + 1].toNat : Int) := at_byte x hl
      have hy1 : Wt.at_ y.data.toList (j + 1) = (y[j + 1].toNat : Int) := at_byte y hr
      have HF : Hid (W.steps x.data.toList y.data.toList i j = [Wt.no, Wt.no, (W.chg, 1, 1), (W.ins, 0, 1), (W.del, 1, 0), Wt.no]) := by
        show _ = _
        have hs : Wt.swap W x.data.toList y.data.toList i j = Wt.no := by simp [Wt.swap, hax, hby, hl, hr, hx1, hy1, (show ((x[i].toNat : Int) = (y[j + 1].toNat : Int)) by omega), (show ¬ ((x[i + 1].toNat : Int) = (y[j].toNat : Int)) by omega), (show ¬ ((y[j + 1].toNat : Int) = (y[j].toNat : Int)) by omega)]
        simp [Wt.steps, Wt.same, Wt.change, Wt.insert, Wt.delete, hs, hij, hjj, hax, hby, (show ¬ ((x[i].toNat : Int) = (y[j].toNat : Int)) by omega), hlook]
      clear hax hby hlook hx1 hy1
      have hb0 : ((x[i].toNat : Int) == (y[j].toNat : Int)) = false := by simp; omega
      have hb1 : ((x[i].toNat : Int) != (y[j].toNat : Int)) = true := by simp; omega
      clear hab
      have hc0 : ((x[i].toNat : Int) == (y[j + 1].toNat : Int)) = true := by simp [hc]
      have hd0 : ((x[i + 1].toNat : Int) == (y[j].toNat : Int)) = false := by simp; omega
      clear hc hd
      go_wp2
      go_quiet (fail)
      go_wp2
      go_quiet (fail)
      go_wp2_with (first
        | ((with_reducible show wpList _ _ _ (Oper.mk _ (Op.store 52 (.tmp 80) (.tmp 79)) _ _ _ _ :: _) _ _); refine wpList_store_part rfl 52 (.tmp 80) (.tmp 79) rfl (w.heap.size + 1) (3 * 2) _ rfl rfl 53 _ HS.out.out (by kernel_rfl) (fit3 rfl (by omega)) (three_one _ _ _) ?_; intro w2 ho2 hb2; have HT := hide (StRel.put (l := (initL 6)) (q := 2) (by first | exact HS.out | exact HS.out.drewN _) rfl (by omega) ho2 hb2 hg hm); clear HS ho2 hb2 e0 e1 e2 e3 e5 e6 e7; have HS := HT; clear HT; obtain ⟨e0, e1, e2, e3, e5, e6, e7⟩ := HS.out.ed.facts)
        | ((with_reducible show wpList _ _ _ (Oper.mk _ (Op.store 52 (.tmp 129) (.tmp 128)) _ _ _ _ :: _) _ _); refine wpList_store_part rfl 52 (.tmp 129) (.tmp 128) rfl (w.heap.size + 1) (3 * 3) _ rfl rfl 53 _ HS.out.out (by kernel_rfl) (fit3 rfl (by omega)) (three_one _ _ _) ?_; intro w2 ho2 hb2; have HT := hide (StRel.put (l := ((initL 6).set 2 (W.chg, 1, 1))) (q := 3) (by first | exact HS.out | exact HS.out.drewN _) rfl (by omega) ho2 hb2 hg hm); clear HS ho2 hb2 e0 e1 e2 e3 e5 e6 e7; have HS := HT; clear HT; obtain ⟨e0, e1, e2, e3, e5, e6, e7⟩ := HS.out.ed.facts)
        | ((with_reducible show wpList _ _ _ (Oper.mk _ (Op.store 52 (.tmp 138) (.tmp 137)) _ _ _ _ :: _) _ _); refine wpList_store_part rfl 52 (.tmp 138) (.tmp 137) rfl (w.heap.size + 1) (3 * 4) _ rfl rfl 53 _ HS.out.out (by kernel_rfl) (fit3 rfl (by omega)) (three_one _ _ _) ?_; intro w2 ho2 hb2; have HT := hide (StRel.put (l := (((initL 6).set 2 (W.chg, 1, 1)).set 3 (W.ins, 0, 1))) (q := 4) (by first | exact HS.out | exact HS.out.drewN _) rfl (by omega) ho2 hb2 hg hm); clear HS ho2 hb2 e0 e1 e2 e3 e5 e6 e7; have HS := HT; clear HT; obtain ⟨e0, e1, e2, e3, e5, e6, e7⟩ := HS.out.ed.facts)
        | ((with_reducible show wpList _ _ _ (Oper.mk _ (Op.load 53 (.tmp 7)) _ _ _ _ :: _) _ _); refine wpList_load_all rfl 53 (.tmp 7) rfl (w.heap.size + 1) rfl 53 _ _ HS.out.out Try.underlying53 rfl (by kernel_rfl) ?_)
        | ((with_reducible show wpList _ _ _ (Oper.mk _ (Op.store 53 (.tmp 6) (.tmp 139)) _ _ _ _ :: _) _ _); refine wpList_store_part rfl 53 (.tmp 6) (.tmp 139) rfl w.heap.size 0 _ rfl rfl 53 _ HS.out.res (by kernel_rfl) (fit18 rfl) (stepArr_one _) ?_; intro w2 ho2 hb2; have HZ := hide (StRel.fin (l := ((((initL 6).set 2 (W.chg, 1, 1)).set 3 (W.ins, 0, 1)).set 4 (W.del, 1, 0))) (by first | exact HS.out | exact HS.out.drewN _) rfl ho2 hb2); clear ho2 hb2))
      refine bodyPost_ret (results_cell_blk rfl _ _ w.heap.size 53 _ _ rfl HZ.out.1 Try.underlying53 rfl (by kernel_rfl)) rfl ⟨?_, HZ.out.2⟩
      rw [HF.out]
      rfl

set_option maxHeartbeats 1000000 in
theorem stepsEno5 (W : Wt) (hW : W.valid = true) (x y : ByteArray) (A : Option Addr) (n c g m i j : Nat) (w : World) (hE : Ed w g m W A n c x y) (hx : x.size ≤ 120) (hy : y.size ≤ 120) (hi : i ≤ x.size) (hj : j ≤ y.size) (hij : i < x.size) (hjj : j < y.size) (hab : x[i].toNat ≠ y[j].toNat) (hlack : lacks (nearMap W.near) (pairKey .u8 x[i].toNat y[j].toNat)) (hlook : Wt.look W.near x[i].toNat y[j].toNat = none) (hl : i + 1 < x.size) (hr : j + 1 < y.size) (hc : x[i].toNat = y[j + 1].toNat) (hd : x[i + 1].toNat = y[j].toNat) :
    Calls Try.prog 31 #[.pointer (some ⟨g, 0, none⟩), .int .i64 i, .int .i64 j] w fun e w' => e = .returned (.agg (stepArr (W.steps x.data.toList y.data.toList i j))) ∧ Below w.heap.size w w' := by
  have hg := hE.blk.lt
  have hm := hE.map.lt
  have hmO : m < w.heap.size := hm
  have HS := hide (StRel.start hE)
  rw [initArr0] at HS
  clear hE
  have HW := hide hW
  clear hW
  go_enter Try.func31, Try.ntmps31
  go_wp2
  go_loopw [15] (fun q wr => ∃ k : Nat, k ≤ 6 ∧ q = .int .i64 k ∧ StRel wr w g m W A n c x y (initL k)) (fun q _ => 6 - (intOf q).toNat)
  case atStart => exact ⟨0, by omega, rfl, HS.out⟩
  case round =>
    obtain ⟨k, hk, rfl, hrel⟩ := hrel
    by_cases hlt : k < 6
    · have d0 : wr.cell? ⟨w.heap.size + 1, k * 3, none⟩ = some (.int .i64 0) := (hrel.out.cell _).trans (initL_cell k hlt)
      have d1 : wr.frozen? ⟨w.heap.size + 1, k * 3, none⟩ = false := hrel.out.frozen _
      have Hn := hide (hrel.next hlt hg hm)
      clear hrel
      go_wp2
      go_roundw
      case rel => exact ⟨k + 1, by omega, by go_num, Hn.out⟩
      case measure => simp [intOf]; omega
    · obtain rfl : k = 6 := by omega
      obtain ⟨e0, e1, e2, e3, e5, e6, e7⟩ := hrel.ed.facts
      clear HS
      have HS := hide hrel
      clear hrel hlt hk
      have hlk : ∀ q, (Instr.lookup 68 (.map (some m)) (.agg #[.int .u8 x[i].toNat, .int .u8 y[j].toNat]) true).run Try.prog (wr.drewN q) = .ok (.tuple #[.int .i64 0, .bool false]) (wr.drewN q) :=
        fun q => run_lookup_ok_lacks (HS.out.ed.map.drewN q) law2byte Try.underlying68 (z := .int .i64 0) (by kernel_rfl) (S2byte_of (by omega) (by have := x[i].toNat_lt; omega) (by omega) (by have := y[j].toNat_lt; omega)) hlack
      clear hlack
      have hax : Wt.at_ x.data.toList i = (x[i].toNat : Int) := at_byte x hij
      have hby : Wt.at_ y.data.toList j = (y[j].toNat : Int) := at_byte y hjj
      have hx1 : Wt.at_ x.data.toList (i + 1) = (x[i + 1].toNat : Int) := at_byte x hl
      have hy1 : Wt.at_ y.data.toList (j + 1) = (y[j + 1].toNat : Int) := at_byte y hr
      have HF : Hid (W.steps x.data.toList y.data.toList i j = [Wt.no, Wt.no, (W.chg, 1, 1), (W.ins, 0, 1), (W.del, 1, 0), (W.swp, 2, 2)]) := by
        show _ = _
        have hs : Wt.swap W x.data.toList y.data.toList i j = (W.swp, 2, 2) := by simp [Wt.swap, hax, hby, hl, hr, hx1, hy1, (show ((x[i].toNat : Int) = (y[j + 1].toNat : Int)) by omega), (show ((x[i + 1].toNat : Int) = (y[j].toNat : Int)) by omega), (show ¬ ((y[j + 1].toNat : Int) = (y[j].toNat : Int)) by omega)]
        simp [Wt.steps, Wt.same, Wt.change, Wt.insert, Wt.delete, hs, hij, hjj, hax, hby, (show ¬ ((x[i].toNat : Int) = (y[j].toNat : Int)) by omega), hlook]
      clear hax hby hlook hx1 hy1
      have hb0 : ((x[i].toNat : Int) == (y[j].toNat : Int)) = false := by simp; omega
      have hb1 : ((x[i].toNat : Int) != (y[j].toNat : Int)) = true := by simp; omega
      clear hab
      have hc0 : ((x[i].toNat : Int) == (y[j + 1].toNat : Int)) = true := by simp [hc]
      have hd0 : ((x[i + 1].toNat : Int) == (y[j].toNat : Int)) = true := by simp [hd]
      clear hc hd
      go_wp2
      go_quiet (fail)
      go_wp2
      go_quiet (fail)
      go_wp2_with (first
        | ((with_reducible show wpList _ _ _ (Oper.mk _ (Op.store 52 (.tmp 80) (.tmp 79)) _ _ _ _ :: _) _ _); refine wpList_store_part rfl 52 (.tmp 80) (.tmp 79) rfl (w.heap.size + 1) (3 * 2) _ rfl rfl 53 _ HS.out.out (by kernel_rfl) (fit3 rfl (by omega)) (three_one _ _ _) ?_; intro w2 ho2 hb2; have HT := hide (StRel.put (l := (initL 6)) (q := 2) (by first | exact HS.out | exact HS.out.drewN _) rfl (by omega) ho2 hb2 hg hm); clear HS ho2 hb2 e0 e1 e2 e3 e5 e6 e7; have HS := HT; clear HT; obtain ⟨e0, e1, e2, e3, e5, e6, e7⟩ := HS.out.ed.facts)
        | ((with_reducible show wpList _ _ _ (Oper.mk _ (Op.store 52 (.tmp 120) (.tmp 119)) _ _ _ _ :: _) _ _); refine wpList_store_part rfl 52 (.tmp 120) (.tmp 119) rfl (w.heap.size + 1) (3 * 5) _ rfl rfl 53 _ HS.out.out (by kernel_rfl) (fit3 rfl (by omega)) (three_one _ _ _) ?_; intro w2 ho2 hb2; have HT := hide (StRel.put (l := ((initL 6).set 2 (W.chg, 1, 1))) (q := 5) (by first | exact HS.out | exact HS.out.drewN _) rfl (by omega) ho2 hb2 hg hm); clear HS ho2 hb2 e0 e1 e2 e3 e5 e6 e7; have HS := HT; clear HT; obtain ⟨e0, e1, e2, e3, e5, e6, e7⟩ := HS.out.ed.facts)
        | ((with_reducible show wpList _ _ _ (Oper.mk _ (Op.store 52 (.tmp 129) (.tmp 128)) _ _ _ _ :: _) _ _); refine wpList_store_part rfl 52 (.tmp 129) (.tmp 128) rfl (w.heap.size + 1) (3 * 3) _ rfl rfl 53 _ HS.out.out (by kernel_rfl) (fit3 rfl (by omega)) (three_one _ _ _) ?_; intro w2 ho2 hb2; have HT := hide (StRel.put (l := (((initL 6).set 2 (W.chg, 1, 1)).set 5 (W.swp, 2, 2))) (q := 3) (by first | exact HS.out | exact HS.out.drewN _) rfl (by omega) ho2 hb2 hg hm); clear HS ho2 hb2 e0 e1 e2 e3 e5 e6 e7; have HS := HT; clear HT; obtain ⟨e0, e1, e2, e3, e5, e6, e7⟩ := HS.out.ed.facts)
        | ((with_reducible show wpList _ _ _ (Oper.mk _ (Op.store 52 (.tmp 138) (.tmp 137)) _ _ _ _ :: _) _ _); refine wpList_store_part rfl 52 (.tmp 138) (.tmp 137) rfl (w.heap.size + 1) (3 * 4) _ rfl rfl 53 _ HS.out.out (by kernel_rfl) (fit3 rfl (by omega)) (three_one _ _ _) ?_; intro w2 ho2 hb2; have HT := hide (StRel.put (l := ((((initL 6).set 2 (W.chg, 1, 1)).set 5 (W.swp, 2, 2)).set 3 (W.ins, 0, 1))) (q := 4) (by first | exact HS.out | exact HS.out.drewN _) rfl (by omega) ho2 hb2 hg hm); clear HS ho2 hb2 e0 e1 e2 e3 e5 e6 e7; have HS := HT; clear HT; obtain ⟨e0, e1, e2, e3, e5, e6, e7⟩ := HS.out.ed.facts)
        | ((with_reducible show wpList _ _ _ (Oper.mk _ (Op.load 53 (.tmp 7)) _ _ _ _ :: _) _ _); refine wpList_load_all rfl 53 (.tmp 7) rfl (w.heap.size + 1) rfl 53 _ _ HS.out.out Try.underlying53 rfl (by kernel_rfl) ?_)
        | ((with_reducible show wpList _ _ _ (Oper.mk _ (Op.store 53 (.tmp 6) (.tmp 139)) _ _ _ _ :: _) _ _); refine wpList_store_part rfl 53 (.tmp 6) (.tmp 139) rfl w.heap.size 0 _ rfl rfl 53 _ HS.out.res (by kernel_rfl) (fit18 rfl) (stepArr_one _) ?_; intro w2 ho2 hb2; have HZ := hide (StRel.fin (l := (((((initL 6).set 2 (W.chg, 1, 1)).set 5 (W.swp, 2, 2)).set 3 (W.ins, 0, 1)).set 4 (W.del, 1, 0))) (by first | exact HS.out | exact HS.out.drewN _) rfl ho2 hb2); clear ho2 hb2))
      refine bodyPost_ret (results_cell_blk rfl _ _ w.heap.size 53 _ _ rfl HZ.out.1 Try.underlying53 rfl (by kernel_rfl)) rfl ⟨?_, HZ.out.2⟩
      rw [HF.out]
      rfl

end Go.Proofs.Ytnpdhbagfkilkaa

/- Walks: the editor's steps, where both texts go on (bytes that differ, near). -/
set_option linter.unusedVariables false
set_option linter.unusedSimpArgs false
namespace Go.Proofs.Ytnpdhbagfkilkaa
open Go.RowKit

set_option maxHeartbeats 1000000 in
theorem stepsEyes1 (W : Wt) (hW : W.valid = true) (x y : ByteArray) (A : Option Addr) (n c g m i j : Nat) (w : World) (hE : Ed w g m W A n c x y) (hx : x.size ≤ 120) (hy : y.size ≤ 120) (hi : i ≤ x.size) (hj : j ≤ y.size) (hij : i < x.size) (hjj : j < y.size) (hab : x[i].toNat ≠ y[j].toNat) (c0 : Int) (hhas : has (nearMap W.near) (pairKey .u8 x[i].toNat y[j].toNat) (.int .i64 c0)) (hlook : Wt.look W.near x[i].toNat y[j].toNat = some c0) (hl : ¬ i + 1 < x.size) :
    Calls Try.prog 31 #[.pointer (some ⟨g, 0, none⟩), .int .i64 i, .int .i64 j] w fun e w' => e = .returned (.agg (stepArr (W.steps x.data.toList y.data.toList i j))) ∧ Below w.heap.size w w' := by
  have hg := hE.blk.lt
  have hm := hE.map.lt
  have hmO : m < w.heap.size := hm
  have HS := hide (StRel.start hE)
  rw [initArr0] at HS
  clear hE
  have HW := hide hW
  clear hW
  go_enter Try.func31, Try.ntmps31
  go_wp2
  go_loopw [15] (fun q wr => ∃ k : Nat, k ≤ 6 ∧ q = .int .i64 k ∧ StRel wr w g m W A n c x y (initL k)) (fun q _ => 6 - (intOf q).toNat)
  case atStart => exact ⟨0, by omega, rfl, HS.out⟩
  case round =>
    obtain ⟨k, hk, rfl, hrel⟩ := hrel
    by_cases hlt : k < 6
    · have d0 : wr.cell? ⟨w.heap.size + 1, k * 3, none⟩ = some (.int .i64 0) := (hrel.out.cell _).trans (initL_cell k hlt)
      have d1 : wr.frozen? ⟨w.heap.size + 1, k * 3, none⟩ = false := hrel.out.frozen _
      have Hn := hide (hrel.next hlt hg hm)
      clear hrel
      go_wp2
      go_roundw
      case rel => exact ⟨k + 1, by omega, by go_num, Hn.out⟩
      case measure => simp [intOf]; omega
    · obtain rfl : k = 6 := by omega
      obtain ⟨e0, e1, e2, e3, e5, e6, e7⟩ := hrel.ed.facts
      clear HS
      have HS := hide hrel
      clear hrel hlt hk
      have hlk : ∀ q, (Instr.lookup 68 (.map (some m)) (.agg #[.int .u8 x[i].toNat, .int .u8 y[j].toNat]) true).run Try.prog (wr.drewN q) = .ok (.tuple #[.int .i64 c0, .bool true]) (wr.drewN q) :=
        fun q => run_lookup_ok_has (HS.out.ed.map.drewN q) law2byte Try.underlying68 (z := .int .i64 0) (by kernel_rfl) (S2byte_of (by omega) (by have := x[i].toNat_lt; omega) (by omega) (by have := y[j].toNat_lt; omega)) hhas
      clear hhas
      have hax : Wt.at_ x.data.toList i = (x[i].toNat : Int) := at_byte x hij
      have hby : Wt.at_ y.data.toList j = (y[j].toNat : Int) := at_byte y hjj
      have HF : Hid (W.steps x.data.toList y.data.toList i j = [Wt.no, Wt.no, (c0, 1, 1), (W.ins, 0, 1), (W.del, 1, 0), Wt.no]) := by
        show _ = _
        have hs : Wt.swap W x.data.toList y.data.toList i j = Wt.no := by simp [Wt.swap, hax, hby, hl, (show ¬ ((x[i].toNat : Int) = (y[j].toNat : Int)) by omega)]
        simp [Wt.steps, Wt.same, Wt.change, Wt.insert, Wt.delete, hs, hij, hjj, hax, hby, (show ¬ ((x[i].toNat : Int) = (y[j].toNat : Int)) by omega), hlook]
      clear hax hby hlook
      have hb0 : ((x[i].toNat : Int) == (y[j].toNat : Int)) = false := by simp; omega
      have hb1 : ((x[i].toNat : Int) != (y[j].toNat : Int)) = true := by simp; omega
      clear hab
      go_wp2
      go_quiet (fail)
      go_wp2
      go_quiet (fail)
      go_wp2_with (first
        | ((with_reducible show wpList _ _ _ (Oper.mk _ (Op.store 52 (.tmp 73) (.tmp 72)) _ _ _ _ :: _) _ _); refine wpList_store_part rfl 52 (.tmp 73) (.tmp 72) rfl (w.heap.size + 1) (3 * 2) _ rfl rfl 53 _ HS.out.out (by kernel_rfl) (fit3 rfl (by omega)) (three_one _ _ _) ?_; intro w2 ho2 hb2; have HT := hide (StRel.put (l := (initL 6)) (q := 2) (by first | exact HS.out | exact HS.out.drewN _) rfl (by omega) ho2 hb2 hg hm); clear HS ho2 hb2 e0 e1 e2 e3 e5 e6 e7; have HS := HT; clear HT; obtain ⟨e0, e1, e2, e3, e5, e6, e7⟩ := HS.out.ed.facts)
        | ((with_reducible show wpList _ _ _ (Oper.mk _ (Op.store 52 (.tmp 129) (.tmp 128)) _ _ _ _ :: _) _ _); refine wpList_store_part rfl 52 (.tmp 129) (.tmp 128) rfl (w.heap.size + 1) (3 * 3) _ rfl rfl 53 _ HS.out.out (by kernel_rfl) (fit3 rfl (by omega)) (three_one _ _ _) ?_; intro w2 ho2 hb2; have HT := hide (StRel.put (l := ((initL 6).set 2 (c0, 1, 1))) (q := 3) (by first | exact HS.out | exact HS.out.drewN _) rfl (by omega) ho2 hb2 hg hm); clear HS ho2 hb2 e0 e1 e2 e3 e5 e6 e7; have HS := HT; clear HT; obtain ⟨e0, e1, e2, e3, e5, e6, e7⟩ := HS.out.ed.facts)
        | ((with_reducible show wpList _ _ _ (Oper.mk _ (Op.store 52 (.tmp 138) (.tmp 137)) _ _ _ _ :: _) _ _); refine wpList_store_part rfl 52 (.tmp 138) (.tmp 137) rfl (w.heap.size + 1) (3 * 4) _ rfl rfl 53 _ HS.out.out (by kernel_rfl) (fit3 rfl (by omega)) (three_one _ _ _) ?_; intro w2 ho2 hb2; have HT := hide (StRel.put (l := (((initL 6).set 2 (c0, 1, 1)).set 3 (W.ins, 0, 1))) (q := 4) (by first | exact HS.out | exact HS.out.drewN _) rfl (by omega) ho2 hb2 hg hm); clear HS ho2 hb2 e0 e1 e2 e3 e5 e6 e7; have HS := HT; clear HT; obtain ⟨e0, e1, e2, e3, e5, e6, e7⟩ := HS.out.ed.facts)
        | ((with_reducible show wpList _ _ _ (Oper.mk _ (Op.load 53 (.tmp 7)) _ _ _ _ :: _) _ _); refine wpList_load_all rfl 53 (.tmp 7) rfl (w.heap.size + 1) rfl 53 _ _ HS.out.out Try.underlying53 rfl (by kernel_rfl) ?_)
        | ((with_reducible show wpList _ _ _ (Oper.mk _ (Op.store 53 (.tmp 6) (.tmp 139)) _ _ _ _ :: _) _ _); refine wpList_store_part rfl 53 (.tmp 6) (.tmp 139) rfl w.heap.size 0 _ rfl rfl 53 _ HS.out.res (by kernel_rfl) (fit18 rfl) (stepArr_one _) ?_; intro w2 ho2 hb2; have HZ := hide (StRel.fin (l := ((((initL 6).set 2 (c0, 1, 1)).set 3 (W.ins, 0, 1)).set 4 (W.del, 1, 0))) (by first | exact HS.out | exact HS.out.drewN _) rfl ho2 hb2); clear ho2 hb2))
      refine bodyPost_ret (results_cell_blk rfl _ _ w.heap.size 53 _ _ rfl HZ.out.1 Try.underlying53 rfl (by kernel_rfl)) rfl ⟨?_, HZ.out.2⟩
      rw [HF.out]
      rfl

set_option maxHeartbeats 1000000 in
theorem stepsEyes2 (W : Wt) (hW : W.valid = true) (x y : ByteArray) (A : Option Addr) (n c g m i j : Nat) (w : World) (hE : Ed w g m W A n c x y) (hx : x.size ≤ 120) (hy : y.size ≤ 120) (hi : i ≤ x.size) (hj : j ≤ y.size) (hij : i < x.size) (hjj : j < y.size) (hab : x[i].toNat ≠ y[j].toNat) (c0 : Int) (hhas : has (nearMap W.near) (pairKey .u8 x[i].toNat y[j].toNat) (.int .i64 c0)) (hlook : Wt.look W.near x[i].toNat y[j].toNat = some c0) (hl : i + 1 < x.size) (hr : ¬ j + 1 < y.size) :
    Calls Try.prog 31 #[.pointer (some ⟨g, 0, none⟩), .int .i64 i, .int .i64 j] w fun e w' => e = .returned (.agg (stepArr (W.steps x.data.toList y.data.toList i j))) ∧ Below w.heap.size w w' := by
  have hg := hE.blk.lt
  have hm := hE.map.lt
  have hmO : m < w.heap.size := hm
  have HS := hide (StRel.start hE)
  rw [initArr0] at HS
  clear hE
  have HW := hide hW
  clear hW
  go_enter Try.func31, Try.ntmps31
  go_wp2
  go_loopw [15] (fun q wr => ∃ k : Nat, k ≤ 6 ∧ q = .int .i64 k ∧ StRel wr w g m W A n c x y (initL k)) (fun q _ => 6 - (intOf q).toNat)
  case atStart => exact ⟨0, by omega, rfl, HS.out⟩
  case round =>
    obtain ⟨k, hk, rfl, hrel⟩ := hrel
    by_cases hlt : k < 6
    · have d0 : wr.cell? ⟨w.heap.size + 1, k * 3, none⟩ = some (.int .i64 0) := (hrel.out.cell _).trans (initL_cell k hlt)
      have d1 : wr.frozen? ⟨w.heap.size + 1, k * 3, none⟩ = false := hrel.out.frozen _
      have Hn := hide (hrel.next hlt hg hm)
      clear hrel
      go_wp2
      go_roundw
      case rel => exact ⟨k + 1, by omega, by go_num, Hn.out⟩
      case measure => simp [intOf]; omega
    · obtain rfl : k = 6 := by omega
      obtain ⟨e0, e1, e2, e3, e5, e6, e7⟩ := hrel.ed.facts
      clear HS
      have HS := hide hrel
      clear hrel hlt hk
      have hlk : ∀ q, (Instr.lookup 68 (.map (some m)) (.agg #[.int .u8 x[i].toNat, .int .u8 y[j].toNat]) true).run Try.prog (wr.drewN q) = .ok (.tuple #[.int .i64 c0, .bool true]) (wr.drewN q) :=
        fun q => run_lookup_ok_has (HS.out.ed.map.drewN q) law2byte Try.underlying68 (z := .int .i64 0) (by kernel_rfl) (S2byte_of (by omega) (by have := x[i].toNat_lt; omega) (by omega) (by have := y[j].toNat_lt; omega)) hhas
      clear hhas
      have hax : Wt.at_ x.data.toList i = (x[i].toNat : Int) := at_byte x hij
      have hby : Wt.at_ y.data.toList j = (y[j].toNat : Int) := at_byte y hjj
      have HF : Hid (W.steps x.data.toList y.data.toList i j = [Wt.no, Wt.no, (c0, 1, 1), (W.ins, 0, 1), (W.del, 1, 0), Wt.no]) := by
        show _ = _
        have hs : Wt.swap W x.data.toList y.data.toList i j = Wt.no := by simp [Wt.swap, hax, hby, hl, hr, (show ¬ ((x[i].toNat : Int) = (y[j].toNat : Int)) by omega)]
        simp [Wt.steps, Wt.same, Wt.change, Wt.insert, Wt.delete, hs, hij, hjj, hax, hby, (show ¬ ((x[i].toNat : Int) = (y[j].toNat : Int)) by omega), hlook]
      clear hax hby hlook
      have hb0 : ((x[i].toNat : Int) == (y[j].toNat : Int)) = false := by simp; omega
      have hb1 : ((x[i].toNat : Int) != (y[j].toNat : Int)) = true := by simp; omega
      clear hab
      go_wp2
      go_quiet (fail)
      go_wp2
      go_quiet (fail)
      go_wp2_with (first
        | ((with_reducible show wpList _ _ _ (Oper.mk _ (Op.store 52 (.tmp 73) (.tmp 72)) _ _ _ _ :: _) _ _); refine wpList_store_part rfl 52 (.tmp 73) (.tmp 72) rfl (w.heap.size + 1) (3 * 2) _ rfl rfl 53 _ HS.out.out (by kernel_rfl) (fit3 rfl (by omega)) (three_one _ _ _) ?_; intro w2 ho2 hb2; have HT := hide (StRel.put (l := (initL 6)) (q := 2) (by first | exact HS.out | exact HS.out.drewN _) rfl (by omega) ho2 hb2 hg hm); clear HS ho2 hb2 e0 e1 e2 e3 e5 e6 e7; have HS := HT; clear HT; obtain ⟨e0, e1, e2, e3, e5, e6, e7⟩ := HS.out.ed.facts)
        | ((with_reducible show wpList _ _ _ (Oper.mk _ (Op.store 52 (.tmp 129) (.tmp 128)) _ _ _ _ :: _) _ _); refine wpList_store_part rfl 52 (.tmp 129) (.tmp 128) rfl (w.heap.size + 1) (3 * 3) _ rfl rfl 53 _ HS.out.out (by kernel_rfl) (fit3 rfl (by omega)) (three_one _ _ _) ?_; intro w2 ho2 hb2; have HT := hide (StRel.put (l := ((initL 6).set 2 (c0, 1, 1))) (q := 3) (by first | exact HS.out | exact HS.out.drewN _) rfl (by omega) ho2 hb2 hg hm); clear HS ho2 hb2 e0 e1 e2 e3 e5 e6 e7; have HS := HT; clear HT; obtain ⟨e0, e1, e2, e3, e5, e6, e7⟩ := HS.out.ed.facts)
        | ((with_reducible show wpList _ _ _ (Oper.mk _ (Op.store 52 (.tmp 138) (.tmp 137)) _ _ _ _ :: _) _ _); refine wpList_store_part rfl 52 (.tmp 138) (.tmp 137) rfl (w.heap.size + 1) (3 * 4) _ rfl rfl 53 _ HS.out.out (by kernel_rfl) (fit3 rfl (by omega)) (three_one _ _ _) ?_; intro w2 ho2 hb2; have HT := hide (StRel.put (l := (((initL 6).set 2 (c0, 1, 1)).set 3 (W.ins, 0, 1))) (q := 4) (by first | exact HS.out | exact HS.out.drewN _) rfl (by omega) ho2 hb2 hg hm); clear HS ho2 hb2 e0 e1 e2 e3 e5 e6 e7; have HS := HT; clear HT; obtain ⟨e0, e1, e2, e3, e5, e6, e7⟩ := HS.out.ed.facts)
        | ((with_reducible show wpList _ _ _ (Oper.mk _ (Op.load 53 (.tmp 7)) _ _ _ _ :: _) _ _); refine wpList_load_all rfl 53 (.tmp 7) rfl (w.heap.size + 1) rfl 53 _ _ HS.out.out Try.underlying53 rfl (by kernel_rfl) ?_)
        | ((with_reducible show wpList _ _ _ (Oper.mk _ (Op.store 53 (.tmp 6) (.tmp 139)) _ _ _ _ :: _) _ _); refine wpList_store_part rfl 53 (.tmp 6) (.tmp 139) rfl w.heap.size 0 _ rfl rfl 53 _ HS.out.res (by kernel_rfl) (fit18 rfl) (stepArr_one _) ?_; intro w2 ho2 hb2; have HZ := hide (StRel.fin (l := ((((initL 6).set 2 (c0, 1, 1)).set 3 (W.ins, 0, 1)).set 4 (W.del, 1, 0))) (by first | exact HS.out | exact HS.out.drewN _) rfl ho2 hb2); clear ho2 hb2))
      refine bodyPost_ret (results_cell_blk rfl _ _ w.heap.size 53 _ _ rfl HZ.out.1 Try.underlying53 rfl (by kernel_rfl)) rfl ⟨?_, HZ.out.2⟩
      rw [HF.out]
      rfl

set_option maxHeartbeats 1000000 in
theorem stepsEyes3 (W : Wt) (hW : W.valid = true) (x y : ByteArray) (A : Option Addr) (n c g m i j : Nat) (w : World) (hE : Ed w g m W A n c x y) (hx : x.size ≤ 120) (hy : y.size ≤ 120) (hi : i ≤ x.size) (hj : j ≤ y.size) (hij : i < x.size) (hjj : j < y.size) (hab : x[i].toNat ≠ y[j].toNat) (c0 : Int) (hhas : has (nearMap W.near) (pairKey .u8 x[i].toNat y[j].toNat) (.int .i64 c0)) (hlook : Wt.look W.near x[i].toNat y[j].toNat = some c0) (hl : i + 1 < x.size) (hr : j + 1 < y.size) (hc : x[i].toNat ≠ y[j + 1].toNat) :
    Calls Try.prog 31 #[.pointer (some ⟨g, 0, none⟩), .int .i64 i, .int .i64 j] w fun e w' => e = .returned (.agg (stepArr (W.steps x.data.toList y.data.toList i j))) ∧ Below w.heap.size w w' := by
  have hg := hE.blk.lt
  have hm := hE.map.lt
  have hmO : m < w.heap.size := hm
  have HS := hide (StRel.start hE)
  rw [initArr0] at HS
  clear hE
  have HW := hide hW
  clear hW
  go_enter Try.func31, Try.ntmps31
  go_wp2
  go_loopw [15] (fun q wr => ∃ k : Nat, k ≤ 6 ∧ q = .int .i64 k ∧ StRel wr w g m W A n c x y (initL k)) (fun q _ => 6 - (intOf q).toNat)
  case atStart => exact ⟨0, by omega, rfl, HS.out⟩
  case round =>
    obtain ⟨k, hk, rfl, hrel⟩ := hrel
    by_cases hlt : k < 6
    · have d0 : wr.cell? ⟨w.heap.size + 1, k * 3, none⟩ = some (.int .i64 0) := (hrel.out.cell _).trans (initL_cell k hlt)
      have d1 : wr.frozen? ⟨w.heap.size + 1, k * 3, none⟩ = false := hrel.out.frozen _
      have Hn := hide (hrel.next hlt hg hm)
      clear hrel
      go_wp2
      go_roundw
      case rel => exact ⟨k + 1, by omega, by go_num, Hn.out⟩
      case measure => simp [intOf]; omega
    · obtain rfl : k = 6 := by omega
      obtain ⟨e0, e1, e2, e3, e5, e6, e7⟩ := hrel.ed.facts
      clear HS
      have HS := hide hrel
      clear hrel hlt hk
      have hlk : ∀ q, (Instr.lookup 68 (.map (some m)) (.agg #[.int .u8 x[i].toNat, .int .u8 y[j].toNat]) true).run Try.prog (wr.drewN q) = .ok (.tuple #[.int .i64 c0, .bool true]) (wr.drewN q) :=
        fun q => run_lookup_ok_has (HS.out.ed.map.drewN q) law2byte Try.underlying68 (z := .int .i64 0) (by kernel_rfl) (S2byte_of (by omega) (by have := x[i].toNat_lt; omega) (by omega) (by have := y[j].toNat_lt; omega)) hhas
      clear hhas
      have hax : Wt.at_ x.data.toList i = (x[i].toNat : Int) := at_byte x hij
      have hby : Wt.at_ y.data.toList j = (y[j].toNat : Int) := at_byte y hjj
      have hx1 : Wt.at_ x.data.toList (i + 1) = (x[i + 1].toNat : Int) := at_byte x hl
      have hy1 : Wt.at_ y.data.toList (j + 1) = (y[j + 1].toNat : Int) := at_byte y hr
      have HF : Hid (W.steps x.data.toList y.data.toList i j = [Wt.no, Wt.no, (c0, 1, 1), (W.ins, 0, 1), (W.del, 1, 0), Wt.no]) := by
        show _ = _
        have hs : Wt.swap W x.data.toList y.data.toList i j = Wt.no := by simp [Wt.swap, hax, hby, hl, hr, hx1, hy1, (show ¬ ((x[i].toNat : Int) = (y[j + 1].toNat : Int)) by omega)]
        simp [Wt.steps, Wt.same, Wt.change, Wt.insert, Wt.delete, hs, hij, hjj, hax, hby, (show ¬ ((x[i].toNat : Int) = (y[j].toNat : Int)) by omega), hlook]
      clear hax hby hlook hx1 hy1
      have hb0 : ((x[i].toNat : Int) == (y[j].toNat : Int)) = false := by simp; omega
      have hb1 : ((x[i].toNat : Int) != (y[j].toNat : Int)) = true := by simp; omega
      clear hab
      have hc0 : ((x[i].toNat : Int) == (y[j + 1].toNat : Int)) = false := by simp; omega
      clear hc
      go_wp2
      go_quiet (fail)
      go_wp2
      go_quiet (fail)
      go_wp2_with (first
        | ((with_reducible show wpList _ _ _ (Oper.mk _ (Op.store 52 (.tmp 73) (.tmp 72)) _ _ _ _ :: _) _ _); refine wpList_store_part rfl 52 (.tmp 73) (.tmp 72) rfl (w.heap.size + 1) (3 * 2) _ rfl rfl 53 _ HS.out.out (by kernel_rfl) (fit3 rfl (by omega)) (three_one _ _ _) ?_; intro w2 ho2 hb2; have HT := hide (StRel.put (l := (initL 6)) (q := 2) (by first | exact HS.out | exact HS.out.drewN _) rfl (by omega) ho2 hb2 hg hm); clear HS ho2 hb2 e0 e1 e2 e3 e5 e6 e7; have HS := HT; clear HT; obtain ⟨e0, e1, e2, e3, e5, e6, e7⟩ := HS.out.ed.facts)
        | ((with_reducible show wpList _ _ _ (Oper.mk _ (Op.store 52 (.tmp 129) (.tmp 128)) _ _ _ _ :: _) _ _); refine wpList_store_part rfl 52 (.tmp 129) (.tmp 128) rfl (w.heap.size + 1) (3 * 3) _ rfl rfl 53 _ HS.out.out (by kernel_rfl) (fit3 rfl (by omega)) (three_one _ _ _) ?_; intro w2 ho2 hb2; have HT := hide (StRel.put (l := ((initL 6).set 2 (c0, 1, 1))) (q := 3) (by first | exact HS.out | exact HS.out.drewN _) rfl (by omega) ho2 hb2 hg hm); clear HS ho2 hb2 e0 e1 e2 e3 e5 e6 e7; have HS := HT; clear HT; obtain ⟨e0, e1, e2, e3, e5, e6, e7⟩ := HS.out.ed.facts)
        | ((with_reducible show wpList _ _ _ (Oper.mk _ (Op.store 52 (.tmp 138) (.tmp 137)) _ _ _ _ :: _) _ _); refine wpList_store_part rfl 52 (.tmp 138) (.tmp 137) rfl (w.heap.size + 1) (3 * 4) _ rfl rfl 53 _ HS.out.out (by kernel_rfl) (fit3 rfl (by omega)) (three_one _ _ _) ?_; intro w2 ho2 hb2; have HT := hide (StRel.put (l := (((initL 6).set 2 (c0, 1, 1)).set 3 (W.ins, 0, 1))) (q := 4) (by first | exact HS.out | exact HS.out.drewN _) rfl (by omega) ho2 hb2 hg hm); clear HS ho2 hb2 e0 e1 e2 e3 e5 e6 e7; have HS := HT; clear HT; obtain ⟨e0, e1, e2, e3, e5, e6, e7⟩ := HS.out.ed.facts)
        | ((with_reducible show wpList _ _ _ (Oper.mk _ (Op.load 53 (.tmp 7)) _ _ _ _ :: _) _ _); refine wpList_load_all rfl 53 (.tmp 7) rfl (w.heap.size + 1) rfl 53 _ _ HS.out.out Try.underlying53 rfl (by kernel_rfl) ?_)
        | ((with_reducible show wpList _ _ _ (Oper.mk _ (Op.store 53 (.tmp 6) (.tmp 139)) _ _ _ _ :: _) _ _); refine wpList_store_part rfl 53 (.tmp 6) (.tmp 139) rfl w.heap.size 0 _ rfl rfl 53 _ HS.out.res (by kernel_rfl) (fit18 rfl) (stepArr_one _) ?_; intro w2 ho2 hb2; have HZ := hide (StRel.fin (l := ((((initL 6).set 2 (c0, 1, 1)).set 3 (W.ins, 0, 1)).set 4 (W.del, 1, 0))) (by first | exact HS.out | exact HS.out.drewN _) rfl ho2 hb2); clear ho2 hb2))
      refine bodyPost_ret (results_cell_blk rfl _ _ w.heap.size 53 _ _ rfl HZ.out.1 Try.underlying53 rfl (by kernel_rfl)) rfl ⟨?_, HZ.out.2⟩
      rw [HF.out]
      rfl

set_option maxHeartbeats 1000000 in
theorem stepsEyes4 (W : Wt) (hW : W.valid = true) (x y : ByteArray) (A : Option Addr) (n c g m i j : Nat) (w : World) (hE : Ed w g m W A n c x y) (hx : x.size ≤ 120) (hy : y.size ≤ 120) (hi : i ≤ x.size) (hj : j ≤ y.size) (hij : i < x.size) (hjj : j < y.size) (hab : x[i].toNat ≠ y[j].toNat) (c0 : Int) (hhas : has (nearMap W.near) (pairKey .u8 x[i].toNat y[j].toNat) (.int .i64 c0)) (hlook : Wt.look W.near x[i].toNat y[j].toNat = some c0) (hl : i + 1 < x.size) (hr : j + 1 < y.size) (hc : x[i].toNat = y[j + 1].toNat) (hd : x[i + 1].toNat ≠ y[j].toNat) :
    Calls Try.prog 31 #[.pointer (some ⟨g, 0, none⟩), .int .i64 i, .int .i64 j] w fun e w' => e = .returned (.agg (stepArr (W.steps x.data.toList y.data.toList i j))) ∧ Below w.heap.size w w' := by
  have hg := hE.blk.lt
  have hm := hE.map.lt
  have hmO : m < w.heap.size := hm
  have HS := hide (StRel.start hE)
  rw [initArr0] at HS
  clear hE
  have HW := hide hW
  clear hW
  go_enter Try.func31, Try.ntmps31
  go_wp2
  go_loopw [15] (fun q wr => ∃ k : Nat, k ≤ 6 ∧ q = .int .i64 k ∧ StRel wr w g m W A n c x y (initL k)) (fun q _ => 6 - (intOf q).toNat)
  case atStart => exact ⟨0, by omega, rfl, HS.out⟩
  case round =>
    obtain ⟨k, hk, rfl, hrel⟩ := hrel
    by_cases hlt : k < 6
    · have d0 : wr.cell? ⟨w.heap.size + 1, k * 3, none⟩ = some (.int .i64 0) := (hrel.out.cell _).trans (initL_cell k hlt)
      have d1 : wr.frozen? ⟨w.heap.size + 1, k * 3, none⟩ = false := hrel.out.frozen _
      have Hn := hide (hrel.next hlt hg hm)
      clear hrel
      go_wp2
      go_roundw
      case rel => exact ⟨k + 1, by omega, by go_num, Hn.out⟩
      case measure => simp [intOf]; omega
    · obtain rfl : k = 6 := by omega
      obtain ⟨e0, e1, e2, e3, e5, e6, e7⟩ := hrel.ed.facts
      clear HS
      have HS := hide hrel
      clear hrel hlt hk
      have hlk : ∀ q, (Instr.lookup 68 (.map (some m)) (.agg #[.int .u8 x[i].toNat, .int .u8 y[j].toNat]) true).run Try.prog (wr.drewN q) = .ok (.tuple #[.int .i64 c0, .bool true]) (wr.drewN q) :=
        fun q => run_lookup_ok_has (HS.out.ed.map.drewN q) law2byte Try.underlying68 (z := .int .i64 0) (by kernel_rfl) (S2byte_of (by omega) (by have := x[i].toNat_lt; omega) (by omega) (by have := y[j].toNat_lt; omega)) hhas
      clear hhas
      have hax : Wt.at_ x.data.toList i = (x[i].toNat : Int) := at_byte x hij
      have hby : Wt.at_ y.data.toList j = (y[j].toNat : Int) := at_byte y hjj
      have hx1 : Wt.at_ x.data.toList (i + 1) = (x[i + 1].toNat : Int) := at_byte x hl
      have hy1 : Wt.at_ y.data.toList (j + 1) = (y[j + 1].toNat : Int) := at_byte y hr
      have HF : Hid (W.steps x.data.toList y.data.toList i j = [Wt.no, Wt.no, (c0, 1, 1), (W.ins, 0, 1), (W.del, 1, 0), Wt.no]) := by
        show _ = _
        have hs : Wt.swap W x.data.toList y.data.toList i j = Wt.no := by simp [Wt.swap, hax, hby, hl, hr, hx1, hy1, (show ((x[i].toNat : Int) = (y[j + 1].toNat : Int)) by omega), (show ¬ ((x[i + 1].toNat : Int) = (y[j].toNat : Int)) by omega), (show ¬ ((y[j + 1].toNat : Int) = (y[j].toNat : Int)) by omega)]
        simp [Wt.steps, Wt.same, Wt.change, Wt.insert, Wt.delete, hs, hij, hjj, hax, hby, (show ¬ ((x[i].toNat : Int) = (y[j].toNat : Int)) by omega), hlook]
      clear hax hby hlook hx1 hy1
      have hb0 : ((x[i].toNat : Int) == (y[j].toNat : Int)) = false := by simp; omega
      have hb1 : ((x[i].toNat : Int) != (y[j].toNat : Int)) = true := by simp; omega
      clear hab
      have hc0 : ((x[i].toNat : Int) == (y[j + 1].toNat : Int)) = true := by simp [hc]
      have hd0 : ((x[i + 1].toNat : Int) == (y[j].toNat : Int)) = false := by simp; omega
      clear hc hd
      go_wp2
      go_quiet (fail)
      go_wp2
      go_quiet (fail)
      go_wp2_with (first
        | ((with_reducible show wpList _ _ _ (Oper.mk _ (Op.store 52 (.tmp 73) (.tmp 72)) _ _ _ _ :: _) _ _); refine wpList_store_part rfl 52 (.tmp 73) (.tmp 72) rfl (w.heap.size + 1) (3 * 2) _ rfl rfl 53 _ HS.out.out (by kernel_rfl) (fit3 rfl (by omega)) (three_one _ _ _) ?_; intro w2 ho2 hb2; have HT := hide (StRel.put (l := (initL 6)) (q := 2) (by first | exact HS.out | exact HS.out.drewN _) rfl (by omega) ho2 hb2 hg hm); clear HS ho2 hb2 e0 e1 e2 e3 e5 e6 e7; have HS := HT; clear HT; obtain ⟨e0, e1, e2, e3, e5, e6, e7⟩ := HS.out.ed.facts)
        | ((with_reducible show wpList _ _ _ (Oper.mk _ (Op.store 52 (.tmp 129) (.tmp 128)) _ _ _ _ :: _) _ _); refine wpList_store_part rfl 52 (.tmp 129) (.tmp 128) rfl (w.heap.size + 1) (3 * 3) _ rfl rfl 53 _ HS.out.out (by kernel_rfl) (fit3 rfl (by omega)) (three_one _ _ _) ?_; intro w2 ho2 hb2; have HT := hide (StRel.put (l := ((initL 6).set 2 (c0, 1, 1))) (q := 3) (by first | exact HS.out | exact HS.out.drewN _) rfl (by omega) ho2 hb2 hg hm); clear HS ho2 hb2 e0 e1 e2 e3 e5 e6 e7; have HS := HT; clear HT; obtain ⟨e0, e1, e2, e3, e5, e6, e7⟩ := HS.out.ed.facts)
        | ((with_reducible show wpList _ _ _ (Oper.mk _ (Op.store 52 (.tmp 138) (.tmp 137)) _ _ _ _ :: _) _ _); refine wpList_store_part rfl 52 (.tmp 138) (.tmp 137) rfl (w.heap.size + 1) (3 * 4) _ rfl rfl 53 _ HS.out.out (by kernel_rfl) (fit3 rfl (by omega)) (three_one _ _ _) ?_; intro w2 ho2 hb2; have HT := hide (StRel.put (l := (((initL 6).set 2 (c0, 1, 1)).set 3 (W.ins, 0, 1))) (q := 4) (by first | exact HS.out | exact HS.out.drewN _) rfl (by omega) ho2 hb2 hg hm); clear HS ho2 hb2 e0 e1 e2 e3 e5 e6 e7; have HS := HT; clear HT; obtain ⟨e0, e1, e2, e3, e5, e6, e7⟩ := HS.out.ed.facts)
        | ((with_reducible show wpList _ _ _ (Oper.mk _ (Op.load 53 (.tmp 7)) _ _ _ _ :: _) _ _); refine wpList_load_all rfl 53 (.tmp 7) rfl (w.heap.size + 1) rfl 53 _ _ HS.out.out Try.underlying53 rfl (by kernel_rfl) ?_)
        | ((with_reducible show wpList _ _ _ (Oper.mk _ (Op.store 53 (.tmp 6) (.tmp 139)) _ _ _ _ :: _) _ _); refine wpList_store_part rfl 53 (.tmp 6) (.tmp 139) rfl w.heap.size 0 _ rfl rfl 53 _ HS.out.res (by kernel_rfl) (fit18 rfl) (stepArr_one _) ?_; intro w2 ho2 hb2; have HZ := hide (StRel.fin (l := ((((initL 6).set 2 (c0, 1, 1)).set 3 (W.ins, 0, 1)).set 4 (W.del, 1, 0))) (by first | exact HS.out | exact HS.out.drewN _) rfl ho2 hb2); clear ho2 hb2))
      refine bodyPost_ret (results_cell_blk rfl _ _ w.heap.size 53 _ _ rfl HZ.out.1 Try.underlying53 rfl (by kernel_rfl)) rfl ⟨?_, HZ.out.2⟩
      rw [HF.out]
      rfl

set_option maxHeartbeats 1000000 in
theorem stepsEyes5 (W : Wt) (hW : W.valid = true) (x y : ByteArray) (A : Option Addr) (n c g m i j : Nat) (w : World) (hE : Ed w g m W A n c x y) (hx : x.size ≤ 120) (hy : y.size ≤ 120) (hi : i ≤ x.size) (hj : j ≤ y.size) (hij : i < x.size) (hjj : j < y.size) (hab : x[i].toNat ≠ y[j].toNat) (c0 : Int) (hhas : has (nearMap W.near) (pairKey .u8 x[i].toNat y[j].toNat) (.int .i64 c0)) (hlook : Wt.look W.near x[i].toNat y[j].toNat = some c0) (hl : i + 1 < x.size) (hr : j + 1 < y.size) (hc : x[i].toNat = y[j + 1].toNat) (hd : x[i + 1].toNat = y[j].toNat) :
    Calls Try.prog 31 #[.pointer (some ⟨g, 0, none⟩), .int .i64 i, .int .i64 j] w fun e w' => e = .returned (.agg (stepArr (W.steps x.data.toList y.data.toList i j))) ∧ Below w.heap.size w w' := by
  have hg := hE.blk.lt
  have hm := hE.map.lt
  have hmO : m < w.heap.size := hm
  have HS := hide (StRel.start hE)
  rw [initArr0] at HS
  clear hE
  have HW := hide hW
  clear hW
  go_enter Try.func31, Try.ntmps31
  go_wp2
  go_loopw [15] (fun q wr => ∃ k : Nat, k ≤ 6 ∧ q = .int .i64 k ∧ StRel wr w g m W A n c x y (initL k)) (fun q _ => 6 - (intOf q).toNat)
  case atStart => exact ⟨0, by omega, rfl, HS.out⟩
  case round =>
    obtain ⟨k, hk, rfl, hrel⟩ := hrel
    by_cases hlt : k < 6
    · have d0 : wr.cell? ⟨w.heap.size + 1, k * 3, none⟩ = some (.int .i64 0) := (hrel.out.cell _).trans (initL_cell k hlt)
      have d1 : wr.frozen? ⟨w.heap.size + 1, k * 3, none⟩ = false := hrel.out.frozen _
      have Hn := hide (hrel.next hlt hg hm)
      clear hrel
      go_wp2
      go_roundw
      case rel => exact ⟨k + 1, by omega, by go_num, Hn.out⟩
      case measure => simp [intOf]; omega
    · obtain rfl : k = 6 := by omega
      obtain ⟨e0, e1, e2, e3, e5, e6, e7⟩ := hrel.ed.facts
      clear HS
      have HS := hide hrel
      clear hrel hlt hk
      have hlk : ∀ q, (Instr.lookup 68 (.map (some m)) (.agg #[.int .u8 x[i].toNat, .int .u8 y[j].toNat]) true).run Try.prog (wr.drewN q) = .ok (.tuple #[.int .i64 c0, .bool true]) (wr.drewN q) :=
        fun q => run_lookup_ok_has (HS.out.ed.map.drewN q) law2byte Try.underlying68 (z := .int .i64 0) (by kernel_rfl) (S2byte_of (by omega) (by have := x[i].toNat_lt; omega) (by omega) (by have := y[j].toNat_lt; omega)) hhas
      clear hhas
      have hax : Wt.at_ x.data.toList i = (x[i].toNat : Int) := at_byte x hij
      have hby : Wt.at_ y.data.toList j = (y[j].toNat : Int) := at_byte y hjj
      have hx1 : Wt.at_ x.data.toList (i + 1) = (x[i + 1].toNat : Int) := at_byte x hl
      have hy1 : Wt.at_ y.data.toList (j + 1) = (y[j + 1].toNat : Int) := at_byte y hr
      have HF : Hid (W.steps x.data.toList y.data.toList i j = [Wt.no, Wt.no, (c0, 1, 1), (W.ins, 0, 1), (W.del, 1, 0), (W.swp, 2, 2)]) := by
        show _ = _
        have hs : Wt.swap W x.data.toList y.data.toList i j = (W.swp, 2, 2) := by simp [Wt.swap, hax, hby, hl, hr, hx1, hy1, (show ((x[i].toNat : Int) = (y[j + 1].toNat : Int)) by omega), (show ((x[i + 1].toNat : Int) = (y[j].toNat : Int)) by omega), (show ¬ ((y[j + 1].toNat : Int) = (y[j].toNat : Int)) by omega)]
        simp [Wt.steps, Wt.same, Wt.change, Wt.insert, Wt.delete, hs, hij, hjj, hax, hby, (show ¬ ((x[i].toNat : Int) = (y[j].toNat : Int)) by omega), hlook]
      clear hax hby hlook hx1 hy1
      have hb0 : ((x[i].toNat : Int) == (y[j].toNat : Int)) = false := by simp; omega
      have hb1 : ((x[i].toNat : Int) != (y[j].toNat : Int)) = true := by simp; omega
      clear hab
      have hc0 : ((x[i].toNat : Int) == (y[j + 1].toNat : Int)) = true := by simp [hc]
      have hd0 : ((x[i + 1].toNat : Int) == (y[j].toNat : Int)) = true := by simp [hd]
      clear hc hd
      go_wp2
      go_quiet (fail)
      go_wp2
      go_quiet (fail)
      go_wp2_with (first
        | ((with_reducible show wpList _ _ _ (Oper.mk _ (Op.store 52 (.tmp 73) (.tmp 72)) _ _ _ _ :: _) _ _); refine wpList_store_part rfl 52 (.tmp 73) (.tmp 72) rfl (w.heap.size + 1) (3 * 2) _ rfl rfl 53 _ HS.out.out (by kernel_rfl) (fit3 rfl (by omega)) (three_one _ _ _) ?_; intro w2 ho2 hb2; have HT := hide (StRel.put (l := (initL 6)) (q := 2) (by first | exact HS.out | exact HS.out.drewN _) rfl (by omega) ho2 hb2 hg hm); clear HS ho2 hb2 e0 e1 e2 e3 e5 e6 e7; have HS := HT; clear HT; obtain ⟨e0, e1, e2, e3, e5, e6, e7⟩ := HS.out.ed.facts)
        | ((with_reducible show wpList _ _ _ (Oper.mk _ (Op.store 52 (.tmp 120) (.tmp 119)) _ _ _ _ :: _) _ _); refine wpList_store_part rfl 52 (.tmp 120) (.tmp 119) rfl (w.heap.size + 1) (3 * 5) _ rfl rfl 53 _ HS.out.out (by kernel_rfl) (fit3 rfl (by omega)) (three_one _ _ _) ?_; intro w2 ho2 hb2; have HT := hide (StRel.put (l := ((initL 6).set 2 (c0, 1, 1))) (q := 5) (by first | exact HS.out | exact HS.out.drewN _) rfl (by omega) ho2 hb2 hg hm); clear HS ho2 hb2 e0 e1 e2 e3 e5 e6 e7; have HS := HT; clear HT; obtain ⟨e0, e1, e2, e3, e5, e6, e7⟩ := HS.out.ed.facts)
        | ((with_reducible show wpList _ _ _ (Oper.mk _ (Op.store 52 (.tmp 129) (.tmp 128)) _ _ _ _ :: _) _ _); refine wpList_store_part rfl 52 (.tmp 129) (.tmp 128) rfl (w.heap.size + 1) (3 * 3) _ rfl rfl 53 _ HS.out.out (by kernel_rfl) (fit3 rfl (by omega)) (three_one _ _ _) ?_; intro w2 ho2 hb2; have HT := hide (StRel.put (l := (((initL 6).set 2 (c0, 1, 1)).set 5 (W.swp, 2, 2))) (q := 3) (by first | exact HS.out | exact HS.out.drewN _) rfl (by omega) ho2 hb2 hg hm); clear HS ho2 hb2 e0 e1 e2 e3 e5 e6 e7; have HS := HT; clear HT; obtain ⟨e0, e1, e2, e3, e5, e6, e7⟩ := HS.out.ed.facts)
        | ((with_reducible show wpList _ _ _ (Oper.mk _ (Op.store 52 (.tmp 138) (.tmp 137)) _ _ _ _ :: _) _ _); refine wpList_store_part rfl 52 (.tmp 138) (.tmp 137) rfl (w.heap.size + 1) (3 * 4) _ rfl rfl 53 _ HS.out.out (by kernel_rfl) (fit3 rfl (by omega)) (three_one _ _ _) ?_; intro w2 ho2 hb2; have HT := hide (StRel.put (l := ((((initL 6).set 2 (c0, 1, 1)).set 5 (W.swp, 2, 2)).set 3 (W.ins, 0, 1))) (q := 4) (by first | exact HS.out | exact HS.out.drewN _) rfl (by omega) ho2 hb2 hg hm); clear HS ho2 hb2 e0 e1 e2 e3 e5 e6 e7; have HS := HT; clear HT; obtain ⟨e0, e1, e2, e3, e5, e6, e7⟩ := HS.out.ed.facts)
        | ((with_reducible show wpList _ _ _ (Oper.mk _ (Op.load 53 (.tmp 7)) _ _ _ _ :: _) _ _); refine wpList_load_all rfl 53 (.tmp 7) rfl (w.heap.size + 1) rfl 53 _ _ HS.out.out Try.underlying53 rfl (by kernel_rfl) ?_)
        | ((with_reducible show wpList _ _ _ (Oper.mk _ (Op.store 53 (.tmp 6) (.tmp 139)) _ _ _ _ :: _) _ _); refine wpList_store_part rfl 53 (.tmp 6) (.tmp 139) rfl w.heap.size 0 _ rfl rfl 53 _ HS.out.res (by kernel_rfl) (fit18 rfl) (stepArr_one _) ?_; intro w2 ho2 hb2; have HZ := hide (StRel.fin (l := (((((initL 6).set 2 (c0, 1, 1)).set 5 (W.swp, 2, 2)).set 3 (W.ins, 0, 1)).set 4 (W.del, 1, 0))) (by first | exact HS.out | exact HS.out.drewN _) rfl ho2 hb2); clear ho2 hb2))
      refine bodyPost_ret (results_cell_blk rfl _ _ w.heap.size 53 _ _ rfl HZ.out.1 Try.underlying53 rfl (by kernel_rfl)) rfl ⟨?_, HZ.out.2⟩
      rw [HF.out]
      rfl

end Go.Proofs.Ytnpdhbagfkilkaa

/- The plain side: distances, out of a table of the distances of what is left. -/
set_option linter.unusedVariables false
set_option linter.unusedSimpArgs false
namespace Go.Proofs.Ytnpdhbagfkilkaa
namespace Wt

def better (b : Int) (c : Int) : Int := if b < 0 ∨ c < b then c else b
def bestStep (T : Nat → Nat → Int) (i j : Nat) (b : Int) (s : Int × Int × Int) : Int := if s.1 < 0 then b else better b (s.1 + T (i + s.2.1.toNat) (j + s.2.2.toNat))
def best (T : Nat → Nat → Int) (i j : Nat) (l : List (Int × Int × Int)) : Int := l.foldl (bestStep T i j) (-1)

/-- what each possible step keeps: it uses one byte or more, never beyond the ends, and costs at most 1000 -/
def fits (x y : List UInt8) (i j : Nat) (s : Int × Int × Int) : Prop :=
  s.1 < 0 ∨ (s.1 ≤ 1000 ∧ 0 ≤ s.2.1 ∧ 0 ≤ s.2.2 ∧ 0 < s.2.1 + s.2.2 ∧ i + s.2.1 ≤ x.length ∧ j + s.2.2 ≤ y.length)
theorem look_le {W : Wt} (h : W.valid = true) {a b c : Int} (hc : look W.near a b = some c) : 0 ≤ c ∧ c ≤ 1000 := by
  unfold look at hc
  simp only [Option.map_eq_some_iff] at hc
  obtain ⟨n, hn, rfl⟩ := hc
  have h1 := valid_near h n (List.mem_of_find?_eq_some hn)
  have h2 := valid_num h
  omega
theorem steps_fit {W : Wt} (h : W.valid = true) {x y : List UInt8} {i j : Nat} (hi : i ≤ x.length) (hj : j ≤ y.length) : ∀ s ∈ W.steps x y i j, fits x y i j s := by
  have hn := valid_num h
  intro s hs
  simp only [steps, List.mem_cons, List.not_mem_nil, or_false] at hs
  unfold fits
  rcases hs with rfl | rfl | rfl | rfl | rfl | rfl
  · exact .inl (by simp)
  · unfold same
    split
    · right; simp; omega
    · left; simp
  · unfold change
    split
    · right
      rename_i hc
      have : 0 ≤ (look W.near (at_ x i) (at_ y j)).getD W.chg ∧ (look W.near (at_ x i) (at_ y j)).getD W.chg ≤ 1000 := by
        cases hl : look W.near (at_ x i) (at_ y j) with
        | none => simp; omega
        | some c => simpa using look_le h hl
      simp; omega
    · left; simp
  · unfold insert
    split
    · right; simp; omega
    · left; simp
  · unfold delete
    split
    · right; simp; omega
    · left; simp
  · unfold swap
    split
    · right; simp; omega
    · left; simp
/-- D is the table of the distances: each place out of the places behind it -/
structure IsDist (W : Wt) (x y : List UInt8) (D : Nat → Nat → Int) : Prop where
  rec_ : ∀ (i j : Nat) (T : Nat → Nat → Int), i ≤ x.length → j ≤ y.length → (∀ i' j', i' ≤ x.length → j' ≤ y.length → i ≤ i' → j ≤ j' → i + j < i' + j' → T i' j' = D i' j') → max (best T i j (W.steps x y i j)) 0 = D i j
  lo : ∀ i j, 0 ≤ D i j
  hi : ∀ i j, i ≤ x.length → j ≤ y.length → D i j ≤ 1000000
end Wt
end Go.Proofs.Ytnpdhbagfkilkaa

/- Walks: the editor's steps, joined; the table. -/
set_option linter.unusedVariables false
set_option linter.unusedSimpArgs false
namespace Go.Proofs.Ytnpdhbagfkilkaa
open Go.RowKit

theorem near_look {W : Wt} (hW : W.valid = true) (a b : Int) :
    (lacks (nearMap W.near) (pairKey .u8 a b) ∧ Wt.look W.near a b = none) ∨ ∃ c, has (nearMap W.near) (pairKey .u8 a b) (.int .i64 c) ∧ Wt.look W.near a b = some c := by
  unfold Wt.look
  cases hf : W.near.find? (fun n => (n.1 == a && n.2.1 == b) || (n.1 == b && n.2.1 == a)) with
  | none =>
    refine .inl ⟨fun y hy e => ?_, rfl⟩
    rw [List.find?_eq_none] at hf
    obtain ⟨n, hn, hy⟩ := List.mem_flatMap.1 hy
    have h := hf n hn
    simp only [List.mem_cons, List.not_mem_nil, or_false] at hy
    rcases hy with rfl | rfl
    · have := pairKey_inj e
      simp [this] at h
    · have := pairKey_inj e
      simp [this] at h
  | some n =>
    refine .inr ⟨n.2.2, ?_, rfl⟩
    have hn := List.mem_of_find?_eq_some hf
    have h := List.find?_some hf
    simp only [Bool.or_eq_true, Bool.and_eq_true, beq_iff_eq] at h
    refine List.mem_flatMap.2 ⟨n, hn, ?_⟩
    rcases h with ⟨rfl, rfl⟩ | ⟨rfl, rfl⟩ <;> simp

theorem steps_any (W : Wt) (hW : W.valid = true) (x y : ByteArray) (A : Option Addr) (n c g m i j : Nat) (w : World) (hE : Ed w g m W A n c x y) (hx : x.size ≤ 120) (hy : y.size ≤ 120) (hi : i ≤ x.size) (hj : j ≤ y.size) :
    Calls Try.prog 31 #[.pointer (some ⟨g, 0, none⟩), .int .i64 i, .int .i64 j] w fun e w' => e = .returned (.agg (stepArr (W.steps x.data.toList y.data.toList i j))) ∧ Below w.heap.size w w' := by
  by_cases hij : i < x.size
  · by_cases hjj : j < y.size
    · by_cases hab : x[i].toNat = y[j].toNat
      · rcases near_look hW x[i].toNat y[j].toNat with ⟨hl0, _⟩ | ⟨c0, hh, _⟩
        · by_cases hl : i + 1 < x.size
          · by_cases hr : j + 1 < y.size
            · exact stepsDno3 W hW x y A n c g m i j w hE hx hy hi hj hij hjj hab hl0 hl hr
            · exact stepsDno2 W hW x y A n c g m i j w hE hx hy hi hj hij hjj hab hl0 hl hr
          · exact stepsDno1 W hW x y A n c g m i j w hE hx hy hi hj hij hjj hab hl0 hl
        · by_cases hl : i + 1 < x.size
          · by_cases hr : j + 1 < y.size
            · exact stepsDyes3 W hW x y A n c g m i j w hE hx hy hi hj hij hjj hab c0 hh hl hr
            · exact stepsDyes2 W hW x y A n c g m i j w hE hx hy hi hj hij hjj hab c0 hh hl hr
          · exact stepsDyes1 W hW x y A n c g m i j w hE hx hy hi hj hij hjj hab c0 hh hl
      · rcases near_look hW x[i].toNat y[j].toNat with ⟨hl0, hk⟩ | ⟨c0, hh, hk⟩
        · by_cases hl : i + 1 < x.size
          · by_cases hr : j + 1 < y.size
            · by_cases hc : x[i].toNat = y[j + 1].toNat
              · by_cases hd : x[i + 1].toNat = y[j].toNat
                · exact stepsEno5 W hW x y A n c g m i j w hE hx hy hi hj hij hjj hab hl0 hk hl hr hc hd
                · exact stepsEno4 W hW x y A n c g m i j w hE hx hy hi hj hij hjj hab hl0 hk hl hr hc hd
              · exact stepsEno3 W hW x y A n c g m i j w hE hx hy hi hj hij hjj hab hl0 hk hl hr hc
            · exact stepsEno2 W hW x y A n c g m i j w hE hx hy hi hj hij hjj hab hl0 hk hl hr
          · exact stepsEno1 W hW x y A n c g m i j w hE hx hy hi hj hij hjj hab hl0 hk hl
        · by_cases hl : i + 1 < x.size
          · by_cases hr : j + 1 < y.size
            · by_cases hc : x[i].toNat = y[j + 1].toNat
              · by_cases hd : x[i + 1].toNat = y[j].toNat
                · exact stepsEyes5 W hW x y A n c g m i j w hE hx hy hi hj hij hjj hab c0 hh hk hl hr hc hd
                · exact stepsEyes4 W hW x y A n c g m i j w hE hx hy hi hj hij hjj hab c0 hh hk hl hr hc hd
              · exact stepsEyes3 W hW x y A n c g m i j w hE hx hy hi hj hij hjj hab c0 hh hk hl hr hc
            · exact stepsEyes2 W hW x y A n c g m i j w hE hx hy hi hj hij hjj hab c0 hh hk hl hr
          · exact stepsEyes1 W hW x y A n c g m i j w hE hx hy hi hj hij hjj hab c0 hh hk hl
    · exact stepsC W hW x y A n c g m i j w hE hx hy hi hj hij hjj
  · by_cases hjj : j < y.size
    · exact stepsB W hW x y A n c g m i j w hE hx hy hi hj hij hjj
    · exact stepsA W hW x y A n c g m i j w hE hx hy hi hj hij hjj

/-! the table -/
def rowArr (f : Nat → Int) (k : Nat) : Array Value := ((List.range k).map fun j => Value.int .i64 (f j)).toArray
theorem rowArr_get (f : Nat → Int) {k j : Nat} (h : j < k) : (rowArr f k)[j]? = some (.int .i64 (f j)) := by
  simp [rowArr, h]
theorem rowArr_set (f : Nat → Int) {k j : Nat} (v : Int) : (rowArr f k).setIfInBounds j (.int .i64 v) = rowArr (fun q => if q = j then v else f q) k := by
  apply Array.ext_getElem?
  intro i
  simp only [rowArr, Array.getElem?_setIfInBounds, List.getElem?_toArray, List.getElem?_map, List.getElem?_range, List.size_toArray, List.length_map, List.length_range]
  by_cases h : j = i
  · subst h
    by_cases hk : j < k <;> simp [hk, List.getElem?_range]
  · by_cases hk : i < k
    · simp [h, hk, List.getElem?_range, show i ≠ j from fun e => h e.symm]
    · simp [h, hk, List.getElem?_range]
theorem rowArr_made (k : Nat) : madeCells #[Value.int .i64 0] k = rowArr (fun _ => 0) k := by
  apply Array.ext_getElem?
  intro i
  simp only [madeCells, rowArr, Array.getElem?_map, List.getElem?_toArray, List.getElem?_map]
  by_cases h : i < k
  · simp [h, Nat.mod_one]
  · simp [h]
/-- the rows' slices: the first k rows are laid, row i in block T + 1 + i -/
def slots (T n mm k : Nat) : Array Value := ((List.range n).map fun i => if i < k then Value.slice (some ⟨T + 1 + i, 0, none⟩) mm mm else .slice none 0 0).toArray
theorem slots_get {T n mm k i : Nat} (h : i < n) : (slots T n mm k)[i]? = some (if i < k then Value.slice (some ⟨T + 1 + i, 0, none⟩) mm mm else .slice none 0 0) := by
  simp [slots, h]
theorem slots_set {T n mm k : Nat} : (slots T n mm k).setIfInBounds k (.slice (some ⟨T + 1 + k, 0, none⟩) mm mm) = slots T n mm (k + 1) := by
  apply Array.ext_getElem?
  intro i
  simp only [slots, Array.getElem?_setIfInBounds, List.getElem?_toArray, List.getElem?_map, List.size_toArray, List.length_map, List.length_range]
  by_cases h : k = i
  · subst h
    by_cases hk : k < n <;> simp [hk, List.getElem?_range]
  · by_cases hk : i < n
    · by_cases h1 : i < k
      · simp [h, hk, h1, List.getElem?_range, show i < k + 1 by omega]
      · simp [h, hk, h1, List.getElem?_range, show ¬ i < k + 1 by omega]
    · simp [h, hk, List.getElem?_range]
theorem slots_made (T n mm : Nat) : madeCells #[Value.slice none 0 0] n = slots T n mm 0 := by
  apply Array.ext_getElem?
  intro i
  simp only [madeCells, slots, Array.getElem?_map, List.getElem?_toArray, List.getElem?_map]
  by_cases h : i < n
  · simp [h, Nat.mod_one]
  · simp [h]

/-- a table of n rows of mm integers: the rows' slices in block T, row i in block T + 1 + i -/
structure Grid (w : World) (T n mm k : Nat) (f : Nat → Nat → Int) : Prop where
  top : Blk w T 25 (slots T n mm k)
  row : ∀ i, i < k → Blk w (T + 1 + i) 3 (rowArr (f i) mm)
theorem Grid.slot {w : World} {T n mm k : Nat} {f : Nat → Nat → Int} (h : Grid w T n mm k f) {i : Nat} (hi : i < k) (hn : i < n) : w.cell? ⟨T, i, none⟩ = some (.slice (some ⟨T + 1 + i, 0, none⟩) mm mm) := by
  rw [h.top.cell, slots_get hn, if_pos hi]
theorem Grid.cell {w : World} {T n mm k : Nat} {f : Nat → Nat → Int} (h : Grid w T n mm k f) {i j : Nat} (hi : i < k) (hj : j < mm) : w.cell? ⟨T + 1 + i, j, none⟩ = some (.int .i64 (f i j)) := by
  rw [(h.row i hi).cell, rowArr_get _ hj]
theorem Grid.below {w w' : World} {T n mm k B : Nat} {f : Nat → Nat → Int} (h : Grid w T n mm k f) (hb : Below B w w') (hB : T + 1 + k ≤ B) : Grid w' T n mm k f :=
  ⟨h.top.below hb (by omega), fun i hi => (h.row i hi).below hb (by omega)⟩
theorem Grid.put {w : World} {T n mm : Nat} {f : Nat → Nat → Int} (h : Grid w T n mm n f) {i j : Nat} (hi : i < n) (v : Int) : Grid (w.setCell ⟨T + 1 + i, j, none⟩ (.int .i64 v)) T n mm n (fun p q => if p = i ∧ q = j then v else f p q) := by
  refine ⟨h.top.far (by show T ≠ T + 1 + i; omega) _, fun p hp => ?_⟩
  by_cases e : p = i
  · subst e
    have := (h.row p hp).set_ j (.int .i64 v)
    rw [rowArr_set] at this
    have e2 : (fun q => if p = p ∧ q = j then v else f p q) = fun q => if q = j then v else f p q := by funext q; simp
    rw [e2]
    exact this
  · have e2 : (fun q => if p = i ∧ q = j then v else f p q) = f p := by funext q; simp [e]
    rw [e2]
    exact (h.row p hp).far (by show T + 1 + p ≠ T + 1 + i; omega) _

theorem info_int : (Try.prog.info? 3).map (fun i => (i.zero, i.size, i.bytes)) = some (some (.int .i64 0), 1, 8) := by kernel_rfl
theorem info_ints : (Try.prog.info? 25).map (fun i => (i.zero, i.size, i.bytes)) = some (some (.slice none 0 0), 1, 24) := by kernel_rfl
theorem run_make_any {P : Program} {t e : TypeId} {z : Value} {sz : Nat} (ht : P.underlying t = some (.slice e)) (hinfo : (P.info? e).map (fun i => (i.zero, i.size, i.bytes)) = some (some z, 1, sz)) (hz : z.cells = #[z]) {N : Int} {n : Nat} (hN : N = n) (hn : n * sz ≤ 281474976710656) (hn2 : n ≤ 9223372036854775807) (w : World) :
    (Instr.makeSlice t (.int .i64 N) (.int .i64 N)).run P w = .ok (.slice (some ⟨w.heap.size, 0, none⟩) n n) (w.alloc (.cells (madeCells #[z] n) e)) := by
  subst hN
  obtain ⟨i0, hi, hz0, hz1, hz2⟩ := info_parts hinfo
  have hb : (i0.bytes : Int) * (n : Int) ≤ 281474976710656 := by
    have h : ((n * sz : Nat) : Int) ≤ 281474976710656 := by omega
    rwa [Int.natCast_mul, Int.mul_comm, ← hz2] at h
  have h := run_make (P := P) w t e i0 z ht hi hz0 .i64 .i64 (n : Int) (n : Int) (by omega) (by omega) hb (by omega)
  simp only [Int.toNat_natCast, hz1, Nat.mul_one, hz] at h
  exact h
theorem index_step (l : List (Int × Int × Int)) (hl : l.length = 6) {k : Nat} {a b c : Int} (hk : l[k]? = some (a, b, c)) (w : World) :
    (Instr.index 53 (.agg (stepArr l)) (.int .i64 k)).run Try.prog w = .ok (.agg #[.int .i64 a, .int .i64 b, .int .i64 c]) w := by
  match l, hl with
  | [(a0, b0, c0), (a1, b1, c1), (a2, b2, c2), (a3, b3, c3), (a4, b4, c4), (a5, b5, c5)], _ =>
    match k with
    | 0 => simp at hk; obtain ⟨rfl, rfl, rfl⟩ := hk; show _ = _; kernel_rfl
    | 1 => simp at hk; obtain ⟨rfl, rfl, rfl⟩ := hk; show _ = _; kernel_rfl
    | 2 => simp at hk; obtain ⟨rfl, rfl, rfl⟩ := hk; show _ = _; kernel_rfl
    | 3 => simp at hk; obtain ⟨rfl, rfl, rfl⟩ := hk; show _ = _; kernel_rfl
    | 4 => simp at hk; obtain ⟨rfl, rfl, rfl⟩ := hk; show _ = _; kernel_rfl
    | 5 => simp at hk; obtain ⟨rfl, rfl, rfl⟩ := hk; show _ = _; kernel_rfl
    | k + 6 => simp at hk

end Go.Proofs.Ytnpdhbagfkilkaa

/- Walks: the editor's table. -/
set_option linter.unusedVariables false
set_option linter.unusedSimpArgs false
namespace Go.Proofs.Ytnpdhbagfkilkaa
open Go.RowKit

/-- while the rows are laid -/
structure RowsRel (wr w : World) (g m : Nat) (W : Wt) (A : Option Addr) (n c : Nat) (x y : ByteArray) (k : Nat) : Prop where
  grid : Grid wr w.heap.size (x.size + 1) (y.size + 1) k (fun _ _ => 0)
  size : wr.heap.size = w.heap.size + 1 + k
  bel : Below w.heap.size w wr
  ed : Ed wr g m W A n c x y
theorem RowsRel.start {w : World} {g m : Nat} {W : Wt} {A : Option Addr} {n c : Nat} {x y : ByteArray} (h : Ed w g m W A n c x y) :
    RowsRel (w.alloc (.cells (madeCells #[.slice none 0 0] (x.size + 1)) 25)) w g m W A n c x y 0 := by
  have hb : Below w.heap.size w (w.alloc (.cells (madeCells #[.slice none 0 0] (x.size + 1)) 25)) := (Below.refl _ _).alloc (Nat.le_refl _) _
  refine ⟨⟨?_, fun i hi => by omega⟩, by simp, hb, h.below hb h.blk.lt h.map.lt⟩
  rw [slots_made w.heap.size _ (y.size + 1)]
  exact Blk.new _ _ _
theorem RowsRel.next {wr w : World} {g m : Nat} {W : Wt} {A : Option Addr} {n c : Nat} {x y : ByteArray} {k : Nat} (h : RowsRel wr w g m W A n c x y k) (hk : k < x.size + 1) (hg : g < w.heap.size) (hm : m < w.heap.size) :
    RowsRel ((wr.setCell ⟨w.heap.size, k, none⟩ (.slice (some ⟨wr.heap.size, 0, none⟩) (y.size + 1) (y.size + 1))).alloc (.cells (madeCells #[.int .i64 0] (y.size + 1)) 3)) w g m W A n c x y (k + 1) := by
  have hs := h.size
  have hsz : (wr.setCell ⟨w.heap.size, k, none⟩ (.slice (some ⟨wr.heap.size, 0, none⟩) (y.size + 1) (y.size + 1))).heap.size = wr.heap.size := by simp [World.setCell]
  have hb1 : Below w.heap.size wr (wr.setCell ⟨w.heap.size, k, none⟩ (.slice (some ⟨wr.heap.size, 0, none⟩) (y.size + 1) (y.size + 1))) := (Below.refl _ _).setCell (p := ⟨w.heap.size, k, none⟩) (Nat.le_refl _) _
  have hb := hb1.alloc (by rw [hsz, hs]; omega) (.cells (madeCells #[.int .i64 0] (y.size + 1)) 3)
  refine ⟨⟨?_, fun i hi => ?_⟩, by simp [hsz, hs]; omega, h.bel.trans hb, h.ed.below hb hg hm⟩
  · have := (h.grid.top.set_ k (.slice (some ⟨wr.heap.size, 0, none⟩) (y.size + 1) (y.size + 1))).alloc (.cells (madeCells #[.int .i64 0] (y.size + 1)) 3)
    rw [hs, slots_set] at this
    rw [hs]
    exact this
  · by_cases e : i = k
    · subst e
      have := Blk.new (wr.setCell ⟨w.heap.size, i, none⟩ (.slice (some ⟨wr.heap.size, 0, none⟩) (y.size + 1) (y.size + 1))) 3 (madeCells #[.int .i64 0] (y.size + 1))
      rw [hsz, rowArr_made] at this
      rw [rowArr_made]
      rw [hs] at this ⊢
      exact this
    · exact ((h.grid.row i (by omega)).far (by show w.heap.size + 1 + i ≠ w.heap.size; omega) _).alloc _

/-- while the table is filled: rows from q on, and the row before from p on, are done -/
structure FillRel (wr w : World) (g m : Nat) (W : Wt) (A : Option Addr) (n c : Nat) (x y : ByteArray) (D : Nat → Nat → Int) (q p : Nat) : Prop where
  grid : ∃ f, Grid wr w.heap.size (x.size + 1) (y.size + 1) (x.size + 1) f ∧ ∀ i j, i ≤ x.size → j ≤ y.size → (q ≤ i ∨ (i + 1 = q ∧ p ≤ j)) → f i j = D i j
  size : w.heap.size + 1 + (x.size + 1) ≤ wr.heap.size
  bel : Below w.heap.size w wr
  ed : Ed wr g m W A n c x y
theorem FillRel.below {wr w' w : World} {g m : Nat} {W : Wt} {A : Option Addr} {n c : Nat} {x y : ByteArray} {D : Nat → Nat → Int} {q p : Nat} (h : FillRel wr w g m W A n c x y D q p) (hb : Below wr.heap.size wr w') (hg : g < w.heap.size) (hm : m < w.heap.size) :
    FillRel w' w g m W A n c x y D q p := by
  obtain ⟨f, hf, hd⟩ := h.grid
  exact ⟨⟨f, hf.below hb h.size, hd⟩, Nat.le_trans h.size hb.size, h.bel.trans (hb.mono h.bel.size), h.ed.below hb (Nat.lt_of_lt_of_le hg h.bel.size) (Nat.lt_of_lt_of_le hm h.bel.size)⟩
theorem FillRel.cells {wr w : World} {g m : Nat} {W : Wt} {A : Option Addr} {n c : Nat} {x y : ByteArray} {D : Nat → Nat → Int} {q p : Nat} (h : FillRel wr w g m W A n c x y D q p) {i j : Nat} (hi : i ≤ x.size) (hj : j ≤ y.size) (hq : q ≤ i ∨ (i + 1 = q ∧ p ≤ j)) :
    wr.cell? ⟨w.heap.size, i, none⟩ = some (.slice (some ⟨w.heap.size + 1 + i, 0, none⟩) (y.size + 1) (y.size + 1)) ∧ wr.cell? ⟨w.heap.size + 1 + i, j, none⟩ = some (.int .i64 (D i j)) := by
  obtain ⟨f, hf, hd⟩ := h.grid
  refine ⟨hf.slot (by omega) (by omega), ?_⟩
  rw [hf.cell (by omega) (by omega), hd i j hi hj hq]
theorem FillRel.place {wr w : World} {g m : Nat} {W : Wt} {A : Option Addr} {n c : Nat} {x y : ByteArray} {D : Nat → Nat → Int} {q p : Nat} (h : FillRel wr w g m W A n c x y D q p) {i j : Nat} (hi : i ≤ x.size) (hj : j ≤ y.size) :
    wr.cell? ⟨w.heap.size, i, none⟩ = some (.slice (some ⟨w.heap.size + 1 + i, 0, none⟩) (y.size + 1) (y.size + 1)) ∧ (∃ v, wr.cell? ⟨w.heap.size + 1 + i, j, none⟩ = some (.int .i64 v)) ∧ wr.frozen? ⟨w.heap.size + 1 + i, j, none⟩ = false := by
  obtain ⟨f, hf, hd⟩ := h.grid
  exact ⟨hf.slot (by omega) (by omega), ⟨_, hf.cell (by omega) (by omega)⟩, (hf.row i (by omega)).frozen _⟩
theorem vint {k : IntKind} {a b : Int} (h : a = b) : Value.int k a = Value.int k b := by rw [h]
/-- the best of the first k steps -/
def bestOf (W : Wt) (x y : ByteArray) (D : Nat → Nat → Int) (i j k : Nat) : Int := ((W.steps x.data.toList y.data.toList i j).take k).foldl (Wt.bestStep D i j) (-1)
theorem bestOf_zero (W : Wt) (x y : ByteArray) (D : Nat → Nat → Int) (i j : Nat) : bestOf W x y D i j 0 = -1 := rfl
theorem steps_length (W : Wt) (x y : List UInt8) (i j : Nat) : (W.steps x y i j).length = 6 := rfl
theorem bestOf_succ {W : Wt} {x y : ByteArray} {D : Nat → Nat → Int} {i j k : Nat} {s : Int × Int × Int} (h : (W.steps x.data.toList y.data.toList i j)[k]? = some s) : bestOf W x y D i j (k + 1) = Wt.bestStep D i j (bestOf W x y D i j k) s := by
  have hk : k < (W.steps x.data.toList y.data.toList i j).length := (List.getElem?_eq_some_iff.1 h).1
  have he : (W.steps x.data.toList y.data.toList i j)[k] = s := (List.getElem?_eq_some_iff.1 h).2
  unfold bestOf
  rw [List.take_succ_eq_append_getElem hk, List.foldl_append, he]
  rfl
theorem bestOf_six {W : Wt} {x y : ByteArray} {D : Nat → Nat → Int} (hD : W.IsDist x.data.toList y.data.toList D) {i j : Nat} (hi : i ≤ x.size) (hj : j ≤ y.size) : max (bestOf W x y D i j 6) 0 = D i j := by
  have := hD.rec_ i j D (by simpa using hi) (by simpa using hj) (fun _ _ _ _ _ _ _ => rfl)
  exact this
theorem FillRel.put {wr w : World} {g m : Nat} {W : Wt} {A : Option Addr} {n c : Nat} {x y : ByteArray} {D : Nat → Nat → Int} {i j : Nat} (h : FillRel wr w g m W A n c x y D (i + 1) (j + 1)) (hi : i ≤ x.size) (hg : g < w.heap.size) (hm : m < w.heap.size) {v : Int} (hv : v = D i j) :
    FillRel (wr.setCell ⟨w.heap.size + 1 + i, j, none⟩ (.int .i64 v)) w g m W A n c x y D (i + 1) j := by
  obtain ⟨f, hf, hd⟩ := h.grid
  have hb : Below w.heap.size wr (wr.setCell ⟨w.heap.size + 1 + i, j, none⟩ (.int .i64 v)) := (Below.refl _ _).setCell (by show w.heap.size ≤ w.heap.size + 1 + i; omega) _
  refine ⟨⟨_, hf.put (by omega) v, fun i' j' hi' hj' hq => ?_⟩, by simpa [World.setCell] using h.size, h.bel.trans hb, h.ed.below hb hg hm⟩
  by_cases e : i' = i ∧ j' = j
  · rw [if_pos e, e.1, e.2]; exact hv
  · rw [if_neg e]
    exact hd i' j' hi' hj' (by omega)
theorem FillRel.nextRow {wr w : World} {g m : Nat} {W : Wt} {A : Option Addr} {n c : Nat} {x y : ByteArray} {D : Nat → Nat → Int} {i : Nat} (h : FillRel wr w g m W A n c x y D (i + 1) 0) : FillRel wr w g m W A n c x y D i (y.size + 1) := by
  obtain ⟨f, hf, hd⟩ := h.grid
  exact ⟨⟨f, hf, fun i' j' hi hj hq => hd i' j' hi hj (by omega)⟩, h.size, h.bel, h.ed⟩

/-- the loops' relations, behind names -/
def IRel (wr w : World) (g m : Nat) (W : Wt) (A : Option Addr) (n c : Nat) (x y : ByteArray) (D : Nat → Nat → Int) (t5 : Value) : Prop :=
  (∃ i : Nat, i ≤ x.size ∧ t5 = .int .i64 i ∧ FillRel wr w g m W A n c x y D (i + 1) (y.size + 1)) ∨ (t5 = .int .i64 (-1) ∧ FillRel wr w g m W A n c x y D 0 (y.size + 1))
def JRel (wr w : World) (g m : Nat) (W : Wt) (A : Option Addr) (n c : Nat) (x y : ByteArray) (D : Nat → Nat → Int) (i : Nat) (t6 : Value) : Prop :=
  (∃ j : Nat, j ≤ y.size ∧ t6 = .int .i64 j ∧ FillRel wr w g m W A n c x y D (i + 1) (j + 1)) ∨ (t6 = .int .i64 (-1) ∧ FillRel wr w g m W A n c x y D (i + 1) 0)
def KRel (wr w : World) (g m : Nat) (W : Wt) (A : Option Addr) (n c : Nat) (x y : ByteArray) (D : Nat → Nat → Int) (i j : Nat) (t7 t56 : Value) : Prop :=
  ∃ k : Nat, k ≤ 6 ∧ t56 = .int .i64 k ∧ ∃ b : Int, t7 = .int .i64 b ∧ b = bestOf W x y D i j k ∧ -1 ≤ b ∧ b ≤ 1001000 ∧ FillRel wr w g m W A n c x y D (i + 1) (j + 1)

theorem JRel.mk {wr w : World} {g m : Nat} {W : Wt} {A : Option Addr} {n c : Nat} {x y : ByteArray} {D : Nat → Nat → Int} {i j : Nat} (hj : j ≤ y.size) (h : FillRel wr w g m W A n c x y D (i + 1) j) : JRel wr w g m W A n c x y D i (.int .i64 ((j : Int) - 1)) := by
  cases j with
  | zero => exact .inr ⟨vint (by omega), h⟩
  | succ j => exact .inl ⟨j, by omega, vint (by omega), h⟩
theorem IRel.mk {wr w : World} {g m : Nat} {W : Wt} {A : Option Addr} {n c : Nat} {x y : ByteArray} {D : Nat → Nat → Int} {i : Nat} (hi : i ≤ x.size) (h : FillRel wr w g m W A n c x y D i (y.size + 1)) : IRel wr w g m W A n c x y D (.int .i64 ((i : Int) - 1)) := by
  cases i with
  | zero => exact .inr ⟨vint (by omega), h⟩
  | succ i => exact .inl ⟨i, by omega, vint (by omega), h⟩

set_option maxHeartbeats 1000000 in
set_option maxRecDepth 100000 in
theorem table_any (W : Wt) (hW : W.valid = true) (x y : ByteArray) (A : Option Addr) (n c g m : Nat) (w : World) (hE : Ed w g m W A n c x y) (hx : x.size ≤ 120) (hy : y.size ≤ 120) (D : Nat → Nat → Int) (hD : W.IsDist x.data.toList y.data.toList D) :
    Calls Try.prog 28 #[.pointer (some ⟨g, 0, none⟩)] w fun e w' => e = .returned (.slice (some ⟨w.heap.size, 0, none⟩) (x.size + 1) (x.size + 1)) ∧ FillRel w' w g m W A n c x y D 0 0 := by
  have hg := hE.blk.lt
  have hm := hE.map.lt
  obtain ⟨_, _, _, _, _, e6, e7⟩ := hE.facts
  have HS := hide (RowsRel.start hE)
  have HW := hide hW
  have HD := hide hD
  clear hE hW hD
  have hmk := fun w => run_make_any (P := Try.prog) Try.underlying46 info_ints rfl (N := (x.size : Int) + 1) (n := x.size + 1) (by omega) (by omega) (by omega) w
  have hmr := fun w => run_make_any (P := Try.prog) Try.underlying25 info_int rfl (N := (y.size : Int) + 1) (n := y.size + 1) (by omega) (by omega) (by omega) w
  go_enter Try.func28, Try.ntmps28
  go_wp2
  go_loopw [20] (fun i wr => ∃ k : Nat, k ≤ x.size + 1 ∧ i = .int .i64 k ∧ RowsRel wr w g m W A n c x y k) (fun i _ => x.size + 1 - (intOf i).toNat)
  case atStart => exact ⟨0, by omega, rfl, HS.out⟩
  case round =>
    obtain ⟨k, hk, rfl, hrel⟩ := hrel
    obtain ⟨_, _, _, _, _, e6, e7⟩ := hrel.ed.facts
    by_cases hlt : k < x.size + 1
    · have d0 : wr.cell? ⟨w.heap.size, k, none⟩ = some (.slice none 0 0) := by
        have := hrel.grid.top.cell k
        rwa [slots_get hlt, if_neg (by omega)] at this
      have d1 : wr.frozen? ⟨w.heap.size, k, none⟩ = false := hrel.grid.top.frozen _
      have hz : w.heap.size < wr.heap.size := hrel.grid.top.lt
      have Hn := hide (hrel.next hlt hg hm)
      clear hrel
      go_wp2
      go_roundw
      case rel => exact ⟨k + 1, by omega, by go_num, Hn.out⟩
      case measure => simp [intOf]; omega
    · obtain rfl : k = x.size + 1 := by omega
      have HR : Hid (FillRel wr w g m W A n c x y D (x.size + 1) (y.size + 1)) := ⟨⟨_, hrel.grid, fun i j hi hj hq => by omega⟩, by rw [hrel.size]; omega, hrel.bel, hrel.ed⟩
      clear hrel
      go_wp2
      clear hlt hk
      go_loopw [5] (fun t5 wr => IRel wr w g m W A n c x y D t5) (fun t5 _ => (intOf t5 + 1).toNat)
      case atStart => exact .inl ⟨x.size, Nat.le_refl _, rfl, HR.out⟩
      case round =>
        clear HR
        rcases hrel with ⟨i, hi, rfl, hrel⟩ | ⟨rfl, hrel⟩
        · obtain ⟨_, _, _, _, _, e6, e7⟩ := hrel.ed.facts
          have HR := hide hrel
          clear hrel
          go_wp2
          go_loopw [6] (fun t6 wr => JRel wr w g m W A n c x y D i t6) (fun t6 _ => (intOf t6 + 1).toNat)
          case atStart => exact .inl ⟨y.size, Nat.le_refl _, rfl, HR.out⟩
          case round =>
            clear HR e6 e7
            rcases hrel with ⟨j, hj, rfl, hrel⟩ | ⟨rfl, hrel⟩
            · have HR := hide hrel
              have hEd := hide hrel.ed
              clear hrel
              go_wp2_with (go_at_call 31; refine (steps_any W HW.out x y A n c g m i j _ hEd.out hx hy hi hj).mono ?_; rintro e w1 ⟨rfl, hb1⟩; have HF1 := hide (HR.out.below hb1 hg hm); clear hb1 HR hEd)
              go_loopw [7, 56] (fun t7 t56 wr => KRel wr w g m W A n c x y D i j t7 t56) (fun _ t56 _ => 6 - (intOf t56).toNat)
              case atStart => exact ⟨0, by omega, rfl, -1, rfl, rfl, by omega, by omega, HF1.out⟩
              case round =>
                clear HF1
                obtain ⟨k, hk, rfl, b, rfl, hb, hb1, hb2, hrel⟩ := hrel
                by_cases hlt : k < 6
                · obtain ⟨sc, sa, sb, hs, hfit⟩ : ∃ sc sa sb, (W.steps x.data.toList y.data.toList i j)[k]? = some (sc, sa, sb) ∧ Wt.fits x.data.toList y.data.toList i j (sc, sa, sb) := by
                    have hl : k < (W.steps x.data.toList y.data.toList i j).length := hlt
                    exact ⟨_, _, _, List.getElem?_eq_getElem hl, Wt.steps_fit HW.out (by simpa using hi) (by simpa using hj) _ (List.getElem_mem hl)⟩
                  have hix := fun w => index_step _ (steps_length W x.data.toList y.data.toList i j) hs w
                  have HB := hide (hb ▸ bestOf_succ (D := D) hs)
                  have Hb := hide hb
                  clear hb
                  by_cases hneg : sc < 0
                  · have HR := hide hrel
                    clear hrel hfit hs
                    go_wp2
                    go_roundw
                    case rel => exact ⟨k + 1, by omega, by go_num, b, rfl, by rw [HB.out]; simp [Wt.bestStep, hneg], hb1, hb2, HR.out.below ((Below.refl _ _).alloc (Nat.le_refl _) _) hg hm⟩
                    case measure => simp [intOf]; omega
                  · have hf : sc ≤ 1000 ∧ 0 ≤ sa ∧ 0 ≤ sb ∧ 0 < sa + sb ∧ i + sa ≤ x.size ∧ j + sb ≤ y.size := by
                      have := hfit.resolve_left hneg
                      simpa using this
                    clear hfit hs
                    obtain ⟨f1, f2, f3, f4, f5, f6⟩ := hf
                    obtain ⟨na, rfl⟩ := Int.eq_ofNat_of_zero_le f2
                    obtain ⟨nb, rfl⟩ := Int.eq_ofNat_of_zero_le f3
                    have hi2 : i + na ≤ x.size := by omega
                    have hj2 : j + nb ≤ y.size := by omega
                    obtain ⟨p1, p2⟩ := hrel.cells hi2 hj2 (by omega)
                    have q1 := HD.out.lo (i + na) (j + nb)
                    have q2 := HD.out.hi (i + na) (j + nb) (by simpa using hi2) (by simpa using hj2)
                    have hz : w.heap.size + 1 + (x.size + 1) ≤ wr.heap.size := hrel.size
                    have hz1 : w.heap.size < wr.heap.size := by omega
                    have hz2 : w.heap.size + 1 + (i + na) < wr.heap.size := by omega
                    have HR := hide hrel
                    clear hrel
                    have HS1 : Hid (bestOf W x y D i j (k + 1) = Wt.better b (sc + D (i + na) (j + nb))) := by
                      show _ = _
                      rw [HB.out]; simp [Wt.bestStep, hneg]
                    clear HB
                    generalize D (i + na) (j + nb) = dv at *
                    by_cases t1 : b < 0
                    · have HS2 : Hid (bestOf W x y D i j (k + 1) = sc + dv) := by
                        show _ = _
                        rw [HS1.out]; simp [Wt.better, t1]
                      clear HS1
                      go_wp2
                      have s1 : IntKind.i64.wrap ((i : Int) + (na : Int)) = (i : Int) + (na : Int) := IntWalk.i64_in _ (by omega)
                      have s2 : 0 ≤ (i : Int) + (na : Int) := by omega
                      have s3 : (i : Int) + (na : Int) < (x.size : Int) + 1 := by omega
                      have s4 : ((i : Int) + (na : Int)).toNat = i + na := by omega
                      have s5 : IntKind.i64.wrap ((j : Int) + (nb : Int)) = (j : Int) + (nb : Int) := IntWalk.i64_in _ (by omega)
                      have s6 : 0 ≤ (j : Int) + (nb : Int) := by omega
                      have s7 : (j : Int) + (nb : Int) < (y.size : Int) + 1 := by omega
                      have s8 : ((j : Int) + (nb : Int)).toNat = j + nb := by omega
                      have s9 : IntKind.i64.wrap (sc + dv) = sc + dv := IntWalk.i64_in _ (by omega)
                      go_quiet (fail)
                      clear s1 s2 s3 s4 s5 s6 s7 s8 s9
                      go_wp2
                      go_roundw
                      case rel => exact ⟨k + 1, by omega, by go_num, _, rfl, HS2.out.symm, by omega, by omega, HR.out.below (below_drewN ((Below.refl _ _).alloc (Nat.le_refl _) _) _) hg hm⟩
                      case measure => simp [intOf]; omega
                    · by_cases t2 : sc + dv < b
                      · have HS2 : Hid (bestOf W x y D i j (k + 1) = sc + dv) := by
                          show _ = _
                          rw [HS1.out]; simp [Wt.better, t2]
                        clear HS1
                        go_wp2
                        have s1 : IntKind.i64.wrap ((i : Int) + (na : Int)) = (i : Int) + (na : Int) := IntWalk.i64_in _ (by omega)
                        have s2 : 0 ≤ (i : Int) + (na : Int) := by omega
                        have s3 : (i : Int) + (na : Int) < (x.size : Int) + 1 := by omega
                        have s4 : ((i : Int) + (na : Int)).toNat = i + na := by omega
                        have s5 : IntKind.i64.wrap ((j : Int) + (nb : Int)) = (j : Int) + (nb : Int) := IntWalk.i64_in _ (by omega)
                        have s6 : 0 ≤ (j : Int) + (nb : Int) := by omega
                        have s7 : (j : Int) + (nb : Int) < (y.size : Int) + 1 := by omega
                        have s8 : ((j : Int) + (nb : Int)).toNat = j + nb := by omega
                        have s9 : IntKind.i64.wrap (sc + dv) = sc + dv := IntWalk.i64_in _ (by omega)
                        go_quiet (fail)
                        clear s1 s2 s3 s4 s5 s6 s7 s8 s9
                        go_wp2
                        go_roundw
                        case rel => exact ⟨k + 1, by omega, by go_num, _, rfl, HS2.out.symm, by omega, by omega, HR.out.below (below_drewN ((Below.refl _ _).alloc (Nat.le_refl _) _) _) hg hm⟩
                        case measure => simp [intOf]; omega
                      · have HS2 : Hid (bestOf W x y D i j (k + 1) = b) := by
                          show _ = _
                          rw [HS1.out]; simp [Wt.better, t1, t2]
                        clear HS1
                        go_wp2
                        have s1 : IntKind.i64.wrap ((i : Int) + (na : Int)) = (i : Int) + (na : Int) := IntWalk.i64_in _ (by omega)
                        have s2 : 0 ≤ (i : Int) + (na : Int) := by omega
                        have s3 : (i : Int) + (na : Int) < (x.size : Int) + 1 := by omega
                        have s4 : ((i : Int) + (na : Int)).toNat = i + na := by omega
                        have s5 : IntKind.i64.wrap ((j : Int) + (nb : Int)) = (j : Int) + (nb : Int) := IntWalk.i64_in _ (by omega)
                        have s6 : 0 ≤ (j : Int) + (nb : Int) := by omega
                        have s7 : (j : Int) + (nb : Int) < (y.size : Int) + 1 := by omega
                        have s8 : ((j : Int) + (nb : Int)).toNat = j + nb := by omega
                        have s9 : IntKind.i64.wrap (sc + dv) = sc + dv := IntWalk.i64_in _ (by omega)
                        go_quiet (fail)
                        clear s1 s2 s3 s4 s5 s6 s7 s8 s9
                        go_wp2
                        go_roundw
                        case rel => exact ⟨k + 1, by omega, by go_num, _, rfl, HS2.out.symm, by omega, by omega, HR.out.below (below_drewN ((Below.refl _ _).alloc (Nat.le_refl _) _) _) hg hm⟩
                        case measure => simp [intOf]; omega
                · obtain rfl : k = 6 := by omega
                  have hmax := bestOf_six HD.out hi hj
                  rw [← hb] at hmax
                  have HM := hide hmax
                  clear hmax hb
                  obtain ⟨p1, ⟨ov, p2⟩, p3⟩ := hrel.place hi hj
                  have HP : Hid (∀ v, v = D i j → FillRel (wr.setCell ⟨w.heap.size + 1 + i, j, none⟩ (.int .i64 v)) w g m W A n c x y D (i + 1) j) := fun v hv => hrel.put hi hg hm hv
                  clear hrel
                  by_cases hb0 : 0 ≤ b
                  · have HQ := hide (HP.out b (by rw [← HM.out]; omega))
                    go_wp2
                    go_roundw
                    case rel =>
                      have R : JRel _ w g m W A n c x y D i (.int .i64 ((j : Int) - 1)) := JRel.mk hj HQ.out
                      first | exact R | ((repeat apply Exists.intro); exact ⟨R, rfl⟩)
                    case measure => simp [intOf]; try omega
                  · have HQ := hide (HP.out 0 (by rw [← HM.out]; omega))
                    go_wp2
                    go_roundw
                    case rel =>
                      have R : JRel _ w g m W A n c x y D i (.int .i64 ((j : Int) - 1)) := JRel.mk hj HQ.out
                      first | exact R | ((repeat apply Exists.intro); exact ⟨R, rfl⟩)
                    case measure => simp [intOf]; try omega
            · have HZ := hide hrel.nextRow
              clear hrel
              go_wp2
              go_roundw
              case rel =>
                have R : IRel _ w g m W A n c x y D (.int .i64 ((i : Int) - 1)) := IRel.mk hi HZ.out
                first | exact R | ((repeat apply Exists.intro); exact ⟨R, rfl⟩)
              case measure => simp [intOf]; try omega
        · have HZ : Hid (FillRel wr w g m W A n c x y D 0 0) := ⟨(by obtain ⟨f, hf, hd⟩ := hrel.grid; exact ⟨f, hf, fun i j hi hj _ => hd i j hi hj (.inl (by omega))⟩), hrel.size, hrel.bel, hrel.ed⟩
          clear hrel
          go_wp2
          go_ret
          exact ⟨rfl, HZ.out⟩
end Go.Proofs.Ytnpdhbagfkilkaa

/- Walks: edit.isText, edit.Distance. -/
set_option linter.unusedVariables false
set_option linter.unusedSimpArgs false
namespace Go.Proofs.Ytnpdhbagfkilkaa
open Go.RowKit

def badRune (r : Nat) : Bool := decide ((r : Int) < 32) || decide (126 < (r : Int))
theorem enters1 : ∀ (args : Array Value) (w : World), (callFunc 38 args).run Try.prog w = .ok (.enter 38 args) w := enters_of Try.func38 (by kernel_rfl) rfl
theorem pred1 (w : World) : PredAt Try.prog 38 #[] encR badRune w := fun W r _ => by
  unfold FnGives
  show Calls Try.prog 38 #[.int .i32 (r : Int)] W _
  exact (isText1_any (r : Int) W).mono fun e w' ⟨he, hw⟩ => ⟨he, 0, hw.symm⟩

theorem idx_bad (s : ByteArray) : ∀ (f pos : Nat), s.size - pos ≤ f → pos ≤ s.size → (0 ≤ Lib.idxFuncFrom badRune true s f pos ↔ ∃ k, ∃ h : k < s.size, pos ≤ k ∧ okByte s[k] = false)
  | 0, pos, hf, hp => by
    have : ¬ pos < s.size := by omega
    rw [Lib.idxFuncFrom_end _ _ _ _ _ this]
    constructor
    · intro h; omega
    · rintro ⟨k, h, hk, _⟩; omega
  | f + 1, pos, hf, hp => by
    by_cases hlt : pos < s.size
    · unfold Lib.idxFuncFrom
      by_cases hb : okByte s[pos] = true
      · have hb' := (okByte_iff _).1 hb
        have hd := decode_ascii s pos hlt (by omega)
        have hn : badRune (s[pos].toNat) = false := by simp [badRune]; omega
        simp only [hlt, if_true, hd, hn]
        simp only [Bool.false_eq_true, Bool.false_eq, if_false, reduceCtorEq]
        rw [idx_bad s f (pos + 1) (by omega) (by omega)]
        constructor
        · rintro ⟨k, h, hk, hbk⟩
          exact ⟨k, h, by omega, hbk⟩
        · rintro ⟨k, h, hk, hbk⟩
          refine ⟨k, h, ?_, hbk⟩
          rcases Nat.lt_or_ge pos k with h1 | h1
          · omega
          · obtain rfl : k = pos := by omega
            rw [hb] at hbk; cases hbk
      · have hbad : badRune (Utf8.decode s pos).1 = true := by
          by_cases ha : s[pos].toNat < 128
          · rw [decode_ascii s pos hlt ha]
            have : ¬ (32 ≤ (s[pos].toNat : Int) ∧ (s[pos].toNat : Int) ≤ 126) := fun h => hb ((okByte_iff _).2 h)
            simp [badRune]; omega
          · have := decode_high s pos hlt (by omega)
            simp [badRune]; omega
        simp only [hlt, if_true, hbad]
        constructor
        · intro _
          exact ⟨pos, hlt, Nat.le_refl _, by simpa using hb⟩
        · intro _; omega
    · rw [Lib.idxFuncFrom_end _ _ _ _ _ hlt]
      constructor
      · intro h; omega
      · rintro ⟨k, h, hk, _⟩; omega

theorem idx_ok (s : ByteArray) : (decide (0 ≤ Lib.idxFunc badRune true s)) = !(s.data.toList.all okByte) := by
  unfold Lib.idxFunc
  rw [Bool.eq_iff_iff]
  simp only [decide_eq_true_eq, idx_bad s s.size 0 (by omega) (by omega), Bool.not_eq_true', List.all_eq_false]
  constructor
  · rintro ⟨k, h, _, hb⟩
    exact ⟨s[k], by simp; exact Array.getElem_mem h, by simp [hb]⟩
  · rintro ⟨c, hc, hb⟩
    obtain ⟨k, hk, rfl⟩ := List.getElem_of_mem hc
    refine ⟨k, by simpa using hk, by omega, ?_⟩
    simp only [Bool.not_eq_true] at hb
    exact hb

set_option maxHeartbeats 400000 in
theorem isText_any (s : ByteArray) (w : World) (hs : s.size ≤ maxLen) :
    Calls Try.prog 26 #[.string s] w fun e w' => e = .returned (.bool (okText s.data.toList)) ∧ Below w.heap.size w w' := by
  unfold maxLen at hs
  have HI := hide (idx_ok s)
  by_cases hall : s.data.toList.all okByte = true
  · have HF : Hid (okText s.data.toList = decide (s.size ≤ 120)) := by
      show _ = _
      simp [okText, hall]
    have hc : decide (0 ≤ Lib.idxFunc badRune true s) = false := by rw [HI.out, hall]; rfl
    clear hall
    go_enter Try.func26, Try.ntmps26
    go_wp2_with (go_at_call 37; refine (Try.strings_ContainsFunc 38 #[] enters1 badRune s _ (pred1 _)).mono ?_; rintro e w1 ⟨rfl, hb⟩)
    go_ret
    exact ⟨ret_bool (by rw [HF.out]; simp; try omega), hb⟩
  · have HF : Hid (okText s.data.toList = false) := by
      show _ = _
      simp only [Bool.not_eq_true] at hall
      simp [okText, hall]
    have hc : decide (0 ≤ Lib.idxFunc badRune true s) = true := by rw [HI.out]; simp only [Bool.not_eq_true] at hall; rw [hall]; rfl
    clear hall
    go_enter Try.func26, Try.ntmps26
    go_wp2_with (go_at_call 37; refine (Try.strings_ContainsFunc 38 #[] enters1 badRune s _ (pred1 _)).mono ?_; rintro e w1 ⟨rfl, hb⟩)
    go_ret
    exact ⟨ret_bool (by rw [HF.out]), hb⟩
end Go.Proofs.Ytnpdhbagfkilkaa
