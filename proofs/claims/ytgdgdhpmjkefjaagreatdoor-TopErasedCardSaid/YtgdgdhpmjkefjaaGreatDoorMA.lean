/- Several texts as one, in build order. -/
import Derived.Test.YtgdgdhpmjkefjaaGreatDoorProg
import Derived.WalkKit
import Derived.WalkSpells
import Derived.WalkLawsBesides
import Derived.Lib.Hide
import Derived.Deep.QuietTactic
import Derived.BigQuiet
import Derived.BigRegion
import Derived.Deep.LoopGhost
import Derived.Deep.DeepFit
import Derived.Deep.RegionWith
import Derived.Deep.RegionHeld3
import Derived.StillTailTactics
import Derived.Laws.EntriesVeiled
import Derived.Laws.OwnMore
import Derived.Laws.Rows
import Derived.Deep.AppendLies
import Derived.Deep.Draws
import Derived.ProofKit
import Derived.ChangeOld
import Derived.Below
import Derived.SizedLaws
import Derived.Deep.Slices
import Derived.Deep.Fields
import Derived.StillTail
import Derived.Deep.Quiet
import Derived.Lib.SlBytesRow
import Derived.Outline
import Derived.Test.YtgdgdhpmjkefjaaGreatDoorShelf
import Derived.Lib.AtoiAll
import Derived.Lib.IndexLaws
import Derived.Lib.IndexAny
import Derived.Lib.Strings
import Derived.Laws.RangeAny
import Derived.Laws.Runes
import Derived.Scope
import Derived.Lib.OthersKept
import Derived.Shelf.Small.Utf8
import Derived.Shelf.Strings.IndexAnyAll
import Derived.Great.Walk
import Derived.Lib.LaidTab
import Derived.Shelf.Strconv.Itoa3
import Derived.Lib.Builder
import Derived.Lib.Repeat
import Derived.Lib.SlTrimSet
import Derived.Lib.ItoaNum
import Derived.Laws.Bits64
import Derived.Laws.BitsAllLaws
/- Base words for the walks of this seat: memory that reads as lists, blocks known whole, frames. -/
set_option linter.unusedVariables false
set_option linter.unusedSimpArgs false
namespace Go.Proofs.YtgdgdhpmjkefjaaGreatDoor
open Go.RowKit

theorem hide {p : Prop} (h : p) : Hid p := h

theorem ret_int {k : IntKind} {a b : Int} (h : a = b) : Ending.returned (.int k a) = .returned (.int k b) := by rw [h]
theorem ret_bool {a b : Bool} (h : a = b) : Ending.returned (.bool a) = .returned (.bool b) := by rw [h]

theorem below_drewN {B : Nat} {a w : World} (h : Below B a w) (n : Nat) : Below B a (w.drewN n) := ⟨h.os, h.tape, h.output, h.size, h.block⟩

theorem block_of_add (a : Addr) (n : Nat) : (a.add n).block = a.block := by unfold Addr.add; split <;> rfl
theorem add_of_add (a : Addr) (i j : Nat) : (a.add i).add j = a.add (i + j) := by
  unfold Addr.add
  by_cases hi : i = 0 <;> by_cases hj : j = 0 <;> simp [hi, hj, Nat.add_assoc]

/-- the slice value '.slice A n c' holds the cells xs, below block B -/
def Reads (w : World) (B size : Nat) (A : Option Addr) (n : Nat) (xs : List Value) : Prop :=
  xs.length = n * size ∧ (0 < n → ∃ ad, A = some ad ∧ ad.block < B ∧ ∀ j u, xs[j]? = some u → w.cell? (ad.add j) = some u)

section
variable {w w' : World} {B B' size n : Nat} {A : Option Addr} {xs : List Value}
theorem Reads.keep (h : Reads w B size A n xs) (hk : ∀ p : Addr, p.block < B → w'.cell? p = w.cell? p) : Reads w' B size A n xs :=
  ⟨h.1, fun hn => by
    obtain ⟨ad, e, hb, hc⟩ := h.2 hn
    exact ⟨ad, e, hb, fun j u hu => (hk _ (by rw [block_of_add]; exact hb)).trans (hc j u hu)⟩⟩
theorem Reads.more (h : Reads w B size A n xs) (hB : B ≤ B') : Reads w B' size A n xs :=
  ⟨h.1, fun hn => by
    obtain ⟨ad, e, hb, hc⟩ := h.2 hn
    exact ⟨ad, e, by omega, hc⟩⟩
theorem Reads.below {C : Nat} (h : Reads w B size A n xs) (hb : Below C w w') (hB : B ≤ C) : Reads w' B size A n xs := h.keep fun _ hp => hb.cell (by omega)
theorem Reads.alloc (h : Reads w B size A n xs) (hB : B ≤ w.heap.size) (o : Obj) : Reads (w.alloc o) B size A n xs := h.keep fun p hp => World.cell?_alloc_lt w o p (by omega)
/-- element k of a slice of elements of 'size' cells -/
theorem Reads.at_ {k : Nat} (h : Reads w B size A n xs) (hk : k < n) : ∃ ad, A = some ad ∧ ad.block < B ∧ ∀ j, j < size → ∃ u, xs[k * size + j]? = some u ∧ w.cell? ((ad.add (k * size)).add j) = some u := by
  obtain ⟨ad, e, hb, hc⟩ := h.2 (by omega)
  refine ⟨ad, e, hb, fun j hj => ?_⟩
  have hl : k * size + j < xs.length := by
    rw [h.1]
    have : (k + 1) * size ≤ n * size := Nat.mul_le_mul_right _ (by omega)
    rw [Nat.add_mul] at this
    omega
  exact ⟨xs[k * size + j], List.getElem?_eq_getElem hl, by rw [add_of_add]; exact hc _ _ (List.getElem?_eq_getElem hl)⟩
end

/-- block g is just the cells cs of element type t, none frozen -/
def Blk (w : World) (g : Nat) (t : TypeId) (cs : Array Value) : Prop := w.heap[g]? = some (.cells cs t (0, 0))

section
variable {w w' : World} {g : Nat} {t : TypeId} {cs : Array Value}
theorem Blk.lt (h : Blk w g t cs) : g < w.heap.size := by
  rcases Nat.lt_or_ge g w.heap.size with hlt | hge
  · exact hlt
  · unfold Blk at h; rw [Array.getElem?_eq_none hge] at h; cases h
theorem Blk.cell (h : Blk w g t cs) (i : Nat) : w.cell? ⟨g, i, none⟩ = cs[i]? := cell_of_row w g i cs t (0, 0) h
theorem Blk.frozen (h : Blk w g t cs) (i : Nat) : w.frozen? ⟨g, i, none⟩ = false := by
  unfold Blk at h
  simp [World.frozen?, h]
theorem Blk.new (w : World) (t : TypeId) (cs : Array Value) : Blk (w.alloc (.cells cs t)) w.heap.size t cs := heap_alloc_new w _
theorem Blk.drew (h : Blk w g t cs) : Blk w.drew g t cs := h
theorem Blk.drewN (h : Blk w g t cs) (n : Nat) : Blk (w.drewN n) g t cs := h
theorem Blk.alloc (h : Blk w g t cs) (o : Obj) : Blk (w.alloc o) g t cs := (Below.heap_alloc w o g h.lt).trans h
theorem Blk.set_ (h : Blk w g t cs) (i : Nat) (u : Value) : Blk (w.setCell ⟨g, i, none⟩ u) g t (cs.setIfInBounds i u) := by
  unfold Blk at h ⊢
  simp [World.setCell, Array.getElem?_modify, h]
theorem Blk.far (h : Blk w g t cs) {p : Addr} (hp : g ≠ p.block) (u : Value) : Blk (w.setCell p u) g t cs := (Below.heap_setCell w p u g hp).trans h
theorem Blk.below {B : Nat} (h : Blk w g t cs) (hb : Below B w w') (hg : g < B) : Blk w' g t cs := (hb.block g hg).trans h
end

end Go.Proofs.YtgdgdhpmjkefjaaGreatDoor

/- What came in, opened type by type: cells that read as data of a type, with the reach. -/
set_option linter.unusedVariables false
set_option linter.unusedSimpArgs false
namespace Go.Proofs.YtgdgdhpmjkefjaaGreatDoor
open Go.RowKit Go.ChangeShapes Go.WideShapes Go.Deep

/-- the cells cs came in as a datum of type t -/
def CameC {H : Type} (enc : TypeId × Value → H) (P : Program) (w : World) (t : TypeId) (cs : List Value) : Prop :=
  ∃ (n : Nat) (d : DataW H) (p : List MemPlace), DataW.trod enc P w 0 (fun _ => true) true n t cs = some (d, p) ∧ ∀ k ∈ d.weights P t, k ≤ reachBytes

section
variable {H : Type} {enc : TypeId × Value → H} {P : Program} {w : World} {t e : TypeId} {cs : List Value}

theorem CameC.of_trod {v : Value} {d : DataW H} {p : List MemPlace} (h : DataW.Trod enc P w 0 (fun _ => true) true t v d p) (hw : ∀ k ∈ d.weights P t, k ≤ reachBytes) : CameC enc P w t v.cells.toList := by
  obtain ⟨n, hn⟩ := h
  exact ⟨n, d, p, hn, hw⟩
theorem weights_each {ts : List TypeId} {ds : List (DataW H)} (h : (DataW.weightsEach P ts ds).all (· ≤ reachBytes) = true) (j : Nat) {d : DataW H} (ht : ts[j]? = some t) (hd : ds[j]? = some d) : ∀ k ∈ d.weights P t, k ≤ reachBytes := fun k hk => by
  have := List.all_eq_true.1 h _ (DataW.weights_mem_each ht hd k hk)
  simpa using this
theorem weights_all {d : DataW H} : ∀ {l : List (DataW H)}, d ∈ l → ∀ k ∈ d.weights P e, k ∈ DataW.weightsAll P e l
  | [], h, _, _ => by simp at h
  | x :: l, h, k, hk => by
    simp only [DataW.weightsAll, List.mem_append]
    rcases List.mem_cons.1 h with rfl | h
    · exact .inl hk
    · exact .inr (weights_all h k hk)

theorem CameC.int {q : IntKind} (ht : P.underlying t = some (.int q)) (h : CameC enc P w t cs) : ∃ n, cs = [.int q n] ∧ (Lit.int q n).wf = true := by
  obtain ⟨n, d, p, h, _⟩ := h
  obtain ⟨z, h1, _, h2⟩ := DataW.trod_int ht h
  exact ⟨z, h1, h2⟩
theorem CameC.string (ht : P.underlying t = some .string) (h : CameC enc P w t cs) : ∃ s : ByteArray, cs = [.string s] ∧ s.size ≤ reachBytes := by
  obtain ⟨n, d, p, h, hw⟩ := h
  obtain ⟨s, h1, h2, _⟩ := DataW.trod_string ht h
  obtain ⟨rfl, rfl⟩ := Prod.mk.injEq .. ▸ h2
  exact ⟨s, h1, by simpa using hw s.size (by simp [DataW.weights])⟩
theorem CameC.slice (ht : P.underlying t = some (.slice e)) (h : CameC enc P w t cs) :
    cs = [.slice none 0 0] ∨ ∃ (a : Addr) (n c : Nat), cs = [.slice (some a) n c] ∧ n ≤ c ∧ c * P.bytesOf e ≤ reachBytes ∧ c ≤ maxLen ∧
      ∀ i, i < n → ∃ cs', cs'.length = P.cellsOf e ∧ (∀ j, j < P.cellsOf e → w.cell? (a.add (i * P.cellsOf e + j)) = cs'[j]?) ∧ CameC enc P w e cs' := by
  obtain ⟨m, d, p, h, hw⟩ := h
  rcases DataW.trod_slice ht h with ⟨h0, _⟩ | ⟨a, n, c, elems, rest, k, _, rfl, hx, _, hl, hm, hlen, hel, hsp, _⟩
  · exact .inl h0
  · obtain ⟨rfl, rfl⟩ := Prod.mk.injEq .. ▸ hx
    have hr := (hsp rfl).1
    refine .inr ⟨a, n, c, rfl, hl, ?_, hm, fun i hi => ?_⟩
    · have := hw ((elems.length + rest.length) * P.bytesOf e) (by simp [DataW.weights, ht])
      rwa [hlen, hr, show n + (c - n) = c by omega] at this
    · have hg : elems[i]? = some (elems[i]'(by omega)) := List.getElem?_eq_getElem (by omega)
      have he := hel i hi
      rw [hg] at he
      obtain ⟨cs', h1, h2⟩ := Option.bind_eq_some_iff.1 he
      obtain ⟨_, hcl, hat⟩ := World.cells?_some h1
      refine ⟨cs', hcl, fun j hj => ?_, k, (elems[i]'(by omega)).1, (elems[i]'(by omega)).2, h2, fun q hq => hw q ?_⟩
      · rw [← add_of_add]; exact hat j hj
      · simp only [DataW.weights, ht, List.mem_cons, List.mem_append]
        exact .inr (.inl (weights_all (List.mem_map.2 ⟨_, List.getElem_mem (by omega), rfl⟩) q hq))
theorem CameC.struct {fs : Array Field} (ht : P.underlying t = some (.struct fs)) (h : CameC enc P w t cs) : cs.length = P.cellsOf t ∧ ∀ (i : Nat) (f : Field), fs[i]? = some f → CameC enc P w f.type ((cs.drop f.offset).take (P.cellsOf f.type)) := by
  obtain ⟨m, d, p, h, hw⟩ := h
  obtain ⟨xs, n, _, hx, hl, hlen, hf⟩ := DataW.trod_struct ht h
  obtain ⟨rfl, rfl⟩ := Prod.mk.injEq .. ▸ hx
  refine ⟨hl, fun i f hi => ?_⟩
  have hlt : i < xs.length := by rw [hlen]; exact (Array.getElem?_eq_some_iff.1 hi).1
  have hg : xs[i]? = some xs[i] := List.getElem?_eq_getElem hlt
  have h1 := hf i f hi
  rw [hg] at h1
  refine ⟨n, xs[i].1, xs[i].2, h1, fun q hq => hw q ?_⟩
  simp only [DataW.weights, ht]
  refine DataW.weights_mem_each (j := i) (t := f.type) (d := xs[i].1) ?_ ?_ q hq
  · rw [List.getElem?_map, Array.getElem?_toList, hi]; rfl
  · rw [List.getElem?_map, hg]; rfl
/-- a struct of one-cell fields, cell by cell -/
theorem CameC.fields {fs : Array Field} (ht : P.underlying t = some (.struct fs)) (hone : oneCellFields P fs = true) (hC : P.cellsOf t = fs.size) (h : CameC enc P w t cs) : cs.length = fs.size ∧ ∀ (i : Nat) (f : Field), fs[i]? = some f → ∃ v, cs[i]? = some v ∧ CameC enc P w f.type [v] := by
  obtain ⟨h1, h2⟩ := h.struct ht
  rw [hC] at h1
  refine ⟨h1, fun i f hi => ?_⟩
  obtain ⟨ho, hk⟩ := hone_of hone i f hi
  have hlt : i < cs.length := by rw [h1]; exact (Array.getElem?_eq_some_iff.1 hi).1
  have h3 := h2 i f hi
  rw [ho, hk, List.drop_eq_getElem_cons hlt] at h3
  exact ⟨cs[i], List.getElem?_eq_getElem hlt, h3⟩

end
end Go.Proofs.YtgdgdhpmjkefjaaGreatDoor

/- A region that draws its order, whose operations yield the same values in every world of a class: one walk in the text's order; with a tail in a forced order, too (the tail may make memory). -/
set_option linter.unusedVariables false
set_option linter.unusedSimpArgs false
namespace Go.Proofs.YtgdgdhpmjkefjaaGreatDoor
open Go Go.RowKit

section
variable {P : Program} {ops : Array Oper} {md : Region.Mode} {C : World → Prop}

/-- whatever order the head takes; behind it L -/
def wpAnyT (P : Program) (md : Region.Mode) (ops : Array Oper) (C : World → Prop) (n : Nat) (L : Array Bool → Act → Prop) : Nat → Array Bool → Act → Prop
  | 0, listed, a => L listed a
  | f + 1, listed, a => Region.ready md ops listed ≠ [] ∧ ∀ i ∈ Region.ready md ops listed, i < n ∧ qOp P ops C i (wpAnyT P md ops C n L f (listed.setIfInBounds i true)) a

theorem wpAny_of_T {n g : Nat} {L : Array Bool → Act → Prop} {Q : Exit → Act → World → Prop} (hL : ∀ listed a w, C w → L listed a → wpAny P md ops Q g listed a w) :
    ∀ (f : Nat) (listed : Array Bool) (a : Act) (w : World), C w → wpAnyT P md ops C n L f listed a → wpAny P md ops Q (f + g) listed a w := by
  intro f
  induction f with
  | zero => intro listed a w hw h; rw [Nat.zero_add]; exact hL _ _ _ hw h
  | succ f ih =>
    intro listed a w hw h
    rw [Nat.succ_add]
    exact ⟨fun h0 => absurd h0 h.1, fun i hi => wpOp_of_qOp hw (fun a' w' hw' h' => ih _ a' w' hw' h') (h.2 i hi).2⟩

/-- an operation of the head that may come up now may be taken first -/
theorem wpAnyT_first {n i : Nat} {oi : Oper} {v : Value} {L : Array Bool → Act → Prop} (hi : ops[i]? = some oi) (hsel : ∀ (j : Nat) (o : Oper) cs b, ops[j]? = some o → o.op ≠ .select cs b)
    (hs : Region.sinkB md ops n = true) (hc : Region.chainB md ops n = true) (hn : n < ops.size) (hin : i < n) (hdone : ∀ listed a, L listed a → ∀ j ∈ Region.ready md ops listed, n ≤ j) :
    ∀ (f : Nat) (listed : Array Bool) (a : Act), HeadInv md ops n listed →
      (∀ j oj, ops[j]? = some oj → j ≠ i → listed.getD j true = false → (∀ e ∈ oj.after, Region.binds md e = true → e.on ≠ i) → oi.apart ops oj = true) →
      i ∈ Region.ready md ops listed → YieldsIn P ops C oi v a →
      wpAnyT P md ops C n L f (listed.setIfInBounds i true) (a.put oi.dst v) → wpAnyT P md ops C n L (f + 1) listed a := by
  intro f
  induction f with
  | zero =>
    intro listed a inv _ hr hy H
    have hun := (mem_ready.1 hr).1
    refine ⟨List.ne_nil_of_mem hr, fun j hj => ?_⟩
    have hjn : j < n := Nat.lt_of_not_le fun h => tail_waits hs hc hn inv _ i rfl hin hun j h hj
    refine ⟨hjn, ?_⟩
    rcases Nat.decEq j i with hji | hji
    · exact absurd (hdone _ _ H j (ready_mono hj hji)) (by omega)
    · subst hji; exact hy.qOp hi H
  | succ f ih =>
    intro listed a inv hfree hr hy H
    have hun := (mem_ready.1 hr).1
    refine ⟨List.ne_nil_of_mem hr, fun j hj => ?_⟩
    have hjn : j < n := Nat.lt_of_not_le fun h => tail_waits hs hc hn inv _ i rfl hin hun j h hj
    refine ⟨hjn, ?_⟩
    rcases Nat.decEq j i with hji | hji
    · obtain ⟨hjun, oj, hoj, hall⟩ := mem_ready.1 hj
      have hnot : ∀ e ∈ oj.after, Region.binds md e = true → e.on ≠ i := fun e he hb heq => by
        have h1 := hall e he hb
        rw [heq, getD_both hun] at h1
        cases h1
      have h2 := qOp_put hoj (hfree j oj hoj hji hjun hnot) (fun cs b => hsel i oi cs b hi) (fun cs b => hsel j oj cs b hoj) hy (H.2 j (ready_mono hj hji)).2
      refine qOp_mono (fun a' h3 => ih (listed.setIfInBounds j true) a' (inv.set hj hjn) ?_ (ready_mono hr (Ne.symm hji)) h3.1 ?_) h2
      · intro k ok hk hki hun' hno
        refine hfree k ok hk hki ?_ hno
        rcases Nat.decEq j k with hjk | hjk
        · rwa [getD_set_ne true hjk] at hun'
        · subst hjk; exact hjun
      · rw [Array.setIfInBounds_comm _ _ hji]
        exact h3.2
    · subst hji; exact hy.qOp hi H

theorem wpAnyT_lex {n g : Nat} {K : Act → Prop} (hsel : Region.noSelect ops = true) (hs : Region.sinkB md ops n = true) (hc : Region.chainB md ops n = true) (hn : n < ops.size) :
    ∀ (l : List Oper) (k : Nat) (listed : Array Bool) (a : Act), (∀ j, j < l.length → l[j]? = ops[k + j]?) → k + l.length = n → HeadInv md ops n listed →
    Region.lexHead md ops g l.length k listed = true → wpQuiet P ops C K l a →
    wpAnyT P md ops C n (fun listed' a' => Region.seqB md ops g n listed' = true ∧ K a') l.length listed a
  | [], k, listed, a, _, hk, _, hB, h => by
    obtain rfl : k = n := by simpa using hk
    exact ⟨by simpa [Region.lexHead] using hB, h⟩
  | o :: l, k, listed, a, hl, hk, inv, hB, h => by
    have h0 : ops[k]? = some o := by simpa using (hl 0 (by simp)).symm
    simp only [List.length_cons, Region.lexHead, Bool.and_eq_true] at hB
    have hkn : k < n := by simp only [List.length_cons] at hk; omega
    have hr : k ∈ Region.ready md ops listed := by simpa using hB.1.1
    have hq : qOp P ops C k (wpQuiet P ops C K l) a := by unfold qOp; simp only [h0]; exact h
    obtain ⟨v, hy, hK⟩ := yieldsIn_of_qOp h0 hq
    exact wpAnyT_first h0 (Region.noSelect_spec hsel) hs hc hn hkn (fun _ _ hL => seqB_ready hL.1) l.length listed a inv (Region.free_spec h0 hB.1.2) hr hy
      (wpAnyT_lex hsel hs hc hn l (k + 1) _ _ (fun j hj => by have := hl (j + 1) (by simp; omega); simpa [Nat.add_assoc, Nat.add_comm 1 j] using this) (by simp only [List.length_cons] at hk; omega) (inv.set hr hkn) hB.2 hK)

/-- one walk serves every order: the class is what g takes on -/
theorem wp_region_class {U : Type} (g : U → World) {id : Nat} {Q : Exit → Act → World → Prop} {a : Act} {w : World} {l : List Oper} (hm : P.follows .mixedOrders = true) (hB : Region.lexB .any l.toArray = true) (hC : ∃ u, w.drew = g u)
    (h : wpQuiet P l.toArray (fun w' => ∃ u, w' = g u) (fun a' => ∀ w', (∃ u, w' = g u) → Q .normal a' w') l a) : (Code.region id l.toArray true).wp P Q a w :=
  wp_region_quiet (C := fun w' => ∃ u, w' = g u) hm hB hC (by simpa using h)
/-- the head is of the class, the tail's order is forced -/
theorem wp_region_class_tail {U : Type} (g : U → World) (n : Nat) {id : Nat} {Q : Exit → Act → World → Prop} {a : Act} {w : World} {l : List Oper} (hm : P.follows .mixedOrders = true) (hB : Region.lexTailB .any l.toArray n = true) (hC : ∃ u, w.drew = g u)
    (h : wpQuiet P l.toArray (fun w' => ∃ u, w' = g u) (fun a' => ∀ w', (∃ u, w' = g u) → wpList P l.toArray Q (l.drop n) a' w') (l.take n) a) : (Code.region id l.toArray true).wp P Q a w := by
  simp only [Region.lexTailB, Bool.and_eq_true, decide_eq_true_eq] at hB
  obtain ⟨⟨⟨⟨hsel, hn⟩, hs⟩, hc⟩, hlex⟩ := hB
  have hsz : l.toArray.size = l.length := by simp
  have htl : (l.take n).length = n := by simp; omega
  have hdl : (l.drop n).length = l.toArray.size - n := by simp
  have inv0 : HeadInv .any l.toArray n (Array.replicate l.toArray.size false) :=
    ⟨by simp, fun j oj _ hl => (by rw [getD_replicate_false] at hl; cases hl), fun t _ ht => getD_in (by simpa using ht) (getD_replicate_false _ _)⟩
  have H := wpAnyT_lex (md := .any) (g := l.toArray.size - n) hsel hs hc hn (l.take n) 0 _ a (fun j hj => by
    rw [htl] at hj
    simp [hj]) (by simpa using htl) inv0 (by rw [htl]; exact hlex) h
  refine wp_region_any hm ?_
  have := wpAny_of_T (Q := Q) (g := l.toArray.size - n) (fun listed a' w' hw' hL => by
    have := wpAny_of_seq (md := .any) (Q' := Q) (l.drop n) n listed a' w' (fun j => by simp [List.getElem?_drop]) (by rw [hdl]; exact hL.1) (hL.2 w' hw')
    rwa [hdl] at this) _ _ _ _ hC H
  rw [htl, show n + (l.toArray.size - n) = l.toArray.size by omega] at this
  exact this
end

/-- the worlds of a class, as what a function takes on -/
theorem the_class (I : World → Prop) {w : World} (hw : I w) : ∃ (U : Type) (_ : Nonempty U) (g : U → World), (∀ u, I (g u)) ∧ ∀ w', I w' → ∃ u, w' = g u := ⟨{w' // I w'}, ⟨⟨w, hw⟩⟩, fun u => u.1, fun u => u.2, fun w' h => ⟨⟨w', h⟩, rfl⟩⟩
end Go.Proofs.YtgdgdhpmjkefjaaGreatDoor

/- Laws for the walk: a struct stored into a block that is known whole; the world behind it is a new name. -/
set_option linter.unusedVariables false
set_option linter.unusedSimpArgs false
namespace Go.Proofs.YtgdgdhpmjkefjaaGreatDoor
open Go.RowKit

section
variable {P : Program} {w : World}

theorem setRow_grown (w : World) (g : Nat) (cs : Array Value) : w.grownBy (w.setRow g cs) (some g) :=
  ⟨rfl, rfl, rfl, by simp [World.setRow], fun i hi hne => by
    unfold World.setRow
    simp only [Array.getElem?_modify]
    rw [if_neg (fun e => hne (by rw [e]))]⟩

/-- 'only block g has turned' -/
def Only (w w' : World) (g : Nat) : Prop := w.grownBy w' (some g)
theorem Only.refl (w : World) (g : Nat) : Only w w g := World.grownBy.refl w _
theorem Only.below {B g : Nat} {w0 w w' : World} (h : Below B w0 w) (ho : Only w w' g) (hB : B ≤ w.heap.size) (hg : B ≤ g) : Below B w0 w' := h.grown ho hB (fun k hk => by cases hk; exact hg)
theorem Only.cell {g : Nat} {w w' : World} (ho : Only w w' g) {p : Addr} (hp : p.block < w.heap.size) (hne : p.block ≠ g) : w'.cell? p = w.cell? p :=
  World.cell?_of_block (ho.block p.block hp (fun e => hne (by injection e)))
theorem Only.frozen {g : Nat} {w w' : World} (ho : Only w w' g) {p : Addr} (hp : p.block < w.heap.size) (hne : p.block ≠ g) : w'.frozen? p = w.frozen? p :=
  World.frozen?_of_block (ho.block p.block hp (fun e => hne (by injection e)))
theorem Only.blk {g i : Nat} {w w' : World} {t : TypeId} {cs : Array Value} (ho : Only w w' g) (h : Blk w i t cs) (hne : i ≠ g) : Blk w' i t cs :=
  (ho.block i h.lt (fun e => hne (by injection e))).trans h
theorem Only.same {g i : Nat} {w w' : World} (ho : Only w w' g) (hi : i < w.heap.size) (hne : i ≠ g) : w'.heap[i]? = w.heap[i]? := ho.block i hi (fun e => hne (by injection e))

def splice (old : Array Value) (off : Nat) (cs : Array Value) : Array Value := (old.toList.take off ++ cs.toList ++ old.toList.drop (off + cs.size)).toArray

theorem run_storeVar_part (w : World) (g off : Nat) (t ty : TypeId) (old cells : Array Value) (hg : Blk w g t old) (hi : (P.info? ty).map (·.size) = some cells.size)
    (ho : off + cells.size ≤ old.size) (h1 : ∀ v ∈ cells.toList, v.oneCell' = true) :
    (storeVar ty ⟨g, off, none⟩ (.agg cells)).run P w = .ok () (w.setRow g (splice old off cells)) := by
  have := run_storeCells_at P g off t cells.toList 0 old w hg (by simpa using ho) h1
  cases hq : P.info? ty with
  | none => simp [hq] at hi
  | some i =>
    have hs : cells.size = i.size := by simp [hq] at hi; omega
    simp [storeVar, sizeOf, typeInfo, hq, Value.cells, hs, this, splice]

theorem wpList_store_part {ops : Array Oper} {rest : List Oper} {o : Oper} {a : Act} {Q : Exit → Act → World → Prop} (hgd : o.guard = none) (ty : TypeId) (x y : Operand) (ho : o.op = .store ty x y)
    (g off : Nat) (cells : Array Value) (hx : a.eval x = .pointer (some ⟨g, off, none⟩)) (hy : a.eval y = .agg cells)
    (t : TypeId) (old : Array Value) (hg : Blk w g t old) (hi : (P.info? ty).map (·.size) = some cells.size)
    (hold : off + cells.size ≤ old.size) (h1 : ∀ v ∈ cells.toList, v.oneCell' = true)
    (h : ∀ w', Only w w' g → Blk w' g t (splice old off cells) → wpList P ops Q rest (a.put o.dst undef) w') : wpList P ops Q (o :: rest) a w :=
  wpList_plain hgd fun K hK => by
    unfold Oper.wp execOp
    simp only [ho, hx, hy, Instr.storeAt, Instr.sureAddr, Sem.run_bind, Sem.run_pure, Result.andThen_ok, run_storeVar_part w g off t ty old cells hg hi hold h1]
    exact hK _ _ (h _ (setRow_grown w g _) (setRow_heap w g old _ t (0, 0) hg))

theorem wpList_load_all {ops : Array Oper} {rest : List Oper} {o : Oper} {a : Act} {Q : Exit → Act → World → Prop} (hgd : o.guard = none) (ty : TypeId) (x : Operand) (ho : o.op = .load ty x)
    (g : Nat) (hx : a.eval x = .pointer (some ⟨g, 0, none⟩)) (t : TypeId) (cs : Array Value) (d : TypeDesc) (hg : Blk w g t cs)
    (hu : P.underlying ty = some d) (hd : (match d with | .struct _ | .array _ _ => true | _ => false) = true) (hi : (P.info? ty).map (·.size) = some cs.size)
    (h : wpList P ops Q rest (a.put o.dst (.agg cs)) w) : wpList P ops Q (o :: rest) a w :=
  wpList_load_row hgd ty x ho g hx t cs (0, 0) d hg hu hd hi h

theorem results_cell_blk {fn : Func} {p : Tmp} {ty : TypeId} (h : fn.results = #[.cell p ty]) (tmps : Array Value) (w : World) (g : Nat) (t : TypeId) (cs : Array Value) (d : TypeDesc)
    (hp : tmps.getD p undef = .pointer (some ⟨g, 0, none⟩)) (hg : Blk w g t cs)
    (hu : P.underlying ty = some d) (hd : (match d with | .struct _ | .array _ _ => true | _ => false) = true) (hi : (P.info? ty).map (·.size) = some cs.size) :
    (results fn tmps).run P w = .ok (.agg cs) w := results_cell_row h tmps w g t cs (0, 0) d hp hg hu hd hi
end
end Go.Proofs.YtgdgdhpmjkefjaaGreatDoor

/- The worlds of a walk as one letter: everything that keeps what a first world had; blocks in such a class. -/
set_option linter.unusedVariables false
set_option linter.unusedSimpArgs false
namespace Go.Proofs.YtgdgdhpmjkefjaaGreatDoor
open Go.RowKit

/-- the worlds that keep what w1 had, as one letter -/
theorem cls (w1 : World) : ∃ (U : Type) (_ : Nonempty U) (g : U → World) (u0 : U), w1 = g u0 ∧ (∀ u, Below w1.heap.size w1 (g u)) ∧ ∀ w', Below w1.heap.size w1 w' → ∃ u, w' = g u := by
  obtain ⟨U, hU, g, hgu, hi⟩ := the_class (fun w' => Below w1.heap.size w1 w') (Below.refl w1.heap.size w1)
  obtain ⟨u0, h0⟩ := hi w1 (Below.refl _ _)
  exact ⟨U, hU, g, u0, h0, hgu, hi⟩
theorem cls_call {P : Program} {f : FuncId} {args : Array Value} {w1 : World} {v : Value} {U : Type} {g : U → World} (hgu : ∀ u, Below w1.heap.size w1 (g u)) (hi : ∀ w', Below w1.heap.size w1 w' → ∃ u, w' = g u)
    (h : ∀ w : World, Below w1.heap.size w1 w → Calls P f args w fun e w' => e = .returned v ∧ Below w.heap.size w w') (u : U) : Calls P f args (g u) fun e w' => e = .returned v ∧ ∃ u', w' = g u' :=
  (h _ (hgu u)).mono fun _ _ ⟨he, hb⟩ => ⟨he, hi _ ((hgu u).trans (hb.mono (hgu u).size))⟩
theorem below_to {B : Nat} {w w1 w2 : World} (h : Below B w w1) (hB : B ≤ w.heap.size) (h' : Below w1.heap.size w1 w2) : Below B w w2 := h.trans (h'.mono (Nat.le_trans hB h.size))
theorem below_alloc {B : Nat} {w w1 : World} (h : Below B w w1) (hB : B ≤ w.heap.size) (o : Obj) : Below B w (w1.alloc o) := h.alloc (Nat.le_trans hB h.size) o
theorem Blk.to {w1 w' : World} {b : Nat} {t : TypeId} {cs : Array Value} (H : Blk w1 b t cs) (hb : Below w1.heap.size w1 w') : Blk w' b t cs := H.below hb H.lt
theorem blk_all {w1 : World} {b : Nat} {t : TypeId} {cs : Array Value} {U : Type} {g : U → World} (hgu : ∀ u, Below w1.heap.size w1 (g u)) (H : Blk w1 b t cs) (i : Nat) {v : Value} (hv : cs[i]? = some v) : ∀ u, (g u).cell? ⟨b, i, none⟩ = some v :=
  fun u => ((H.to (hgu u)).cell i).trans hv
theorem below_one (w : World) (o : Obj) : Below w.heap.size w (w.alloc o) := (Below.refl w.heap.size w).alloc (Nat.le_refl _) o
theorem below_two (w : World) (o p : Obj) : Below w.heap.size w ((w.alloc o).alloc p) := ((Below.refl w.heap.size w).alloc (Nat.le_refl _) o).alloc (by simp) p
end Go.Proofs.YtgdgdhpmjkefjaaGreatDoor

/- Whole numbers in blocks and slices; calls on a row that the caller has just made. -/
set_option linter.unusedVariables false
set_option linter.unusedSimpArgs false
namespace Go.Proofs.YtgdgdhpmjkefjaaGreatDoor
open Go.RowKit

def intC (l : List Int) : Array Value := (l.map fun v => Value.int .i64 v).toArray
theorem intC_at {l : List Int} {k : Nat} {v : Int} (h : l[k]? = some v) : (intC l)[k]? = some (.int .i64 v) := by unfold intC; simp [h]
theorem intC_set (l : List Int) (i : Nat) (v : Int) : (intC l).setIfInBounds i (.int .i64 v) = intC (l.set i v) := by
  unfold intC
  simp [List.map_set]
/-- a slice whose cells are the numbers l -/
def IntsAt (w : World) (v : Value) (l : List Int) : Prop := ∃ b c, v = .slice (some ⟨b, 0, none⟩) l.length c ∧ b < w.heap.size ∧ l.length ≤ c ∧ ∀ (k : Nat) (x : Int), l[k]? = some x → w.cell? ⟨b, k, none⟩ = some (.int .i64 x)
theorem IntsAt.to {w w' : World} {v : Value} {l : List Int} (h : IntsAt w v l) (hb : Below w.heap.size w w') : IntsAt w' v l := by
  obtain ⟨b, c, h1, h2, h3, h4⟩ := h
  exact ⟨b, c, h1, Nat.lt_of_lt_of_le h2 hb.size, h3, fun k x hx => (hb.cell h2).trans (h4 k x hx)⟩
theorem IntsAt.of_own {w : World} {B : Nat} {v : Value} {l : List Int} (hl : 1 ≤ l.length) (h : w.ownsRow B 3 1 v l.length (l.map (Value.int .i64))) : IntsAt w v l := by
  obtain ⟨_, h⟩ := h
  rcases h with ⟨_, h0⟩ | ⟨g, cap, cur, hv, hB, hg, hn, _, hs, ht⟩
  · omega
  · refine ⟨g, cap, hv, ?_, hn, fun k x hx => ?_⟩
    · rcases Nat.lt_or_ge g w.heap.size with h | h
      · exact h
      · rw [Array.getElem?_eq_none h] at hg; cases hg
    · rw [cell_of_row w g k cur 3 (0, 0) hg]
      have : (cur.toList.take (l.length * 1))[k]? = some (.int .i64 x) := by rw [ht, List.getElem?_map, hx]; rfl
      rw [List.getElem?_take] at this
      split at this
      · simpa using this
      · cases this
end Go.Proofs.YtgdgdhpmjkefjaaGreatDoor

/- Texts as lists of bytes, and their values. -/
set_option linter.unusedVariables false
set_option linter.unusedSimpArgs false
namespace Go.Proofs.YtgdgdhpmjkefjaaGreatDoor
open Go.RowKit

def bs (l : List UInt8) : ByteArray := ⟨l.toArray⟩
theorem bs_list (l : List UInt8) : (bs l).data.toList = l := by simp [bs]
theorem bs_size (l : List UInt8) : (bs l).size = l.length := by simp [bs, ByteArray.size]
theorem bs_app (l m : List UInt8) : bs l ++ bs m = bs (l ++ m) := by
  apply ByteArray.ext
  simp [bs]
theorem bs_inj {l m : List UInt8} (h : bs l = bs m) : l = m := by rw [← bs_list l, h, bs_list]
theorem bs_eq (s : ByteArray) : s = bs s.data.toList := rfl
theorem bs_toList (l : List UInt8) : (bs l).toList = l := by rw [ByteArray.toList_eq, bs_list]
theorem bs_drop (l : List UInt8) (k : Nat) : (bs l).extract k l.length = bs (l.drop k) := by
  apply ByteArray.ext
  apply Array.toList_inj.1
  rw [Lib.extract_data]
  simp only [bs_list]
  rw [List.take_of_length_le (by simp)]
theorem bs_cut (l : List UInt8) (k n : Nat) : (bs l).extract k n = bs ((l.drop k).take (n - k)) := by
  apply ByteArray.ext
  apply Array.toList_inj.1
  rw [Lib.extract_data]
  simp only [bs_list]
/-- a slice of bytes that reads as l, as a text -/
theorem conv_bytes {P : Program} (w : World) (src e dst : TypeId) (hs : P.underlying src = some (.slice e)) (he : P.underlying e = some (.int .u8)) (hd : P.underlying dst = some .string) (b o : Nat) (l : List UInt8) (n cap : Nat) (hn : n = l.length)
    (hc : ∀ (i : Nat) (c : UInt8), l[i]? = some c → w.cell? ⟨b, o + i, none⟩ = some (.int .u8 (c.toNat : Int))) :
    (convert src dst (.slice (some ⟨b, o, none⟩) n cap)).run P w = .ok (.string (bs l)) w := by
  have h := Lib.run_convert_whole (P := P) w src e dst hs he hd b o (bs l) (fun i hi => by
    refine hc i (bs l)[i] ?_
    have hi' : i < l.length := by rw [← bs_size]; exact hi
    rw [List.getElem?_eq_getElem hi']
    rfl) cap
  rwa [bs_size, ← hn] at h
/-- a byte of a text -/
theorem index_bs (l : List UInt8) (k : Nat) (c : UInt8) (hc : l[k]? = some c) (w : World) : (Instr.index 9 (.string (bs l)) (.int .i64 (k : Int))).run Tryz.prog w = .ok (.int .u8 (c.toNat : Int)) w := by
  have hk : k < (bs l).size := by
    rw [bs_size]
    rcases Nat.lt_or_ge k l.length with h | h
    · exact h
    · rw [List.getElem?_eq_none h] at hc; cases hc
  have he : (bs l)[k] = c := by
    have h1 : (bs l).data[k]? = some c := by show l.toArray[k]? = _; simpa using hc
    have h2 : (bs l).data[k]? = some ((bs l)[k]) := Array.getElem?_eq_getElem (xs := (bs l).data) hk
    rw [h1] at h2
    exact (Option.some.inj h2).symm
  rw [← he]
  go_simp
theorem ret_str' {a b : ByteArray} (h : a = b) : Ending.returned (.string a) = .returned (.string b) := by rw [h]
end Go.Proofs.YtgdgdhpmjkefjaaGreatDoor

/- Package lexer: the classes of bytes; the walk of classes. -/
set_option linter.unusedVariables false
set_option linter.unusedSimpArgs false
namespace Go.Proofs.YtgdgdhpmjkefjaaGreatDoor
open Go.RowKit

/-- other 0, blank 1, hash 2, letter 3, digit 4, under 5, quote 6, mark 7, angle 8, symbol 9 -/
def clsN (c : Nat) : Int := if 97 ≤ c ∧ c ≤ 122 ∨ 65 ≤ c ∧ c ≤ 90 then 3 else if 48 ≤ c ∧ c ≤ 57 then 4 else if c = 95 then 5 else if c = 32 ∨ c = 9 ∨ c = 10 then 1 else if c = 35 then 2 else if c = 34 then 6 else if c = 33 then 7 else if c = 60 ∨ c = 62 then 8 else
  if c = 59 ∨ c = 44 ∨ c = 46 ∨ c = 58 ∨ c = 40 ∨ c = 41 ∨ c = 91 ∨ c = 93 ∨ c = 123 ∨ c = 125 ∨ c = 61 ∨ c = 43 ∨ c = 45 then 9 else 0
def clsB (c : UInt8) : Int := clsN c.toNat
def setL (L : List Int) (l : List UInt8) (v : Int) : List Int := l.foldl (fun L c => L.set c.toNat v) L
theorem setL_len (v : Int) : ∀ (l : List UInt8) (L : List Int), (setL L l v).length = L.length
  | [], L => rfl
  | c :: l, L => by show (setL (L.set c.toNat v) l v).length = _; rw [setL_len v l]; simp
theorem setL_snoc (L : List Int) (l : List UInt8) (c : UInt8) (v : Int) : setL L (l ++ [c]) v = (setL L l v).set c.toNat v := by simp [setL]
def tx0 : List Int := (List.range 256).map fun _ => 0
def alphaT : List UInt8 := [97, 98, 99, 100, 101, 102, 103, 104, 105, 106, 107, 108, 109, 110, 111, 112, 113, 114, 115, 116, 117, 118, 119, 120, 121, 122, 65, 66, 67, 68, 69, 70, 71, 72, 73, 74, 75, 76, 77, 78, 79, 80, 81, 82, 83, 84, 85, 86, 87, 88, 89, 90]
def tx1 : List Int := setL tx0 alphaT 3
def tx2 : List Int := setL tx1 [48, 49, 50, 51, 52, 53, 54, 55, 56, 57] 4
def tx3 : List Int := setL tx2 [95] 5
def tx4 : List Int := setL tx3 [32, 9, 10] 1
def tx5 : List Int := setL tx4 [35] 2
def tx6 : List Int := setL tx5 [34] 6
def tx7 : List Int := setL tx6 [33] 7
def tx8 : List Int := setL tx7 [60, 62] 8
def tx9 : List Int := setL tx8 [59, 44, 46, 58, 40, 41, 91, 93, 123, 125, 61, 43, 45] 9
def clsL : List Int := (List.range 256).map clsN
theorem tx0_len : tx0.length = 256 := by simp [tx0]
theorem tx1_len : tx1.length = 256 := by unfold tx1; rw [setL_len]; exact tx0_len
theorem tx2_len : tx2.length = 256 := by unfold tx2; rw [setL_len]; exact tx1_len
theorem tx3_len : tx3.length = 256 := by unfold tx3; rw [setL_len]; exact tx2_len
theorem tx4_len : tx4.length = 256 := by unfold tx4; rw [setL_len]; exact tx3_len
theorem tx5_len : tx5.length = 256 := by unfold tx5; rw [setL_len]; exact tx4_len
theorem tx6_len : tx6.length = 256 := by unfold tx6; rw [setL_len]; exact tx5_len
theorem tx7_len : tx7.length = 256 := by unfold tx7; rw [setL_len]; exact tx6_len
theorem tx8_len : tx8.length = 256 := by unfold tx8; rw [setL_len]; exact tx7_len
theorem tx9_all : tx9 = clsL := by decide +kernel
theorem clsL_at (c : UInt8) : clsL[c.toNat]? = some (clsB c) := by
  have h := c.toNat_lt
  unfold clsL clsB
  rw [List.getElem?_map, List.getElem?_range h]; rfl
theorem clsL_len : clsL.length = 256 := by simp [clsL]
theorem intC_size (L : List Int) : (intC L).size = L.length := by simp [intC]
theorem intC_one (L : List Int) : ∀ v ∈ (intC L).toList, v.oneCell' = true := by
  intro v hv
  unfold intC at hv
  simp only [List.mem_map] at hv
  obtain ⟨c, _, rfl⟩ := hv
  rfl
def SeI (L : List Int) (l : List UInt8) (cl : Int) (bx : Nat) (T : TypeId) (w wr : World) (i : Value) : Prop := ∃ k : Nat, k ≤ l.length ∧ i = .int .i64 (k : Int) ∧ Blk wr bx T (intC (setL L (l.take k) cl)) ∧ Only w wr bx
theorem Only.set_ {w w' : World} {b : Nat} (h : Only w w' b) (i : Nat) (v : Value) : Only w (w'.setCell ⟨b, i, none⟩ v) b := by
  refine ⟨h.os, h.tape, h.output, by simpa [World.setCell] using h.size, fun k hk hne => ?_⟩
  have h1 := h.block k hk hne
  have hkb : k ≠ b := fun e => hne (by rw [e])
  rw [← h1]
  exact Below.heap_setCell w' ⟨b, i, none⟩ v k hkb
set_option maxRecDepth 100000 in
set_option maxHeartbeats 4000000 in
theorem set_any (L : List Int) (hL : L.length = 256) (l : List UInt8) (hl : l.length ≤ 1000) (cl : Int) (bx : Nat) (T : TypeId) (w : World) (h : Blk w bx T (intC L)) :
    Calls Tryz.prog 112 #[.string (bs l), .int .i64 cl, .pointer (some ⟨bx, 0, none⟩)] w fun e w' => e = .returned (.tuple #[]) ∧ Blk w' bx T (intC (setL L l cl)) ∧ Only w w' bx := by
  have HB := hide h
  clear h
  have hsz : (bs l).size = l.length := bs_size l
  go_enter Tryz.func112, Tryz.ntmps112
  go_wp2_with fail
  go_loopw [5] (fun i wr => SeI L l cl bx T w wr i) (fun i _ => l.length - (intOf i).toNat)
  case atStart => exact ⟨0, by omega, rfl, HB.out, Only.refl _ _⟩
  case round =>
    obtain ⟨k, hk, rfl, hB, hO⟩ := hrel
    have HB1 := hide hB
    have HO := hide hO
    clear hB hO
    by_cases hlt : k < l.length
    · obtain ⟨c, hc⟩ : ∃ c, l[k]? = some c := ⟨_, List.getElem?_eq_getElem hlt⟩
      have ci := index_bs l k c hc
      have c0 := c.toNat_lt
      obtain ⟨x, hx⟩ : ∃ x, (setL L (l.take k) cl)[c.toNat]? = some x := ⟨_, List.getElem?_eq_getElem (by rw [setL_len, hL]; exact c0)⟩
      have ck := (HB1.out.cell c.toNat).trans (intC_at hx)
      have cf := HB1.out.frozen c.toNat
      have HT : Hid (setL L (l.take (k + 1)) cl = (setL L (l.take k) cl).set c.toNat cl) := by
        show _ = _
        rw [List.take_add_one, hc]
        exact setL_snoc _ _ _ _
      clear hc hx
      go_wp2_with fail
      go_roundw
      case rel => exact ⟨k + 1, by omega, by go_num, by rw [HT.out, ← intC_set]; exact HB1.out.set_ _ _, HO.out.set_ _ _⟩
      case measure => simp [intOf]; omega
    · obtain rfl : k = l.length := by omega
      rw [List.take_length] at HB1
      go_wp2_with fail
      go_end0
      exact ⟨rfl, HB1.out, HO.out⟩
theorem splice_all' {old cs : Array Value} (h : cs.size = old.size) : splice old 0 cs = cs := by
  unfold splice
  rw [Nat.zero_add, List.take_zero, List.nil_append, h]
  rw [show old.size = old.toList.length from rfl, List.drop_length, List.append_nil]
set_option maxRecDepth 100000 in
set_option maxHeartbeats 8000000 in
theorem classes_any (w : World) : Calls Tryz.prog 82 #[] w fun e w' => e = .returned (.agg (intC clsL)) ∧ Below w.heap.size w w' := by
  have H0 := hide ((Blk.new w 129 (intC tx0)).alloc (.cells (intC tx0) 129))
  have H1 : Hid (Blk ((w.alloc (.cells (intC tx0) 129)).alloc (.cells (intC tx0) 129)) (w.heap.size + 1) 129 (intC tx0)) := by have := Blk.new (w.alloc (.cells (intC tx0) 129)) 129 (intC tx0); show Blk _ _ _ _; simpa using this
  have HB := hide (below_two w (.cells (intC tx0) 129) (.cells (intC tx0) 129))
  go_enter Tryz.func82, Tryz.ntmps82
  go_wp2_with fail
  rw [show Tryz.zeroCells129 = intC tx0 by kernel_rfl]
  generalize hw1 : (w.alloc (.cells (intC tx0) 129)).alloc (.cells (intC tx0) 129) = w0 at *
  clear hw1
  obtain ⟨b1, hb1⟩ : ∃ b1, Hid (w.heap.size + 1 = b1) := ⟨_, rfl⟩
  rw [hb1.out] at H1 ⊢
  obtain ⟨b0, hb0⟩ : ∃ b0, Hid (w.heap.size = b0) := ⟨_, rfl⟩
  rw [hb0.out] at H0 ⊢
  have hne : b0 ≠ b1 := by have h0 := hb0.out; have h1 := hb1.out; omega
  have hge : w.heap.size ≤ b1 := by have h1 := hb1.out; omega
  have HN := hide hne
  have HG := hide hge
  clear hne hge
  refine (set_any tx0 tx0_len alphaT (by decide) 3 b1 129 w0 H1.out).mono ?_
  rintro e w1 ⟨rfl, hB, hO⟩
  have HBn := hide (Only.below HB.out hO HB.out.size HG.out)
  have H0n := hide (hO.blk H0.out HN.out)
  have H1n : Hid (Blk w1 b1 129 (intC tx1)) := hB
  clear hB hO HB H0 H1
  have HB := HBn
  have H0 := H0n
  have H1 := H1n
  clear HBn H0n H1n
  go_wp2_with fail
  refine (set_any tx1 tx1_len [48, 49, 50, 51, 52, 53, 54, 55, 56, 57] (by decide) 4 b1 129 w1 H1.out).mono ?_
  rintro e w2 ⟨rfl, hB, hO⟩
  have HBn := hide (Only.below HB.out hO HB.out.size HG.out)
  have H0n := hide (hO.blk H0.out HN.out)
  have H1n : Hid (Blk w2 b1 129 (intC tx2)) := hB
  clear hB hO HB H0 H1
  have HB := HBn
  have H0 := H0n
  have H1 := H1n
  clear HBn H0n H1n
  go_wp2_with fail
  refine (set_any tx2 tx2_len [95] (by decide) 5 b1 129 w2 H1.out).mono ?_
  rintro e w3 ⟨rfl, hB, hO⟩
  have HBn := hide (Only.below HB.out hO HB.out.size HG.out)
  have H0n := hide (hO.blk H0.out HN.out)
  have H1n : Hid (Blk w3 b1 129 (intC tx3)) := hB
  clear hB hO HB H0 H1
  have HB := HBn
  have H0 := H0n
  have H1 := H1n
  clear HBn H0n H1n
  go_wp2_with fail
  refine (set_any tx3 tx3_len [32, 9, 10] (by decide) 1 b1 129 w3 H1.out).mono ?_
  rintro e w4 ⟨rfl, hB, hO⟩
  have HBn := hide (Only.below HB.out hO HB.out.size HG.out)
  have H0n := hide (hO.blk H0.out HN.out)
  have H1n : Hid (Blk w4 b1 129 (intC tx4)) := hB
  clear hB hO HB H0 H1
  have HB := HBn
  have H0 := H0n
  have H1 := H1n
  clear HBn H0n H1n
  go_wp2_with fail
  refine (set_any tx4 tx4_len [35] (by decide) 2 b1 129 w4 H1.out).mono ?_
  rintro e w5 ⟨rfl, hB, hO⟩
  have HBn := hide (Only.below HB.out hO HB.out.size HG.out)
  have H0n := hide (hO.blk H0.out HN.out)
  have H1n : Hid (Blk w5 b1 129 (intC tx5)) := hB
  clear hB hO HB H0 H1
  have HB := HBn
  have H0 := H0n
  have H1 := H1n
  clear HBn H0n H1n
  go_wp2_with fail
  refine (set_any tx5 tx5_len [34] (by decide) 6 b1 129 w5 H1.out).mono ?_
  rintro e w6 ⟨rfl, hB, hO⟩
  have HBn := hide (Only.below HB.out hO HB.out.size HG.out)
  have H0n := hide (hO.blk H0.out HN.out)
  have H1n : Hid (Blk w6 b1 129 (intC tx6)) := hB
  clear hB hO HB H0 H1
  have HB := HBn
  have H0 := H0n
  have H1 := H1n
  clear HBn H0n H1n
  go_wp2_with fail
  refine (set_any tx6 tx6_len [33] (by decide) 7 b1 129 w6 H1.out).mono ?_
  rintro e w7 ⟨rfl, hB, hO⟩
  have HBn := hide (Only.below HB.out hO HB.out.size HG.out)
  have H0n := hide (hO.blk H0.out HN.out)
  have H1n : Hid (Blk w7 b1 129 (intC tx7)) := hB
  clear hB hO HB H0 H1
  have HB := HBn
  have H0 := H0n
  have H1 := H1n
  clear HBn H0n H1n
  go_wp2_with fail
  refine (set_any tx7 tx7_len [60, 62] (by decide) 8 b1 129 w7 H1.out).mono ?_
  rintro e w8 ⟨rfl, hB, hO⟩
  have HBn := hide (Only.below HB.out hO HB.out.size HG.out)
  have H0n := hide (hO.blk H0.out HN.out)
  have H1n : Hid (Blk w8 b1 129 (intC tx8)) := hB
  clear hB hO HB H0 H1
  have HB := HBn
  have H0 := H0n
  have H1 := H1n
  clear HBn H0n H1n
  go_wp2_with fail
  refine (set_any tx8 tx8_len [59, 44, 46, 58, 40, 41, 91, 93, 123, 125, 61, 43, 45] (by decide) 9 b1 129 w8 H1.out).mono ?_
  rintro e w9 ⟨rfl, hB, hO⟩
  have HBn := hide (Only.below HB.out hO HB.out.size HG.out)
  have H0n := hide (hO.blk H0.out HN.out)
  have H1n : Hid (Blk w9 b1 129 (intC tx9)) := hB
  clear hB hO HB H0 H1
  have HB := HBn
  have H0 := H0n
  have H1 := H1n
  clear HBn H0n H1n
  have hi : (Tryz.prog.info? 129).map (·.size) = some (intC clsL).size := by rw [intC_size, clsL_len]; kernel_rfl
  have hB1 : Blk w9 b1 129 (intC clsL) := by rw [← tx9_all]; exact H1.out
  have hs0 : 0 + (intC clsL).size ≤ (intC tx0).size := by rw [intC_size, intC_size, clsL_len, tx0_len]; decide
  go_wp2_with (first | ((with_reducible show wpList _ _ _ (Oper.mk _ (Op.load 129 _) _ _ _ _ :: _) _ _); refine wpList_load_all rfl 129 (.tmp 1) rfl b1 rfl 129 (intC clsL) _ hB1 Tryz.underlying129 rfl hi ?_) | ((with_reducible show wpList _ _ _ (Oper.mk _ (Op.store 129 _ _) _ _ _ _ :: _) _ _); refine wpList_store_part rfl 129 (.tmp 0) (.tmp 22) rfl b0 0 (intC clsL) rfl rfl 129 (intC tx0) H0.out hi hs0 (intC_one _) ?_; intro wz ho hb2))
  rw [splice_all' (by rw [intC_size, intC_size, clsL_len, tx0_len])] at hb2
  refine bodyPost_ret (results_cell_blk rfl _ _ b0 129 (intC clsL) _ rfl hb2 Tryz.underlying129 rfl hi) rfl ⟨rfl, ?_⟩
  exact Only.below HB.out ho HB.out.size (by have h0 := hb0.out; omega)
end Go.Proofs.YtgdgdhpmjkefjaaGreatDoor

/- Package lexer: at, while. -/
set_option linter.unusedVariables false
set_option linter.unusedSimpArgs false
namespace Go.Proofs.YtgdgdhpmjkefjaaGreatDoor
open Go.RowKit

/-- a scanner's cells -/
def scC (t : List UInt8) : Array Value := #[.string (bs t)] ++ intC clsL
theorem scC_0 (t : List UInt8) : (scC t)[0]? = some (.string (bs t)) := by unfold scC; rw [Array.getElem?_append_left (by simp)]; rfl
theorem scC_c (t : List UInt8) (c : UInt8) : (scC t)[1 + c.toNat]? = some (.int .i64 (clsB c)) := by
  unfold scC
  rw [Array.getElem?_append_right (by simp)]
  show (intC clsL)[1 + c.toNat - 1]? = _
  rw [Nat.add_sub_cancel_left]
  exact intC_at (clsL_at c)
def atP (t : List UInt8) (i : Nat) : Int := match t[i]? with | some c => clsB c | none => 0
theorem drewN_below (w : World) (n : Nat) : Below w.heap.size w (w.drewN n) := below_drewN (Below.refl _ _) n
set_option maxRecDepth 100000 in
set_option maxHeartbeats 4000000 in
theorem at_any (t : List UInt8) (i : Nat) (hi : i ≤ 1099511627776) (sc : Nat) (T : TypeId) (w : World) (h : Blk w sc T (scC t)) :
    Calls Tryz.prog 114 #[.pointer (some ⟨sc, 0, none⟩), .int .i64 (i : Int)] w fun e w' => e = .returned (.int .i64 (atP t i)) ∧ Below w.heap.size w w' := by
  have c0 := (h.cell 0).trans (scC_0 t)
  have hsz : (bs t).size = t.length := bs_size t
  by_cases hlt : i < t.length
  · obtain ⟨c, hc⟩ : ∃ c, t[i]? = some c := ⟨_, List.getElem?_eq_getElem hlt⟩
    have ci := index_bs t i c hc
    have cc := (h.cell (1 + c.toNat)).trans (scC_c t c)
    have HV : Hid (atP t i = clsB c) := by show _ = _; unfold atP; rw [hc]
    have hu := c.toNat_lt
    have e1 : decide ((t.length : Int) ≤ (i : Int)) = false := by simp; omega
    clear hc h
    generalize clsB c = C at *
    go_enter Tryz.func114, Tryz.ntmps114
    go_wp2_with fail
    go_quiet (fail)
    go_wp2_with fail
    go_ret
    exact ⟨ret_int HV.out.symm, drewN_below _ _⟩
  · have HV : Hid (atP t i = 0) := by show _ = _; unfold atP; rw [List.getElem?_eq_none (by omega)]
    have e1 : decide ((t.length : Int) ≤ (i : Int)) = true := by simp; omega
    clear h
    go_enter Tryz.func114, Tryz.ntmps114
    go_wp2_with fail
    go_ret
    exact ⟨ret_int HV.out.symm, Below.refl _ _⟩
/-- how far bytes of some classes go -/
def runL (K : List Int) (t : List UInt8) : Nat := (t.takeWhile fun c => K.contains (clsB c)).length
def whP (t : List UInt8) (i : Nat) (K : List Int) : Nat := i + runL K (t.drop i)
theorem runL_le (K : List Int) (t : List UInt8) : runL K t ≤ t.length := by unfold runL; exact (List.takeWhile_sublist _).length_le
theorem whP_step {t : List UInt8} {i : Nat} {c : UInt8} {K : List Int} (h : t[i]? = some c) : whP t i K = if K.contains (clsB c) then whP t (i + 1) K else i := by
  have hi : i < t.length := by rcases Nat.lt_or_ge i t.length with h' | h'; exact h'; rw [List.getElem?_eq_none h'] at h; cases h
  have e : t.drop i = c :: t.drop (i + 1) := by
    rw [List.drop_eq_getElem_cons hi]
    rw [List.getElem?_eq_getElem hi] at h
    rw [Option.some.inj h]
  unfold whP runL
  rw [e, List.takeWhile_cons]
  split
  · rw [List.length_cons]; omega
  · rfl
theorem whP_end {t : List UInt8} {i : Nat} {K : List Int} (h : t.length ≤ i) : whP t i K = i := by
  unfold whP runL
  rw [List.drop_of_length_le h]; rfl
def WhI (t : List UInt8) (K : List Int) (i0 : Nat) (w wr : World) (i : Value) : Prop := ∃ k : Nat, i0 ≤ k ∧ (k ≤ t.length ∨ k = i0) ∧ i = .int .i64 (k : Int) ∧ whP t k K = whP t i0 K ∧ Below w.heap.size w wr
set_option maxRecDepth 100000 in
set_option maxHeartbeats 4000000 in
theorem while_any (t : List UInt8) (ht : t.length ≤ 1000000000) (i : Nat) (hi : i ≤ 1000000001) (K : List Int) (hK : K.length ≤ 10) (v : Value) (sc : Nat) (T : TypeId) (w : World) (h : Blk w sc T (scC t)) (hv : IntsAt w v K) :
    Calls Tryz.prog 113 #[.pointer (some ⟨sc, 0, none⟩), .int .i64 (i : Int), v] w fun e w' => e = .returned (.int .i64 (whP t i K : Int)) ∧ Below w.heap.size w w' := by
  obtain ⟨b, c, rfl, hb, hc, hcell⟩ := hv
  have HC := hide hcell
  have Hb := hide hb
  have HS := hide h
  have hsz : (bs t).size = t.length := bs_size t
  clear hcell hb h
  go_enter Tryz.func113, Tryz.ntmps113
  go_wp2_with fail
  go_loopw [1] (fun i' wr => WhI t K i w wr i') (fun i' _ => t.length - (intOf i').toNat)
  case atStart => exact ⟨i, by omega, .inr rfl, rfl, rfl, Below.refl _ _⟩
  case round =>
    obtain ⟨k, hk0, hk1, rfl, hE, hB⟩ := hrel
    have HE := hide hE
    have HB := hide hB
    clear hE hB
    have hk2 : k ≤ 1000000001 := by omega
    have HS1 := hide (HS.out.to HB.out)
    have c0 := (HS1.out.cell 0).trans (scC_0 t)
    by_cases hlt : k < t.length
    · have e1 : decide ((k : Int) < (t.length : Int)) = true := by simp; omega
      obtain ⟨d, hd⟩ : ∃ d, t[k]? = some d := ⟨_, List.getElem?_eq_getElem hlt⟩
      have HW := hide (whP_step (K := K) hd)
      have hA : atP t k = clsB d := by unfold atP; rw [hd]
      have CA := fun w h => at_any t k (by omega) sc T w h
      rw [hA] at CA
      clear hA hd
      have CC := fun (w : World) (h : ∀ j, j < K.length → w.cell? ⟨b, 0 + j, none⟩ = some (.int .i64 (K.getD j 0))) => Tryz.slices_Contains_int b 0 K.length c K (clsB d) w (Nat.le_refl _) (by omega) h
      rw [List.take_length] at CC
      have HK : Hid (∀ w', Below wr.heap.size wr w' → ∀ j, j < K.length → w'.cell? ⟨b, 0 + j, none⟩ = some (.int .i64 (K.getD j 0))) := fun w' hb' j hj => by
        rw [Nat.zero_add]
        have hbr : b < wr.heap.size := Nat.lt_of_lt_of_le Hb.out HB.out.size
        rw [hb'.cell (p := ⟨b, j, none⟩) hbr, HB.out.cell (p := ⟨b, j, none⟩) Hb.out, HC.out j K[j] (List.getElem?_eq_getElem hj)]
        rw [List.getD_eq_getElem?_getD, List.getElem?_eq_getElem hj]; rfl
      by_cases hin : K.contains (clsB d) = true
      · rw [hin] at CC
        rw [if_pos hin] at HW
        clear hin
        generalize clsB d = D at *
        go_wp2_with (first | ((with_reducible refine (CA _ HS1.out).mono ?_); rintro e w' ⟨rfl, hb1⟩) | ((with_reducible refine (CC _ (HK.out _ hb1)).mono ?_); rintro e w9 ⟨rfl, rfl⟩))
        refine ⟨⟨k + 1, by omega, by omega, by go_num, by rw [← HW.out]; exact HE.out, below_to HB.out (Nat.le_refl _) hb1⟩, ?_⟩
        simp [intOf]; omega
      · have hin' : K.contains (clsB d) = false := by simpa using hin
        rw [hin'] at CC
        rw [if_neg hin] at HW
        clear hin hin'
        generalize clsB d = D at *
        go_wp2_with (first | ((with_reducible refine (CA _ HS1.out).mono ?_); rintro e w' ⟨rfl, hb1⟩) | ((with_reducible refine (CC _ (HK.out _ hb1)).mono ?_); rintro e w9 ⟨rfl, rfl⟩))
        go_ret
        exact ⟨ret_int (by rw [← HE.out, HW.out]), below_to HB.out (Nat.le_refl _) hb1⟩
    · have e1 : decide ((k : Int) < (t.length : Int)) = false := by simp; omega
      have HW : Hid (whP t k K = k) := whP_end (by omega)
      go_wp2_with fail
      go_ret
      exact ⟨ret_int (by rw [← HE.out, HW.out]), HB.out⟩
end Go.Proofs.YtgdgdhpmjkefjaaGreatDoor

/- A region that draws its order, walked once whatever the order: each operation owes its own fact, out of the facts of those that it waits for; memory may be made, and a box stored into. -/
set_option linter.unusedVariables false
set_option linter.unusedSimpArgs false
namespace Go.Proofs.YtgdgdhpmjkefjaaGreatDoor
open Go Go.RowKit

section
variable {P : Program} {ops : Array Oper} {Q : Exit → Act → World → Prop} {md : Region.Mode} {C : World → Prop} {a0 : Act}

/-- what the region does not write is as before -/
def Same (ops : Array Oper) (a0 a : Act) : Prop := a.defers = a0.defers ∧ a.tmps.size = a0.tmps.size ∧ ∀ t, (∀ (i : Nat) (o : Oper), ops[i]? = some o → o.dst ≠ some t) → a.tmps[t]? = a0.tmps[t]?
theorem Same.refl (ops : Array Oper) (a : Act) : Same ops a a := ⟨rfl, rfl, fun _ _ => rfl⟩
theorem Same.put {a : Act} (h : Same ops a0 a) {i : Nat} {o : Oper} (ho : ops[i]? = some o) (v : Value) : Same ops a0 (a.put o.dst v) := by
  obtain ⟨h1, h2, h3⟩ := h
  refine ⟨?_, ?_, fun t ht => ?_⟩
  · unfold Act.put; split <;> exact h1
  · unfold Act.put; split
    · simpa using h2
    · exact h2
  · have hne := ht i o ho
    unfold Act.put
    split
    · rename_i d hd
      have : d ≠ t := fun e => hne (by rw [hd, e])
      simp [Array.getElem?_setIfInBounds_ne this]
      exact h3 t ht
    · exact h3 t ht

theorem wpAny_inv (Kn : Nat → Act → World → Prop) (Rel : Nat → World → World → Prop)
    (hacyc : ∀ (i : Nat) (o : Oper), ops[i]? = some o → ∀ e ∈ o.after, Region.binds md e = true → e.on < i)
    (hC : ∀ i w w', C w → Rel i w w' → C w')
    (hkeep : ∀ (i j : Nat) (o : Oper), i ≠ j → ops[i]? = some o → Region.waitsFor md ops j i = false → ∀ a v w w', Kn j a w → Rel i w w' → Kn j (a.put o.dst v) w')
    (hop : ∀ (i : Nat) (o : Oper), ops[i]? = some o → ∀ a w, C w → Same ops a0 a → (∀ e ∈ o.after, Region.binds md e = true → Kn e.on a w) →
      wpOp P ops Q i (fun a' w' => ∃ v, a' = a.put o.dst v ∧ Rel i w w' ∧ Kn i (a.put o.dst v) w') a w)
    (hfin : ∀ a w, C w → Same ops a0 a → (∀ i, i < ops.size → Kn i a w) → Q .normal a w) :
    ∀ (f : Nat) (L : List Nat) (listed : Array Bool) (a : Act) (w : World), L.length ≤ f → listed.size = ops.size → (∀ i, i < ops.size → listed.getD i true = false → i ∈ L) → C w → Same ops a0 a →
      (∀ (j : Nat) (oj : Oper), ops[j]? = some oj → listed.getD j false = true → ∀ e ∈ oj.after, Region.binds md e = true → listed.getD e.on false = true) →
      (∀ i, i < ops.size → listed.getD i false = true → Kn i a w) → wpAny P md ops Q f listed a w := by
  have hfull : ∀ listed : Array Bool, listed.size = ops.size → Region.ready md ops listed = [] → ∀ (d i : Nat), i < d → i < ops.size → listed.getD i false = true := by
    intro listed hsz hr d
    induction d with
    | zero => intro i hi; omega
    | succ d ih =>
      intro i hi hin
      rcases Nat.lt_or_ge i d with h | h
      · exact ih i h hin
      · obtain rfl : i = d := by omega
        cases hl : listed.getD i false with
        | true => rfl
        | false =>
          have hmem : i ∈ Region.ready md ops listed := by
            rw [mem_ready]
            refine ⟨getD_in (by omega) hl, ops[i], Array.getElem?_eq_getElem hin, fun e he hb => ?_⟩
            have := hacyc i ops[i] (Array.getElem?_eq_getElem hin) e he hb
            exact ih e.on this (by omega)
          rw [hr] at hmem
          cases hmem
  intro f
  induction f with
  | zero =>
    intro L listed a w hL hsz hun hw hs hcl hk
    have hall : ∀ i, i < ops.size → listed.getD i false = true := by
      intro i hi
      cases hl : listed.getD i false with
      | true => rfl
      | false =>
        have := hun i hi (getD_in (by omega) hl)
        have hL0 : L = [] := List.length_eq_zero_iff.1 (by omega)
        rw [hL0] at this
        cases this
    have hr : Region.ready md ops listed = [] := by
      apply List.eq_nil_iff_forall_not_mem.2
      intro i hi
      obtain ⟨h1, o, ho, _⟩ := mem_ready.1 hi
      have hlt : i < ops.size := (Array.getElem?_eq_some_iff.1 ho).1
      have h2 := hall i hlt
      rw [getD_both h1] at h2
      cases h2
    exact ⟨hr, hfin a w hw hs (fun i hi => hk i hi (hall i hi))⟩
  | succ f ih =>
    intro L listed a w hL hsz hun hw hs hcl hk
    refine ⟨fun hr => hfin a w hw hs (fun i hi => hk i hi (hfull listed hsz hr _ i hi hi)), fun i hi => ?_⟩
    obtain ⟨hiun, o, ho, hall⟩ := mem_ready.1 hi
    have hlt : i < ops.size := (Array.getElem?_eq_some_iff.1 ho).1
    refine wpOp_mono ?_ (hop i o ho a w hw hs (fun e he hb => hk e.on (by have := hacyc i o ho e he hb; omega) (hall e he hb)))
    rintro a' w' ⟨v, rfl, hrel, hkn⟩
    have hiL := hun i hlt hiun
    refine ih (L.erase i) (listed.setIfInBounds i true) _ w' ?_ (by simpa using hsz) ?_ (hC i _ _ hw hrel) (hs.put ho v) ?_ ?_
    · rw [List.length_erase_of_mem hiL]; omega
    · intro j hj hjl
      rcases Nat.decEq j i with hji | hji
      · rw [getD_set_ne true (Ne.symm hji)] at hjl
        exact (List.mem_erase_of_ne hji).2 (hun j hj hjl)
      · subst hji
        rw [Array.getD_eq_getD_getElem?, Array.getElem?_setIfInBounds_self_of_lt (by omega)] at hjl
        cases hjl
    · intro j oj hoj hjl e he hb
      rcases Nat.decEq j i with hji | hji
      · rw [getD_set_ne false (Ne.symm hji)] at hjl
        exact getD_set_true (hcl j oj hoj hjl e he hb)
      · subst hji
        have : oj = o := Option.some.inj (hoj.symm.trans ho)
        subst this
        exact getD_set_true (hall e he hb)
    · intro j hj hjl
      rcases Nat.decEq j i with hji | hji
      · rw [getD_set_ne false (Ne.symm hji)] at hjl
        refine hkeep i j o (Ne.symm hji) ho ?_ a v w w' (hk j hj hjl) hrel
        cases hwf : Region.waitsFor md ops j i with
        | false => rfl
        | true =>
          obtain ⟨oj, hoj, e, he, hb, hon⟩ := Region.waitsFor_spec hwf
          have h1 := hcl j oj hoj hjl e he hb
          rw [hon, getD_both hiun] at h1
          cases h1
      · subst hji; exact hkn

/-! ### facts by lists: the values that are known ahead; what holds besides -/
def Kn (ops : Array Oper) (V : List (Option Value)) (Fs : List (Nat × (Act → World → Prop))) (i : Nat) (a : Act) (w : World) : Prop :=
  (∀ (o : Oper) (v : Value) (d : Tmp), ops[i]? = some o → V[i]? = some (some v) → o.dst = some d → a.tmps[d]? = some v) ∧ ∀ p ∈ Fs, p.1 = i → p.2 a w
/-- the region is fit for it -/
def looseB (ops : Array Oper) (n : Nat) : Bool :=
  (List.range ops.size).all fun i => match ops[i]? with
    | none => true
    | some o => (o.after.all fun e => !Region.binds .any e || decide (e.on < i)) &&
      (match o.dst with
       | none => true
       | some d => decide (d < n) && (List.range ops.size).all fun j => (i == j) || (match ops[j]? with
          | none => true
          | some oj => (oj.dst != some d) && (!(oj.looksAt ops).contains d || Region.waitsFor .any ops j i)))
theorem looseB_spec {n : Nat} (h : looseB ops n = true) : ∀ (i : Nat) (o : Oper), ops[i]? = some o → (∀ e ∈ o.after, Region.binds .any e = true → e.on < i) ∧
    ∀ d, o.dst = some d → d < n ∧ ∀ (j : Nat) (oj : Oper), i ≠ j → ops[j]? = some oj → oj.dst ≠ some d ∧ (d ∈ oj.looksAt ops → Region.waitsFor .any ops j i = true) := by
  intro i o ho
  have hlt : i < ops.size := (Array.getElem?_eq_some_iff.1 ho).1
  have h1 := List.all_eq_true.1 h i (List.mem_range.2 hlt)
  simp only [ho, Bool.and_eq_true] at h1
  refine ⟨fun e he hb => ?_, fun d hd => ?_⟩
  · have := Array.all_eq_true_iff_forall_mem.1 h1.1 e he
    simpa [hb] using this
  · have h2 := h1.2
    simp only [hd, Bool.and_eq_true, decide_eq_true_eq] at h2
    refine ⟨h2.1, fun j oj hij hoj => ?_⟩
    have hjlt : j < ops.size := (Array.getElem?_eq_some_iff.1 hoj).1
    have h3 := List.all_eq_true.1 h2.2 j (List.mem_range.2 hjlt)
    simp only [hoj, Bool.or_eq_true, Bool.and_eq_true, bne_iff_ne, beq_iff_eq] at h3
    rcases h3 with h3 | h3
    · exact absurd h3 hij
    · refine ⟨h3.1, fun hm => ?_⟩
      rcases h3.2 with h4 | h4
      · simp only [Bool.not_eq_true', List.contains_eq_mem, decide_eq_false_iff_not] at h4
        exact absurd hm h4
      · exact h4

/-- what operation i owes -/
def Owes (P : Program) (ops : Array Oper) (Q : Exit → Act → World → Prop) (C : World → Prop) (a0 : Act) (V : List (Option Value)) (Fs : List (Nat × (Act → World → Prop))) (Rel : Nat → World → World → Prop) (i : Nat) (o : Oper) : Prop :=
  ∀ (a : Act) (w : World) (K : Act → World → Prop), C w → Same ops a0 a → (∀ e ∈ o.after, Region.binds .any e = true → Kn ops V Fs e.on a w) →
    (∀ v w', Rel i w w' → (∀ v0, V[i]? = some (some v0) → v = v0) → (∀ p ∈ Fs, p.1 = i → p.2 (a.put o.dst v) w') → K (a.put o.dst v) w') →
    if Region.wanted o (yielded ops a.tmps) then o.wp P a w K Q else K (a.put o.dst undef) w
def AllOwe (P : Program) (ops : Array Oper) (Q : Exit → Act → World → Prop) (C : World → Prop) (a0 : Act) (V : List (Option Value)) (Fs : List (Nat × (Act → World → Prop))) (Rel : Nat → World → World → Prop) : List Oper → Nat → Prop
  | [], _ => True
  | o :: l, k => Owes P ops Q C a0 V Fs Rel k o ∧ AllOwe P ops Q C a0 V Fs Rel l (k + 1)
theorem AllOwe.at {V : List (Option Value)} {Fs : List (Nat × (Act → World → Prop))} {Rel : Nat → World → World → Prop} : ∀ (l : List Oper) (k : Nat), AllOwe P ops Q C a0 V Fs Rel l k → ∀ (j : Nat) (o : Oper), l[j]? = some o → Owes P ops Q C a0 V Fs Rel (k + j) o
  | [], _, _, j, o, ho => by simp at ho
  | x :: l, k, h, 0, o, ho => by
    simp only [List.getElem?_cons_zero, Option.some.injEq] at ho
    subst ho
    exact h.1
  | x :: l, k, h, j + 1, o, ho => by
    simp only [List.getElem?_cons_succ] at ho
    have := AllOwe.at l (k + 1) h.2 j o ho
    rwa [show k + 1 + j = k + (j + 1) by omega] at this

/-- the slots of an operation: its own and those that it looks at -/
def Oper.slots (ops : Array Oper) (i : Nat) : List Tmp := match ops[i]? with
  | none => []
  | some o => o.dst.toList ++ o.looksAt ops
theorem wpAny_loose {w : World} {l : List Oper} (V : List (Option Value)) (Fs : List (Nat × (Act → World → Prop))) (Rel : Nat → World → World → Prop)
    (hB : looseB l.toArray a0.tmps.size = true) (hCw : C w.drew) (hC : ∀ i w w', C w → Rel i w w' → C w')
    (hst : ∀ p ∈ Fs, ∀ (i : Nat) (a a' : Act) (w w' : World), i ≠ p.1 → Region.waitsFor .any l.toArray p.1 i = false → (∀ t, (Oper.slots l.toArray p.1).contains t = true → a'.tmps[t]? = a.tmps[t]?) → Rel i w w' → p.2 a w → p.2 a' w')
    (hop : AllOwe P l.toArray Q C a0 V Fs Rel l 0)
    (hfin : ∀ a w, C w → Same l.toArray a0 a → (∀ i, i < l.length → Kn l.toArray V Fs i a w) → Q .normal a w) : wpAny P .any l.toArray Q l.toArray.size (Array.replicate l.toArray.size false) a0 w.drew := by
  have hspec := looseB_spec hB
  refine (wpAny_inv (C := C) (a0 := a0) (Kn l.toArray V Fs) Rel (fun i o ho => (hspec i o ho).1) hC ?_ ?_ ?_ _ (List.range l.toArray.size) _ _ _ (by simp) (by simp) ?_ hCw (Same.refl _ _) ?_ ?_)
  · intro i j o hij ho hwf a v w w' hk hrel
    refine ⟨fun oj u d hoj hu hd => ?_, fun p hp hpj => ?_⟩
    · have h1 := hk.1 oj u d hoj hu hd
      unfold Act.put
      split
      · rename_i di hdi
        have hne : di ≠ d := fun e => ((hspec i o ho).2 di hdi).2 j oj hij hoj |>.1 (by rw [hd, e])
        show (a.tmps.setIfInBounds di v)[d]? = _
        rw [Array.getElem?_setIfInBounds_ne hne]
        exact h1
      · exact h1
    · refine hst p hp i a _ w w' (by rw [hpj]; exact hij) (by rw [hpj]; exact hwf) (fun t ht => ?_) hrel (hk.2 p hp hpj)
      rw [hpj, List.contains_iff_mem] at ht
      unfold Act.put
      split
      · rename_i di hdi
        show (a.tmps.setIfInBounds di v)[t]? = _
        have hne : di ≠ t := by
          intro e
          subst e
          unfold Oper.slots at ht
          split at ht
          · cases ht
          · rename_i oj hoj
            have h2 := ((hspec i o ho).2 di hdi).2 j oj hij hoj
            rcases List.mem_append.1 ht with h3 | h3
            · rw [Option.mem_toList] at h3
              exact h2.1 h3
            · rw [h2.2 h3] at hwf
              cases hwf
        rw [Array.getElem?_setIfInBounds_ne hne]
      · rfl
  · intro i o ho a w hw hs hk
    have h := AllOwe.at l 0 hop i o (by simpa using ho)
    rw [Nat.zero_add] at h
    unfold wpOp
    simp only [ho]
    have hput : ∀ (v : Value) (w' : World), Rel i w w' → (∀ v0, V[i]? = some (some v0) → v = v0) → (∀ p ∈ Fs, p.1 = i → p.2 (a.put o.dst v) w') → ∃ u, a.put o.dst v = a.put o.dst u ∧ Rel i w w' ∧ Kn l.toArray V Fs i (a.put o.dst u) w' := by
      intro v w' hr hv hf
      refine ⟨v, rfl, hr, fun oj u d hoj hu hd => ?_, hf⟩
      have : oj = o := Option.some.inj (hoj.symm.trans ho)
      subst this
      have hvu := hv u hu
      subst hvu
      have hlt := ((hspec i oj ho).2 d hd).1
      unfold Act.put
      rw [hd]
      show (a.tmps.setIfInBounds d v)[d]? = _
      rw [Array.getElem?_setIfInBounds_self_of_lt (by rw [hs.2.1]; exact hlt)]
    have h' := h a w (fun a' w' => ∃ u, a' = a.put o.dst u ∧ Rel i w w' ∧ Kn l.toArray V Fs i (a.put o.dst u) w') hw hs hk hput
    split
    · rename_i hwt
      rw [if_pos hwt] at h'
      exact .inl h'
    · rename_i hwt
      rw [if_neg hwt] at h'
      exact h'
  · intro a w hw hs hk
    exact hfin a w hw hs (fun i hi => hk i (by simpa using hi))
  · intro i hi _
    simpa using hi
  · intro j oj _ hl
    rw [getD_replicate_false] at hl
    cases hl
  · intro i _ hl
    rw [getD_replicate_false] at hl
    cases hl

theorem wp_region_loose {id : Nat} {w : World} {l : List Oper} (V : List (Option Value)) (Fs : List (Nat × (Act → World → Prop))) (Rel : Nat → World → World → Prop)
    (hm : P.follows .mixedOrders = true) (hB : looseB l.toArray a0.tmps.size = true) (hCw : C w.drew) (hC : ∀ i w w', C w → Rel i w w' → C w')
    (hst : ∀ p ∈ Fs, ∀ (i : Nat) (a a' : Act) (w w' : World), i ≠ p.1 → Region.waitsFor .any l.toArray p.1 i = false → (∀ t, (Oper.slots l.toArray p.1).contains t = true → a'.tmps[t]? = a.tmps[t]?) → Rel i w w' → p.2 a w → p.2 a' w')
    (hop : AllOwe P l.toArray Q C a0 V Fs Rel l 0)
    (hfin : ∀ a w, C w → Same l.toArray a0 a → (∀ i, i < l.length → Kn l.toArray V Fs i a w) → Q .normal a w) : (Code.region id l.toArray true).wp P Q a0 w :=
  wp_region_any hm (wpAny_loose V Fs Rel hB hCw hC hst hop hfin)

end
/-! ### words for its use -/
def noDst (ops : Array Oper) (t : Tmp) : Bool := ops.all fun o => o.dst != some t
theorem Same.at {ops : Array Oper} {a0 a : Act} (h : Same ops a0 a) (t : Tmp) (hno : noDst ops t = true) {v : Value} (hv : a0.tmps[t]? = some v) : a.tmps[t]? = some v := by
  rw [h.2.2 t (fun i o ho e => by
    have := Array.all_eq_true_iff_forall_mem.1 hno o (Array.mem_of_getElem? ho)
    rw [e] at this
    simp at this)]
  exact hv
theorem Kn.at {ops : Array Oper} {V : List (Option Value)} {Fs : List (Nat × (Act → World → Prop))} {i : Nat} {a : Act} {w : World} (h : Kn ops V Fs i a w) {o : Oper} {d : Tmp} {v : Value} (ho : ops[i]? = some o) (hd : o.dst = some d) (hv : V[i]? = some (some v)) : a.tmps[d]? = some v := h.1 o v d ho hv hd
theorem waits_on {ops : Array Oper} {V : List (Option Value)} {Fs : List (Nat × (Act → World → Prop))} {a : Act} {w : World} {o : Oper} (h : ∀ e ∈ o.after, Region.binds .any e = true → Kn ops V Fs e.on a w) (j : Nat)
    (hj : (o.after.any fun e => Region.binds .any e && e.on == j) = true) : Kn ops V Fs j a w := by
  obtain ⟨e, he, hb⟩ := Array.any_eq_true'.1 hj
  simp only [Bool.and_eq_true, beq_iff_eq] at hb
  rw [← hb.2]
  exact h e he hb.1
theorem vok {V : List (Option Value)} {i : Nat} {v : Value} (h : V[i]? = some (some v)) : ∀ v0, V[i]? = some (some v0) → v = v0 := fun v0 h0 => by
  rw [h] at h0
  exact Option.some.inj (Option.some.inj h0)
theorem vfree {V : List (Option Value)} {i : Nat} {v : Value} (h : V[i]? = some none) : ∀ v0, V[i]? = some (some v0) → v = v0 := fun v0 h0 => by
  rw [h] at h0
  cases h0
theorem facts_nil {i : Nat} {a : Act} {w : World} : ∀ p ∈ ([] : List (Nat × (Act → World → Prop))), p.1 = i → p.2 a w := fun p hp => by cases hp
theorem facts_cons {i j : Nat} {F : Act → World → Prop} {Fs : List (Nat × (Act → World → Prop))} {a : Act} {w : World} (h1 : j = i → F a w) (h2 : ∀ p ∈ Fs, p.1 = i → p.2 a w) : ∀ p ∈ (j, F) :: Fs, p.1 = i → p.2 a w := fun p hp hi => by
  rcases List.mem_cons.1 hp with rfl | hp
  · exact h1 hi
  · exact h2 p hp hi
section
variable {ops : Array Oper} {Rel : Nat → World → World → Prop}
theorem keeps_nil : ∀ p ∈ ([] : List (Nat × (Act → World → Prop))), ∀ (i : Nat) (a a' : Act) (w w' : World), i ≠ p.1 → Region.waitsFor .any ops p.1 i = false → (∀ t, (Oper.slots ops p.1).contains t = true → a'.tmps[t]? = a.tmps[t]?) → Rel i w w' → p.2 a w → p.2 a' w' := fun p hp => by cases hp
theorem keeps_cons {j : Nat} {F : Act → World → Prop} {Fs : List (Nat × (Act → World → Prop))} (h1 : ∀ (i : Nat) (a a' : Act) (w w' : World), i ≠ j → Region.waitsFor .any ops j i = false → (∀ t, (Oper.slots ops j).contains t = true → a'.tmps[t]? = a.tmps[t]?) → Rel i w w' → F a w → F a' w')
    (h2 : ∀ p ∈ Fs, ∀ (i : Nat) (a a' : Act) (w w' : World), i ≠ p.1 → Region.waitsFor .any ops p.1 i = false → (∀ t, (Oper.slots ops p.1).contains t = true → a'.tmps[t]? = a.tmps[t]?) → Rel i w w' → p.2 a w → p.2 a' w') :
    ∀ p ∈ (j, F) :: Fs, ∀ (i : Nat) (a a' : Act) (w w' : World), i ≠ p.1 → Region.waitsFor .any ops p.1 i = false → (∀ t, (Oper.slots ops p.1).contains t = true → a'.tmps[t]? = a.tmps[t]?) → Rel i w w' → p.2 a w → p.2 a' w' := fun p hp => by
  rcases List.mem_cons.1 hp with rfl | hp
  · exact h1
  · exact h2 p hp
end
/-- guards -/
theorem want_free {o : Oper} {f : Nat → Option Bool} (hg : o.guard = none) : Region.wanted o f = true := by unfold Region.wanted; rw [hg]
/-- the frame at the end -/
def litT (T : Array Value) : List (Tmp × Value) → Array Value
  | [] => T
  | p :: l => litT (T.setIfInBounds p.1 p.2) l
theorem litT_size : ∀ (l : List (Tmp × Value)) (T : Array Value), (litT T l).size = T.size
  | [], _ => rfl
  | p :: l, T => by show (litT (T.setIfInBounds p.1 p.2) l).size = _; rw [litT_size l]; simp
theorem litT_other : ∀ (l : List (Tmp × Value)) (T : Array Value) (t : Tmp), (∀ p ∈ l, p.1 ≠ t) → (litT T l)[t]? = T[t]?
  | [], _, _, _ => rfl
  | p :: l, T, t, h => by
    show (litT (T.setIfInBounds p.1 p.2) l)[t]? = _
    rw [litT_other l _ t (fun q hq => h q (List.mem_cons_of_mem _ hq)), Array.getElem?_setIfInBounds_ne (h p (List.mem_cons_self ..))]
theorem litT_in (u : Tmp → Option Value) : ∀ (l : List (Tmp × Value)) (T : Array Value) (t : Tmp), (∀ p ∈ l, u p.1 = some p.2) → (∃ p ∈ l, p.1 = t) → t < T.size → (litT T l)[t]? = u t
  | [], _, _, _, ⟨p, hp, _⟩, _ => by cases hp
  | p :: l, T, t, h, hex, ht => by
    show (litT (T.setIfInBounds p.1 p.2) l)[t]? = _
    by_cases hl : ∃ q ∈ l, q.1 = t
    · exact litT_in u l _ t (fun q hq => h q (List.mem_cons_of_mem _ hq)) hl (by simpa using ht)
    · rw [litT_other l _ t (fun q hq e => hl ⟨q, hq, e⟩)]
      obtain ⟨q, hq, hqt⟩ := hex
      rcases List.mem_cons.1 hq with rfl | hq
      · subst hqt
        rw [Array.getElem?_setIfInBounds_self_of_lt ht, h q (List.mem_cons_self ..)]
      · exact absurd ⟨q, hq, hqt⟩ hl
def coverB (ops : Array Oper) (l : List (Tmp × Value)) : Bool := ops.all fun o => match o.dst with | none => true | some d => l.any fun p => p.1 == d
theorem Same.lit {ops : Array Oper} {a0 a : Act} (h : Same ops a0 a) (l : List (Tmp × Value)) (hc : coverB ops l = true) (hv : ∀ p ∈ l, a.tmps[p.1]? = some p.2) : a = ⟨litT a0.tmps l, a0.defers⟩ := by
  have ht : a.tmps = litT a0.tmps l := by
    apply Array.ext_getElem?
    intro t
    by_cases hex : ∃ p ∈ l, p.1 = t
    · rcases Nat.lt_or_ge t a0.tmps.size with hlt | hge
      · rw [litT_in (fun t => a.tmps[t]?) l _ t hv hex hlt]
      · rw [Array.getElem?_eq_none (by rw [h.2.1]; exact hge), Array.getElem?_eq_none (by rw [litT_size]; exact hge)]
    · rw [litT_other l _ t (fun p hp e => hex ⟨p, hp, e⟩)]
      refine h.2.2 t (fun i o ho e => hex ?_)
      have h1 := Array.all_eq_true_iff_forall_mem.1 hc o (Array.mem_of_getElem? ho)
      simp only [e, List.any_eq_true, beq_iff_eq] at h1
      exact h1
  cases a
  simp only at ht
  rw [ht]
  have := h.1
  simp only at this
  rw [this]
theorem lits_nil {a : Act} : ∀ p ∈ ([] : List (Tmp × Value)), a.tmps[p.1]? = some p.2 := fun p hp => by cases hp
theorem lits_cons {a : Act} {d : Tmp} {v : Value} {l : List (Tmp × Value)} (h : a.tmps[d]? = some v) (h' : ∀ p ∈ l, a.tmps[p.1]? = some p.2) : ∀ p ∈ (d, v) :: l, a.tmps[p.1]? = some p.2 := fun p hp => by
  rcases List.mem_cons.1 hp with rfl | hp
  · exact h
  · exact h' p hp
/-! ### a store into a box that the region made -/
def BoxRel (B : Nat) (T : TypeId) (w w' : World) : Prop := Below B w w' ∧ (∀ b t cs, t ≠ T → Blk w b t cs → Blk w' b t cs) ∧ ∀ b cs, Blk w b T cs → ∃ cs', cs'.size = cs.size ∧ Blk w' b T cs'
theorem BoxRel.refl (B : Nat) (T : TypeId) (w : World) : BoxRel B T w w := ⟨Below.refl _ _, fun _ _ _ _ h => h, fun _ cs h => ⟨cs, rfl, h⟩⟩
theorem BoxRel.set_ {B : Nat} {T : TypeId} {w w' : World} (h : BoxRel B T w w') {b : Nat} {cs : Array Value} (hb : Blk w' b T cs) (hB : B ≤ b) (i : Nat) (v : Value) : BoxRel B T w (w'.setCell ⟨b, i, none⟩ v) := by
  refine ⟨h.1.setCell hB v, fun g t cs' ht hg => ?_, fun g cs' hg => ?_⟩
  · have h1 := h.2.1 g t cs' ht hg
    have hne : g ≠ b := by
      rintro rfl
      unfold Blk at h1 hb
      rw [h1] at hb
      cases hb
      exact ht rfl
    exact h1.far (p := ⟨b, i, none⟩) hne v
  · obtain ⟨c2, hs, h1⟩ := h.2.2 g cs' hg
    rcases Nat.decEq g b with hne | hne
    · exact ⟨c2, hs, h1.far (p := ⟨b, i, none⟩) hne v⟩
    · subst hne
      exact ⟨_, by rw [Array.size_setIfInBounds]; exact hs, h1.set_ i v⟩
theorem size2 {cs : Array Value} (h : cs.size = 2) : ∃ x y, cs = #[x, y] := by
  rcases cs with ⟨l⟩
  match l, h with
  | [x, y], _ => exact ⟨x, y, rfl⟩
/-- a box of two cells, what it holds unknown -/
def Box2 (B : Nat) (T : TypeId) (s : Tmp) (a : Act) (w : World) : Prop := ∃ b x y, a.tmps[s]? = some (.pointer (some ⟨b, 0, none⟩)) ∧ B ≤ b ∧ Blk w b T #[x, y]
/-- .. known -/
def BoxIs (B : Nat) (T : TypeId) (s : Tmp) (cs : Array Value) (a : Act) (w : World) : Prop := ∃ b, a.tmps[s]? = some (.pointer (some ⟨b, 0, none⟩)) ∧ B ≤ b ∧ Blk w b T cs
theorem Box2.keep {B : Nat} {T : TypeId} {s : Tmp} {a a' : Act} {w w' : World} (h : Box2 B T s a w) (hs : a'.tmps[s]? = a.tmps[s]?) (hr : BoxRel B T w w' ∨ Below w.heap.size w w') : Box2 B T s a' w' := by
  obtain ⟨b, x, y, h1, h2, h3⟩ := h
  rcases hr with hr | hr
  · obtain ⟨cs', hsz, h4⟩ := hr.2.2 _ _ h3
    obtain ⟨x', y', rfl⟩ := size2 (cs := cs') (by rw [hsz]; rfl)
    exact ⟨b, x', y', hs.trans h1, h2, h4⟩
  · exact ⟨b, x, y, hs.trans h1, h2, h3.to hr⟩
theorem BoxIs.keep {B : Nat} {T : TypeId} {s : Tmp} {cs : Array Value} {a a' : Act} {w w' : World} (h : BoxIs B T s cs a w) (hs : a'.tmps[s]? = a.tmps[s]?) (hr : Below w.heap.size w w') : BoxIs B T s cs a' w' := by
  obtain ⟨b, h1, h2, h3⟩ := h
  exact ⟨b, hs.trans h1, h2, h3.to hr⟩
/-- a slice that the region made -/
def RowIs (t : TypeId) (s : Tmp) (n : Nat) (cs : Array Value) (a : Act) (w : World) : Prop := ∃ b, a.tmps[s]? = some (.slice (some ⟨b, 0, none⟩) n n) ∧ Blk w b t cs
theorem RowIs.keep {t : TypeId} {s : Tmp} {n : Nat} {cs : Array Value} {a a' : Act} {w w' : World} (h : RowIs t s n cs a w) (hs : a'.tmps[s]? = a.tmps[s]?) (hr : (∃ B T, t ≠ T ∧ BoxRel B T w w') ∨ Below w.heap.size w w') : RowIs t s n cs a' w' := by
  obtain ⟨b, h1, h3⟩ := h
  rcases hr with ⟨B, T, ht, hr⟩ | hr
  · exact ⟨b, hs.trans h1, hr.2.1 _ _ _ ht h3⟩
  · exact ⟨b, hs.trans h1, h3.to hr⟩
theorem Same.put_at {ops : Array Oper} {a0 a : Act} (h : Same ops a0 a) {s : Tmp} (hs : (decide (s < a0.tmps.size)) = true) (v : Value) : (a.put (some s) v).tmps[s]? = some v := by
  show (a.tmps.setIfInBounds s v)[s]? = _
  rw [Array.getElem?_setIfInBounds_self_of_lt (by rw [h.2.1]; exact of_decide_eq_true hs)]
/-! ### the same in a class of worlds that one letter names -/
section
variable {P : Program} {ops : Array Oper} {Q : Exit → Act → World → Prop} {a0 : Act} {U : Type} {g : U → World}
def OwesG (P : Program) (ops : Array Oper) (Q : Exit → Act → World → Prop) (g : U → World) (a0 : Act) (V : List (Option Value)) (Fs : List (Nat × (Act → World → Prop))) (Rel : Nat → World → World → Prop) (i : Nat) (o : Oper) : Prop :=
  ∀ (a : Act) (u : U) (K : Act → World → Prop), Same ops a0 a → (∀ e ∈ o.after, Region.binds .any e = true → Kn ops V Fs e.on a (g u)) →
    (∀ v w', Rel i (g u) w' → (∀ v0, V[i]? = some (some v0) → v = v0) → (∀ p ∈ Fs, p.1 = i → p.2 (a.put o.dst v) w') → K (a.put o.dst v) w') →
    if Region.wanted o (yielded ops a.tmps) then o.wp P a (g u) K Q else K (a.put o.dst undef) (g u)
def AllOweG (P : Program) (ops : Array Oper) (Q : Exit → Act → World → Prop) (g : U → World) (a0 : Act) (V : List (Option Value)) (Fs : List (Nat × (Act → World → Prop))) (Rel : Nat → World → World → Prop) : List Oper → Nat → Prop
  | [], _ => True
  | o :: l, k => OwesG P ops Q g a0 V Fs Rel k o ∧ AllOweG P ops Q g a0 V Fs Rel l (k + 1)
theorem AllOweG.all {V : List (Option Value)} {Fs : List (Nat × (Act → World → Prop))} {Rel : Nat → World → World → Prop} : ∀ (l : List Oper) (k : Nat), AllOweG P ops Q g a0 V Fs Rel l k → AllOwe P ops Q (fun w' => ∃ u, w' = g u) a0 V Fs Rel l k
  | [], _, _ => trivial
  | o :: l, k, h => ⟨fun a w K hw hs hd hK => by
      obtain ⟨u, rfl⟩ := hw
      exact h.1 a u K hs hd hK, AllOweG.all l (k + 1) h.2⟩
theorem wp_region_looseG {id : Nat} {w : World} {l : List Oper} (g : U → World) (V : List (Option Value)) (Fs : List (Nat × (Act → World → Prop))) (Rel : Nat → World → World → Prop)
    (hm : P.follows .mixedOrders = true) (hB : looseB l.toArray a0.tmps.size = true) (hCw : ∃ u, w.drew = g u) (hC : ∀ i u w', Rel i (g u) w' → ∃ u', w' = g u')
    (hst : ∀ p ∈ Fs, ∀ (i : Nat) (a a' : Act) (w w' : World), i ≠ p.1 → Region.waitsFor .any l.toArray p.1 i = false → (∀ t, (Oper.slots l.toArray p.1).contains t = true → a'.tmps[t]? = a.tmps[t]?) → Rel i w w' → p.2 a w → p.2 a' w')
    (hop : AllOweG P l.toArray Q g a0 V Fs Rel l 0)
    (hfin : ∀ a u, Same l.toArray a0 a → (∀ i, i < l.length → Kn l.toArray V Fs i a (g u)) → Q .normal a (g u)) : (Code.region id l.toArray true).wp P Q a0 w :=
  wp_region_loose (C := fun w' => ∃ u, w' = g u) V Fs Rel hm hB hCw (fun i w w' hw hr => by obtain ⟨u, rfl⟩ := hw; exact hC i u w' hr) hst (AllOweG.all l 0 hop)
    (fun a w hw hs hk => by obtain ⟨u, rfl⟩ := hw; exact hfin a u hs hk)
end
/-! ### stores into an old block f, whose contents go through the stages cs 0 .. cs m -/
structure OldI (f : Nat) (T : TypeId) (cs : Nat → Array Value) (m : Nat) (w1 w : World) : Prop where
  below : Below f w1 w
  st : ∃ s, s ≤ m ∧ Blk w f T (cs s)
/-- at stage k or later -/
def StF (f : Nat) (T : TypeId) (cs : Nat → Array Value) (m k : Nat) (_ : Act) (w : World) : Prop := ∃ s, k ≤ s ∧ s ≤ m ∧ Blk w f T (cs s)
def RelS (f : Nat) (T : TypeId) (cs : Nat → Array Value) (m k : Nat) (w w' : World) : Prop := Below f w w' ∧ (∀ g t c, g ≠ f → Blk w g t c → Blk w' g t c) ∧ ∃ s, k ≤ s ∧ s ≤ m ∧ Blk w' f T (cs s)
section
variable {f m k : Nat} {T : TypeId} {cs : Nat → Array Value} {w1 w w' : World}
theorem OldI.store (h : OldI f T cs m w1 w) (hr : RelS f T cs m k w w') : OldI f T cs m w1 w' := by
  obtain ⟨s, _, hs, hB⟩ := hr.2.2
  exact ⟨h.below.trans hr.1, s, hs, hB⟩
theorem StF.later {a' : Act} {j : Nat} (hr : RelS f T cs m j w w') (hj : k ≤ j) : StF f T cs m k a' w' := by
  obtain ⟨s, h1, h2, hB⟩ := hr.2.2
  exact ⟨s, by omega, h2, hB⟩
/-- a slice that the region made, not the old block -/
def RowOf (f : Nat) (t : TypeId) (s : Tmp) (n : Nat) (c : Array Value) (a : Act) (w : World) : Prop := ∃ b, a.tmps[s]? = some (.slice (some ⟨b, 0, none⟩) n n) ∧ b ≠ f ∧ Blk w b t c
theorem RowOf.keep {t : TypeId} {s : Tmp} {n : Nat} {c : Array Value} {a a' : Act} (h : RowOf f t s n c a w) (hs : a'.tmps[s]? = a.tmps[s]?) (hr : (∃ j, RelS f T cs m j w w') ∨ Below w.heap.size w w') : RowOf f t s n c a' w' := by
  obtain ⟨b, h1, h2, h3⟩ := h
  rcases hr with ⟨j, hr⟩ | hr
  · exact ⟨b, hs.trans h1, h2, hr.2.1 _ _ _ h2 h3⟩
  · exact ⟨b, hs.trans h1, h2, h3.to hr⟩
end
theorem size1 {cs : Array Value} (h : cs.size = 1) : ∃ x0, cs = #[x0] := by
  rcases cs with ⟨l⟩
  match l, h with
  | [x0], _ => exact ⟨x0, rfl⟩
def Box1 (B : Nat) (T : TypeId) (s : Tmp) (a : Act) (w : World) : Prop := ∃ b x0, a.tmps[s]? = some (.pointer (some ⟨b, 0, none⟩)) ∧ B ≤ b ∧ Blk w b T #[x0]
theorem Box1.keep {B : Nat} {T : TypeId} {s : Tmp} {a a' : Act} {w w' : World} (h : Box1 B T s a w) (hs : a'.tmps[s]? = a.tmps[s]?) (hr : BoxRel B T w w' ∨ Below w.heap.size w w') : Box1 B T s a' w' := by
  obtain ⟨b, x0, h1, h2, h3⟩ := h
  rcases hr with hr | hr
  · obtain ⟨cs', hsz, h4⟩ := hr.2.2 _ _ h3
    obtain ⟨y0, rfl⟩ := size1 (cs := cs') (by rw [hsz]; rfl)
    exact ⟨b, y0, hs.trans h1, h2, h4⟩
  · exact ⟨b, x0, hs.trans h1, h2, h3.to hr⟩
theorem size3 {cs : Array Value} (h : cs.size = 3) : ∃ x0 x1 x2, cs = #[x0, x1, x2] := by
  rcases cs with ⟨l⟩
  match l, h with
  | [x0, x1, x2], _ => exact ⟨x0, x1, x2, rfl⟩
def Box3 (B : Nat) (T : TypeId) (s : Tmp) (a : Act) (w : World) : Prop := ∃ b x0 x1 x2, a.tmps[s]? = some (.pointer (some ⟨b, 0, none⟩)) ∧ B ≤ b ∧ Blk w b T #[x0, x1, x2]
theorem Box3.keep {B : Nat} {T : TypeId} {s : Tmp} {a a' : Act} {w w' : World} (h : Box3 B T s a w) (hs : a'.tmps[s]? = a.tmps[s]?) (hr : BoxRel B T w w' ∨ Below w.heap.size w w') : Box3 B T s a' w' := by
  obtain ⟨b, x0, x1, x2, h1, h2, h3⟩ := h
  rcases hr with hr | hr
  · obtain ⟨cs', hsz, h4⟩ := hr.2.2 _ _ h3
    obtain ⟨y0, y1, y2, rfl⟩ := size3 (cs := cs') (by rw [hsz]; rfl)
    exact ⟨b, y0, y1, y2, hs.trans h1, h2, h4⟩
  · exact ⟨b, x0, x1, x2, hs.trans h1, h2, h3.to hr⟩
theorem size4 {cs : Array Value} (h : cs.size = 4) : ∃ x0 x1 x2 x3, cs = #[x0, x1, x2, x3] := by
  rcases cs with ⟨l⟩
  match l, h with
  | [x0, x1, x2, x3], _ => exact ⟨x0, x1, x2, x3, rfl⟩
def Box4 (B : Nat) (T : TypeId) (s : Tmp) (a : Act) (w : World) : Prop := ∃ b x0 x1 x2 x3, a.tmps[s]? = some (.pointer (some ⟨b, 0, none⟩)) ∧ B ≤ b ∧ Blk w b T #[x0, x1, x2, x3]
theorem Box4.keep {B : Nat} {T : TypeId} {s : Tmp} {a a' : Act} {w w' : World} (h : Box4 B T s a w) (hs : a'.tmps[s]? = a.tmps[s]?) (hr : BoxRel B T w w' ∨ Below w.heap.size w w') : Box4 B T s a' w' := by
  obtain ⟨b, x0, x1, x2, x3, h1, h2, h3⟩ := h
  rcases hr with hr | hr
  · obtain ⟨cs', hsz, h4⟩ := hr.2.2 _ _ h3
    obtain ⟨y0, y1, y2, y3, rfl⟩ := size4 (cs := cs') (by rw [hsz]; rfl)
    exact ⟨b, y0, y1, y2, y3, hs.trans h1, h2, h4⟩
  · exact ⟨b, x0, x1, x2, x3, hs.trans h1, h2, h3.to hr⟩
theorem size5 {cs : Array Value} (h : cs.size = 5) : ∃ x0 x1 x2 x3 x4, cs = #[x0, x1, x2, x3, x4] := by
  rcases cs with ⟨l⟩
  match l, h with
  | [x0, x1, x2, x3, x4], _ => exact ⟨x0, x1, x2, x3, x4, rfl⟩
def Box5 (B : Nat) (T : TypeId) (s : Tmp) (a : Act) (w : World) : Prop := ∃ b x0 x1 x2 x3 x4, a.tmps[s]? = some (.pointer (some ⟨b, 0, none⟩)) ∧ B ≤ b ∧ Blk w b T #[x0, x1, x2, x3, x4]
theorem Box5.keep {B : Nat} {T : TypeId} {s : Tmp} {a a' : Act} {w w' : World} (h : Box5 B T s a w) (hs : a'.tmps[s]? = a.tmps[s]?) (hr : BoxRel B T w w' ∨ Below w.heap.size w w') : Box5 B T s a' w' := by
  obtain ⟨b, x0, x1, x2, x3, x4, h1, h2, h3⟩ := h
  rcases hr with hr | hr
  · obtain ⟨cs', hsz, h4⟩ := hr.2.2 _ _ h3
    obtain ⟨y0, y1, y2, y3, y4, rfl⟩ := size5 (cs := cs') (by rw [hsz]; rfl)
    exact ⟨b, y0, y1, y2, y3, y4, hs.trans h1, h2, h4⟩
  · exact ⟨b, x0, x1, x2, x3, x4, hs.trans h1, h2, h3.to hr⟩
end Go.Proofs.YtgdgdhpmjkefjaaGreatDoor

/- Results of which the first lies in a block. -/
set_option linter.unusedVariables false
set_option linter.unusedSimpArgs false
namespace Go.Proofs.YtgdgdhpmjkefjaaGreatDoor
open Go.RowKit

theorem results_c1 {P : Program} {fn : Func} {p u : Tmp} {ty : TypeId} (h : fn.results = #[.cell p ty, .tmp u]) (tmps : Array Value) (w : World) (g : Nat) (t : TypeId) (cs : Array Value) (d : TypeDesc)
    (hp : tmps.getD p undef = .pointer (some ⟨g, 0, none⟩)) (hg : Blk w g t cs) (hu : P.underlying ty = some d) (hd : (match d with | .struct _ | .array _ _ => true | _ => false) = true) (hi : (P.info? ty).map (·.size) = some cs.size) :
    (results fn tmps).run P w = .ok (.tuple #[.agg cs, tmps.getD u undef]) w := by
  have hp' : tmps[p]?.getD undef = .pointer (some ⟨g, 0, none⟩) := by simpa using hp
  simp [results, h, hp', asAddr, run_loadVar_row w g t ty cs (0, 0) d hg hu hd hi]
theorem results_c2 {P : Program} {fn : Func} {p u v : Tmp} {ty : TypeId} (h : fn.results = #[.cell p ty, .tmp u, .tmp v]) (tmps : Array Value) (w : World) (g : Nat) (t : TypeId) (cs : Array Value) (d : TypeDesc)
    (hp : tmps.getD p undef = .pointer (some ⟨g, 0, none⟩)) (hg : Blk w g t cs) (hu : P.underlying ty = some d) (hd : (match d with | .struct _ | .array _ _ => true | _ => false) = true) (hi : (P.info? ty).map (·.size) = some cs.size) :
    (results fn tmps).run P w = .ok (.tuple #[.agg cs, tmps.getD u undef, tmps.getD v undef]) w := by
  have hp' : tmps[p]?.getD undef = .pointer (some ⟨g, 0, none⟩) := by simpa using hp
  simp [results, h, hp', asAddr, run_loadVar_row w g t ty cs (0, 0) d hg hu hd hi]
end Go.Proofs.YtgdgdhpmjkefjaaGreatDoor

/- Package lexer: a name. -/
set_option linter.unusedVariables false
set_option linter.unusedSimpArgs false
namespace Go.Proofs.YtgdgdhpmjkefjaaGreatDoor
open Go.RowKit

/-- a token as a value -/
structure Tk where
  k : Int
  a : Int
  n : Int
  s : List UInt8
def tcells (x : Tk) : Array Value := #[.int .i64 x.k, .int .i64 x.a, .int .i64 x.n, .string (bs x.s)]
def tval (x : Tk) : Value := .agg (tcells x)
def sub (t : List UInt8) (i j : Nat) : List UInt8 := (t.drop i).take (j - i)
/-! a text that is one name -/
def isLet (c : UInt8) : Bool := clsB c == 3
def isWd (c : UInt8) : Bool := [3, 4, 5].contains (clsB c)
def isNm (t : List UInt8) : Bool := (match t with | c :: _ => isLet c | [] => false) && t.all isWd && decide (t.length ≤ 24)
theorem nm_facts {t : List UInt8} (h : isNm t = true) : atP t 0 = 3 ∧ whP t 0 [3, 4, 5] = t.length ∧ t.length ≤ 24 ∧ 1 ≤ t.length := by
  unfold isNm at h
  match t, h with
  | [], h => simp at h
  | c :: r, h =>
    simp only [Bool.and_eq_true, decide_eq_true_eq] at h
    refine ⟨?_, ?_, h.2, by simp⟩
    · unfold atP
      have := h.1.1
      unfold isLet at this
      simpa using this
    · unfold whP runL
      rw [Nat.zero_add, List.drop_zero]
      congr 1
      have hall := h.1.2
      clear h
      generalize c :: r = l at *
      induction l with
      | nil => rfl
      | cons a l ih =>
        simp only [List.all_cons, Bool.and_eq_true] at hall
        rw [List.takeWhile_cons, if_pos (show [3, 4, 5].contains (clsB a) = true from hall.1), ih hall.2]
end Go.Proofs.YtgdgdhpmjkefjaaGreatDoor

/- Numbers in digits. No program in sight. -/
set_option linter.unusedVariables false
set_option linter.unusedSimpArgs false
namespace Go.Proofs.YtgdgdhpmjkefjaaGreatDoor
open Go

def isDi (c : UInt8) : Bool := decide (48 ≤ c.toNat) && decide (c.toNat ≤ 57)
theorem isDi_iff (c : UInt8) : isDi c = true ↔ 48 ≤ c.toNat ∧ c.toNat ≤ 57 := by simp [isDi]
def numD (l : List UInt8) : Nat := l.foldl (fun a c => a * 10 + (c.toNat - 48)) 0
theorem atoiD_go : ∀ (l : List UInt8) (acc : Nat), (∀ c ∈ l, isDi c = true) → (acc + 1) * 10 ^ l.length ≤ 10 ^ 18 → Lib.parseUint10 acc l = .ok (l.foldl (fun a c => a * 10 + (c.toNat - 48)) acc)
  | [], acc, _, _ => rfl
  | c :: r, acc, hd, hv => by
    have hc := (isDi_iff c).1 (hd c (by simp))
    have h1 : 1 ≤ 10 ^ r.length := Nat.pow_pos (by decide)
    rw [List.length_cons, Nat.pow_succ] at hv
    have h2 : (acc * 10 + (c.toNat - 48) + 1) * 10 ^ r.length ≤ 10 ^ 18 := by
      refine Nat.le_trans (Nat.mul_le_mul_right _ (show acc * 10 + (c.toNat - 48) + 1 ≤ (acc + 1) * 10 by omega)) ?_
      rw [Nat.mul_assoc, Nat.mul_comm 10]
      exact hv
    have h3 : acc * 10 + (c.toNat - 48) + 1 ≤ 10 ^ 18 := Nat.le_trans (Nat.le_mul_of_pos_right _ h1) h2
    rw [Lib.parseUint10, if_pos hc, if_neg (by omega), if_neg (by omega), atoiD_go r _ (fun d h => hd d (by simp [h])) h2]
    rfl
theorem numD_go_lt : ∀ (l : List UInt8) (acc : Nat), (∀ c ∈ l, isDi c = true) → l.foldl (fun a c => a * 10 + (c.toNat - 48)) acc < (acc + 1) * 10 ^ l.length := by
  intro l
  induction l with
  | nil => intro acc _; simp
  | cons c r ih =>
    intro acc h
    have hc := (isDi_iff c).1 (h c (by simp))
    have h1 := ih (acc * 10 + (c.toNat - 48)) (fun d hd => h d (by simp [hd]))
    rw [List.foldl_cons, List.length_cons, Nat.pow_succ, Nat.mul_comm (10 ^ r.length), ← Nat.mul_assoc]
    exact Nat.lt_of_lt_of_le h1 (Nat.mul_le_mul_right _ (by omega))
theorem numD_lt {l : List UInt8} (hd : ∀ c ∈ l, isDi c = true) : numD l < 10 ^ l.length := by
  have := numD_go_lt l 0 hd
  unfold numD
  omega
theorem atoi_numD {l : List UInt8} (hd : ∀ c ∈ l, isDi c = true) (hn : l ≠ []) (hl : l.length ≤ 17) : Lib.atoiAll l = .ok (numD l : Int) := by
  have hg := atoiD_go l 0 hd (by
    have : 10 ^ l.length ≤ 10 ^ 17 := Nat.pow_le_pow_right (by decide) hl
    omega)
  have hb : numD l < 10 ^ 18 := by
    have h1 := numD_lt hd
    have h2 : 10 ^ l.length ≤ 10 ^ 17 := Nat.pow_le_pow_right (by decide) hl
    omega
  cases l with
  | nil => exact absurd rfl hn
  | cons c r =>
    have hc := (isDi_iff c).1 (hd c (by simp))
    unfold Lib.atoiAll Lib.parseMag
    simp only
    rw [if_neg (show ¬ (c.toNat = 43 ∨ c.toNat = 45) by omega), if_neg (by simp), hg]
    simp only
    show (if _ then _ else _) = _
    have e : List.foldl (fun a c => a * 10 + (c.toNat - 48)) 0 (c :: r) = numD (c :: r) := rfl
    rw [e]
    rw [if_neg (by omega), if_neg (by omega), if_neg (by omega)]
end Go.Proofs.YtgdgdhpmjkefjaaGreatDoor

/- Package lexer at every text: what gap, next and Lex give. No program in sight. -/
set_option linter.unusedVariables false
set_option linter.unusedSimpArgs false
namespace Go.Proofs.YtgdgdhpmjkefjaaGreatDoor
open Go.RowKit

/-- how many bytes of gaps a text begins with; true: in a comment -/
def gapS : Bool → List UInt8 → Nat
  | _, [] => 0
  | false, c :: r => if clsB c = 1 then gapS false r + 1 else if clsB c = 2 then gapS true r + 1 else 0
  | true, c :: r => if c = 10 then gapS false r + 1 else gapS true r + 1
def gapP (t : List UInt8) (i : Nat) : Nat := i + gapS false (t.drop i)
theorem gapS_le : ∀ (l : List UInt8) (b : Bool), gapS b l ≤ l.length
  | [], b => by cases b <;> simp [gapS]
  | c :: r, false => by
    have := gapS_le r false; have := gapS_le r true
    unfold gapS; split
    · simp; omega
    · split <;> simp <;> omega
  | c :: r, true => by
    have := gapS_le r false; have := gapS_le r true
    unfold gapS; split <;> simp <;> omega
theorem gapP_ge (t : List UInt8) (i : Nat) : i ≤ gapP t i := by unfold gapP; omega
theorem gapP_le {t : List UInt8} {i : Nat} (h : i ≤ t.length) : gapP t i ≤ t.length := by
  unfold gapP
  have := gapS_le (t.drop i) false
  rw [List.length_drop] at this
  omega
theorem gapS_run : ∀ (l : List UInt8), runL [1] l + gapS false (l.drop (runL [1] l)) = gapS false l
  | [] => rfl
  | c :: r => by
    have ih := gapS_run r
    by_cases h : clsB c = 1
    · have e : runL [1] (c :: r) = runL [1] r + 1 := by unfold runL; rw [List.takeWhile_cons, if_pos (by rw [h]; rfl)]; rfl
      rw [e, List.drop_succ_cons]
      conv => rhs; unfold gapS
      rw [if_pos h]
      omega
    · have e : runL [1] (c :: r) = 0 := by unfold runL; rw [List.takeWhile_cons, if_neg (by simpa using h)]; rfl
      rw [e]; simp
theorem gapP_wh (t : List UInt8) (i : Nat) : gapP t (whP t i [1]) = gapP t i := by
  unfold gapP whP
  rw [← List.drop_drop]
  have := gapS_run (t.drop i)
  omega
theorem wh_class (t : List UInt8) (i : Nat) (hi : i ≤ t.length) (K : List Int) (h : whP t i K < t.length) : K.contains (atP t (whP t i K)) = false := by
  have key : ∀ (l : List UInt8), runL K l < l.length → ∃ c, l[runL K l]? = some c ∧ K.contains (clsB c) = false := by
    intro l
    induction l with
    | nil => intro h; simp at h
    | cons c r ih =>
      intro h
      by_cases hc : K.contains (clsB c) = true
      · have e : runL K (c :: r) = runL K r + 1 := by unfold runL; rw [List.takeWhile_cons, if_pos hc]; rfl
        rw [e] at h ⊢
        obtain ⟨d, h1, h2⟩ := ih (by simpa using h)
        exact ⟨d, by simpa using h1, h2⟩
      · have e : runL K (c :: r) = 0 := by unfold runL; rw [List.takeWhile_cons, if_neg hc]; rfl
        rw [e]
        exact ⟨c, rfl, by simpa using hc⟩
  obtain ⟨c, h1, h2⟩ := key (t.drop i) (by rw [List.length_drop]; unfold whP at h; omega)
  unfold atP
  have : t[whP t i K]? = some c := by unfold whP; rw [← List.getElem?_drop]; exact h1
  rw [this]; exact h2
theorem whP_le {t : List UInt8} {i : Nat} (h : i ≤ t.length) (K : List Int) : whP t i K ≤ t.length := by
  unfold whP
  have := runL_le K (t.drop i)
  rw [List.length_drop] at this
  omega
theorem whP_ge (t : List UInt8) (i : Nat) (K : List Int) : i ≤ whP t i K := by unfold whP; omega
theorem whP_gt {t : List UInt8} {i : Nat} {K : List Int} (h : K.contains (atP t i) = true) (hi : i < t.length) : i < whP t i K := by
  have e := List.getElem?_eq_getElem hi
  have ha : atP t i = clsB t[i] := by unfold atP; rw [e]
  rw [whP_step e, ← ha, if_pos h]
  have := whP_ge t (i + 1) K
  omega
theorem drop_at {t : List UInt8} {i : Nat} {c : UInt8} (h : t[i]? = some c) : t.drop i = c :: t.drop (i + 1) := by
  have hk : i < t.length := by rcases Nat.lt_or_ge i t.length with h' | h'; exact h'; rw [List.getElem?_eq_none h'] at h; cases h
  rw [List.drop_eq_getElem_cons hk]
  rw [List.getElem?_eq_getElem hk] at h
  rw [Option.some.inj h]
theorem gapP_none {t : List UInt8} {i : Nat} (h1 : atP t i ≠ 1) (h2 : atP t i ≠ 2) : gapP t i = i := by
  unfold gapP
  cases h : t[i]? with
  | none => rw [List.drop_eq_nil_of_le (by rcases Nat.lt_or_ge i t.length with h' | h'; rw [List.getElem?_eq_getElem h'] at h; cases h; exact h')]; rfl
  | some c =>
    have ha : atP t i = clsB c := by unfold atP; rw [h]
    rw [drop_at h, gapS, if_neg (by rw [← ha]; exact h1), if_neg (by rw [← ha]; exact h2)]; rfl
theorem gapS_skip : ∀ (l : List UInt8) (n : Nat), (∀ k, k < n → l[k]? ≠ some 10) → n ≤ l.length → gapS true l = n + gapS true (l.drop n)
  | l, 0, _, _ => by simp
  | [], n + 1, _, h => by simp at h
  | c :: r, n + 1, hk, h => by
    have h0 : c ≠ 10 := fun e => hk 0 (by omega) (by simp [e])
    rw [gapS, if_neg h0, gapS_skip r n (fun k h => by have := hk (k + 1) (by omega); simpa using this) (by simpa using h), List.drop_succ_cons]
    omega
theorem hash_c {c : UInt8} (h : clsB c = 2) : c ≠ 10 := by intro e; subst e; revert h; decide
theorem gapP_hash_none {t : List UInt8} {i : Nat} (h2 : atP t i = 2) (hn : Lib.indexByte (t.drop i) 10 = -1) : gapP t i = t.length := by
  unfold gapP
  cases h : t[i]? with
  | none => unfold atP at h2; rw [h] at h2; cases h2
  | some c =>
    have ha : atP t i = clsB c := by unfold atP; rw [h]
    have hl : i < t.length := by rcases Nat.lt_or_ge i t.length with h' | h'; exact h'; rw [List.getElem?_eq_none h'] at h; cases h
    have hno := Lib.indexByte_none hn
    rw [drop_at h, gapS, if_neg (by rw [← ha, h2]; decide), if_pos (by rw [← ha, h2])]
    rw [drop_at h] at hno
    rw [gapS_skip (t.drop (i + 1)) (t.drop (i + 1)).length (fun k _ => by have := hno (k + 1); simpa using this) (Nat.le_refl _), List.drop_length]
    rw [List.length_drop]
    unfold gapS
    omega
theorem gapP_hash_some {t : List UInt8} {i n : Nat} (h2 : atP t i = 2) (hn : Lib.indexByte (t.drop i) 10 = n) : gapP t (i + n) = gapP t i ∧ i + n < t.length ∧ 1 ≤ n := by
  unfold gapP
  cases h : t[i]? with
  | none => unfold atP at h2; rw [h] at h2; cases h2
  | some c =>
    have ha : atP t i = clsB c := by unfold atP; rw [h]
    obtain ⟨h10, hno⟩ := Lib.indexByte_some hn
    rw [List.getElem?_drop] at h10
    have hl : i + n < t.length := by rcases Nat.lt_or_ge (i + n) t.length with h' | h'; exact h'; rw [List.getElem?_eq_none h'] at h10; cases h10
    have hn1 : 1 ≤ n := by
      rcases Nat.eq_zero_or_pos n with h0 | h0
      · subst h0
        rw [Nat.add_zero, h] at h10
        exact absurd (Option.some.inj h10) (hash_c (by rw [← ha, h2]))
      · exact h0
    obtain ⟨m, rfl⟩ : ∃ m, n = m + 1 := ⟨n - 1, by omega⟩
    refine ⟨?_, hl, hn1⟩
    rw [show (t.drop i) = c :: t.drop (i + 1) from drop_at h]
    rw [gapS, if_neg (by rw [← ha, h2]; decide), if_pos (by rw [← ha, h2])]
    rw [gapS_skip (t.drop (i + 1)) m (fun k hk => by have := hno (k + 1) (by omega); rw [drop_at h] at this; simpa using this) (by rw [List.length_drop]; omega), List.drop_drop]
    rw [show i + 1 + m = i + (m + 1) by omega]
    rw [drop_at h10]
    rw [gapS, if_pos (by decide), gapS, if_pos rfl]
    omega
/-- a token, the offset behind it, and an error -/
def zTk : Tk := ⟨0, 0, 0, []⟩
def strN (t : List UInt8) (i : Nat) : Int := Lib.indexAny (t.drop (i + 1)) [34, 10]
def nextP (t : List UInt8) (i : Nat) : Int × Tk × Nat :=
  if atP t i = 3 then
    if whP t i [3, 4, 5] - i > 24 then (2, zTk, 0) else (0, ⟨1, i, 0, sub t i (whP t i [3, 4, 5])⟩, whP t i [3, 4, 5])
  else if atP t i = 4 then
    if whP t i [4] - i > 13 ∨ atP t (whP t i [4]) = 3 ∨ atP t (whP t i [4]) = 5 then (4, zTk, 0) else (0, ⟨2, i, (numD (sub t i (whP t i [4])) : Nat), sub t i (whP t i [4])⟩, whP t i [4])
  else if atP t i = 6 then
    if strN t i < 0 ∨ (t.drop (i + 1))[(strN t i).toNat]? = some 10 then (6, zTk, 0) else if strN t i > 400 then (2, zTk, 0) else (0, ⟨3, i, 0, (t.drop (i + 1)).take (strN t i).toNat⟩, i + (strN t i).toNat + 2)
  else if (atP t i = 7 ∨ atP t i = 8) ∧ Lib.hasPrefix (t.drop (i + 1)) [61] = true then (0, ⟨4, i, 0, sub t i (i + 2)⟩, i + 2)
  else if atP t i = 8 ∨ atP t i = 9 then (0, ⟨4, i, 0, sub t i (i + 1)⟩, i + 1)
  else (3, zTk, 0)
theorem indexAny_some : ∀ {s chars : List UInt8} {n : Nat}, Lib.indexAny s chars = n → ∃ c, s[n]? = some c ∧ chars.contains c = true ∧ ∀ k, k < n → ∀ b, s[k]? = some b → chars.contains b = false
  | [], _, n, h => by simp [Lib.indexAny] at h
  | b :: l, chars, n, h => by
    unfold Lib.indexAny at h
    by_cases hb : chars.contains b = true
    · rw [if_pos hb] at h
      obtain rfl : n = 0 := by omega
      exact ⟨b, rfl, hb, fun k hk => absurd hk (by omega)⟩
    · rw [if_neg hb] at h
      have hge := Lib.indexAny_ge chars l
      by_cases hm : Lib.indexAny l chars = -1
      · rw [if_pos (by rw [hm]; rfl)] at h; omega
      · rw [if_neg (by simpa using hm)] at h
        obtain ⟨m, rfl⟩ : ∃ m, n = m + 1 := ⟨n - 1, by omega⟩
        obtain ⟨c, h1, h2, h3⟩ := indexAny_some (s := l) (chars := chars) (n := m) (by omega)
        refine ⟨c, by simpa using h1, h2, fun k hk b' hb' => ?_⟩
        match k, hb' with
        | 0, hb' => simp at hb'; subst hb'; simpa using hb
        | k + 1, hb' => exact h3 k (by omega) b' (by simpa using hb')
theorem hasPrefix_one {s : List UInt8} {c : UInt8} : Lib.hasPrefix s [c] = true ↔ s[0]? = some c := by
  rw [← Lib.hasPrefix_of_take]
  cases s with
  | nil => simp
  | cons a r =>
    simp
theorem atP_lt {t : List UInt8} {i : Nat} (h : atP t i ≠ 0) : i < t.length := by
  rcases Nat.lt_or_ge i t.length with h' | h'
  · exact h'
  · unfold atP at h; rw [List.getElem?_eq_none h'] at h; exact absurd rfl h
theorem next_ok {t : List UInt8} {i : Nat} (h : (nextP t i).1 = 0) : i < (nextP t i).2.2 ∧ (nextP t i).2.2 ≤ t.length := by
  unfold nextP at h ⊢
  by_cases h3 : atP t i = 3
  · have hi := atP_lt (t := t) (i := i) (by rw [h3]; decide)
    rw [if_pos h3] at h ⊢
    split at h
    · simp at h
    · rw [if_neg (by assumption)]
      exact ⟨whP_gt (by rw [h3]; rfl) hi, whP_le (by omega) _⟩
  rw [if_neg h3] at h ⊢
  by_cases h4 : atP t i = 4
  · have hi := atP_lt (t := t) (i := i) (by rw [h4]; decide)
    rw [if_pos h4] at h ⊢
    split at h
    · simp at h
    · rw [if_neg (by assumption)]
      exact ⟨whP_gt (by rw [h4]; rfl) hi, whP_le (by omega) _⟩
  rw [if_neg h4] at h ⊢
  by_cases h6 : atP t i = 6
  · have hi := atP_lt (t := t) (i := i) (by rw [h6]; decide)
    rw [if_pos h6] at h ⊢
    split at h
    · simp at h
    · rename_i hq
      rw [if_neg hq]
      split at h
      · simp at h
      · rw [if_neg (by assumption)]
        obtain ⟨n, hn⟩ : ∃ n : Nat, strN t i = n := ⟨(strN t i).toNat, by omega⟩
        obtain ⟨c, hc, _⟩ := indexAny_some hn
        rw [List.getElem?_drop] at hc
        have : i + 1 + n < t.length := by rcases Nat.lt_or_ge (i + 1 + n) t.length with h' | h'; exact h'; rw [List.getElem?_eq_none h'] at hc; cases hc
        rw [hn]
        simp only [Int.toNat_natCast]
        omega
  rw [if_neg h6] at h ⊢
  by_cases h7 : (atP t i = 7 ∨ atP t i = 8) ∧ Lib.hasPrefix (t.drop (i + 1)) [61] = true
  · rw [if_pos h7]
    have := hasPrefix_one.1 h7.2
    rw [List.getElem?_drop] at this
    have : i + 1 + 0 < t.length := by rcases Nat.lt_or_ge (i + 1 + 0) t.length with h' | h'; exact h'; rw [List.getElem?_eq_none h'] at this; cases this
    simp only
    omega
  rw [if_neg h7] at h ⊢
  by_cases h8 : atP t i = 8 ∨ atP t i = 9
  · have hi := atP_lt (t := t) (i := i) (by omega)
    rw [if_pos h8]
    simp only
    omega
  · rw [if_neg h8] at h
    simp at h
/-- all tokens, an error, its offset -/
def lexA : Nat → List UInt8 → Nat → List Tk → List Tk × Int × Int
  | 0, _, _, acc => (acc, 0, 0)
  | f + 1, t, i, acc =>
    if i < t.length then
      if (nextP t i).1 = 0 ∧ acc.length = 5000 then ([], 2, i)
      else if (nextP t i).1 ≠ 0 then ([], (nextP t i).1, i)
      else lexA f t (gapP t (nextP t i).2.2) (acc ++ [(nextP t i).2.1])
    else (acc, 0, 0)
def lexP (t : List UInt8) : List Tk × Int × Int := if t.length > 20000 then ([], 2, -1) else lexA (t.length + 1) t (gapP t 0) []
end Go.Proofs.YtgdgdhpmjkefjaaGreatDoor

/- strings.IndexAny with a quote and a line feed, at every text. -/
set_option linter.unusedVariables false
set_option linter.unusedSimpArgs false
namespace Go.Proofs.YtgdgdhpmjkefjaaGreatDoor
open Go.RowKit

theorem valid_eq (r : Int) : Lib.validRune r = Utf8.valid r := by
  unfold Lib.validRune Utf8.valid
  rw [Bool.eq_iff_iff]
  simp
  omega
set_option maxRecDepth 100000 in
set_option maxHeartbeats 4000000 in
theorem IndexRune_hi (r : Int) (h0 : 128 ≤ r) (h1 : r ≤ 2147483647) (w : World) :
    Calls Tryz.prog 134 #[.string ⟨#[34, 10]⟩, .int .i32 r] w fun e w' => e = .returned (.int .i64 (-1)) ∧ Below w.heap.size w w' := by
  have CV : ∀ w, Calls Tryz.prog 144 #[.int .i32 r] w fun e w' => e = .returned (.bool (Utf8.valid r)) ∧ w' = w := fun w => by
    rw [← valid_eq]; exact Any.utf8_ValidRune (ρ := Tryz.lays153_ren) { Tryz.lays153 with } r w
  by_cases he : r = 65533
  · subst he
    go_enter Tryz.func134, Tryz.ntmps134
    go_wp2_with fail
    go_loopg [5, 6] 2 (fun g _ _ wx => ∃ i : Nat, i + g = 2 ∧ wx = w.iter ⟨#[34, 10]⟩ i)
    case atStart => exact ⟨0, by omega, rfl⟩
    case round =>
      obtain ⟨i, hi, rfl⟩ := hrel
      have hs2 : (⟨#[34, 10]⟩ : ByteArray).size = 2 := rfl
      match gk, i, hi with
      | 0, 2, _ =>
        have hnx := run_next_end (P := Tryz.prog) w ⟨#[34, 10]⟩ 2
        go_wp2
        go_ret
        exact ⟨rfl, (Below.refl _ _).alloc (Nat.le_refl _) _⟩
      | 1, 1, _ =>
        have hnx := fun ty => run_next_ascii (P := Tryz.prog) w ⟨#[34, 10]⟩ 1 ty (by decide) (by decide)
        go_wp2
        go_roundg 0
        case measure => omega
        case rel => exact ⟨2, by omega, rfl⟩
      | 2, 0, _ =>
        have hnx := fun ty => run_next_ascii (P := Tryz.prog) w ⟨#[34, 10]⟩ 0 ty (by decide) (by decide)
        go_wp2
        go_roundg 1
        case measure => omega
        case rel => exact ⟨1, by omega, rfl⟩
  · have e1 : (r == 65533) = false := by rw [beq_eq_false_iff_ne]; exact he
    cases hv : Utf8.valid r with
    | false =>
      rw [hv] at CV
      clear he hv
      go_enter Tryz.func134, Tryz.ntmps134
      go_wp2_with ((with_reducible refine (CV _).mono ?_); rintro e w' ⟨rfl, rfl⟩)
      go_ret
      exact ⟨rfl, Below.refl _ _⟩
    | true =>
      rw [hv] at CV
      obtain ⟨hs2, hs4, hlast⟩ := encode_facts r hv h0
      go_enter Tryz.func134, Tryz.ntmps134
      go_wp2_with ((with_reducible refine (CV _).mono ?_); rintro e w' ⟨rfl, rfl⟩)
      by_cases h2 : (Utf8.encode r).size = 2
      · obtain ⟨y, x, hE⟩ : ∃ y x, Utf8.encode r = bs [y, x] := by
          have h2' := h2
          generalize Utf8.encode r = E at h2'
          obtain ⟨⟨l⟩⟩ := E
          match l, h2' with
          | [y, x], _ => exact ⟨y, x, rfl⟩
        have hx128 : 128 ≤ x.toNat := by
          have h3 := hlast
          rw [hE] at h3
          exact h3 (show (2 : Nat) - 1 < 2 by omega)
        have hsz : (bs [y, x]).size = 2 := rfl
        have cx : ∀ w, (Instr.index 9 (.string (bs [y, x])) (.int .i64 1)).run Tryz.prog w = .ok (.int .u8 (x.toNat : Int)) w := index_bs [y, x] 1 x rfl
        have ca : ∀ w, (Instr.index 9 (.string ⟨#[34, 10]⟩) (.int .i64 1)).run Tryz.prog w = .ok (.int .u8 10) w := index_bs [34, 10] 1 10 rfl
        have e2 : ((10 : Int) != (x.toNat : Int)) = true := by rw [bne_iff_ne]; omega
        have CB : ∀ w, Calls Tryz.prog 115 #[.string ByteArray.empty, .int .u8 (x.toNat : Int)] w fun e w' => e = .returned (.int .i64 (-1)) ∧ w' = w := fun w => Tryz.strings_IndexByte ByteArray.empty _ w
        clear hlast CV hv hs2 hs4
        generalize bs [y, x] = E at *
        go_wp2_with (refine wp_scope_straight ?_)
        clear hE h2
        go_loopw [9, 10] (fun i _ wr => i = .int .i64 1 ∧ wr = w') (fun _ _ _ => 0)
        case atStart => exact ⟨rfl, rfl⟩
        case round =>
          obtain ⟨rfl, rfl⟩ := hrel
          go_wp2_with (refine wp_scope_straight ?_)
          obtain ⟨U, hU, g, u0, rfl, hgu, hi⟩ := cls wr
          have CB' := cls_call hgu hi (fun w _ => (CB w).mono fun e w' ⟨he, hw⟩ => ⟨he, hw ▸ Below.refl _ _⟩)
          refine wp_region_class g (by kernel_rfl) (by kernel_rfl) (hi _ (hgu _).drew) ?_
          repeat (go_big_quiet_step (fail))
          refine wpQuiet_nil ?_
          intro w5 hw5
          obtain ⟨u, rfl⟩ := hw5
          go_wp2_with fail
          refine wp_region_class g (by kernel_rfl) (by kernel_rfl) (hi _ (hgu _).drew) ?_
          repeat (go_big_quiet_step (with_reducible exact CB' _))
          refine wpQuiet_nil ?_
          intro w6 hw6
          obtain ⟨u, rfl⟩ := hw6
          go_wp2_with (refine wp_scope_straight ?_)
          simp +zetaDelta only [Exit.noGoto, Exit.inBlock, Exit.then]
          go_ret
          exact ⟨rfl, hgu _⟩
      · have hs3 : 3 ≤ (Utf8.encode r).size := by omega
        clear hlast h2 CV hv
        go_wp2_with (refine wp_scope_straight ?_)
        generalize Utf8.encode r = E at *
        go_loopw [9, 10] (fun i _ wr => i = .int .i64 ((E.size : Int) - 1) ∧ wr = w') (fun _ _ _ => 0)
        case atStart => exact ⟨rfl, rfl⟩
        case round =>
          obtain ⟨rfl, rfl⟩ := hrel
          go_wp2_with (refine wp_scope_straight ?_)
          simp only [Exit.noGoto]
          go_ret
          exact ⟨rfl, Below.refl _ _⟩
theorem decode_cont (s : ByteArray) (pos k : Nat) (h : k < (Utf8.decode s pos).2) (h1 : 1 ≤ k) : pos + k < s.size ∧ (s.get! (pos + k)).toNat / 64 = 2 := by
  simp only [Utf8.decode] at h
  split at h
  · simp at h; omega
  · split at h
    · rename_i hc
      simp only [Bool.and_eq_true, decide_eq_true_eq, beq_iff_eq] at hc
      split at h
      · obtain rfl : k = 1 := by simp at h; omega
        exact hc.2
      · simp at h; omega
    · split at h
      · rename_i hc
        simp only [Bool.and_eq_true, decide_eq_true_eq, beq_iff_eq] at hc
        split at h
        · have : k = 1 ∨ k = 2 := by simp at h; omega
          rcases this with rfl | rfl
          · exact hc.1.2
          · exact hc.2
        · simp at h; omega
      · split at h
        · rename_i hc
          simp only [Bool.and_eq_true, decide_eq_true_eq, beq_iff_eq] at hc
          split at h
          · have : k = 1 ∨ k = 2 ∨ k = 3 := by simp at h; omega
            rcases this with rfl | rfl | rfl
            · exact hc.1.1.2
            · exact hc.1.2
            · exact hc.2
          · simp at h; omega
        · simp at h; omega
theorem below_iterAt {B k p : Nat} {w wr : World} {s : ByteArray} (h : Below B w wr) (hk : B ≤ k) : Below B w (wr.iterAt k s p) :=
  ⟨h.os, h.tape, h.output, by simp [World.iterAt]; exact h.size, fun j hj => by
    have := h.block j hj
    simp only [World.iterAt]
    rw [Array.getElem?_setIfInBounds_ne (by omega)]
    exact this⟩
theorem get_list (s : ByteArray) (k : Nat) (h : k < s.size) : s.data.toList[k]? = some (s.get! k) := by
  have h1 : s.data[k]? = some s.data[k] := Array.getElem?_eq_getElem h
  have h2 : s.get! k = s.data[k] := by
    show s.data[k]! = _
    rw [getElem!_pos s.data k h]
  rw [h2, Array.getElem?_toList]
  exact h1
theorem NoAny_high (s : ByteArray) (i : Nat) (hi : i < s.size) (hc : 128 ≤ (s[i]'hi).toNat) (h : Lib.NoAny s.data.toList [34, 10] i) : Lib.NoAny s.data.toList [34, 10] (i + (Utf8.decode s i).2) := by
  intro j b hj hb
  rcases Nat.lt_or_ge j i with hlt | hge
  · exact h j b hlt hb
  · obtain ⟨k, rfl⟩ : ∃ k, j = i + k := ⟨j - i, by omega⟩
    rcases Nat.eq_zero_or_pos k with rfl | hk
    · have := get_list s i hi
      rw [Nat.add_zero, this] at hb
      have e : s.get! i = s[i]'hi := by show s.data[i]! = _; rw [getElem!_pos s.data i hi]; rfl
      rw [← Option.some.inj hb, e]
      generalize s[i]'hi = x at hc
      have h1 : x ≠ 34 := by rintro rfl; revert hc; decide
      have h2 : x ≠ 10 := by rintro rfl; revert hc; decide
      simp [h1, h2]
    · obtain ⟨h1, h2⟩ := decode_cont s i k (by omega) hk
      have := get_list s (i + k) h1
      rw [this] at hb
      rw [Option.some.inj hb] at h2
      have h3 : b ≠ 34 := by rintro rfl; revert h2; decide
      have h4 : b ≠ 10 := by rintro rfl; revert h2; decide
      simp [h3, h4]
theorem decode_end (s : ByteArray) (i : Nat) (hi : i < s.size) : 1 ≤ (Utf8.decode s i).2 ∧ i + (Utf8.decode s i).2 ≤ s.size := by
  have h1 : 1 ≤ (Utf8.decode s i).2 := by
    rcases Nat.lt_or_ge (s[i]'hi).toNat 128 with h | h
    · rw [decode_ascii s i hi h]; exact Nat.le_refl _
    · exact (decode_high s i hi h).2
  refine ⟨h1, ?_⟩
  rcases Nat.lt_or_ge 1 (Utf8.decode s i).2 with h | h
  · have := (decode_cont s i ((Utf8.decode s i).2 - 1) (by omega) (by omega)).1
    omega
  · omega
set_option maxRecDepth 100000 in
set_option maxHeartbeats 4000000 in
theorem IndexAny_short (s : ByteArray) (h8 : s.size ≤ 8) (w : World) :
    Calls Tryz.prog 116 #[.string s, .string ⟨#[34, 10]⟩] w fun e w' => e = .returned (.int .i64 (Lib.indexAny s.data.toList [34, 10])) ∧ Below w.heap.size w w' := by
  have CS : ∀ w, Calls Tryz.prog 135 #[.int .i64 (s.size : Int)] w fun e w' => e = .returned (.bool false) ∧ w' = w := fun w => by
    have := Any.strings_shouldUseASCIISet (ρ := Tryz.lays153_ren) { Tryz.lays153 with } (s.size : Int) w
    rwa [show decide ((8 : Int) < (s.size : Int)) = false by simp; omega] at this
  go_enter Tryz.func116, Tryz.ntmps116
  go_wp2_with ((with_reducible refine (CS _).mono ?_); rintro e w' ⟨rfl, rfl⟩)
  generalize hk0 : w'.heap.size = k0
  go_loopg [9, 10] s.size (fun g _ _ wx => ∃ i : Nat, i + g = s.size ∧ wx.heap[k0]? = some (.stringIter s i) ∧ Below w'.heap.size w' wx ∧ Lib.NoAny s.data.toList [34, 10] i)
  case atStart =>
    refine ⟨0, by omega, ?_, ?_, Lib.NoAny.zero _ _⟩
    · rw [← hk0]; exact World.iter_heap _ _ _
    · exact (Below.refl _ _).alloc (Nat.le_refl _) _
  case round =>
    obtain ⟨i, hig, hit, hB, hno⟩ := hrel
    have HN := hide hno
    have HB := hide hB
    have HI := hide hit
    clear hno hB
    by_cases hlt : i < s.size
    · have hnx := fun ty => Lib.run_next_any_at (P := Tryz.prog) wr k0 s i ty hit hlt
      obtain ⟨hd1, hd2⟩ := decode_end s i hlt
      have HI2 := hide (Lib.iterAt_heap wr k0 s i (i + (Utf8.decode s i).2) hit)
      have HB2 := hide (below_iterAt (s := s) (p := i + (Utf8.decode s i).2) HB.out (Nat.le_of_eq hk0))
      clear hit
      have hk1 : k0 < (wr.iterAt k0 s (i + (Utf8.decode s i).2)).heap.size := (Array.getElem?_eq_some_iff.1 HI2.out).1
      have HK := hide hk1
      clear hk1
      rcases Nat.lt_or_ge (s[i]'hlt).toNat 128 with hc | hc
      · have hd := decode_ascii s i hlt hc
        rw [hd] at hnx HI2 HB2 hd1 hd2 HK
        obtain ⟨x, hx⟩ : ∃ x : UInt8, s[i]'hlt = x := ⟨_, rfl⟩
        have hxl : s.data.toList[i]? = some x := by rw [← hx]; exact Lib.data_getElem? s i hlt
        rw [hx] at hc hnx
        have CR : ∀ w, Calls Tryz.prog 134 #[.string ⟨#[34, 10]⟩, .int .i32 (x.toNat : Int)] w fun e w' => e = .returned (.int .i64 (Lib.indexByte [34, 10] x)) ∧ w' = w := fun w => by
          have := Any.strings_IndexRune_ascii (ρ := Tryz.lays153_ren) { Tryz.lays153 with } ⟨#[34, 10]⟩ (x.toNat : Int) w (by omega) (by omega)
          rwa [show ((x.toNat : Int)).toNat.toUInt8 = x by simp] at this
        have hcon := Lib.contains_iff_indexByte [34, 10] x
        have HX := hide hxl
        clear hxl hx hd
        simp only [] at hnx HI2 HB2 hd1 hd2 HK
        generalize wr.iterAt k0 s (i + 1) = w2 at *
        cases hin : ([34, 10] : List UInt8).contains x with
        | false =>
          rw [hin] at hcon
          have hlt0 : ¬ ((0 : Int) ≤ Lib.indexByte [34, 10] x) := of_decide_eq_false hcon.symm
          have HN2 := hide (HN.out.succ HX.out hin)
          clear hcon hin
          generalize Lib.indexByte [34, 10] x = v at *
          go_wp2_with ((with_reducible refine (CR _).mono ?_); rintro e w3 ⟨rfl, rfl⟩)
          go_roundg (s.size - (i + 1))
          case measure => omega
          case rel => exact ⟨i + 1, by omega, HI2.out, HB2.out, HN2.out⟩
        | true =>
          rw [hin] at hcon
          have hge : (0 : Int) ≤ Lib.indexByte [34, 10] x := of_decide_eq_true hcon.symm
          have HV : Hid (Lib.indexAny s.data.toList [34, 10] = i) := Lib.indexAny_hit HN.out HX.out hin
          clear hcon hin
          generalize Lib.indexByte [34, 10] x = v at *
          go_wp2_with ((with_reducible refine (CR _).mono ?_); rintro e w3 ⟨rfl, rfl⟩)
          go_ret
          exact ⟨by rw [HV.out]; rfl, HB2.out⟩
      · have CR := fun w => IndexRune_hi ((Utf8.decode s i).1 : Int) (by have := (decode_high s i hlt hc).1; omega) (by have := decode_le s i; omega) w
        have HN2 := hide (NoAny_high s i hlt hc HN.out)
        clear hc HN
        generalize wr.iterAt k0 s (i + (Utf8.decode s i).2) = w2 at *
        generalize (Utf8.decode s i).1 = r at *
        generalize (Utf8.decode s i).2 = m at *
        go_wp2_with ((with_reducible refine (CR _).mono ?_); rintro e w3 ⟨rfl, hb3⟩)
        go_roundg (s.size - (i + m))
        case measure => omega
        case rel => exact ⟨i + m, by omega, by rw [hb3.block k0 HK.out]; exact HI2.out, below_to HB2.out (Nat.le_refl _) hb3, HN2.out⟩
    · have hnx := fun ty => Lib.run_next_end_at (P := Tryz.prog) wr k0 s i ty hit hlt
      obtain rfl : i = s.size := by omega
      clear hit hlt
      go_wp2_with fail
      go_ret
      exact ⟨by rw [Lib.indexAny_none (by rw [← Lib.size_eq]; exact HN.out)]; rfl, HB.out⟩
/-- strings.IndexAny with a quote and a line feed, at every text -/
theorem IndexAny_qn (s : ByteArray) (hs : s.size < 4294967281) (w : World) :
    Calls Tryz.prog 116 #[.string s, .string ⟨#[34, 10]⟩] w fun e w' => e = .returned (.int .i64 (Lib.indexAny s.data.toList [34, 10])) ∧ Below w.heap.size w w' := by
  by_cases h8 : s.size ≤ 8
  · exact IndexAny_short s h8 w
  · have hz := zero_of_info (P := Tryz.prog) (t := 137) (show (Tryz.prog.info? 137).map (fun i => (i.zero, i.size)) = some (some (.agg (Array.replicate 256 (.bool false))), 256) by kernel_rfl)
    refine (Any.strings_IndexAny_long (ρ := Tryz.lays153_ren) { Tryz.lays153 with } hz.1 hz.2 s ⟨#[34, 10]⟩ w (by decide) (by omega) hs (by decide) (fun j b h => by
      match j, h with
      | 0, h => simp at h; subst h; decide
      | 1, h => simp at h; subst h; decide)).mono fun e w' ⟨h1, h2⟩ => ⟨h1, ?_⟩
    rw [h2]
    exact ((Below.refl _ _).alloc (Nat.le_refl _) _).alloc (by simp) _
end Go.Proofs.YtgdgdhpmjkefjaaGreatDoor

/- Package lexer: gap at every text. -/
set_option linter.unusedVariables false
set_option linter.unusedSimpArgs false
namespace Go.Proofs.YtgdgdhpmjkefjaaGreatDoor
open Go.RowKit

theorem bs_from (t : List UInt8) (i : Nat) : (bs t).extract i t.length = bs (t.drop i) := by
  rw [bs_cut, List.take_of_length_le (by rw [List.length_drop]; omega)]
theorem wh_ne (t : List UInt8) (i : Nat) (hi : i ≤ t.length) : atP t (whP t i [1]) ≠ 1 := by
  rcases Nat.lt_or_ge (whP t i [1]) t.length with h | h
  · have := wh_class t i hi [1] h
    simpa using this
  · unfold atP; rw [List.getElem?_eq_none h]; decide
set_option maxRecDepth 100000 in
set_option maxHeartbeats 4000000 in
theorem gap_any (t : List UInt8) (ht : t.length ≤ 1000000000) (i : Nat) (hi : i ≤ t.length) (sc : Nat) (T : TypeId) (w : World) (h : Blk w sc T (scC t)) :
    Calls Tryz.prog 83 #[.pointer (some ⟨sc, 0, none⟩), .int .i64 (i : Int)] w fun e w' => e = .returned (.int .i64 (gapP t i : Int)) ∧ Below w.heap.size w w' := by
  have hsz : (bs t).size = t.length := bs_size t
  obtain ⟨U, hU, g, u0, rfl, hgu, hi'⟩ := cls w
  have C1 : ∀ k, k ≤ t.length → ∀ u, Calls Tryz.prog 114 #[.pointer (some ⟨sc, 0, none⟩), .int .i64 (k : Int)] (g u) fun e w' => e = .returned (.int .i64 (atP t k)) ∧ ∃ u', w' = g u' := fun k hk => cls_call hgu hi' (fun w hb => at_any t k (by omega) sc T w (h.to hb))
  have C2 : ∀ k, k ≤ t.length → ∀ u, Calls Tryz.prog 113 #[.pointer (some ⟨sc, 0, none⟩), .int .i64 (k : Int), .slice (some ⟨(g u).heap.size, 0, none⟩) 1 1] ((g u).alloc (.cells #[.int .i64 1] 3)) fun e w' => e = .returned (.int .i64 (whP t k [1] : Int)) ∧ ∃ u', w' = g u' := fun k hk u => by
    have hb := below_alloc (hgu u) (Nat.le_refl _) (.cells #[.int .i64 1] 3)
    have hn := Blk.new (g u) 3 #[.int .i64 1]
    have := while_any t ht k (by omega) [1] (by simp) (.slice (some ⟨(g u).heap.size, 0, none⟩) 1 1) sc T _ (h.to hb) ⟨_, 1, rfl, hn.lt, Nat.le_refl _, fun k x hx => by
      match k, hx with
      | 0, hx => simp at hx; subst hx; exact (hn.cell 0).trans rfl⟩
    exact this.mono fun e w' ⟨he, hb2⟩ => ⟨he, hi' _ (below_to hb (Nat.le_refl _) hb2)⟩
  have CB : ∀ k, ∀ u, Calls Tryz.prog 115 #[.string (bs (t.drop k)), .int .u8 10] (g u) fun e w' => e = .returned (.int .i64 (Lib.indexByte (t.drop k) 10)) ∧ ∃ u', w' = g u' := fun k u => (Tryz.strings_IndexByte (bs (t.drop k)) 10 (g u)).mono fun e w' ⟨he, hw⟩ => ⟨he, u, hw⟩
  have s0 := blk_all hgu h 0 (scC_0 t)
  have HGU := hide hgu
  have D2 := C2 i hi
  have hle := whP_le hi [1]
  have HW1 := hide (gapP_wh t i)
  have HW2 := hide (wh_ne t i hi)
  clear hgu hi' h
  generalize whP t i [1] = k0 at *
  go_enter Tryz.func83, Tryz.ntmps83
  go_wp2_with ((with_reducible refine (D2 _).mono ?_); rintro e w' ⟨rfl, u, rfl⟩)
  clear D2
  go_loopw [1, 5] (fun v _ wr => ∃ k : Nat, v = .int .i64 (k : Int) ∧ (k ≤ t.length ∧ gapP t k = gapP t i ∧ atP t k ≠ 1) ∧ ∃ u, wr = g u) (fun v _ _ => t.length - (intOf v).toNat)
  case atStart => exact ⟨k0, rfl, ⟨hle, HW1.out, HW2.out⟩, _, rfl⟩
  case round =>
    obtain ⟨k, rfl, ⟨hk, hg, hne⟩, u', rfl⟩ := hrel
    have HG := hide hg
    have HNE := hide hne
    clear hg hne HW1 HW2 hle
    have E1 := C1 k hk
    by_cases ha : atP t k = 2
    · have e1 : (atP t k == 2) = true := by rw [ha]; rfl
      have hx : (bs t).extract k t.length = bs (t.drop k) := bs_from t k
      have EB := CB k
      rcases Int.lt_or_le (Lib.indexByte (t.drop k) 10) 0 with hn | hn
      · have hm1 : Lib.indexByte (t.drop k) 10 = -1 := by have := Lib.indexByte_ge (t.drop k) 10; omega
        have HV := hide (gapP_hash_none ha hm1)
        rw [ha] at E1
        rw [hm1] at EB
        clear C1 C2 CB hn hm1 ha e1
        generalize bs (t.drop k) = R at *
        go_wp2_with (first | ((with_reducible refine (E1 _).mono ?_); rintro e w' ⟨rfl, u, rfl⟩) | ((with_reducible refine (EB _).mono ?_); rintro e w' ⟨rfl, u, rfl⟩))
        go_ret
        exact ⟨ret_int (by rw [← HG.out, HV.out]), HGU.out _⟩
      · obtain ⟨n, hn'⟩ : ∃ n : Nat, Lib.indexByte (t.drop k) 10 = n := ⟨(Lib.indexByte (t.drop k) 10).toNat, by omega⟩
        obtain ⟨h1, h2, h3⟩ := gapP_hash_some ha hn'
        have HV := hide h1
        have E2 := C2 (k + n) (by omega)
        rw [Int.natCast_add] at E2
        rw [ha] at E1
        rw [hn'] at EB
        have hle := whP_le (show k + n ≤ t.length by omega) [1]
        have hge := whP_ge t (k + n) [1]
        have HW1 := hide (gapP_wh t (k + n))
        have HW2 := hide (wh_ne t (k + n) (by omega))
        clear C1 C2 CB hn hn' ha e1 h1
        generalize bs (t.drop k) = R at *
        generalize whP t (k + n) [1] = m at *
        go_wp2_with (first | ((with_reducible refine (E1 _).mono ?_); rintro e w' ⟨rfl, u, rfl⟩) | ((with_reducible refine (EB _).mono ?_); rintro e w' ⟨rfl, u, rfl⟩) | ((with_reducible refine (E2 _).mono ?_); rintro e w' ⟨rfl, u, rfl⟩))
        refine ⟨⟨m, rfl, ⟨hle, by rw [HW1.out, HV.out, HG.out], HW2.out⟩, _, rfl⟩, ?_⟩
        simp [intOf]; omega
    · have e1 : (atP t k == 2) = false := by rw [beq_eq_false_iff_ne]; exact ha
      have HV := hide (gapP_none HNE.out ha)
      clear C1 C2 CB ha
      generalize atP t k = A at *
      go_wp2_with ((with_reducible refine (E1 _).mono ?_); rintro e w' ⟨rfl, u, rfl⟩)
      go_ret
      exact ⟨ret_int (by rw [← HG.out, HV.out]), HGU.out _⟩
end Go.Proofs.YtgdgdhpmjkefjaaGreatDoor

/- Package lexer: next at every text. -/
set_option linter.unusedVariables false
set_option linter.unusedSimpArgs false
namespace Go.Proofs.YtgdgdhpmjkefjaaGreatDoor
open Go.RowKit

def nval (r : Int × Tk × Nat) : Value := .tuple #[tval r.2.1, .int .i64 (r.2.2 : Int), .int .i64 r.1]
theorem nval_mk (e : Int) (x : Tk) (n : Nat) : nval (e, x, n) = .tuple #[tval x, .int .i64 (n : Int), .int .i64 e] := rfl
/-- strconv.Atoi at digits -/
theorem Atoi_dg {l : List UInt8} (hd : ∀ c ∈ l, isDi c = true) (hn : l ≠ []) (hl : l.length ≤ 17) (w : World) : Calls Tryz.prog 52 #[.string (bs l)] w fun e w' => e = .returned (.tuple #[.int .i64 (numD l : Int), .nilIface]) ∧ Below w.heap.size w w' :=
  (Tryz.strconv_Atoi_ok (bs l) (by rw [bs_size]; omega) (numD l : Int) (atoi_numD hd hn hl) w).mono fun e w' ⟨he, hw⟩ => ⟨he, by
    rcases hw with h | ⟨t, h⟩
    · rw [h]; exact Below.refl _ _
    · rw [h]; exact Lib.bytesWorld_below _ _ _⟩
theorem cls4 {c : UInt8} (h : clsB c = 4) : isDi c = true := by
  revert h
  rw [isDi_iff]
  unfold clsB clsN
  split
  · intro h; cases h
  · split
    · intro _; assumption
    · (repeat' split) <;> intro h <;> cases h
theorem wh_all (t : List UInt8) (i : Nat) (K : List Int) : ∀ c ∈ sub t i (whP t i K), K.contains (clsB c) = true := by
  have key : ∀ (l : List UInt8), ∀ c ∈ l.take (runL K l), K.contains (clsB c) = true := by
    intro l
    induction l with
    | nil => intro c h; simp at h
    | cons a r ih =>
      intro c h
      by_cases hc : K.contains (clsB a) = true
      · have e : runL K (a :: r) = runL K r + 1 := by unfold runL; rw [List.takeWhile_cons, if_pos hc]; rfl
        rw [e, List.take_succ_cons] at h
        rcases List.mem_cons.1 h with h | h
        · rw [h]; exact hc
        · exact ih c h
      · have e : runL K (a :: r) = 0 := by unfold runL; rw [List.takeWhile_cons, if_neg hc]; rfl
        rw [e] at h; simp at h
  unfold sub whP
  rw [Nat.add_sub_cancel_left]
  exact key _
theorem sub_len {t : List UInt8} {i e : Nat} (h : e ≤ t.length) : (sub t i e).length = e - i := by
  unfold sub
  rw [List.length_take, List.length_drop]
  omega
set_option maxRecDepth 100000 in
set_option maxHeartbeats 4000000 in
theorem next_long (t : List UInt8) (ht : t.length ≤ 1000000000) (i : Nat) (hi : i < t.length) (e : Nat) (ha : atP t i = 3) (he : whP t i [3, 4, 5] = e) (hie : i ≤ e) (hel : e ≤ t.length) (h24 : 24 < e - i) (sc : Nat) (T : TypeId) (w : World) (h : Blk w sc T (scC t)) :
    Calls Tryz.prog 84 #[.pointer (some ⟨sc, 0, none⟩), .int .i64 (i : Int)] w fun r w' => r = .returned (nval (2, zTk, 0)) ∧ Below w.heap.size w w' := by
  rw [nval_mk]
  have HB := hide (below_one w (.cells #[.int .i64 0, .int .i64 0, .int .i64 0, .string ⟨#[]⟩] 113))
  have HR := hide (Blk.new w 113 #[.int .i64 0, .int .i64 0, .int .i64 0, .string ⟨#[]⟩])
  have HS := hide (h.to (below_one w (.cells #[.int .i64 0, .int .i64 0, .int .i64 0, .string ⟨#[]⟩] 113)))
  have hsz : (bs t).size = t.length := bs_size t
  clear h
  go_enter Tryz.func84, Tryz.ntmps84
  go_wp2_with fail
  generalize w.alloc (.cells #[.int .i64 0, .int .i64 0, .int .i64 0, .string ⟨#[]⟩] 113) = w1 at *
  obtain ⟨br, hbr⟩ : ∃ b, Hid (w.heap.size = b) := ⟨_, rfl⟩
  rw [hbr.out] at HR ⊢
  obtain ⟨U, hU, g, u0, rfl, hgu, hi'⟩ := cls w1
  have C1 := cls_call hgu hi' (fun w hb => at_any t i (by omega) sc T w (HS.out.to hb))
  rw [ha] at C1
  have s0 := blk_all hgu HS.out 0 (scC_0 t)
  have r0 := blk_all hgu HR.out 0 rfl
  have r1 := blk_all hgu HR.out 1 rfl
  have r2 := blk_all hgu HR.out 2 rfl
  have r3 := blk_all hgu HR.out 3 rfl
  have f0 : ∀ u i, (g u).frozen? ⟨br, i, none⟩ = false := fun u i => (HR.out.to (hgu u)).frozen i
  have C2 : ∀ u, Calls Tryz.prog 113 #[.pointer (some ⟨sc, 0, none⟩), .int .i64 (i : Int), .slice (some ⟨(g u).heap.size, 0, none⟩) 3 3] ((g u).alloc (.cells #[.int .i64 3, .int .i64 4, .int .i64 5] 3)) fun e' w' => e' = .returned (.int .i64 (e : Int)) ∧ ∃ u', w' = g u' := fun u => by
    have hb := below_alloc (hgu u) (Nat.le_refl _) (.cells #[.int .i64 3, .int .i64 4, .int .i64 5] 3)
    have hn := Blk.new (g u) 3 #[.int .i64 3, .int .i64 4, .int .i64 5]
    have := while_any t ht i (by omega) [3, 4, 5] (by simp) (.slice (some ⟨(g u).heap.size, 0, none⟩) 3 3) sc T _ (HS.out.to hb) ⟨_, 3, rfl, hn.lt, Nat.le_refl _, fun k x hx => by
      match k, hx with
      | 0, hx => simp at hx; subst hx; exact (hn.cell 0).trans rfl
      | 1, hx => simp at hx; subst hx; exact (hn.cell 1).trans rfl
      | 2, hx => simp at hx; subst hx; exact (hn.cell 2).trans rfl⟩
    rw [he] at this
    exact this.mono fun e' w' ⟨he, hb2⟩ => ⟨he, hi' _ (below_to hb (Nat.le_refl _) hb2)⟩
  have HGU := hide hgu
  clear hgu hi' ha he
  have e1 : decide ((24 : Int) < (e : Int) - (i : Int)) = true := by simp; omega
  go_wp2_with (first | ((with_reducible refine (C2 _).mono ?_); rintro e' w' ⟨rfl, uz, rfl⟩) | ((with_reducible refine (C1 _).mono ?_); rintro e' w' ⟨rfl, uz, rfl⟩))
  have hbk := (((HR.out.to (HGU.out uz)).set_ 0 (.int .i64 0)).set_ 1 (.int .i64 0)).set_ 2 (.int .i64 0) |>.set_ 3 (.string ⟨#[]⟩)
  refine bodyPost_ret (results_c2 (p := 4) (u := 5) (v := 6) rfl _ _ br 113 _ _ rfl hbk Tryz.underlying113 rfl (by kernel_rfl)) rfl ⟨rfl, ?_⟩
  exact ((((below_to HB.out (Nat.le_refl _) (HGU.out uz)).setCell (p := ⟨br, 0, none⟩) (Nat.le_of_eq hbr.out) _).setCell (p := ⟨br, 1, none⟩) (Nat.le_of_eq hbr.out) _).setCell (p := ⟨br, 2, none⟩) (Nat.le_of_eq hbr.out) _).setCell (p := ⟨br, 3, none⟩) (Nat.le_of_eq hbr.out) _
set_option maxRecDepth 100000 in
set_option maxHeartbeats 4000000 in
theorem next_nm (t : List UInt8) (ht : t.length ≤ 1000000000) (i : Nat) (hi : i < t.length) (e : Nat) (ha : atP t i = 3) (he : whP t i [3, 4, 5] = e) (hie : i ≤ e) (hel : e ≤ t.length) (h24 : e - i ≤ 24) (sc : Nat) (T : TypeId) (w : World) (h : Blk w sc T (scC t)) :
    Calls Tryz.prog 84 #[.pointer (some ⟨sc, 0, none⟩), .int .i64 (i : Int)] w fun r w' => r = .returned (nval (0, ⟨1, i, 0, sub t i e⟩, e)) ∧ Below w.heap.size w w' := by
  rw [nval_mk]
  have HB := hide (below_one w (.cells #[.int .i64 0, .int .i64 0, .int .i64 0, .string ⟨#[]⟩] 113))
  have HR := hide (Blk.new w 113 #[.int .i64 0, .int .i64 0, .int .i64 0, .string ⟨#[]⟩])
  have HS := hide (h.to (below_one w (.cells #[.int .i64 0, .int .i64 0, .int .i64 0, .string ⟨#[]⟩] 113)))
  have hsz : (bs t).size = t.length := bs_size t
  clear h
  go_enter Tryz.func84, Tryz.ntmps84
  go_wp2_with fail
  generalize w.alloc (.cells #[.int .i64 0, .int .i64 0, .int .i64 0, .string ⟨#[]⟩] 113) = w1 at *
  obtain ⟨br, hbr⟩ : ∃ b, Hid (w.heap.size = b) := ⟨_, rfl⟩
  rw [hbr.out] at HR ⊢
  obtain ⟨U, hU, g, u0, rfl, hgu, hi'⟩ := cls w1
  have C1 := cls_call hgu hi' (fun w hb => at_any t i (by omega) sc T w (HS.out.to hb))
  rw [ha] at C1
  have s0 := blk_all hgu HS.out 0 (scC_0 t)
  have r0 := blk_all hgu HR.out 0 rfl
  have r1 := blk_all hgu HR.out 1 rfl
  have r2 := blk_all hgu HR.out 2 rfl
  have r3 := blk_all hgu HR.out 3 rfl
  have f0 : ∀ u i, (g u).frozen? ⟨br, i, none⟩ = false := fun u i => (HR.out.to (hgu u)).frozen i
  have C2 : ∀ u, Calls Tryz.prog 113 #[.pointer (some ⟨sc, 0, none⟩), .int .i64 (i : Int), .slice (some ⟨(g u).heap.size, 0, none⟩) 3 3] ((g u).alloc (.cells #[.int .i64 3, .int .i64 4, .int .i64 5] 3)) fun e' w' => e' = .returned (.int .i64 (e : Int)) ∧ ∃ u', w' = g u' := fun u => by
    have hb := below_alloc (hgu u) (Nat.le_refl _) (.cells #[.int .i64 3, .int .i64 4, .int .i64 5] 3)
    have hn := Blk.new (g u) 3 #[.int .i64 3, .int .i64 4, .int .i64 5]
    have := while_any t ht i (by omega) [3, 4, 5] (by simp) (.slice (some ⟨(g u).heap.size, 0, none⟩) 3 3) sc T _ (HS.out.to hb) ⟨_, 3, rfl, hn.lt, Nat.le_refl _, fun k x hx => by
      match k, hx with
      | 0, hx => simp at hx; subst hx; exact (hn.cell 0).trans rfl
      | 1, hx => simp at hx; subst hx; exact (hn.cell 1).trans rfl
      | 2, hx => simp at hx; subst hx; exact (hn.cell 2).trans rfl⟩
    rw [he] at this
    exact this.mono fun e' w' ⟨he, hb2⟩ => ⟨he, hi' _ (below_to hb (Nat.le_refl _) hb2)⟩
  have hx : (bs t).extract i e = bs (sub t i e) := bs_cut t i e
  have HGU := hide hgu
  clear hgu hi' ha he
  go_wp2_with (first | ((with_reducible refine (C2 _).mono ?_); rintro e' w' ⟨rfl, uz, rfl⟩) | ((with_reducible refine (C1 _).mono ?_); rintro e' w' ⟨rfl, uz, rfl⟩))
  have hbk := (((HR.out.to (HGU.out uz)).set_ 0 (.int .i64 1)).set_ 1 (.int .i64 (i : Int))).set_ 2 (.int .i64 0) |>.set_ 3 (.string (bs (sub t i e)))
  refine bodyPost_ret (results_c2 (p := 4) (u := 5) (v := 6) rfl _ _ br 113 _ _ rfl hbk Tryz.underlying113 rfl (by kernel_rfl)) rfl ⟨rfl, ?_⟩
  exact ((((below_to HB.out (Nat.le_refl _) (HGU.out uz)).setCell (p := ⟨br, 0, none⟩) (Nat.le_of_eq hbr.out) _).setCell (p := ⟨br, 1, none⟩) (Nat.le_of_eq hbr.out) _).setCell (p := ⟨br, 2, none⟩) (Nat.le_of_eq hbr.out) _).setCell (p := ⟨br, 3, none⟩) (Nat.le_of_eq hbr.out) _
set_option maxRecDepth 100000 in
set_option maxHeartbeats 4000000 in
theorem next_num_a (t : List UInt8) (ht : t.length ≤ 1000000000) (i : Nat) (hi : i < t.length) (e : Nat) (ha : atP t i = 4) (he : whP t i [4] = e) (hie : i < e) (hel : e ≤ t.length) (h13 : 13 < e - i) (sc : Nat) (T : TypeId) (w : World) (h : Blk w sc T (scC t)) :
    Calls Tryz.prog 84 #[.pointer (some ⟨sc, 0, none⟩), .int .i64 (i : Int)] w fun r w' => r = .returned (nval (4, zTk, 0)) ∧ Below w.heap.size w w' := by
  rw [nval_mk]
  have HB := hide (below_one w (.cells #[.int .i64 0, .int .i64 0, .int .i64 0, .string ⟨#[]⟩] 113))
  have HR := hide (Blk.new w 113 #[.int .i64 0, .int .i64 0, .int .i64 0, .string ⟨#[]⟩])
  have HS := hide (h.to (below_one w (.cells #[.int .i64 0, .int .i64 0, .int .i64 0, .string ⟨#[]⟩] 113)))
  have hsz : (bs t).size = t.length := bs_size t
  clear h
  go_enter Tryz.func84, Tryz.ntmps84
  go_wp2_with fail
  generalize w.alloc (.cells #[.int .i64 0, .int .i64 0, .int .i64 0, .string ⟨#[]⟩] 113) = w1 at *
  obtain ⟨br, hbr⟩ : ∃ b, Hid (w.heap.size = b) := ⟨_, rfl⟩
  rw [hbr.out] at HR ⊢
  obtain ⟨U, hU, g, u0, rfl, hgu, hi'⟩ := cls w1
  have C1 := cls_call hgu hi' (fun w hb => at_any t i (by omega) sc T w (HS.out.to hb))
  rw [ha] at C1
  have s0 := blk_all hgu HS.out 0 (scC_0 t)
  have r0 := blk_all hgu HR.out 0 rfl
  have r1 := blk_all hgu HR.out 1 rfl
  have r2 := blk_all hgu HR.out 2 rfl
  have r3 := blk_all hgu HR.out 3 rfl
  have f0 : ∀ u i, (g u).frozen? ⟨br, i, none⟩ = false := fun u i => (HR.out.to (hgu u)).frozen i
  have C2 : ∀ u, Calls Tryz.prog 113 #[.pointer (some ⟨sc, 0, none⟩), .int .i64 (i : Int), .slice (some ⟨(g u).heap.size, 0, none⟩) 1 1] ((g u).alloc (.cells #[.int .i64 4] 3)) fun e' w' => e' = .returned (.int .i64 (e : Int)) ∧ ∃ u', w' = g u' := fun u => by
    have hb := below_alloc (hgu u) (Nat.le_refl _) (.cells #[.int .i64 4] 3)
    have hn := Blk.new (g u) 3 #[.int .i64 4]
    have := while_any t ht i (by omega) [4] (by simp) (.slice (some ⟨(g u).heap.size, 0, none⟩) 1 1) sc T _ (HS.out.to hb) ⟨_, 1, rfl, hn.lt, Nat.le_refl _, fun k x hx => by
      match k, hx with
      | 0, hx => simp at hx; subst hx; exact (hn.cell 0).trans rfl⟩
    rw [he] at this
    exact this.mono fun e' w' ⟨he, hb2⟩ => ⟨he, hi' _ (below_to hb (Nat.le_refl _) hb2)⟩
  have C3 := cls_call hgu hi' (fun w hb => at_any t e (by omega) sc T w (HS.out.to hb))
  have HGU := hide hgu
  clear hgu hi' ha he
  have e1 : decide ((13 : Int) < (e : Int) - (i : Int)) = true := by simp; omega
  generalize atP t e = A at *
  go_wp2_with (first | ((with_reducible refine (C2 _).mono ?_); rintro e' w' ⟨rfl, uz, rfl⟩) | ((with_reducible refine (C1 _).mono ?_); rintro e' w' ⟨rfl, uz, rfl⟩) | ((with_reducible refine (C3 _).mono ?_); rintro e' w' ⟨rfl, uz, rfl⟩))
  have hbk := (((HR.out.to (HGU.out uz)).set_ 0 (.int .i64 0)).set_ 1 (.int .i64 0)).set_ 2 (.int .i64 0) |>.set_ 3 (.string ⟨#[]⟩)
  refine bodyPost_ret (results_c2 (p := 4) (u := 5) (v := 6) rfl _ _ br 113 _ _ rfl hbk Tryz.underlying113 rfl (by kernel_rfl)) rfl ⟨rfl, ?_⟩
  exact ((((below_to HB.out (Nat.le_refl _) (HGU.out uz)).setCell (p := ⟨br, 0, none⟩) (Nat.le_of_eq hbr.out) _).setCell (p := ⟨br, 1, none⟩) (Nat.le_of_eq hbr.out) _).setCell (p := ⟨br, 2, none⟩) (Nat.le_of_eq hbr.out) _).setCell (p := ⟨br, 3, none⟩) (Nat.le_of_eq hbr.out) _
set_option maxRecDepth 100000 in
set_option maxHeartbeats 4000000 in
theorem next_num_b (t : List UInt8) (ht : t.length ≤ 1000000000) (i : Nat) (hi : i < t.length) (e : Nat) (ha : atP t i = 4) (he : whP t i [4] = e) (hie : i < e) (hel : e ≤ t.length) (h13 : e - i ≤ 13) (hae : atP t e = 3 ∨ atP t e = 5) (sc : Nat) (T : TypeId) (w : World) (h : Blk w sc T (scC t)) :
    Calls Tryz.prog 84 #[.pointer (some ⟨sc, 0, none⟩), .int .i64 (i : Int)] w fun r w' => r = .returned (nval (4, zTk, 0)) ∧ Below w.heap.size w w' := by
  rw [nval_mk]
  have HB := hide (below_one w (.cells #[.int .i64 0, .int .i64 0, .int .i64 0, .string ⟨#[]⟩] 113))
  have HR := hide (Blk.new w 113 #[.int .i64 0, .int .i64 0, .int .i64 0, .string ⟨#[]⟩])
  have HS := hide (h.to (below_one w (.cells #[.int .i64 0, .int .i64 0, .int .i64 0, .string ⟨#[]⟩] 113)))
  have hsz : (bs t).size = t.length := bs_size t
  clear h
  go_enter Tryz.func84, Tryz.ntmps84
  go_wp2_with fail
  generalize w.alloc (.cells #[.int .i64 0, .int .i64 0, .int .i64 0, .string ⟨#[]⟩] 113) = w1 at *
  obtain ⟨br, hbr⟩ : ∃ b, Hid (w.heap.size = b) := ⟨_, rfl⟩
  rw [hbr.out] at HR ⊢
  obtain ⟨U, hU, g, u0, rfl, hgu, hi'⟩ := cls w1
  have C1 := cls_call hgu hi' (fun w hb => at_any t i (by omega) sc T w (HS.out.to hb))
  rw [ha] at C1
  have s0 := blk_all hgu HS.out 0 (scC_0 t)
  have r0 := blk_all hgu HR.out 0 rfl
  have r1 := blk_all hgu HR.out 1 rfl
  have r2 := blk_all hgu HR.out 2 rfl
  have r3 := blk_all hgu HR.out 3 rfl
  have f0 : ∀ u i, (g u).frozen? ⟨br, i, none⟩ = false := fun u i => (HR.out.to (hgu u)).frozen i
  have C2 : ∀ u, Calls Tryz.prog 113 #[.pointer (some ⟨sc, 0, none⟩), .int .i64 (i : Int), .slice (some ⟨(g u).heap.size, 0, none⟩) 1 1] ((g u).alloc (.cells #[.int .i64 4] 3)) fun e' w' => e' = .returned (.int .i64 (e : Int)) ∧ ∃ u', w' = g u' := fun u => by
    have hb := below_alloc (hgu u) (Nat.le_refl _) (.cells #[.int .i64 4] 3)
    have hn := Blk.new (g u) 3 #[.int .i64 4]
    have := while_any t ht i (by omega) [4] (by simp) (.slice (some ⟨(g u).heap.size, 0, none⟩) 1 1) sc T _ (HS.out.to hb) ⟨_, 1, rfl, hn.lt, Nat.le_refl _, fun k x hx => by
      match k, hx with
      | 0, hx => simp at hx; subst hx; exact (hn.cell 0).trans rfl⟩
    rw [he] at this
    exact this.mono fun e' w' ⟨he, hb2⟩ => ⟨he, hi' _ (below_to hb (Nat.le_refl _) hb2)⟩
  have C3 := cls_call hgu hi' (fun w hb => at_any t e (by omega) sc T w (HS.out.to hb))
  have HGU := hide hgu
  clear hgu hi' ha he
  have e1 : decide ((13 : Int) < (e : Int) - (i : Int)) = false := by simp; omega
  generalize atP t e = A at *
  rcases hae with rfl | rfl
  · go_wp2_with (first | ((with_reducible refine (C2 _).mono ?_); rintro e' w' ⟨rfl, uz, rfl⟩) | ((with_reducible refine (C1 _).mono ?_); rintro e' w' ⟨rfl, uz, rfl⟩) | ((with_reducible refine (C3 _).mono ?_); rintro e' w' ⟨rfl, uz, rfl⟩))
    have hbk := (((HR.out.to (HGU.out uz)).set_ 0 (.int .i64 0)).set_ 1 (.int .i64 0)).set_ 2 (.int .i64 0) |>.set_ 3 (.string ⟨#[]⟩)
    refine bodyPost_ret (results_c2 (p := 4) (u := 5) (v := 6) rfl _ _ br 113 _ _ rfl hbk Tryz.underlying113 rfl (by kernel_rfl)) rfl ⟨rfl, ?_⟩
    exact ((((below_to HB.out (Nat.le_refl _) (HGU.out uz)).setCell (p := ⟨br, 0, none⟩) (Nat.le_of_eq hbr.out) _).setCell (p := ⟨br, 1, none⟩) (Nat.le_of_eq hbr.out) _).setCell (p := ⟨br, 2, none⟩) (Nat.le_of_eq hbr.out) _).setCell (p := ⟨br, 3, none⟩) (Nat.le_of_eq hbr.out) _
  · go_wp2_with (first | ((with_reducible refine (C2 _).mono ?_); rintro e' w' ⟨rfl, uz, rfl⟩) | ((with_reducible refine (C1 _).mono ?_); rintro e' w' ⟨rfl, uz, rfl⟩) | ((with_reducible refine (C3 _).mono ?_); rintro e' w' ⟨rfl, uz, rfl⟩))
    have hbk := (((HR.out.to (HGU.out uz)).set_ 0 (.int .i64 0)).set_ 1 (.int .i64 0)).set_ 2 (.int .i64 0) |>.set_ 3 (.string ⟨#[]⟩)
    refine bodyPost_ret (results_c2 (p := 4) (u := 5) (v := 6) rfl _ _ br 113 _ _ rfl hbk Tryz.underlying113 rfl (by kernel_rfl)) rfl ⟨rfl, ?_⟩
    exact ((((below_to HB.out (Nat.le_refl _) (HGU.out uz)).setCell (p := ⟨br, 0, none⟩) (Nat.le_of_eq hbr.out) _).setCell (p := ⟨br, 1, none⟩) (Nat.le_of_eq hbr.out) _).setCell (p := ⟨br, 2, none⟩) (Nat.le_of_eq hbr.out) _).setCell (p := ⟨br, 3, none⟩) (Nat.le_of_eq hbr.out) _
set_option maxRecDepth 100000 in
set_option maxHeartbeats 4000000 in
theorem next_num (t : List UInt8) (ht : t.length ≤ 1000000000) (i : Nat) (hi : i < t.length) (e : Nat) (ha : atP t i = 4) (he : whP t i [4] = e) (hie : i < e) (hel : e ≤ t.length) (h13 : e - i ≤ 13) (hae : ¬ (atP t e = 3 ∨ atP t e = 5)) (sc : Nat) (T : TypeId) (w : World) (h : Blk w sc T (scC t)) :
    Calls Tryz.prog 84 #[.pointer (some ⟨sc, 0, none⟩), .int .i64 (i : Int)] w fun r w' => r = .returned (nval (0, ⟨2, i, (numD (sub t i e) : Nat), sub t i e⟩, e)) ∧ Below w.heap.size w w' := by
  rw [nval_mk]
  have HB := hide (below_one w (.cells #[.int .i64 0, .int .i64 0, .int .i64 0, .string ⟨#[]⟩] 113))
  have HR := hide (Blk.new w 113 #[.int .i64 0, .int .i64 0, .int .i64 0, .string ⟨#[]⟩])
  have HS := hide (h.to (below_one w (.cells #[.int .i64 0, .int .i64 0, .int .i64 0, .string ⟨#[]⟩] 113)))
  have hsz : (bs t).size = t.length := bs_size t
  clear h
  go_enter Tryz.func84, Tryz.ntmps84
  go_wp2_with fail
  generalize w.alloc (.cells #[.int .i64 0, .int .i64 0, .int .i64 0, .string ⟨#[]⟩] 113) = w1 at *
  obtain ⟨br, hbr⟩ : ∃ b, Hid (w.heap.size = b) := ⟨_, rfl⟩
  rw [hbr.out] at HR ⊢
  obtain ⟨U, hU, g, u0, rfl, hgu, hi'⟩ := cls w1
  have C1 := cls_call hgu hi' (fun w hb => at_any t i (by omega) sc T w (HS.out.to hb))
  rw [ha] at C1
  have s0 := blk_all hgu HS.out 0 (scC_0 t)
  have r0 := blk_all hgu HR.out 0 rfl
  have r1 := blk_all hgu HR.out 1 rfl
  have r2 := blk_all hgu HR.out 2 rfl
  have r3 := blk_all hgu HR.out 3 rfl
  have f0 : ∀ u i, (g u).frozen? ⟨br, i, none⟩ = false := fun u i => (HR.out.to (hgu u)).frozen i
  have C2 : ∀ u, Calls Tryz.prog 113 #[.pointer (some ⟨sc, 0, none⟩), .int .i64 (i : Int), .slice (some ⟨(g u).heap.size, 0, none⟩) 1 1] ((g u).alloc (.cells #[.int .i64 4] 3)) fun e' w' => e' = .returned (.int .i64 (e : Int)) ∧ ∃ u', w' = g u' := fun u => by
    have hb := below_alloc (hgu u) (Nat.le_refl _) (.cells #[.int .i64 4] 3)
    have hn := Blk.new (g u) 3 #[.int .i64 4]
    have := while_any t ht i (by omega) [4] (by simp) (.slice (some ⟨(g u).heap.size, 0, none⟩) 1 1) sc T _ (HS.out.to hb) ⟨_, 1, rfl, hn.lt, Nat.le_refl _, fun k x hx => by
      match k, hx with
      | 0, hx => simp at hx; subst hx; exact (hn.cell 0).trans rfl⟩
    rw [he] at this
    exact this.mono fun e' w' ⟨he, hb2⟩ => ⟨he, hi' _ (below_to hb (Nat.le_refl _) hb2)⟩
  have C3 := cls_call hgu hi' (fun w hb => at_any t e (by omega) sc T w (HS.out.to hb))
  have hx : (bs t).extract i e = bs (sub t i e) := bs_cut t i e
  have C4 := cls_call hgu hi' (fun w hb => Atoi_dg (l := sub t i e) (fun c hc => cls4 (by have := wh_all t i [4] c (by rw [he]; exact hc); simpa using this)) (fun h0 => by have := sub_len (t := t) (i := i) hel; rw [h0] at this; simp at this; omega) (by rw [sub_len hel]; omega) w)
  have HGU := hide hgu
  clear hgu hi' ha he
  have e1 : decide ((13 : Int) < (e : Int) - (i : Int)) = false := by simp; omega
  have e2 : (atP t e == 3) = false := by rw [beq_eq_false_iff_ne]; exact fun h => hae (.inl h)
  have e3 : (atP t e == 5) = false := by rw [beq_eq_false_iff_ne]; exact fun h => hae (.inr h)
  clear hae
  generalize atP t e = A at *
  go_wp2_with (first | ((with_reducible refine (C2 _).mono ?_); rintro e' w' ⟨rfl, uz, rfl⟩) | ((with_reducible refine (C1 _).mono ?_); rintro e' w' ⟨rfl, uz, rfl⟩) | ((with_reducible refine (C3 _).mono ?_); rintro e' w' ⟨rfl, uz, rfl⟩) | ((with_reducible refine (C4 _).mono ?_); rintro e' w' ⟨rfl, uz, rfl⟩))
  have hbk := (((HR.out.to (HGU.out uz)).set_ 0 (.int .i64 2)).set_ 1 (.int .i64 (i : Int))).set_ 2 (.int .i64 ((numD (sub t i e) : Nat) : Int)) |>.set_ 3 (.string (bs (sub t i e)))
  refine bodyPost_ret (results_c2 (p := 4) (u := 5) (v := 6) rfl _ _ br 113 _ _ rfl hbk Tryz.underlying113 rfl (by kernel_rfl)) rfl ⟨rfl, ?_⟩
  exact ((((below_to HB.out (Nat.le_refl _) (HGU.out uz)).setCell (p := ⟨br, 0, none⟩) (Nat.le_of_eq hbr.out) _).setCell (p := ⟨br, 1, none⟩) (Nat.le_of_eq hbr.out) _).setCell (p := ⟨br, 2, none⟩) (Nat.le_of_eq hbr.out) _).setCell (p := ⟨br, 3, none⟩) (Nat.le_of_eq hbr.out) _
set_option maxRecDepth 100000 in
set_option maxHeartbeats 4000000 in
theorem next_str_a (t : List UInt8) (ht : t.length ≤ 1000000000) (i : Nat) (hi : i < t.length) (ha : atP t i = 6) (hn : strN t i < 0) (sc : Nat) (T : TypeId) (w : World) (h : Blk w sc T (scC t)) :
    Calls Tryz.prog 84 #[.pointer (some ⟨sc, 0, none⟩), .int .i64 (i : Int)] w fun r w' => r = .returned (nval (6, zTk, 0)) ∧ Below w.heap.size w w' := by
  rw [nval_mk]
  have HB := hide (below_one w (.cells #[.int .i64 0, .int .i64 0, .int .i64 0, .string ⟨#[]⟩] 113))
  have HR := hide (Blk.new w 113 #[.int .i64 0, .int .i64 0, .int .i64 0, .string ⟨#[]⟩])
  have HS := hide (h.to (below_one w (.cells #[.int .i64 0, .int .i64 0, .int .i64 0, .string ⟨#[]⟩] 113)))
  have hsz : (bs t).size = t.length := bs_size t
  clear h
  go_enter Tryz.func84, Tryz.ntmps84
  go_wp2_with fail
  generalize w.alloc (.cells #[.int .i64 0, .int .i64 0, .int .i64 0, .string ⟨#[]⟩] 113) = w1 at *
  obtain ⟨br, hbr⟩ : ∃ b, Hid (w.heap.size = b) := ⟨_, rfl⟩
  rw [hbr.out] at HR ⊢
  obtain ⟨U, hU, g, u0, rfl, hgu, hi'⟩ := cls w1
  have C1 := cls_call hgu hi' (fun w hb => at_any t i (by omega) sc T w (HS.out.to hb))
  rw [ha] at C1
  have s0 := blk_all hgu HS.out 0 (scC_0 t)
  have r0 := blk_all hgu HR.out 0 rfl
  have r1 := blk_all hgu HR.out 1 rfl
  have r2 := blk_all hgu HR.out 2 rfl
  have r3 := blk_all hgu HR.out 3 rfl
  have f0 : ∀ u i, (g u).frozen? ⟨br, i, none⟩ = false := fun u i => (HR.out.to (hgu u)).frozen i
  have hr : (bs t).extract (i + 1) t.length = bs (t.drop (i + 1)) := bs_from t (i + 1)
  have hrz : (bs (t.drop (i + 1))).size = t.length - (i + 1) := by rw [bs_size, List.length_drop]
  have CI : ∀ u, Calls Tryz.prog 116 #[.string (bs (t.drop (i + 1))), .string ⟨#[34, 10]⟩] (g u) fun e w' => e = .returned (.int .i64 (strN t i)) ∧ ∃ u', w' = g u' := cls_call hgu hi' (fun w hb => IndexAny_qn (bs (t.drop (i + 1))) (by rw [hrz]; omega) w)
  have HGU := hide hgu
  clear hgu hi' ha
  generalize strN t i = N at *
  generalize bs (t.drop (i + 1)) = R at *
  go_wp2_with (first | ((with_reducible refine (C1 _).mono ?_); rintro e' w' ⟨rfl, uz, rfl⟩) | ((with_reducible refine (CI _).mono ?_); rintro e' w' ⟨rfl, uz, rfl⟩))
  have hbk := (((HR.out.to (HGU.out uz)).set_ 0 (.int .i64 0)).set_ 1 (.int .i64 0)).set_ 2 (.int .i64 0) |>.set_ 3 (.string ⟨#[]⟩)
  refine bodyPost_ret (results_c2 (p := 4) (u := 5) (v := 6) rfl _ _ br 113 _ _ rfl hbk Tryz.underlying113 rfl (by kernel_rfl)) rfl ⟨rfl, ?_⟩
  exact ((((below_to HB.out (Nat.le_refl _) (HGU.out uz)).setCell (p := ⟨br, 0, none⟩) (Nat.le_of_eq hbr.out) _).setCell (p := ⟨br, 1, none⟩) (Nat.le_of_eq hbr.out) _).setCell (p := ⟨br, 2, none⟩) (Nat.le_of_eq hbr.out) _).setCell (p := ⟨br, 3, none⟩) (Nat.le_of_eq hbr.out) _
set_option maxRecDepth 100000 in
set_option maxHeartbeats 4000000 in
theorem next_str_b (t : List UInt8) (ht : t.length ≤ 1000000000) (i : Nat) (hi : i < t.length) (ha : atP t i = 6) (n : Nat) (hn : strN t i = n) (c : UInt8) (hc : (t.drop (i + 1))[n]? = some c) (h10 : c = 10) (sc : Nat) (T : TypeId) (w : World) (h : Blk w sc T (scC t)) :
    Calls Tryz.prog 84 #[.pointer (some ⟨sc, 0, none⟩), .int .i64 (i : Int)] w fun r w' => r = .returned (nval (6, zTk, 0)) ∧ Below w.heap.size w w' := by
  rw [nval_mk]
  have HB := hide (below_one w (.cells #[.int .i64 0, .int .i64 0, .int .i64 0, .string ⟨#[]⟩] 113))
  have HR := hide (Blk.new w 113 #[.int .i64 0, .int .i64 0, .int .i64 0, .string ⟨#[]⟩])
  have HS := hide (h.to (below_one w (.cells #[.int .i64 0, .int .i64 0, .int .i64 0, .string ⟨#[]⟩] 113)))
  have hsz : (bs t).size = t.length := bs_size t
  clear h
  go_enter Tryz.func84, Tryz.ntmps84
  go_wp2_with fail
  generalize w.alloc (.cells #[.int .i64 0, .int .i64 0, .int .i64 0, .string ⟨#[]⟩] 113) = w1 at *
  obtain ⟨br, hbr⟩ : ∃ b, Hid (w.heap.size = b) := ⟨_, rfl⟩
  rw [hbr.out] at HR ⊢
  obtain ⟨U, hU, g, u0, rfl, hgu, hi'⟩ := cls w1
  have C1 := cls_call hgu hi' (fun w hb => at_any t i (by omega) sc T w (HS.out.to hb))
  rw [ha] at C1
  have s0 := blk_all hgu HS.out 0 (scC_0 t)
  have r0 := blk_all hgu HR.out 0 rfl
  have r1 := blk_all hgu HR.out 1 rfl
  have r2 := blk_all hgu HR.out 2 rfl
  have r3 := blk_all hgu HR.out 3 rfl
  have f0 : ∀ u i, (g u).frozen? ⟨br, i, none⟩ = false := fun u i => (HR.out.to (hgu u)).frozen i
  have hr : (bs t).extract (i + 1) t.length = bs (t.drop (i + 1)) := bs_from t (i + 1)
  have hrz : (bs (t.drop (i + 1))).size = t.length - (i + 1) := by rw [bs_size, List.length_drop]
  have CI : ∀ u, Calls Tryz.prog 116 #[.string (bs (t.drop (i + 1))), .string ⟨#[34, 10]⟩] (g u) fun e w' => e = .returned (.int .i64 (strN t i)) ∧ ∃ u', w' = g u' := cls_call hgu hi' (fun w hb => IndexAny_qn (bs (t.drop (i + 1))) (by rw [hrz]; omega) w)
  have ci := index_bs (t.drop (i + 1)) n c hc
  have hnl : n < t.length - (i + 1) := by
    rcases Nat.lt_or_ge n (t.drop (i + 1)).length with h | h
    · rwa [List.length_drop] at h
    · rw [List.getElem?_eq_none h] at hc; cases hc
  rw [hn] at CI
  have HGU := hide hgu
  clear hgu hi' ha hn hc
  subst h10
  generalize bs (t.drop (i + 1)) = R at *
  go_wp2_with (first | ((with_reducible refine (C1 _).mono ?_); rintro e' w' ⟨rfl, uz, rfl⟩) | ((with_reducible refine (CI _).mono ?_); rintro e' w' ⟨rfl, uz, rfl⟩))
  have hbk := (((HR.out.to (HGU.out uz)).set_ 0 (.int .i64 0)).set_ 1 (.int .i64 0)).set_ 2 (.int .i64 0) |>.set_ 3 (.string ⟨#[]⟩)
  refine bodyPost_ret (results_c2 (p := 4) (u := 5) (v := 6) rfl _ _ br 113 _ _ rfl hbk Tryz.underlying113 rfl (by kernel_rfl)) rfl ⟨rfl, ?_⟩
  exact ((((below_to HB.out (Nat.le_refl _) (HGU.out uz)).setCell (p := ⟨br, 0, none⟩) (Nat.le_of_eq hbr.out) _).setCell (p := ⟨br, 1, none⟩) (Nat.le_of_eq hbr.out) _).setCell (p := ⟨br, 2, none⟩) (Nat.le_of_eq hbr.out) _).setCell (p := ⟨br, 3, none⟩) (Nat.le_of_eq hbr.out) _
set_option maxRecDepth 100000 in
set_option maxHeartbeats 4000000 in
theorem next_str_c (t : List UInt8) (ht : t.length ≤ 1000000000) (i : Nat) (hi : i < t.length) (ha : atP t i = 6) (n : Nat) (hn : strN t i = n) (c : UInt8) (hc : (t.drop (i + 1))[n]? = some c) (h10 : c ≠ 10) (h400 : 400 < n) (sc : Nat) (T : TypeId) (w : World) (h : Blk w sc T (scC t)) :
    Calls Tryz.prog 84 #[.pointer (some ⟨sc, 0, none⟩), .int .i64 (i : Int)] w fun r w' => r = .returned (nval (2, zTk, 0)) ∧ Below w.heap.size w w' := by
  rw [nval_mk]
  have HB := hide (below_one w (.cells #[.int .i64 0, .int .i64 0, .int .i64 0, .string ⟨#[]⟩] 113))
  have HR := hide (Blk.new w 113 #[.int .i64 0, .int .i64 0, .int .i64 0, .string ⟨#[]⟩])
  have HS := hide (h.to (below_one w (.cells #[.int .i64 0, .int .i64 0, .int .i64 0, .string ⟨#[]⟩] 113)))
  have hsz : (bs t).size = t.length := bs_size t
  clear h
  go_enter Tryz.func84, Tryz.ntmps84
  go_wp2_with fail
  generalize w.alloc (.cells #[.int .i64 0, .int .i64 0, .int .i64 0, .string ⟨#[]⟩] 113) = w1 at *
  obtain ⟨br, hbr⟩ : ∃ b, Hid (w.heap.size = b) := ⟨_, rfl⟩
  rw [hbr.out] at HR ⊢
  obtain ⟨U, hU, g, u0, rfl, hgu, hi'⟩ := cls w1
  have C1 := cls_call hgu hi' (fun w hb => at_any t i (by omega) sc T w (HS.out.to hb))
  rw [ha] at C1
  have s0 := blk_all hgu HS.out 0 (scC_0 t)
  have r0 := blk_all hgu HR.out 0 rfl
  have r1 := blk_all hgu HR.out 1 rfl
  have r2 := blk_all hgu HR.out 2 rfl
  have r3 := blk_all hgu HR.out 3 rfl
  have f0 : ∀ u i, (g u).frozen? ⟨br, i, none⟩ = false := fun u i => (HR.out.to (hgu u)).frozen i
  have hr : (bs t).extract (i + 1) t.length = bs (t.drop (i + 1)) := bs_from t (i + 1)
  have hrz : (bs (t.drop (i + 1))).size = t.length - (i + 1) := by rw [bs_size, List.length_drop]
  have CI : ∀ u, Calls Tryz.prog 116 #[.string (bs (t.drop (i + 1))), .string ⟨#[34, 10]⟩] (g u) fun e w' => e = .returned (.int .i64 (strN t i)) ∧ ∃ u', w' = g u' := cls_call hgu hi' (fun w hb => IndexAny_qn (bs (t.drop (i + 1))) (by rw [hrz]; omega) w)
  have ci := index_bs (t.drop (i + 1)) n c hc
  have hnl : n < t.length - (i + 1) := by
    rcases Nat.lt_or_ge n (t.drop (i + 1)).length with h | h
    · rwa [List.length_drop] at h
    · rw [List.getElem?_eq_none h] at hc; cases hc
  rw [hn] at CI
  have HGU := hide hgu
  clear hgu hi' ha hn hc
  have e1 : ((c.toNat : Int) == 10) = false := by
    rw [beq_eq_false_iff_ne]
    intro h
    exact h10 (UInt8.toNat_inj.1 (by show c.toNat = 10; omega))
  clear h10
  generalize bs (t.drop (i + 1)) = R at *
  go_wp2_with (first | ((with_reducible refine (C1 _).mono ?_); rintro e' w' ⟨rfl, uz, rfl⟩) | ((with_reducible refine (CI _).mono ?_); rintro e' w' ⟨rfl, uz, rfl⟩))
  have hbk := (((HR.out.to (HGU.out uz)).set_ 0 (.int .i64 0)).set_ 1 (.int .i64 0)).set_ 2 (.int .i64 0) |>.set_ 3 (.string ⟨#[]⟩)
  refine bodyPost_ret (results_c2 (p := 4) (u := 5) (v := 6) rfl _ _ br 113 _ _ rfl hbk Tryz.underlying113 rfl (by kernel_rfl)) rfl ⟨rfl, ?_⟩
  exact ((((below_to HB.out (Nat.le_refl _) (HGU.out uz)).setCell (p := ⟨br, 0, none⟩) (Nat.le_of_eq hbr.out) _).setCell (p := ⟨br, 1, none⟩) (Nat.le_of_eq hbr.out) _).setCell (p := ⟨br, 2, none⟩) (Nat.le_of_eq hbr.out) _).setCell (p := ⟨br, 3, none⟩) (Nat.le_of_eq hbr.out) _
set_option maxRecDepth 100000 in
set_option maxHeartbeats 4000000 in
theorem next_str (t : List UInt8) (ht : t.length ≤ 1000000000) (i : Nat) (hi : i < t.length) (ha : atP t i = 6) (n : Nat) (hn : strN t i = n) (c : UInt8) (hc : (t.drop (i + 1))[n]? = some c) (h10 : c ≠ 10) (h400 : n ≤ 400) (sc : Nat) (T : TypeId) (w : World) (h : Blk w sc T (scC t)) :
    Calls Tryz.prog 84 #[.pointer (some ⟨sc, 0, none⟩), .int .i64 (i : Int)] w fun r w' => r = .returned (nval (0, ⟨3, i, 0, (t.drop (i + 1)).take n⟩, i + n + 2)) ∧ Below w.heap.size w w' := by
  rw [nval_mk]
  have HB := hide (below_one w (.cells #[.int .i64 0, .int .i64 0, .int .i64 0, .string ⟨#[]⟩] 113))
  have HR := hide (Blk.new w 113 #[.int .i64 0, .int .i64 0, .int .i64 0, .string ⟨#[]⟩])
  have HS := hide (h.to (below_one w (.cells #[.int .i64 0, .int .i64 0, .int .i64 0, .string ⟨#[]⟩] 113)))
  have hsz : (bs t).size = t.length := bs_size t
  clear h
  go_enter Tryz.func84, Tryz.ntmps84
  go_wp2_with fail
  generalize w.alloc (.cells #[.int .i64 0, .int .i64 0, .int .i64 0, .string ⟨#[]⟩] 113) = w1 at *
  obtain ⟨br, hbr⟩ : ∃ b, Hid (w.heap.size = b) := ⟨_, rfl⟩
  rw [hbr.out] at HR ⊢
  obtain ⟨U, hU, g, u0, rfl, hgu, hi'⟩ := cls w1
  have C1 := cls_call hgu hi' (fun w hb => at_any t i (by omega) sc T w (HS.out.to hb))
  rw [ha] at C1
  have s0 := blk_all hgu HS.out 0 (scC_0 t)
  have r0 := blk_all hgu HR.out 0 rfl
  have r1 := blk_all hgu HR.out 1 rfl
  have r2 := blk_all hgu HR.out 2 rfl
  have r3 := blk_all hgu HR.out 3 rfl
  have f0 : ∀ u i, (g u).frozen? ⟨br, i, none⟩ = false := fun u i => (HR.out.to (hgu u)).frozen i
  have hr : (bs t).extract (i + 1) t.length = bs (t.drop (i + 1)) := bs_from t (i + 1)
  have hrz : (bs (t.drop (i + 1))).size = t.length - (i + 1) := by rw [bs_size, List.length_drop]
  have CI : ∀ u, Calls Tryz.prog 116 #[.string (bs (t.drop (i + 1))), .string ⟨#[34, 10]⟩] (g u) fun e w' => e = .returned (.int .i64 (strN t i)) ∧ ∃ u', w' = g u' := cls_call hgu hi' (fun w hb => IndexAny_qn (bs (t.drop (i + 1))) (by rw [hrz]; omega) w)
  have ci := index_bs (t.drop (i + 1)) n c hc
  have hnl : n < t.length - (i + 1) := by
    rcases Nat.lt_or_ge n (t.drop (i + 1)).length with h | h
    · rwa [List.length_drop] at h
    · rw [List.getElem?_eq_none h] at hc; cases hc
  rw [hn] at CI
  have hx : (bs (t.drop (i + 1))).extract 0 n = bs ((t.drop (i + 1)).take n) := by rw [bs_cut, List.drop_zero, Nat.sub_zero]
  have HGU := hide hgu
  clear hgu hi' ha hn hc
  have e1 : ((c.toNat : Int) == 10) = false := by
    rw [beq_eq_false_iff_ne]
    intro h
    exact h10 (UInt8.toNat_inj.1 (by show c.toNat = 10; omega))
  clear h10
  generalize bs (t.drop (i + 1)) = R at *
  go_wp2_with (first | ((with_reducible refine (C1 _).mono ?_); rintro e' w' ⟨rfl, uz, rfl⟩) | ((with_reducible refine (CI _).mono ?_); rintro e' w' ⟨rfl, uz, rfl⟩))
  have hbk := (((HR.out.to (HGU.out uz)).set_ 0 (.int .i64 3)).set_ 1 (.int .i64 (i : Int))).set_ 2 (.int .i64 0) |>.set_ 3 (.string (bs ((t.drop (i + 1)).take n)))
  refine bodyPost_ret (results_c2 (p := 4) (u := 5) (v := 6) rfl _ _ br 113 _ _ rfl hbk Tryz.underlying113 rfl (by kernel_rfl)) rfl ⟨rfl, ?_⟩
  exact ((((below_to HB.out (Nat.le_refl _) (HGU.out uz)).setCell (p := ⟨br, 0, none⟩) (Nat.le_of_eq hbr.out) _).setCell (p := ⟨br, 1, none⟩) (Nat.le_of_eq hbr.out) _).setCell (p := ⟨br, 2, none⟩) (Nat.le_of_eq hbr.out) _).setCell (p := ⟨br, 3, none⟩) (Nat.le_of_eq hbr.out) _
set_option maxRecDepth 100000 in
set_option maxHeartbeats 4000000 in
theorem next_eq7 (t : List UInt8) (ht : t.length ≤ 1000000000) (i : Nat) (hi : i < t.length) (ha : atP t i = 7) (hp : Lib.hasPrefix (t.drop (i + 1)) [61] = true) (sc : Nat) (T : TypeId) (w : World) (h : Blk w sc T (scC t)) :
    Calls Tryz.prog 84 #[.pointer (some ⟨sc, 0, none⟩), .int .i64 (i : Int)] w fun r w' => r = .returned (nval (0, ⟨4, i, 0, sub t i (i + 2)⟩, i + 2)) ∧ Below w.heap.size w w' := by
  rw [nval_mk]
  have HB := hide (below_one w (.cells #[.int .i64 0, .int .i64 0, .int .i64 0, .string ⟨#[]⟩] 113))
  have HR := hide (Blk.new w 113 #[.int .i64 0, .int .i64 0, .int .i64 0, .string ⟨#[]⟩])
  have HS := hide (h.to (below_one w (.cells #[.int .i64 0, .int .i64 0, .int .i64 0, .string ⟨#[]⟩] 113)))
  have hsz : (bs t).size = t.length := bs_size t
  clear h
  go_enter Tryz.func84, Tryz.ntmps84
  go_wp2_with fail
  generalize w.alloc (.cells #[.int .i64 0, .int .i64 0, .int .i64 0, .string ⟨#[]⟩] 113) = w1 at *
  obtain ⟨br, hbr⟩ : ∃ b, Hid (w.heap.size = b) := ⟨_, rfl⟩
  rw [hbr.out] at HR ⊢
  obtain ⟨U, hU, g, u0, rfl, hgu, hi'⟩ := cls w1
  have C1 := cls_call hgu hi' (fun w hb => at_any t i (by omega) sc T w (HS.out.to hb))
  rw [ha] at C1
  have s0 := blk_all hgu HS.out 0 (scC_0 t)
  have r0 := blk_all hgu HR.out 0 rfl
  have r1 := blk_all hgu HR.out 1 rfl
  have r2 := blk_all hgu HR.out 2 rfl
  have r3 := blk_all hgu HR.out 3 rfl
  have f0 : ∀ u i, (g u).frozen? ⟨br, i, none⟩ = false := fun u i => (HR.out.to (hgu u)).frozen i
  have hr : (bs t).extract (i + 1) t.length = bs (t.drop (i + 1)) := bs_from t (i + 1)
  have CP : ∀ u, Calls Tryz.prog 67 #[.string (bs (t.drop (i + 1))), .string ⟨#[61]⟩] (g u) fun e w' => e = .returned (.bool (Lib.hasPrefix (t.drop (i + 1)) [61])) ∧ ∃ u', w' = g u' := fun u => (Tryz.strings_HasPrefix (bs (t.drop (i + 1))) ⟨#[61]⟩ (g u)).mono fun e w' ⟨he, hw⟩ => ⟨he, u, hw⟩
  rw [hp] at CP
  have hl2 : i + 2 ≤ t.length := by
    have := hasPrefix_one.1 hp
    rw [List.getElem?_drop] at this
    rcases Nat.lt_or_ge (i + 1 + 0) t.length with h | h
    · omega
    · rw [List.getElem?_eq_none h] at this; cases this
  have hx : (bs t).extract i (i + 2) = bs (sub t i (i + 2)) := bs_cut t i (i + 2)
  have HGU := hide hgu
  clear hgu hi' ha hp
  generalize bs (t.drop (i + 1)) = R at *
  go_wp2_with (first | ((with_reducible refine (C1 _).mono ?_); rintro e' w' ⟨rfl, uz, rfl⟩) | ((with_reducible refine (CP _).mono ?_); rintro e' w' ⟨rfl, uz, rfl⟩))
  have hbk := (((HR.out.to (HGU.out uz)).set_ 0 (.int .i64 4)).set_ 1 (.int .i64 (i : Int))).set_ 2 (.int .i64 0) |>.set_ 3 (.string (bs (sub t i (i + 2))))
  refine bodyPost_ret (results_c2 (p := 4) (u := 5) (v := 6) rfl _ _ br 113 _ _ rfl hbk Tryz.underlying113 rfl (by kernel_rfl)) rfl ⟨rfl, ?_⟩
  exact ((((below_to HB.out (Nat.le_refl _) (HGU.out uz)).setCell (p := ⟨br, 0, none⟩) (Nat.le_of_eq hbr.out) _).setCell (p := ⟨br, 1, none⟩) (Nat.le_of_eq hbr.out) _).setCell (p := ⟨br, 2, none⟩) (Nat.le_of_eq hbr.out) _).setCell (p := ⟨br, 3, none⟩) (Nat.le_of_eq hbr.out) _
set_option maxRecDepth 100000 in
set_option maxHeartbeats 4000000 in
theorem next_eq8 (t : List UInt8) (ht : t.length ≤ 1000000000) (i : Nat) (hi : i < t.length) (ha : atP t i = 8) (hp : Lib.hasPrefix (t.drop (i + 1)) [61] = true) (sc : Nat) (T : TypeId) (w : World) (h : Blk w sc T (scC t)) :
    Calls Tryz.prog 84 #[.pointer (some ⟨sc, 0, none⟩), .int .i64 (i : Int)] w fun r w' => r = .returned (nval (0, ⟨4, i, 0, sub t i (i + 2)⟩, i + 2)) ∧ Below w.heap.size w w' := by
  rw [nval_mk]
  have HB := hide (below_one w (.cells #[.int .i64 0, .int .i64 0, .int .i64 0, .string ⟨#[]⟩] 113))
  have HR := hide (Blk.new w 113 #[.int .i64 0, .int .i64 0, .int .i64 0, .string ⟨#[]⟩])
  have HS := hide (h.to (below_one w (.cells #[.int .i64 0, .int .i64 0, .int .i64 0, .string ⟨#[]⟩] 113)))
  have hsz : (bs t).size = t.length := bs_size t
  clear h
  go_enter Tryz.func84, Tryz.ntmps84
  go_wp2_with fail
  generalize w.alloc (.cells #[.int .i64 0, .int .i64 0, .int .i64 0, .string ⟨#[]⟩] 113) = w1 at *
  obtain ⟨br, hbr⟩ : ∃ b, Hid (w.heap.size = b) := ⟨_, rfl⟩
  rw [hbr.out] at HR ⊢
  obtain ⟨U, hU, g, u0, rfl, hgu, hi'⟩ := cls w1
  have C1 := cls_call hgu hi' (fun w hb => at_any t i (by omega) sc T w (HS.out.to hb))
  rw [ha] at C1
  have s0 := blk_all hgu HS.out 0 (scC_0 t)
  have r0 := blk_all hgu HR.out 0 rfl
  have r1 := blk_all hgu HR.out 1 rfl
  have r2 := blk_all hgu HR.out 2 rfl
  have r3 := blk_all hgu HR.out 3 rfl
  have f0 : ∀ u i, (g u).frozen? ⟨br, i, none⟩ = false := fun u i => (HR.out.to (hgu u)).frozen i
  have hr : (bs t).extract (i + 1) t.length = bs (t.drop (i + 1)) := bs_from t (i + 1)
  have CP : ∀ u, Calls Tryz.prog 67 #[.string (bs (t.drop (i + 1))), .string ⟨#[61]⟩] (g u) fun e w' => e = .returned (.bool (Lib.hasPrefix (t.drop (i + 1)) [61])) ∧ ∃ u', w' = g u' := fun u => (Tryz.strings_HasPrefix (bs (t.drop (i + 1))) ⟨#[61]⟩ (g u)).mono fun e w' ⟨he, hw⟩ => ⟨he, u, hw⟩
  rw [hp] at CP
  have hl2 : i + 2 ≤ t.length := by
    have := hasPrefix_one.1 hp
    rw [List.getElem?_drop] at this
    rcases Nat.lt_or_ge (i + 1 + 0) t.length with h | h
    · omega
    · rw [List.getElem?_eq_none h] at this; cases this
  have hx : (bs t).extract i (i + 2) = bs (sub t i (i + 2)) := bs_cut t i (i + 2)
  have HGU := hide hgu
  clear hgu hi' ha hp
  generalize bs (t.drop (i + 1)) = R at *
  go_wp2_with (first | ((with_reducible refine (C1 _).mono ?_); rintro e' w' ⟨rfl, uz, rfl⟩) | ((with_reducible refine (CP _).mono ?_); rintro e' w' ⟨rfl, uz, rfl⟩))
  have hbk := (((HR.out.to (HGU.out uz)).set_ 0 (.int .i64 4)).set_ 1 (.int .i64 (i : Int))).set_ 2 (.int .i64 0) |>.set_ 3 (.string (bs (sub t i (i + 2))))
  refine bodyPost_ret (results_c2 (p := 4) (u := 5) (v := 6) rfl _ _ br 113 _ _ rfl hbk Tryz.underlying113 rfl (by kernel_rfl)) rfl ⟨rfl, ?_⟩
  exact ((((below_to HB.out (Nat.le_refl _) (HGU.out uz)).setCell (p := ⟨br, 0, none⟩) (Nat.le_of_eq hbr.out) _).setCell (p := ⟨br, 1, none⟩) (Nat.le_of_eq hbr.out) _).setCell (p := ⟨br, 2, none⟩) (Nat.le_of_eq hbr.out) _).setCell (p := ⟨br, 3, none⟩) (Nat.le_of_eq hbr.out) _
set_option maxRecDepth 100000 in
set_option maxHeartbeats 4000000 in
theorem next_mark (t : List UInt8) (ht : t.length ≤ 1000000000) (i : Nat) (hi : i < t.length) (ha : atP t i = 7) (hp : Lib.hasPrefix (t.drop (i + 1)) [61] = false) (sc : Nat) (T : TypeId) (w : World) (h : Blk w sc T (scC t)) :
    Calls Tryz.prog 84 #[.pointer (some ⟨sc, 0, none⟩), .int .i64 (i : Int)] w fun r w' => r = .returned (nval (3, zTk, 0)) ∧ Below w.heap.size w w' := by
  rw [nval_mk]
  have HB := hide (below_one w (.cells #[.int .i64 0, .int .i64 0, .int .i64 0, .string ⟨#[]⟩] 113))
  have HR := hide (Blk.new w 113 #[.int .i64 0, .int .i64 0, .int .i64 0, .string ⟨#[]⟩])
  have HS := hide (h.to (below_one w (.cells #[.int .i64 0, .int .i64 0, .int .i64 0, .string ⟨#[]⟩] 113)))
  have hsz : (bs t).size = t.length := bs_size t
  clear h
  go_enter Tryz.func84, Tryz.ntmps84
  go_wp2_with fail
  generalize w.alloc (.cells #[.int .i64 0, .int .i64 0, .int .i64 0, .string ⟨#[]⟩] 113) = w1 at *
  obtain ⟨br, hbr⟩ : ∃ b, Hid (w.heap.size = b) := ⟨_, rfl⟩
  rw [hbr.out] at HR ⊢
  obtain ⟨U, hU, g, u0, rfl, hgu, hi'⟩ := cls w1
  have C1 := cls_call hgu hi' (fun w hb => at_any t i (by omega) sc T w (HS.out.to hb))
  rw [ha] at C1
  have s0 := blk_all hgu HS.out 0 (scC_0 t)
  have r0 := blk_all hgu HR.out 0 rfl
  have r1 := blk_all hgu HR.out 1 rfl
  have r2 := blk_all hgu HR.out 2 rfl
  have r3 := blk_all hgu HR.out 3 rfl
  have f0 : ∀ u i, (g u).frozen? ⟨br, i, none⟩ = false := fun u i => (HR.out.to (hgu u)).frozen i
  have hr : (bs t).extract (i + 1) t.length = bs (t.drop (i + 1)) := bs_from t (i + 1)
  have CP : ∀ u, Calls Tryz.prog 67 #[.string (bs (t.drop (i + 1))), .string ⟨#[61]⟩] (g u) fun e w' => e = .returned (.bool (Lib.hasPrefix (t.drop (i + 1)) [61])) ∧ ∃ u', w' = g u' := fun u => (Tryz.strings_HasPrefix (bs (t.drop (i + 1))) ⟨#[61]⟩ (g u)).mono fun e w' ⟨he, hw⟩ => ⟨he, u, hw⟩
  rw [hp] at CP
  have HGU := hide hgu
  clear hgu hi' ha hp
  generalize bs (t.drop (i + 1)) = R at *
  go_wp2_with (first | ((with_reducible refine (C1 _).mono ?_); rintro e' w' ⟨rfl, uz, rfl⟩) | ((with_reducible refine (CP _).mono ?_); rintro e' w' ⟨rfl, uz, rfl⟩))
  have hbk := (((HR.out.to (HGU.out uz)).set_ 0 (.int .i64 0)).set_ 1 (.int .i64 0)).set_ 2 (.int .i64 0) |>.set_ 3 (.string ⟨#[]⟩)
  refine bodyPost_ret (results_c2 (p := 4) (u := 5) (v := 6) rfl _ _ br 113 _ _ rfl hbk Tryz.underlying113 rfl (by kernel_rfl)) rfl ⟨rfl, ?_⟩
  exact ((((below_to HB.out (Nat.le_refl _) (HGU.out uz)).setCell (p := ⟨br, 0, none⟩) (Nat.le_of_eq hbr.out) _).setCell (p := ⟨br, 1, none⟩) (Nat.le_of_eq hbr.out) _).setCell (p := ⟨br, 2, none⟩) (Nat.le_of_eq hbr.out) _).setCell (p := ⟨br, 3, none⟩) (Nat.le_of_eq hbr.out) _
set_option maxRecDepth 100000 in
set_option maxHeartbeats 4000000 in
theorem next_angle (t : List UInt8) (ht : t.length ≤ 1000000000) (i : Nat) (hi : i < t.length) (ha : atP t i = 8) (hp : Lib.hasPrefix (t.drop (i + 1)) [61] = false) (sc : Nat) (T : TypeId) (w : World) (h : Blk w sc T (scC t)) :
    Calls Tryz.prog 84 #[.pointer (some ⟨sc, 0, none⟩), .int .i64 (i : Int)] w fun r w' => r = .returned (nval (0, ⟨4, i, 0, sub t i (i + 1)⟩, i + 1)) ∧ Below w.heap.size w w' := by
  rw [nval_mk]
  have HB := hide (below_one w (.cells #[.int .i64 0, .int .i64 0, .int .i64 0, .string ⟨#[]⟩] 113))
  have HR := hide (Blk.new w 113 #[.int .i64 0, .int .i64 0, .int .i64 0, .string ⟨#[]⟩])
  have HS := hide (h.to (below_one w (.cells #[.int .i64 0, .int .i64 0, .int .i64 0, .string ⟨#[]⟩] 113)))
  have hsz : (bs t).size = t.length := bs_size t
  clear h
  go_enter Tryz.func84, Tryz.ntmps84
  go_wp2_with fail
  generalize w.alloc (.cells #[.int .i64 0, .int .i64 0, .int .i64 0, .string ⟨#[]⟩] 113) = w1 at *
  obtain ⟨br, hbr⟩ : ∃ b, Hid (w.heap.size = b) := ⟨_, rfl⟩
  rw [hbr.out] at HR ⊢
  obtain ⟨U, hU, g, u0, rfl, hgu, hi'⟩ := cls w1
  have C1 := cls_call hgu hi' (fun w hb => at_any t i (by omega) sc T w (HS.out.to hb))
  rw [ha] at C1
  have s0 := blk_all hgu HS.out 0 (scC_0 t)
  have r0 := blk_all hgu HR.out 0 rfl
  have r1 := blk_all hgu HR.out 1 rfl
  have r2 := blk_all hgu HR.out 2 rfl
  have r3 := blk_all hgu HR.out 3 rfl
  have f0 : ∀ u i, (g u).frozen? ⟨br, i, none⟩ = false := fun u i => (HR.out.to (hgu u)).frozen i
  have hr : (bs t).extract (i + 1) t.length = bs (t.drop (i + 1)) := bs_from t (i + 1)
  have CP : ∀ u, Calls Tryz.prog 67 #[.string (bs (t.drop (i + 1))), .string ⟨#[61]⟩] (g u) fun e w' => e = .returned (.bool (Lib.hasPrefix (t.drop (i + 1)) [61])) ∧ ∃ u', w' = g u' := fun u => (Tryz.strings_HasPrefix (bs (t.drop (i + 1))) ⟨#[61]⟩ (g u)).mono fun e w' ⟨he, hw⟩ => ⟨he, u, hw⟩
  rw [hp] at CP
  have hx : (bs t).extract i (i + 1) = bs (sub t i (i + 1)) := bs_cut t i (i + 1)
  have HGU := hide hgu
  clear hgu hi' ha hp
  generalize bs (t.drop (i + 1)) = R at *
  go_wp2_with (first | ((with_reducible refine (C1 _).mono ?_); rintro e' w' ⟨rfl, uz, rfl⟩) | ((with_reducible refine (CP _).mono ?_); rintro e' w' ⟨rfl, uz, rfl⟩))
  have hbk := (((HR.out.to (HGU.out uz)).set_ 0 (.int .i64 4)).set_ 1 (.int .i64 (i : Int))).set_ 2 (.int .i64 0) |>.set_ 3 (.string (bs (sub t i (i + 1))))
  refine bodyPost_ret (results_c2 (p := 4) (u := 5) (v := 6) rfl _ _ br 113 _ _ rfl hbk Tryz.underlying113 rfl (by kernel_rfl)) rfl ⟨rfl, ?_⟩
  exact ((((below_to HB.out (Nat.le_refl _) (HGU.out uz)).setCell (p := ⟨br, 0, none⟩) (Nat.le_of_eq hbr.out) _).setCell (p := ⟨br, 1, none⟩) (Nat.le_of_eq hbr.out) _).setCell (p := ⟨br, 2, none⟩) (Nat.le_of_eq hbr.out) _).setCell (p := ⟨br, 3, none⟩) (Nat.le_of_eq hbr.out) _
set_option maxRecDepth 100000 in
set_option maxHeartbeats 4000000 in
theorem next_sym (t : List UInt8) (ht : t.length ≤ 1000000000) (i : Nat) (hi : i < t.length) (ha : atP t i = 9) (sc : Nat) (T : TypeId) (w : World) (h : Blk w sc T (scC t)) :
    Calls Tryz.prog 84 #[.pointer (some ⟨sc, 0, none⟩), .int .i64 (i : Int)] w fun r w' => r = .returned (nval (0, ⟨4, i, 0, sub t i (i + 1)⟩, i + 1)) ∧ Below w.heap.size w w' := by
  rw [nval_mk]
  have HB := hide (below_one w (.cells #[.int .i64 0, .int .i64 0, .int .i64 0, .string ⟨#[]⟩] 113))
  have HR := hide (Blk.new w 113 #[.int .i64 0, .int .i64 0, .int .i64 0, .string ⟨#[]⟩])
  have HS := hide (h.to (below_one w (.cells #[.int .i64 0, .int .i64 0, .int .i64 0, .string ⟨#[]⟩] 113)))
  have hsz : (bs t).size = t.length := bs_size t
  clear h
  go_enter Tryz.func84, Tryz.ntmps84
  go_wp2_with fail
  generalize w.alloc (.cells #[.int .i64 0, .int .i64 0, .int .i64 0, .string ⟨#[]⟩] 113) = w1 at *
  obtain ⟨br, hbr⟩ : ∃ b, Hid (w.heap.size = b) := ⟨_, rfl⟩
  rw [hbr.out] at HR ⊢
  obtain ⟨U, hU, g, u0, rfl, hgu, hi'⟩ := cls w1
  have C1 := cls_call hgu hi' (fun w hb => at_any t i (by omega) sc T w (HS.out.to hb))
  rw [ha] at C1
  have s0 := blk_all hgu HS.out 0 (scC_0 t)
  have r0 := blk_all hgu HR.out 0 rfl
  have r1 := blk_all hgu HR.out 1 rfl
  have r2 := blk_all hgu HR.out 2 rfl
  have r3 := blk_all hgu HR.out 3 rfl
  have f0 : ∀ u i, (g u).frozen? ⟨br, i, none⟩ = false := fun u i => (HR.out.to (hgu u)).frozen i
  have hx : (bs t).extract i (i + 1) = bs (sub t i (i + 1)) := bs_cut t i (i + 1)
  have HGU := hide hgu
  clear hgu hi' ha
  go_wp2_with (first | ((with_reducible refine (C1 _).mono ?_); rintro e' w' ⟨rfl, uz, rfl⟩))
  have hbk := (((HR.out.to (HGU.out uz)).set_ 0 (.int .i64 4)).set_ 1 (.int .i64 (i : Int))).set_ 2 (.int .i64 0) |>.set_ 3 (.string (bs (sub t i (i + 1))))
  refine bodyPost_ret (results_c2 (p := 4) (u := 5) (v := 6) rfl _ _ br 113 _ _ rfl hbk Tryz.underlying113 rfl (by kernel_rfl)) rfl ⟨rfl, ?_⟩
  exact ((((below_to HB.out (Nat.le_refl _) (HGU.out uz)).setCell (p := ⟨br, 0, none⟩) (Nat.le_of_eq hbr.out) _).setCell (p := ⟨br, 1, none⟩) (Nat.le_of_eq hbr.out) _).setCell (p := ⟨br, 2, none⟩) (Nat.le_of_eq hbr.out) _).setCell (p := ⟨br, 3, none⟩) (Nat.le_of_eq hbr.out) _
set_option maxRecDepth 100000 in
set_option maxHeartbeats 4000000 in
theorem next_other (t : List UInt8) (ht : t.length ≤ 1000000000) (i : Nat) (hi : i < t.length) (A : Int) (ha : atP t i = A) (hA : A ≠ 3 ∧ A ≠ 4 ∧ A ≠ 6 ∧ A ≠ 7 ∧ A ≠ 8 ∧ A ≠ 9) (sc : Nat) (T : TypeId) (w : World) (h : Blk w sc T (scC t)) :
    Calls Tryz.prog 84 #[.pointer (some ⟨sc, 0, none⟩), .int .i64 (i : Int)] w fun r w' => r = .returned (nval (3, zTk, 0)) ∧ Below w.heap.size w w' := by
  rw [nval_mk]
  have HB := hide (below_one w (.cells #[.int .i64 0, .int .i64 0, .int .i64 0, .string ⟨#[]⟩] 113))
  have HR := hide (Blk.new w 113 #[.int .i64 0, .int .i64 0, .int .i64 0, .string ⟨#[]⟩])
  have HS := hide (h.to (below_one w (.cells #[.int .i64 0, .int .i64 0, .int .i64 0, .string ⟨#[]⟩] 113)))
  have hsz : (bs t).size = t.length := bs_size t
  clear h
  go_enter Tryz.func84, Tryz.ntmps84
  go_wp2_with fail
  generalize w.alloc (.cells #[.int .i64 0, .int .i64 0, .int .i64 0, .string ⟨#[]⟩] 113) = w1 at *
  obtain ⟨br, hbr⟩ : ∃ b, Hid (w.heap.size = b) := ⟨_, rfl⟩
  rw [hbr.out] at HR ⊢
  obtain ⟨U, hU, g, u0, rfl, hgu, hi'⟩ := cls w1
  have C1 := cls_call hgu hi' (fun w hb => at_any t i (by omega) sc T w (HS.out.to hb))
  rw [ha] at C1
  have s0 := blk_all hgu HS.out 0 (scC_0 t)
  have r0 := blk_all hgu HR.out 0 rfl
  have r1 := blk_all hgu HR.out 1 rfl
  have r2 := blk_all hgu HR.out 2 rfl
  have r3 := blk_all hgu HR.out 3 rfl
  have f0 : ∀ u i, (g u).frozen? ⟨br, i, none⟩ = false := fun u i => (HR.out.to (hgu u)).frozen i
  have HGU := hide hgu
  clear hgu hi' ha
  obtain ⟨h3, h4, h6, h7, h8, h9⟩ := hA
  have e3 : (A == 3) = false := by rw [beq_eq_false_iff_ne]; exact h3
  have e4 : (A == 4) = false := by rw [beq_eq_false_iff_ne]; exact h4
  have e6 : (A == 6) = false := by rw [beq_eq_false_iff_ne]; exact h6
  have e7 : (A == 7) = false := by rw [beq_eq_false_iff_ne]; exact h7
  have e8 : (A == 8) = false := by rw [beq_eq_false_iff_ne]; exact h8
  have e9 : (A == 9) = false := by rw [beq_eq_false_iff_ne]; exact h9
  clear h3 h4 h6 h7 h8 h9
  go_wp2_with (first | ((with_reducible refine (C1 _).mono ?_); rintro e' w' ⟨rfl, uz, rfl⟩))
  have hbk := (((HR.out.to (HGU.out uz)).set_ 0 (.int .i64 0)).set_ 1 (.int .i64 0)).set_ 2 (.int .i64 0) |>.set_ 3 (.string ⟨#[]⟩)
  refine bodyPost_ret (results_c2 (p := 4) (u := 5) (v := 6) rfl _ _ br 113 _ _ rfl hbk Tryz.underlying113 rfl (by kernel_rfl)) rfl ⟨rfl, ?_⟩
  exact ((((below_to HB.out (Nat.le_refl _) (HGU.out uz)).setCell (p := ⟨br, 0, none⟩) (Nat.le_of_eq hbr.out) _).setCell (p := ⟨br, 1, none⟩) (Nat.le_of_eq hbr.out) _).setCell (p := ⟨br, 2, none⟩) (Nat.le_of_eq hbr.out) _).setCell (p := ⟨br, 3, none⟩) (Nat.le_of_eq hbr.out) _
theorem next_any (t : List UInt8) (ht : t.length ≤ 1000000000) (i : Nat) (hi : i < t.length) (sc : Nat) (T : TypeId) (w : World) (h : Blk w sc T (scC t)) :
    Calls Tryz.prog 84 #[.pointer (some ⟨sc, 0, none⟩), .int .i64 (i : Int)] w fun r w' => r = .returned (nval (nextP t i)) ∧ Below w.heap.size w w' := by
  unfold nextP
  by_cases h3 : atP t i = 3
  · rw [if_pos h3]
    split
    · exact next_long t ht i hi _ h3 rfl (whP_ge _ _ _) (whP_le (by omega) _) (by omega) sc T w h
    · exact next_nm t ht i hi _ h3 rfl (whP_ge _ _ _) (whP_le (by omega) _) (by omega) sc T w h
  rw [if_neg h3]
  by_cases h4 : atP t i = 4
  · rw [if_pos h4]
    have hgt := whP_gt (t := t) (i := i) (K := [4]) (by rw [h4]; rfl) hi
    split
    · rename_i hc
      by_cases h13 : 13 < whP t i [4] - i
      · exact next_num_a t ht i hi _ h4 rfl hgt (whP_le (by omega) _) h13 sc T w h
      · exact next_num_b t ht i hi _ h4 rfl hgt (whP_le (by omega) _) (by omega) (hc.resolve_left h13) sc T w h
    · rename_i hc
      exact next_num t ht i hi _ h4 rfl hgt (whP_le (by omega) _) (by omega) (fun h => hc (.inr h)) sc T w h
  rw [if_neg h4]
  by_cases h6 : atP t i = 6
  · rw [if_pos h6]
    rcases Int.lt_or_le (strN t i) 0 with hn | hn
    · rw [if_pos (.inl hn)]
      exact next_str_a t ht i hi h6 hn sc T w h
    · obtain ⟨n, hn'⟩ : ∃ n : Nat, strN t i = n := ⟨(strN t i).toNat, by omega⟩
      obtain ⟨c, hc, _⟩ := indexAny_some hn'
      rw [hn', Int.toNat_natCast, hc]
      by_cases h10 : c = 10
      · rw [if_pos (.inr (by rw [h10]))]
        exact next_str_b t ht i hi h6 n hn' c hc h10 sc T w h
      · rw [if_neg (by rintro (h | h); omega; exact h10 (Option.some.inj h))]
        split
        · exact next_str_c t ht i hi h6 n hn' c hc h10 (by omega) sc T w h
        · exact next_str t ht i hi h6 n hn' c hc h10 (by omega) sc T w h
  rw [if_neg h6]
  cases hp : Lib.hasPrefix (t.drop (i + 1)) [61] with
  | true =>
    by_cases h7 : atP t i = 7
    · rw [if_pos ⟨.inl h7, rfl⟩]; exact next_eq7 t ht i hi h7 hp sc T w h
    by_cases h8 : atP t i = 8
    · rw [if_pos ⟨.inr h8, rfl⟩]; exact next_eq8 t ht i hi h8 hp sc T w h
    rw [if_neg (by rintro ⟨h | h, _⟩; exact h7 h; exact h8 h)]
    by_cases h9 : atP t i = 9
    · rw [if_pos (.inr h9)]; exact next_sym t ht i hi h9 sc T w h
    · rw [if_neg (by rintro (h | h); exact h8 h; exact h9 h)]; exact next_other t ht i hi _ rfl ⟨h3, h4, h6, h7, h8, h9⟩ sc T w h
  | false =>
    rw [if_neg (by rintro ⟨_, h⟩; cases h)]
    by_cases h8 : atP t i = 8
    · rw [if_pos (.inl h8)]; exact next_angle t ht i hi h8 hp sc T w h
    by_cases h9 : atP t i = 9
    · rw [if_pos (.inr h9)]; exact next_sym t ht i hi h9 sc T w h
    rw [if_neg (by rintro (h | h); exact h8 h; exact h9 h)]
    by_cases h7 : atP t i = 7
    · exact next_mark t ht i hi h7 hp sc T w h
    · exact next_other t ht i hi _ rfl ⟨h3, h4, h6, h7, h8, h9⟩ sc T w h
end Go.Proofs.YtgdgdhpmjkefjaaGreatDoor

/- Package lexer: Lex of a text that is one name. -/
set_option linter.unusedVariables false
set_option linter.unusedSimpArgs false
namespace Go.Proofs.YtgdgdhpmjkefjaaGreatDoor
open Go.RowKit

theorem scC_size (t : List UInt8) : (scC t).size = 257 := by unfold scC; rw [Array.size_append, intC_size, clsL_len]; rfl
theorem scC_one (t : List UInt8) : ∀ v ∈ (scC t).toList, v.oneCell' = true := by
  intro v hv
  unfold scC at hv
  rw [Array.toList_append, List.mem_append] at hv
  rcases hv with h | h
  · simp at h; subst h; rfl
  · exact intC_one _ v h
theorem info_token : (Tryz.prog.info? 113).map (fun i => (i.zero, i.size, i.bytes)) = some (some (.agg #[.int .i64 0, .int .i64 0, .int .i64 0, .string ⟨#[]⟩]), 4, 40) := by kernel_rfl
/-- a slice of one token -/
def TokAt (w : World) (v : Value) (x : Tk) : Prop := ∃ b c, v = .slice (some ⟨b, 0, none⟩) 1 c ∧ b < w.heap.size ∧ ∀ (j : Nat) u, (tcells x)[j]? = some u → w.cell? ⟨b, j, none⟩ = some u
theorem row_new {W : World} {a b c d : Value} {ty : TypeId} {n : Nat} (hb : n = W.heap.size) : ∀ (j : Nat) (u : Value), [a, b, c, d][j]? = some u → (W.alloc (.cells #[a, b, c, d] ty)).cell? ((⟨n, 0, none⟩ : Addr).add j) = some u := by
  subst hb
  intro j u hu
  rw [show (⟨W.heap.size, 0, none⟩ : Addr).add j = ⟨W.heap.size, j, none⟩ by unfold Addr.add; split <;> simp_all]
  refine ((Blk.new W ty #[a, b, c, d]).cell j).trans ?_
  simpa using hu
theorem own_to' {w w' : World} {base : Nat} {e : TypeId} {size n : Nat} {v : Value} {xs : List Value} (h : w.ownsRow base e size v n xs) (hb : Below w.heap.size w w') : w'.ownsRow base e size v n xs :=
  h.kept (show w.grownBy w' none from ⟨hb.os, hb.tape, hb.output, hb.size, fun i hi _ => hb.block i hi⟩) (by cases v.ownBlock <;> simp)
def LxI (t : List UInt8) (w0 wr : World) (v i : Value) : Prop := Below w0.heap.size w0 wr ∧
  ((v = .slice none 0 0 ∧ i = .int .i64 0) ∨ (i = .int .i64 (t.length : Int) ∧ wr.ownsRow w0.heap.size 113 4 v 1 (tcells ⟨1, 0, 0, t⟩).toList))
end Go.Proofs.YtgdgdhpmjkefjaaGreatDoor

/- Package lexer: Lex at every text. -/
set_option linter.unusedVariables false
set_option linter.unusedSimpArgs false
namespace Go.Proofs.YtgdgdhpmjkefjaaGreatDoor
open Go.RowKit

/-- a slice of tokens -/
def ToksAt (w : World) (v : Value) (l : List Tk) : Prop := (l = [] ∧ ∃ A c, v = .slice A 0 c) ∨
  ∃ b o c, v = .slice (some ⟨b, o, none⟩) l.length c ∧ b < w.heap.size ∧ ∀ (k : Nat) x, l[k]? = some x → ∀ (j : Nat) u, (tcells x)[j]? = some u → w.cell? ⟨b, o + 4 * k + j, none⟩ = some u
theorem ToksAt.to {w w' : World} {v : Value} {l : List Tk} (h : ToksAt w v l) (hb : Below w.heap.size w w') : ToksAt w' v l := by
  rcases h with h | ⟨b, o, c, h1, h2, h3⟩
  · exact .inl h
  · exact .inr ⟨b, o, c, h1, Nat.lt_of_lt_of_le h2 hb.size, fun k x hx j u hu => (hb.cell h2).trans (h3 k x hx j u hu)⟩
/-- the same at the head of a block -/
def TokRow (w : World) (v : Value) (l : List Tk) : Prop := (l = [] ∧ ∃ A c, v = .slice A 0 c) ∨
  ∃ b c, v = .slice (some ⟨b, 0, none⟩) l.length c ∧ l.length ≤ c ∧ b < w.heap.size ∧ ∀ (k : Nat) x, l[k]? = some x → ∀ (j : Nat) u, (tcells x)[j]? = some u → w.cell? ⟨b, 4 * k + j, none⟩ = some u
theorem TokRow.at {w : World} {v : Value} {l : List Tk} (h : TokRow w v l) : ToksAt w v l := by
  rcases h with h | ⟨b, c, h1, _, h2, h3⟩
  · exact .inl h
  · exact .inr ⟨b, 0, c, h1, h2, fun k x hx j u hu => by rw [Nat.zero_add]; exact h3 k x hx j u hu⟩
theorem TokRow.to {w w' : World} {v : Value} {l : List Tk} (h : TokRow w v l) (hb : Below w.heap.size w w') : TokRow w' v l := by
  rcases h with h | ⟨b, c, h1, h4, h2, h3⟩
  · exact .inl h
  · exact .inr ⟨b, c, h1, h4, Nat.lt_of_lt_of_le h2 hb.size, fun k x hx j u hu => (hb.cell h2).trans (h3 k x hx j u hu)⟩
def flatT (l : List Tk) : List Value := l.flatMap fun x => (tcells x).toList
theorem flatT_at : ∀ (l : List Tk) (k : Nat) (x : Tk) (j : Nat) (u : Value), l[k]? = some x → (tcells x)[j]? = some u → (flatT l)[4 * k + j]? = some u
  | [], k, x, j, u, h, _ => by simp at h
  | y :: l, 0, x, j, u, h, hu => by
    simp at h
    subst h
    have hj : j < 4 := by
      rcases Nat.lt_or_ge j (tcells y).size with h | h
      · exact h
      · rw [Array.getElem?_eq_none h] at hu; cases hu
    unfold flatT
    rw [List.flatMap_cons, List.getElem?_append_left (by show 4 * 0 + j < 4; omega)]
    simpa using hu
  | y :: l, k + 1, x, j, u, h, hu => by
    have ih := flatT_at l k x j u (by simpa using h) hu
    unfold flatT at ih ⊢
    rw [List.flatMap_cons, List.getElem?_append_right (by show 4 ≤ _; omega)]
    have : 4 * (k + 1) + j - (tcells y).toList.length = 4 * k + j := by show 4 * (k + 1) + j - 4 = _; omega
    rw [this]; exact ih
theorem flatT_snoc (l : List Tk) (x : Tk) : flatT (l ++ [x]) = flatT l ++ [.int .i64 x.k, .int .i64 x.a, .int .i64 x.n, .string (bs x.s)] := by simp [flatT, tcells]
theorem toks_own {w : World} {B : Nat} {v : Value} {l : List Tk} (h : w.ownsRow B 113 4 v l.length (flatT l)) : TokRow w v l := by
  obtain ⟨_, h⟩ := h
  rcases h with ⟨hv, h0⟩ | ⟨g, cap, cur, hv, hB, hg, hn, _, hs, ht⟩
  · exact .inl ⟨List.eq_nil_of_length_eq_zero h0, _, _, hv⟩
  · refine .inr ⟨g, cap, hv, hn, ?_, fun k x hx j u hu => ?_⟩
    · rcases Nat.lt_or_ge g w.heap.size with h | h
      · exact h
      · rw [Array.getElem?_eq_none h] at hg; cases hg
    · rw [cell_of_row w g _ cur 113 (0, 0) hg]
      have h1 := flatT_at l k x j u hx hu
      rw [← ht, List.getElem?_take] at h1
      split at h1
      · simpa using h1
      · cases h1
theorem own_slice {w : World} {B : Nat} {e : TypeId} {s n : Nat} {v : Value} {xs : List Value} (h : w.ownsRow B e s v n xs) : ∃ A c, v = .slice A n c := by
  obtain ⟨_, h⟩ := h
  rcases h with ⟨hv, h0⟩ | ⟨g, cap, cur, hv, _⟩
  · exact ⟨none, 0, by rw [hv, h0]⟩
  · exact ⟨_, _, hv⟩
def LexI (t : List UInt8) (w0 wr : World) (v i : Value) : Prop := Below w0.heap.size w0 wr ∧
  ∃ (f k : Nat) (acc : List Tk), i = .int .i64 (k : Int) ∧ (k ≤ t.length ∧ t.length - k < f ∧ acc.length ≤ 5000) ∧ lexA f t k acc = lexA (t.length + 1) t (gapP t 0) [] ∧ wr.ownsRow w0.heap.size 113 4 v acc.length (flatT acc)
set_option maxRecDepth 100000 in
set_option maxHeartbeats 8000000 in
theorem Lex_any (t : List UInt8) (ht' : t.length ≤ 140737488355328) (w : World) : Calls Tryz.prog 61 #[.string (bs t)] w fun e w' => ∃ v, e = .returned (.tuple #[v, .int .i64 (lexP t).2.1, .int .i64 (lexP t).2.2]) ∧ TokRow w' v (lexP t).1 ∧ Below w.heap.size w w' := by
  have hsz : (bs t).size = t.length := bs_size t
  by_cases hlim : t.length > 20000
  · have e20 : decide ((20000 : Int) < (t.length : Int)) = true := by simp; omega
    have HL : Hid (lexP t = ([], 2, -1)) := by show _ = _; unfold lexP; rw [if_pos hlim]
    rw [HL.out]
    go_enter Tryz.func61, Tryz.ntmps61
    go_wp2_with fail
    go_ret3
    exact ⟨_, rfl, .inl ⟨rfl, _, _, rfl⟩, Below.refl _ _⟩
  have ht2 : t.length ≤ 20000 := by omega
  have HL : Hid (lexP t = lexA (t.length + 1) t (gapP t 0) []) := by show _ = _; unfold lexP; rw [if_neg hlim]
  rw [HL.out]
  have hi : (Tryz.prog.info? 132).map (·.size) = some (scC t).size := by rw [scC_size]; kernel_rfl
  have hs0 : 0 + (scC t).size ≤ (Tryz.zeroCells132).size := by rw [scC_size]; decide
  have hs1 : (scC t).size = (Tryz.zeroCells132).size := by rw [scC_size]; rfl
  obtain ⟨i0, hi0, hz0, hz1, hz2⟩ := info_parts info_token
  have HI := hide hi
  have HS0 := hide hs0
  have HS1 := hide hs1
  have e20 : decide ((20000 : Int) < (t.length : Int)) = false := by simp; omega
  clear hi hs0 hs1 HL hlim
  go_enter Tryz.func61, Tryz.ntmps61
  go_wp2_with fail
  refine (classes_any _).mono ?_
  rintro e w1 ⟨rfl, hb⟩
  have HSZ := hide hb.size
  have HB1 := hide (below_alloc hb (Nat.le_refl _) (.cells Tryz.zeroCells132 132))
  have HZ := hide (Blk.new w1 132 Tryz.zeroCells132)
  clear hb
  go_wp2_with (first | ((with_reducible show wpList _ _ _ (Oper.mk _ (Op.build 132 _) _ _ _ _ :: _) _ _); refine Great.wpList_readTo rfl _ rfl (.agg (scC t)) (by kernel_rfl) ?_) | ((with_reducible show wpList _ _ _ (Oper.mk _ (Op.store 132 _ _) _ _ _ _ :: _) _ _); refine wpList_store_part rfl 132 (.tmp 5) (.tmp 16) rfl w1.heap.size 0 (scC t) rfl rfl 132 Tryz.zeroCells132 HZ.out HI.out HS0.out (scC_one t) ?_; intro w2 ho hb2))
  have HS2 : Hid (Blk w2 w1.heap.size 132 (scC t)) := by have := hb2; rw [splice_all' HS1.out] at this; exact this
  have HB2 := hide (Only.below HB1.out ho HB1.out.size HSZ.out)
  clear hb2 ho HB1 HZ HI HS0 HS1 HSZ e20
  have HSC := hide HS2.out.lt
  generalize w1.heap.size = sc at *
  have CG := fun k hk w h => gap_any t (by omega) k hk sc 132 w h
  have CN := fun k hk w h => next_any t (by omega) k hk sc 132 w h
  have C0 := CG 0 (Nat.zero_le _)
  have hg0 := gapP_le (Nat.zero_le t.length)
  refine (C0 _ HS2.out).mono ?_
  rintro e w3 ⟨rfl, hb⟩
  have HB3 := hide hb
  clear hb C0
  generalize hg : gapP t 0 = k0 at *
  have HK0 := hide hg
  clear hg
  go_wp2_with fail
  go_loopw [6, 7, 8, 9, 10] (fun v i _ _ _ wr => LexI t w2 wr v i) (fun _ i _ _ _ _ => t.length - (intOf i).toNat)
  case atStart => exact ⟨HB3.out, t.length + 1, k0, [], rfl, ⟨hg0, by omega, by simp⟩, by rw [HK0.out], World.ownsRow_nil _ _ _ _⟩
  case round =>
    obtain ⟨hB, f, k, acc, rfl, ⟨hk, hf, ha5⟩, hE, hO⟩ := hrel
    have HB := hide hB
    have HE := hide hE
    have HO := hide hO
    have HSr := hide (HS2.out.below HB.out HSC.out)
    obtain ⟨A, c, rfl⟩ := own_slice hO
    clear hB hE hO
    by_cases hlt : k < t.length
    · have e1 : decide ((k : Int) < (t.length : Int)) = true := by simp; omega
      obtain ⟨f', rfl⟩ : ∃ f', f = f' + 1 := ⟨f - 1, by omega⟩
      have hE2 := HE.out
      rw [lexA, if_pos hlt] at hE2
      have CN1 := CN k hlt
      have HOK := hide (fun h => next_ok (t := t) (i := k) h)
      generalize nextP t k = r at *
      obtain ⟨E, x, en⟩ := r
      have CN' : Calls Tryz.prog 84 #[.pointer (some ⟨sc, 0, none⟩), .int .i64 (k : Int)] wr fun r w' => r = .returned (.tuple #[.agg #[.int .i64 x.k, .int .i64 x.a, .int .i64 x.n, .string (bs x.s)], .int .i64 (en : Int), .int .i64 E]) ∧ Below wr.heap.size wr w' := CN1 _ HSr.out
      simp only [] at hE2
      clear CN CN1
      by_cases hE0 : E = 0
      · subst hE0
        by_cases h5 : acc.length = 5000
        · have e2 : ((acc.length : Int) == 5000) = true := by rw [h5]; rfl
          rw [if_pos ⟨rfl, h5⟩] at hE2
          have HE2 := hide hE2
          clear hE2 h5 HOK
          go_wp2_with ((with_reducible refine CN'.mono ?_); rintro e w4 ⟨rfl, hb4⟩)
          go_ret3
          rw [← HE2.out]
          exact ⟨_, rfl, .inl ⟨rfl, _, _, rfl⟩, below_alloc (below_to (below_to HB2.out (Nat.le_refl _) HB.out) (Nat.le_refl _) hb4) (Nat.le_refl _) _⟩
        · have e2 : ((acc.length : Int) == 5000) = false := by rw [beq_eq_false_iff_ne]; omega
          rw [if_neg (fun h => h5 h.2), if_neg (by simp)] at hE2
          have HE2 := hide hE2
          have ha4 : acc.length < 5000 := by omega
          obtain ⟨hen1, hen2⟩ := HOK.out rfl
          simp only [] at hen1 hen2
          have hge := gapP_ge t en
          have hgl := gapP_le hen2
          have CE := CG en hen2
          generalize hgp : gapP t en = m at *
          clear hE2 h5 HOK CG hgp
          have hsc := HSC.out
          have HXS := hide (flatT_snoc acc x)
          obtain ⟨xk, xa, xn, xs⟩ := x
          simp only [] at CN' HXS
          go_wp2_with (first | ((with_reducible refine CN'.mono ?_); rintro e w4 ⟨rfl, hb4⟩) | (at_builtin; refine wpList_append_own _ rfl (.tmp 41) (.tmp 43) _ rfl w2.heap.size 113 i0 (.agg #[.int .i64 0, .int .i64 0, .int .i64 0, .string ⟨#[]⟩]) 4 40 Tryz.underlying109 hi0 hz0 hz1 hz2 rfl (by omega) _ acc.length (flatT acc) rfl ?c0 ⟨_, 0, none⟩ 1 1 [.int .i64 xk, .int .i64 xa, .int .i64 xn, .string (bs xs)] rfl rfl ?c1 ?c2 ?c4 ?c5 ?c3 ?_))
          case c0 => exact own_to' HO.out (below_alloc (below_alloc hb4 (Nat.le_refl _) _) (by simp) _)
          case c1 => exact row_new (by simp)
          case c2 =>
            intro u hu
            simp only [List.mem_cons, List.not_mem_nil, or_false] at hu
            rcases hu with rfl | rfl | rfl | rfl <;> rfl
          case c4 => simp only [maxLen]; omega
          case c5 => omega
          case c3 =>
            have := HB.out.size
            have := hb4.size
            simp
            omega
          · intro v' w6 hown6 hgr6 _
            have HB5 := below_alloc (below_alloc (below_to HB.out (Nat.le_refl _) hb4) (Nat.le_refl _) (.cells #[.int .i64 xk, .int .i64 xa, .int .i64 xn, .string (bs xs)] 113)) (Nat.le_refl _) (.cells #[.int .i64 xk, .int .i64 xa, .int .i64 xn, .string (bs xs)] 113)
            have HB6 := hide (HB5.grown hgr6 HB5.size (fun k hk => (HO.out.lt k hk).1))
            have HO6 : Hid (w6.ownsRow w2.heap.size 113 4 v' (acc ++ [(⟨xk, xa, xn, xs⟩ : Tk)]).length (flatT (acc ++ [(⟨xk, xa, xn, xs⟩ : Tk)]))) := by show World.ownsRow _ _ _ _ _ _ _; rw [HXS.out, List.length_append]; exact hown6
            have CG' := CE w6 (HS2.out.below HB6.out HSC.out)
            clear hown6 hgr6 HB5 CN' CE hb4
            go_wp2_with ((with_reducible refine CG'.mono ?_); rintro e w7 ⟨rfl, hb7⟩)
            refine ⟨⟨below_to HB6.out (Nat.le_refl _) hb7, f', m, acc ++ [(⟨xk, xa, xn, xs⟩ : Tk)], rfl, ⟨hgl, by omega, by simp; omega⟩, HE2.out.trans (by rfl), own_to' HO6.out hb7⟩, ?_⟩
            simp [intOf]; omega
      · have e2 : (E == 0) = false := by rw [beq_eq_false_iff_ne]; exact hE0
        have e3 : (E != 0) = true := by rw [bne_iff_ne]; exact hE0
        rw [if_neg (fun h => hE0 h.1), if_pos hE0] at hE2
        have HE2 := hide hE2
        clear hE2 HOK hE0
        go_wp2_with ((with_reducible refine CN'.mono ?_); rintro e w4 ⟨rfl, hb4⟩)
        go_ret3
        rw [← HE2.out]
        exact ⟨_, rfl, .inl ⟨rfl, _, _, rfl⟩, below_alloc (below_to (below_to HB2.out (Nat.le_refl _) HB.out) (Nat.le_refl _) hb4) (Nat.le_refl _) _⟩
    · have e1 : decide ((k : Int) < (t.length : Int)) = false := by simp; omega
      obtain ⟨f', rfl⟩ : ∃ f', f = f' + 1 := ⟨f - 1, by omega⟩
      have hE2 := HE.out
      rw [lexA, if_neg hlt] at hE2
      have HE2 := hide hE2
      clear hE2
      go_wp2_with fail
      go_ret3
      rw [← HE2.out]
      exact ⟨_, rfl, toks_own HO.out, below_to HB2.out (Nat.le_refl _) HB.out⟩
end Go.Proofs.YtgdgdhpmjkefjaaGreatDoor

/- Package lexer: texts that are one name, out of what Lex gives. No program in sight. -/
set_option linter.unusedVariables false
set_option linter.unusedSimpArgs false
namespace Go.Proofs.YtgdgdhpmjkefjaaGreatDoor
open Go.RowKit

theorem lexA_pre : ∀ (f : Nat) (t : List UInt8) (i : Nat) (acc : List Tk), (lexA f t i acc).2.1 = 0 → ∃ r, (lexA f t i acc).1 = acc ++ r
  | 0, t, i, acc, _ => ⟨[], by simp [lexA]⟩
  | f + 1, t, i, acc, h => by
    rw [lexA] at h ⊢
    split at h
    · rename_i hi
      rw [if_pos hi]
      split at h
      · simp at h
      · rename_i h5
        rw [if_neg h5]
        split at h
        · rename_i hne; exact absurd h hne
        · rename_i hne
          rw [if_neg hne]
          obtain ⟨r, hr⟩ := lexA_pre f t _ _ h
          exact ⟨(nextP t i).2.1 :: r, by rw [hr]; simp⟩
    · rename_i hi
      rw [if_neg hi]
      exact ⟨[], by simp⟩
/-- Lex gives just one token, a name that is the whole text: the text is a name -/
theorem nm_of_lex {d : List UInt8} {xa xn : Int} (h0 : (lexP d).2.1 = 0) (h1 : (lexP d).1 = [⟨1, xa, xn, d⟩]) : isNm d = true := by
  unfold lexP at h0 h1
  split at h0
  · simp at h0
  · rename_i hl
    rw [if_neg hl] at h1
    rw [lexA] at h0 h1
    split at h0
    · rename_i hi
      rw [if_pos hi] at h1
      split at h0
      · simp at h0
      · rename_i h5
        rw [if_neg h5] at h1
        split at h0
        · rename_i hne; exact absurd h0 hne
        · rename_i hne
          rw [if_neg hne] at h1
          obtain ⟨r, hr⟩ := lexA_pre _ _ _ _ h0
          rw [h1, List.nil_append] at hr
          have hx : (nextP d (gapP d 0)).2.1 = ⟨1, xa, xn, d⟩ := by
            have := congrArg List.head? hr
            simpa using this.symm
          have hE : (nextP d (gapP d 0)).1 = 0 := by
            rcases Classical.em ((nextP d (gapP d 0)).1 = 0) with h | h
            · exact h
            · exact absurd h (by simpa using hne)
          clear hr h1 h0 hne h5
          generalize gapP d 0 = i at *
          unfold nextP at hx hE
          by_cases h3 : atP d i = 3
          · rw [if_pos h3] at hx hE
            split at hE
            · simp at hE
            · rename_i h24
              rw [if_neg h24] at hx
              simp only [Tk.mk.injEq] at hx
              have hw := whP_le (t := d) (i := i) (by omega) [3, 4, 5]
              have hge := whP_ge d i [3, 4, 5]
              have hlen := sub_len (t := d) (i := i) hw
              rw [hx.2.2.2] at hlen
              obtain rfl : i = 0 := by omega
              have hall := wh_all d 0 [3, 4, 5]
              rw [hx.2.2.2] at hall
              unfold isNm
              simp only [Bool.and_eq_true, decide_eq_true_eq]
              refine ⟨⟨?_, ?_⟩, by omega⟩
              · cases d with
                | nil => simp at hi
                | cons c r =>
                  unfold atP at h3
                  simp at h3
                  simp [isLet, h3]
              · exact List.all_eq_true.2 fun c hc => hall c hc
          · rw [if_neg h3] at hx hE
            exfalso
            have hz : ∀ {x : Tk}, x = ⟨1, xa, xn, d⟩ → x.k = 1 := fun h => by rw [h]
            have := hz hx
            revert this hE
            (repeat' split) <;> simp [zTk]
    · rename_i hi
      rw [if_neg hi] at h1
      simp at h1
theorem lex_of_nm {d : List UInt8} (h : isNm d = true) : lexP d = ([⟨1, 0, 0, d⟩], 0, 0) := by
  obtain ⟨h1, h2, h3, h4⟩ := nm_facts h
  have hg : gapP d 0 = 0 := gapP_none (by rw [h1]; decide) (by rw [h1]; decide)
  have hn : nextP d 0 = (0, ⟨1, 0, 0, d⟩, d.length) := by
    unfold nextP
    rw [if_pos h1, h2, if_neg (by omega)]
    have : sub d 0 d.length = d := by unfold sub; simp
    rw [this]; rfl
  have hge : gapP d d.length = d.length := by
    unfold gapP; rw [List.drop_length]; rfl
  unfold lexP
  rw [if_neg (by omega), hg, lexA, if_pos (by omega), hn]
  simp only []
  rw [if_neg (by simp), if_neg (by simp), hge]
  cases hd : d.length with
  | zero => omega
  | succ n =>
    rw [lexA, ← hd, if_neg (by omega)]
    rfl
end Go.Proofs.YtgdgdhpmjkefjaaGreatDoor

/- What the library's package variables hold. -/
set_option linter.unusedVariables false
set_option linter.unusedSimpArgs false
namespace Go.Proofs.YtgdgdhpmjkefjaaGreatDoor
open Go.RowKit

def debTab : List Int := [0, 1, 56, 2, 57, 49, 28, 3, 61, 58, 42, 50, 38, 29, 17, 4, 62, 47, 59, 36, 45, 43, 51, 22, 53, 39, 33, 30, 24, 18, 12, 5, 63, 55, 48, 27, 60, 41, 37, 16, 46, 35, 44, 21, 52, 32, 23, 11, 54, 26, 40, 15, 34, 20, 31, 10, 25, 14, 19, 9, 13, 8, 7, 6]
/-- what the package's variables hold -/
structure Glob (w : World) : Prop where
  top : Tryz.prog.globals.size ≤ w.heap.size
  len : ∃ m, w.cell? ⟨1, 0, none⟩ = some (.int .i64 m)
  syn : ∃ ev, w.cell? ⟨3, 0, none⟩ = some ev ∧ (ev = .nilIface ∨ ∃ te pe, ev = .iface te pe)
  rng : ∃ ev, w.cell? ⟨4, 0, none⟩ = some ev ∧ (ev = .nilIface ∨ ∃ te pe, ev = .iface te pe)
  deb : Lib.TabIs Tryz.prog w "math/bits.deBruijn64tab" .u8 debTab
  tab : Lib.TabIs Tryz.prog w "internal/strconv.uint64pow10" .u64 Lib.pow10Tab
theorem var_below {P : Program} {w w' : World} {n : String} {g B : Nat} {cs : Array Value} (h : w.var? P n = some cs) (hg : P.globalNamed n = some g) (hb : Below B w w') (hlt : g < B) : w'.var? P n = some cs := by
  unfold World.var? at h ⊢
  rw [hg] at h ⊢
  simp only [Option.bind_some] at h ⊢
  rw [hb.block g hlt]
  exact h
theorem g_lt {w : World} {g B : Nat} (h : Tryz.prog.globals.size ≤ B) (hg : decide (g < Tryz.prog.globals.size) = true) : g < B := Nat.lt_of_lt_of_le (of_decide_eq_true hg) h
theorem Glob.belowB {w w' : World} {B : Nat} (h : Glob w) (hb : Below B w w') (hB : Tryz.prog.globals.size ≤ B) : Glob w' := {
  top := Nat.le_trans h.top hb.size
  len := by obtain ⟨m, e⟩ := h.len; exact ⟨m, by rw [hb.cell (g_lt (w := w) hB (by kernel_rfl))]; exact e⟩
  syn := by obtain ⟨m, e, r⟩ := h.syn; exact ⟨m, by rw [hb.cell (g_lt (w := w) hB (by kernel_rfl))]; exact e, r⟩
  rng := by obtain ⟨m, e, r⟩ := h.rng; exact ⟨m, by rw [hb.cell (g_lt (w := w) hB (by kernel_rfl))]; exact e, r⟩
  deb := var_below h.deb (g := 8) (by kernel_rfl) hb (g_lt (w := w) hB (by kernel_rfl))
  tab := var_below h.tab (g := 2) (by kernel_rfl) hb (g_lt (w := w) hB (by kernel_rfl))
  }
theorem Glob.to {w w' : World} (h : Glob w) (hb : Below w.heap.size w w') : Glob w' := h.belowB hb h.top
theorem Glob.alloc {w : World} (h : Glob w) (o : Obj) : Glob (w.alloc o) := h.to (below_one w o)
theorem Glob.deb16 {w : World} (h : Glob w) : w.cell? ⟨8, 15, none⟩ = some (.int .u8 4) := by have := World.var?_cell (P := Tryz.prog) (show Tryz.prog.globalNamed "math/bits.deBruijn64tab" = some 8 by kernel_rfl) h.deb 15; exact this.trans rfl
end Go.Proofs.YtgdgdhpmjkefjaaGreatDoor

/- Words for Builders, strconv.Itoa, strings.Trim; lists of texts. -/
set_option linter.unusedVariables false
set_option linter.unusedSimpArgs false
namespace Go.Proofs.YtgdgdhpmjkefjaaGreatDoor
open Go.RowKit

theorem grown_of_below {w w' : World} (hb : Below w.heap.size w w') : w.grownBy w' none := ⟨hb.os, hb.tape, hb.output, hb.size, fun i hi _ => hb.block i hi⟩
theorem below_grow {B : Nat} {a w : World} (h : Below B a w) (hB : B ≤ w.heap.size) (os : Array Obj) : Below B a (Sort.grow w os) :=
  ⟨h.os, h.tape, h.output, by simp; have := h.size; omega, fun k hk => by
    rw [← h.block k hk]
    show (w.heap ++ os)[k]? = w.heap[k]?
    rw [Array.getElem?_append_left (by omega)]⟩
theorem BuilderAt_to {T e : TypeId} {B b : Nat} {p : Value} {xs : List Value} {w w' : World} (h : Lib.BuilderAt T e B b p xs w) (hb : Below w.heap.size w w') : Lib.BuilderAt T e B b p xs w' := by
  have hlt := h.lt
  obtain ⟨h1, v, h2, h3, h4⟩ := h
  refine ⟨h1, v, (hb.block b hlt).trans h2, h3.kept (grown_of_below hb) ?_, h4⟩
  cases v.ownBlock <;> simp
theorem IsBuilder_to {T e : TypeId} {B b : Nat} {xs : List Value} {w w' : World} (h : Lib.IsBuilder T e B b xs w) (hb : Below w.heap.size w w') : Lib.IsBuilder T e B b xs w' :=
  h.elim (fun x => .inl (BuilderAt_to x hb)) (fun x => .inr (BuilderAt_to x hb))
theorem Itoa_any (n : Int) (h0 : -9223372036854775808 ≤ n) (h1 : n ≤ 9223372036854775807) (w : World) (hg : Glob w) : Calls Tryz.prog 55 #[.int .i64 n] w fun e w' => e = .returned (.string (bs (Lib.itoa n))) ∧ Below w.heap.size w w' :=
  (Tryz.strconv_Itoa n h0 h1 w hg.tab).mono fun e w' ⟨h, k, os, h'⟩ => ⟨h, h' ▸ below_grow (below_drewN (Below.refl _ w) k) (Nat.le_refl _) os⟩
theorem strCells_bs (l : List UInt8) : Lib.strCells (bs l) = Lib.byteCells l := by unfold Lib.strCells; rw [bs_list]; rfl
theorem byteCells_app (l m : List UInt8) : Lib.byteCells (l ++ m) = Lib.byteCells l ++ Lib.byteCells m := by simp [Lib.byteCells]
/-- a list of texts as the cells of a slice -/
def strC (ls : List (List UInt8)) : Array Value := (ls.map fun l => Value.string (bs l)).toArray
theorem strC_at {ls : List (List UInt8)} {k : Nat} {l : List UInt8} (h : ls[k]? = some l) : (strC ls)[k]? = some (.string (bs l)) := by simp [strC, h]
theorem repeat_zeros (k : Nat) : Lib.repeatL [48] k = List.replicate k 48 := by
  induction k with
  | zero => rfl
  | succ k ih => simp_all [Lib.repeatL, List.replicate_succ]
theorem dw_nil (p : UInt8 → Bool) : ∀ l : List UInt8, l.dropWhile p = [] ↔ ∀ c ∈ l, p c = true
  | [] => by simp
  | c :: r => by
    rw [List.dropWhile_cons]
    by_cases h : p c = true
    · rw [if_pos h, dw_nil p r]; simp [h]
    · rw [if_neg h]; simp [h]
theorem dw_head (p : UInt8 → Bool) : ∀ (l : List UInt8) (c : UInt8) (r : List UInt8), l.dropWhile p = c :: r → p c = false
  | [], c, r, h => by simp at h
  | a :: l, c, r, h => by
    rw [List.dropWhile_cons] at h
    by_cases hp : p a = true
    · rw [if_pos hp] at h; exact dw_head p l c r h
    · rw [if_neg hp] at h
      injection h with h1 _
      rw [← h1]; simpa using hp
/-- all bytes of a set trimmed off -/
theorem trimS_nil (l cs : List UInt8) : Lib.trimS l cs = [] ↔ ∀ c ∈ l, c ∈ cs := by
  have e : Lib.trimS l cs = ((l.reverse.dropWhile (cs.contains ·)).reverse).dropWhile (cs.contains ·) := rfl
  rw [e, dw_nil]
  constructor
  · intro h
    cases hd : l.reverse.dropWhile (cs.contains ·) with
    | nil =>
      have := (dw_nil _ _).1 hd
      intro c hc
      have h1 := this c (by simpa using hc)
      simpa using h1
    | cons c r =>
      have h1 := dw_head _ _ _ _ hd
      have h2 := h c (by rw [hd]; simp)
      rw [h1] at h2; cases h2
  · intro h
    have : l.reverse.dropWhile (cs.contains ·) = [] := (dw_nil _ _).2 (fun c hc => by have := h c (by simpa using hc); simpa using this)
    rw [this]; simp
end Go.Proofs.YtgdgdhpmjkefjaaGreatDoor

/- Slices of texts and of records, wherever they lie. -/
set_option linter.unusedVariables false
set_option linter.unusedSimpArgs false
namespace Go.Proofs.YtgdgdhpmjkefjaaGreatDoor
open Go.RowKit

/-- the slice value v holds the rows ls, each of `size` cells -/
def RowsAt (w : World) (size : Nat) (v : Value) (ls : List (List Value)) : Prop := ∃ A c, v = .slice A ls.length c ∧ ls.length ≤ c ∧
  (∀ x ∈ ls, x.length = size) ∧ ∀ (k : Nat) x, ls[k]? = some x → ∃ a, A = some a ∧ a.block < w.heap.size ∧ ∀ (j : Nat) u, x[j]? = some u → w.cell? ((a.add (k * size)).add j) = some u
theorem RowsAt.to {w w' : World} {size : Nat} {v : Value} {ls : List (List Value)} (h : RowsAt w size v ls) (hb : Below w.heap.size w w') : RowsAt w' size v ls := by
  obtain ⟨A, c, h1, h2, h3, h4⟩ := h
  refine ⟨A, c, h1, h2, h3, fun k x hx => ?_⟩
  obtain ⟨a, e, hl, hc⟩ := h4 k x hx
  exact ⟨a, e, Nat.lt_of_lt_of_le hl hb.size, fun j u hu => (hb.cell (by rw [block_of_add, block_of_add]; exact hl)).trans (hc j u hu)⟩
theorem RowsAt.nil (w : World) (size : Nat) : RowsAt w size (.slice none 0 0) [] := ⟨none, 0, rfl, Nat.le_refl _, by simp, fun k x h => by simp at h⟩
/-- element k -/
theorem RowsAt.at_ {w : World} {size : Nat} {v : Value} {ls : List (List Value)} (h : RowsAt w size v ls) {k : Nat} {x : List Value} (hx : ls[k]? = some x) :
    ∃ a c, v = .slice (some a) ls.length c ∧ ls.length ≤ c ∧ a.block < w.heap.size ∧ x.length = size ∧ ∀ (j : Nat) u, x[j]? = some u → w.cell? ((a.add (k * size)).add j) = some u := by
  obtain ⟨A, c, h1, h2, h3, h4⟩ := h
  obtain ⟨a, e, hl, hc⟩ := h4 k x hx
  exact ⟨a, c, by rw [h1, e], h2, hl, h3 x (List.mem_of_getElem? hx), hc⟩
/-- a row that the call has made -/
theorem RowsAt.of_blk {w : World} {b n c : Nat} {t : TypeId} {cs : Array Value} {size : Nat} {ls : List (List Value)} (h : Blk w b t cs) (hn : n = ls.length) (hc : n ≤ c) (hs : ∀ x ∈ ls, x.length = size)
    (hat : ∀ (k : Nat) x, ls[k]? = some x → ∀ (j : Nat) u, x[j]? = some u → cs[k * size + j]? = some u) : RowsAt w size (.slice (some ⟨b, 0, none⟩) n c) ls := by
  refine ⟨some ⟨b, 0, none⟩, c, by rw [hn], by omega, hs, fun k x hx => ⟨_, rfl, h.lt, fun j u hu => ?_⟩⟩
  have e : ((⟨b, 0, none⟩ : Addr).add (k * size)).add j = ⟨b, k * size + j, none⟩ := by
    rw [add_of_add]; unfold Addr.add; split
    · rename_i h0; simp [h0]
    · simp
  rw [e]
  exact (h.cell _).trans (hat k x hx j u hu)
theorem flat_at {size : Nat} : ∀ (ls : List (List Value)), (∀ x ∈ ls, x.length = size) → ∀ (k : Nat) (x : List Value) (j : Nat) (u : Value), ls[k]? = some x → x[j]? = some u → ls.flatten[k * size + j]? = some u
  | [], _, k, x, j, u, h, _ => by simp at h
  | y :: l, hs, 0, x, j, u, h, hu => by
    simp at h
    subst h
    have hj : j < y.length := by rcases Nat.lt_or_ge j y.length with h | h; exact h; rw [List.getElem?_eq_none h] at hu; cases hu
    rw [List.flatten_cons, Nat.zero_mul, Nat.zero_add, List.getElem?_append_left hj]; exact hu
  | y :: l, hs, k + 1, x, j, u, h, hu => by
    have hy := hs y (by simp)
    have ih := flat_at l (fun z hz => hs z (by simp [hz])) k x j u (by simpa using h) hu
    rw [List.flatten_cons, List.getElem?_append_right (by rw [hy, Nat.add_mul]; omega), hy]
    rw [show (k + 1) * size + j - size = k * size + j by rw [Nat.add_mul]; omega]
    exact ih
/-- a row grown by append -/
theorem RowsAt.of_own {w : World} {B : Nat} {e : TypeId} {size : Nat} {v : Value} {ls : List (List Value)} (hs : ∀ x ∈ ls, x.length = size) (h : w.ownsRow B e size v ls.length ls.flatten) : RowsAt w size v ls := by
  obtain ⟨_, h⟩ := h
  rcases h with ⟨hv, h0⟩ | ⟨g, cap, cur, hv, hB, hg, hn, _, hsz, ht⟩
  · rw [List.eq_nil_of_length_eq_zero h0, hv]; exact RowsAt.nil w size
  · rw [hv]
    refine RowsAt.of_blk (cs := cur) hg rfl hn hs fun k x hx j u hu => ?_
    have h1 := flat_at ls hs k x j u hx hu
    rw [← ht, List.getElem?_take] at h1
    split at h1
    · simpa using h1
    · cases h1
/-- a part of a slice -/
theorem RowsAt.take {w : World} {size n c : Nat} {A : Option Addr} {ls : List (List Value)} (h : RowsAt w size (.slice A n c) ls) {k : Nat} (hk : k ≤ ls.length) (c' : Nat) (hc : k ≤ c') : RowsAt w size (.slice A k c') (ls.take k) := by
  obtain ⟨A', c0, h1, h2, h3, h4⟩ := h
  have e := h1
  injection e with e1 e2 e3
  subst e1
  refine ⟨A, c', by rw [List.length_take]; congr 1; omega, by rw [List.length_take]; omega, fun x hx => h3 x (List.mem_of_mem_take hx), fun j x hx => ?_⟩
  rw [List.getElem?_take] at hx
  split at hx
  · exact h4 j x hx
  · cases hx
theorem RowsAt.drop {w : World} {size n c : Nat} {a : Addr} {ls : List (List Value)} (h : RowsAt w size (.slice (some a) n c) ls) {k : Nat} (hk : k ≤ ls.length) (c' : Nat) (hc : ls.length - k ≤ c') : RowsAt w size (.slice (some (a.add (k * size))) (ls.length - k) c') (ls.drop k) := by
  obtain ⟨A', c0, h1, h2, h3, h4⟩ := h
  have e := h1
  injection e with e1 e2 e3
  subst e1
  refine ⟨some (a.add (k * size)), c', by rw [List.length_drop], by rw [List.length_drop]; exact hc, fun x hx => h3 x (List.mem_of_mem_drop hx), fun j x hx => ?_⟩
  rw [List.getElem?_drop] at hx
  obtain ⟨a', e', hl, hcell⟩ := h4 (k + j) x hx
  obtain rfl := Option.some.inj e'
  refine ⟨_, rfl, by rw [block_of_add]; exact hl, fun i u hu => ?_⟩
  have := hcell i u hu
  rw [add_of_add] at this
  rw [add_of_add, add_of_add, ← this]
  congr 2
  rw [Nat.add_mul]; omega
/-- texts -/
def strV (l : List UInt8) : List Value := [.string (bs l)]
def TextsAt (w : World) (v : Value) (ls : List (List UInt8)) : Prop := RowsAt w 1 v (ls.map strV)
theorem TextsAt.to {w w' : World} {v : Value} {ls : List (List UInt8)} (h : TextsAt w v ls) (hb : Below w.heap.size w w') : TextsAt w' v ls := RowsAt.to h hb
end Go.Proofs.YtgdgdhpmjkefjaaGreatDoor

/- The plain side of layer 1: digests of texts. No program in sight. -/
set_option linter.unusedVariables false
set_option linter.unusedSimpArgs false
namespace Go.Proofs.YtgdgdhpmjkefjaaGreatDoor
open Go

/-- one mixing -/
def mixN (x : Nat) : Nat :=
  let a := (x ^^^ x / 2147483648) * 11400714819323198485 % 18446744073709551616
  let b := (a ^^^ a / 134217728) * 15074714826142052245 % 18446744073709551616
  b ^^^ b / 8589934592
theorem xor_lt64 {a b : Nat} (ha : a < 18446744073709551616) (hb : b < 18446744073709551616) : a ^^^ b < 18446744073709551616 := by
  have : a ^^^ b < 2 ^ 64 := Nat.xor_lt_two_pow (by omega) (by omega)
  omega
theorem mixN_lt (x : Nat) : mixN x < 18446744073709551616 := by
  unfold mixN
  simp only
  exact xor_lt64 (Nat.mod_lt _ (by decide)) (Nat.lt_of_le_of_lt (Nat.div_le_self _ _) (Nat.mod_lt _ (by decide)))
/-- a block's number: its bytes, the first one greatest -/
def packN (l : List UInt8) : Nat := l.foldl (fun n c => n * 256 + c.toNat) 0
/-- eight bytes, filled up with zeros -/
def pad8 (l : List UInt8) : List UInt8 := l.take 8 ++ List.replicate (8 - l.length) 0
theorem pad8_len (l : List UInt8) : (pad8 l).length = 8 := by unfold pad8; simp; omega
def stepN (s : Nat) (l : List UInt8) : Nat := mixN (s ^^^ packN l)
def sumGo : Nat → Nat → List UInt8 → Nat
  | 0, s, _ => s
  | f + 1, s, l => sumGo f (stepN s (pad8 l)) (l.drop 8)
def sumN (l : List UInt8) : Nat := sumGo (l.length / 8 + 1) (7640891576956012809 ^^^ l.length) l
/-- the state after k blocks -/
def stN (l : List UInt8) : Nat → Nat
  | 0 => 7640891576956012809 ^^^ l.length
  | k + 1 => stepN (stN l k) (pad8 (l.drop (8 * k)))
theorem sumGo_st (l : List UInt8) : ∀ (f k : Nat), sumGo f (stN l k) (l.drop (8 * k)) = stN l (k + f)
  | 0, k => rfl
  | f + 1, k => by
    have := sumGo_st l f (k + 1)
    rw [sumGo, List.drop_drop, show 8 * k + 8 = 8 * (k + 1) by omega]
    rw [show stepN (stN l k) (pad8 (l.drop (8 * k))) = stN l (k + 1) from rfl, this]
    congr 1; omega
theorem sumN_st (l : List UInt8) : sumN l = stN l (l.length / 8 + 1) := by
  have := sumGo_st l (l.length / 8 + 1) 0
  simpa [sumN, stN] using this
theorem foldl_pack : ∀ (l : List UInt8) (n : Nat), l.foldl (fun n c => n * 256 + c.toNat) n < (n + 1) * 256 ^ l.length
  | [], n => by simp
  | c :: r, n => by
    have h := foldl_pack r (n * 256 + c.toNat)
    have hc := c.toNat_lt
    rw [List.foldl_cons, List.length_cons, Nat.pow_succ, Nat.mul_comm (256 ^ r.length), ← Nat.mul_assoc]
    refine Nat.lt_of_lt_of_le h (Nat.mul_le_mul_right _ ?_)
    omega
theorem packN_snoc (l : List UInt8) (c : UInt8) : packN (l ++ [c]) = packN l * 256 + c.toNat := by simp [packN]
theorem packN_lt (l : List UInt8) : packN l < 256 ^ l.length := by
  have := foldl_pack l 0
  simpa [packN] using this
theorem packN_lt64 {l : List UInt8} (h : l.length ≤ 8) : packN l < 18446744073709551616 := by
  have h1 := packN_lt l
  have h2 : 256 ^ l.length ≤ 256 ^ 8 := Nat.pow_le_pow_right (by decide) h
  omega
theorem stepN_lt (s : Nat) (l : List UInt8) : stepN s l < 18446744073709551616 := mixN_lt _
theorem stN_lt {l : List UInt8} (h : l.length < 18446744073709551616) (k : Nat) : stN l k < 18446744073709551616 := by
  cases k with
  | zero => exact xor_lt64 (by decide) h
  | succ k => exact stepN_lt _ _

/-! hexadecimal digits -/
def hexC (d : Nat) : UInt8 := if d < 10 then UInt8.ofNat (48 + d) else UInt8.ofNat (87 + d)
/-- the last k digits -/
def hexN : Nat → Nat → List UInt8
  | 0, _ => []
  | k + 1, n => hexN k (n / 16) ++ [hexC (n % 16)]
theorem hexN_len : ∀ (k n : Nat), (hexN k n).length = k
  | 0, _ => rfl
  | k + 1, n => by rw [hexN, List.length_append, hexN_len k]; rfl
def sumD (l : List UInt8) : List UInt8 := hexN 16 (sumN l)
theorem sumD_len (l : List UInt8) : (sumD l).length = 16 := hexN_len _ _
def isHex (c : UInt8) : Bool := (decide (48 ≤ c.toNat) && decide (c.toNat ≤ 57)) || (decide (97 ≤ c.toNat) && decide (c.toNat ≤ 102))
theorem hexC_hex : ∀ d : Nat, d < 16 → isHex (hexC d) = true := by decide
theorem hexN_hex : ∀ (k n : Nat), ∀ c ∈ hexN k n, isHex c = true
  | 0, _, c, h => by simp [hexN] at h
  | k + 1, n, c, h => by
    rw [hexN, List.mem_append] at h
    rcases h with h | h
    · exact hexN_hex k _ c h
    · simp only [List.mem_cons, List.not_mem_nil, or_false] at h
      subst h
      exact hexC_hex _ (Nat.mod_lt _ (by decide))
/-- has the form of a digest -/
def isD (l : List UInt8) : Bool := decide (l.length = 16) && l.all isHex
theorem isD_iff (l : List UInt8) : isD l = true ↔ l.length = 16 ∧ ∀ c ∈ l, isHex c = true := by simp [isD]
theorem sumD_isD (l : List UInt8) : isD (sumD l) = true := (isD_iff _).2 ⟨sumD_len l, hexN_hex _ _⟩
/-- the joined text of a list -/
def joinD (ls : List (List UInt8)) : List UInt8 := ls.flatMap fun s => Lib.itoa s.length ++ [58] ++ s
def listD (ls : List (List UInt8)) : List UInt8 := sumD (joinD ls)
theorem listD_isD (ls : List (List UInt8)) : isD (listD ls) = true := sumD_isD _
theorem listD_len (ls : List (List UInt8)) : (listD ls).length = 16 := sumD_len _
theorem joinD_snoc (ls : List (List UInt8)) (s : List UInt8) : joinD (ls ++ [s]) = joinD ls ++ (Lib.itoa s.length ++ [58] ++ s) := by simp [joinD]
theorem hexN_zero (k : Nat) : hexN k 0 = List.replicate k 48 := by
  induction k with
  | zero => rfl
  | succ k ih => rw [hexN, Nat.zero_div, ih, List.replicate_succ']; rfl
theorem hexN_add (j : Nat) : ∀ (k n : Nat), n < 16 ^ k → hexN (j + k) n = List.replicate j 48 ++ hexN k n
  | 0, n, h => by
    have : n = 0 := by simpa using h
    subst this
    simp [hexN, hexN_zero]
  | k + 1, n, h => by
    rw [← Nat.add_assoc, hexN, hexN, hexN_add j k (n / 16) (by rw [Nat.pow_succ] at h; omega), List.append_assoc]
/-- the digits without zeros ahead: how many -/
def hexLf : Nat → Nat → Nat
  | 0, _ => 1
  | f + 1, n => if n < 16 then 1 else hexLf f (n / 16) + 1
def hexL (n : Nat) : Nat := hexLf 15 n
theorem hexLf_spec : ∀ (f n : Nat), n < 16 ^ (f + 1) → 1 ≤ hexLf f n ∧ hexLf f n ≤ f + 1 ∧ n < 16 ^ hexLf f n ∧ (1 < hexLf f n → 16 ^ (hexLf f n - 1) ≤ n)
  | 0, n, h => by simp [hexLf] at *; omega
  | f + 1, n, h => by
    rw [hexLf]
    split
    · rename_i h1
      exact ⟨by omega, by omega, by simpa using h1, by omega⟩
    · rename_i h1
      obtain ⟨a, b, c, d⟩ := hexLf_spec f (n / 16) (by rw [Nat.pow_succ] at h; omega)
      refine ⟨by omega, by omega, by rw [Nat.pow_succ]; omega, fun _ => ?_⟩
      rw [Nat.add_sub_cancel]
      by_cases h2 : 1 < hexLf f (n / 16)
      · have := d h2
        have e : hexLf f (n / 16) = hexLf f (n / 16) - 1 + 1 := by omega
        rw [e, Nat.pow_succ]
        omega
      · have e : hexLf f (n / 16) = 1 := by omega
        rw [e]; omega
theorem hexL_spec {n : Nat} (h : n < 18446744073709551616) : 1 ≤ hexL n ∧ hexL n ≤ 16 ∧ n < 16 ^ hexL n ∧ (1 < hexL n → 16 ^ (hexL n - 1) ≤ n) := hexLf_spec 15 n (by simpa using h)
theorem hex_fill {n : Nat} (h : n < 18446744073709551616) : List.replicate (16 - hexL n) 48 ++ hexN (hexL n) n = hexN 16 n := by
  obtain ⟨_, h1, h2, _⟩ := hexL_spec h
  rw [← hexN_add (16 - hexL n) (hexL n) n h2]
  congr 1; omega
/-- the digits of the last k places, one more ahead -/
theorem hexN_cons : ∀ (k n : Nat), hexN (k + 1) n = hexC (n / 16 ^ k % 16) :: hexN k n
  | 0, n => by simp [hexN]
  | k + 1, n => by
    rw [hexN, hexN_cons k (n / 16), hexN, Nat.div_div_eq_div_mul, Nat.pow_succ, Nat.mul_comm 16]
    rfl
end Go.Proofs.YtgdgdhpmjkefjaaGreatDoor

/- The plain laws of layer 55: logs from which persons can be erased. No program in sight. -/
set_option linter.unusedVariables false
set_option linter.unusedSimpArgs false
namespace Go.Proofs.YtgdgdhpmjkefjaaGreatDoor
open Go

/-- a line of a log -/
structure Ln where
  p : List UInt8
  t : List UInt8
  s : List UInt8
  d : List UInt8
theorem Ln.eq_iff (a b : Ln) : a = b ↔ a.p = b.p ∧ a.t = b.t ∧ a.s = b.s ∧ a.d = b.d := by
  constructor
  · rintro rfl; exact ⟨rfl, rfl, rfl, rfl⟩
  · rintro ⟨h1, h2, h3, h4⟩; cases a; cases b; simp_all
instance (a b : Ln) : Decidable (a = b) := decidable_of_iff _ (Ln.eq_iff a b).symm
def lineT : List UInt8 := [108, 105, 110, 101]
def leafT : List UInt8 := [108, 101, 97, 102]
def nodeT : List UInt8 := [110, 111, 100, 101]
def emptyT : List UInt8 := [101, 109, 112, 116, 121]
def canM (p t s : List UInt8) : Bool := isNm p && !t.isEmpty && decide (t.length ≤ 400) && !t.contains 10 && isD s
def mkL (p t s : List UInt8) : Ln := ⟨p, t, s, listD [lineT, p, t, s]⟩
def noL : Ln := ⟨[], [], [], []⟩
def makeV (p t s : List UInt8) : Ln := if canM p t s then mkL p t s else noL
def makeE (p t s : List UInt8) : Int := if canM p t s then 0 else 1
def er (l : Ln) : Ln := ⟨[], [], [], l.d⟩
def validL (l : Ln) : Bool := if l = er l then isD l.d else canM l.p l.t l.s && decide (mkL l.p l.t l.s = l)
def validG (log : List Ln) : Bool := log.all validL && decide (log.length ≤ 10000)
def eraseP (log : List Ln) (q : List UInt8) : List Ln := log.map fun l => if l.p = q then er l else l
def hitsP (log : List Ln) (q : List UInt8) : Nat := (log.filter fun l => decide (l.p = q)).length
def aboutP (log : List Ln) (q : List UInt8) : List (List UInt8) := (log.filter fun l => decide (l.p = q)).map (·.t)
theorem nm_ne {q : List UInt8} (h : isNm q = true) : q ≠ [] := by rintro rfl; simp [isNm] at h
theorem er_er (l : Ln) : er (er l) = er l := rfl
theorem valid_d {l : Ln} (h : validL l = true) : isD l.d = true := by
  unfold validL at h
  split at h
  · exact h
  · simp only [Bool.and_eq_true, decide_eq_true_eq] at h
    rw [← h.2]
    exact listD_isD _
theorem valid_er {l : Ln} (h : validL l = true) : validL (er l) = true := by
  unfold validL
  rw [er_er, if_pos rfl]
  show isD l.d = true
  exact valid_d h
theorem valid_erase {log : List Ln} {q : List UInt8} (h : validG log = true) : validG (eraseP log q) = true := by
  unfold validG at h ⊢
  simp only [Bool.and_eq_true, decide_eq_true_eq, List.all_eq_true] at h ⊢
  refine ⟨fun l hl => ?_, by unfold eraseP; simpa using h.2⟩
  obtain ⟨x, hx, rfl⟩ := List.mem_map.1 hl
  split
  · exact valid_er (h.1 x hx)
  · exact h.1 x hx
theorem erase_len (log : List Ln) (q : List UInt8) : (eraseP log q).length = log.length := by simp [eraseP]
theorem erase_at (log : List Ln) (q : List UInt8) (i : Nat) : (eraseP log q)[i]? = (log[i]?).map fun l => if l.p = q then er l else l := by unfold eraseP; rw [List.getElem?_map]
theorem erase_d (log : List Ln) (q : List UInt8) : (eraseP log q).map (·.d) = log.map (·.d) := by
  unfold eraseP
  rw [List.map_map]
  exact List.map_congr_left fun l _ => by show (if l.p = q then er l else l).d = l.d; split <;> rfl
theorem filter_other {q o : List UInt8} (ho : isNm o = true) (hqo : q ≠ o) : ∀ log : List Ln, (eraseP log q).filter (fun l => decide (l.p = o)) = log.filter (fun l => decide (l.p = o))
  | [] => rfl
  | l :: r => by
    have ih := filter_other ho hqo r
    unfold eraseP at ih ⊢
    rw [List.map_cons]
    by_cases h : l.p = q
    · rw [if_pos h, List.filter_cons_of_neg (by simpa [er] using nm_ne ho), List.filter_cons_of_neg (by simp; rw [h]; exact hqo), ih]
    · rw [if_neg h, List.filter_cons, List.filter_cons, ih]
theorem about_other {q o : List UInt8} (ho : isNm o = true) (hqo : q ≠ o) (log : List Ln) : aboutP (eraseP log q) o = aboutP log o := by unfold aboutP; rw [filter_other ho hqo]
/-! trees -/
def leafD (d : List UInt8) : List UInt8 := listD [leafT, d]
def nodeD (a b : List UInt8) : List UInt8 := listD [nodeT, a, b]
def halfF : Nat → Nat → Nat → Nat
  | 0, k, _ => k
  | f + 1, k, n => if k * 2 < n then halfF f (k * 2) n else k
def halfN (n : Nat) : Nat := halfF n 1 n
theorem halfF_lt : ∀ (f k n : Nat), 1 ≤ k → k < n → 1 ≤ halfF f k n ∧ halfF f k n < n
  | 0, k, n, h1, h2 => ⟨h1, h2⟩
  | f + 1, k, n, h1, h2 => by
    unfold halfF
    split
    · rename_i h; exact halfF_lt f (k * 2) n (by omega) h
    · exact ⟨h1, h2⟩
theorem half_lt {n : Nat} (h : 2 ≤ n) : 1 ≤ halfN n ∧ halfN n < n := halfF_lt n 1 n (Nat.le_refl _) (by omega)
def sumT : Nat → List (List UInt8) → List UInt8
  | 0, _ => []
  | f + 1, l => if l.length = 1 then l.headD [] else nodeD (sumT f (l.take (halfN l.length))) (sumT f (l.drop (halfN l.length)))
theorem sumT_one (f : Nat) {l : List (List UInt8)} (h : l.length = 1) : sumT (f + 1) l = l.headD [] := by unfold sumT; rw [if_pos h]
theorem sumT_two (f : Nat) {l : List (List UInt8)} (h : l.length ≠ 1) : sumT (f + 1) l = nodeD (sumT f (l.take (halfN l.length))) (sumT f (l.drop (halfN l.length))) := by
  conv => lhs; unfold sumT
  rw [if_neg h]
def totalT (l : List (List UInt8)) : List UInt8 := if l.length = 0 then listD [emptyT] else sumT l.length l
def properT (l : List (List UInt8)) : Bool := l.all isD
def rootV (l : List (List UInt8)) : List UInt8 := if properT l then totalT l else []
def rootE (l : List (List UInt8)) : Int := if properT l then 0 else 1
def leavesP (log : List Ln) : List (List UInt8) := log.map fun l => leafD l.d
theorem leaves_erase (log : List Ln) (q : List UInt8) : leavesP (eraseP log q) = leavesP log := by
  unfold leavesP
  have := congrArg (List.map leafD) (erase_d log q)
  rw [List.map_map, List.map_map] at this
  exact this
theorem leaf_isD (d : List UInt8) : isD (leafD d) = true := by
  unfold leafD
  exact listD_isD _
theorem leaves_proper (log : List Ln) : properT (leavesP log) = true := by
  unfold properT
  rw [List.all_eq_true]
  intro x hx
  unfold leavesP at hx
  obtain ⟨l, _, e⟩ := List.mem_map.1 hx
  rw [← e]
  exact leaf_isD l.d
end Go.Proofs.YtgdgdhpmjkefjaaGreatDoor

/- The plain laws of trees: paths. No program in sight. -/
set_option linter.unusedVariables false
set_option linter.unusedSimpArgs false
namespace Go.Proofs.YtgdgdhpmjkefjaaGreatDoor
open Go

/-- the digests beside the way to element i, the uppermost first -/
def pathF : Nat → List (List UInt8) → Nat → List (List UInt8)
  | 0, _, _ => []
  | f + 1, l, i => if l.length ≤ 1 then [] else if i < halfN l.length then totalT (l.drop (halfN l.length)) :: pathF f (l.take (halfN l.length)) i else totalT (l.take (halfN l.length)) :: pathF f (l.drop (halfN l.length)) (i - halfN l.length)
def pathV (l : List (List UInt8)) (i : Nat) : List (List UInt8) := (pathF l.length l i).reverse
/-- what a proof's digests make of a leaf: the root, the digests that are left; none if one was missing -/
def upF : Nat → Nat → Nat → List UInt8 → List (List UInt8) → Option (List UInt8 × List (List UInt8))
  | 0, _, _, _, _ => none
  | f + 1, n, i, leaf, st => if n = 1 then some (leaf, st) else match st with
    | [] => none
    | side :: st => if i < halfN n then (upF f (halfN n) i leaf st).map fun r => (nodeD r.1 side, r.2) else (upF f (n - halfN n) (i - halfN n) leaf st).map fun r => (nodeD side r.1, r.2)
end Go.Proofs.YtgdgdhpmjkefjaaGreatDoor

/- Walks of package digest: take, blocks. -/
set_option linter.unusedVariables false
set_option linter.unusedSimpArgs false
namespace Go.Proofs.YtgdgdhpmjkefjaaGreatDoor
open Go.RowKit

theorem or_byte {N c : Nat} (h : N < 256 ^ 7) (hc : c < 256) : Value.int .u64 (bits BinOp.or IntKind.u64 ((N : Int) * 256) (c : Int)) = .int .u64 ((N * 256 + c : Nat) : Int) := by
  have h1 := u64_or_nat (N * 256) c (by omega) (by omega)
  have h2 := Nat.two_pow_add_eq_or_of_lt (i := 8) (b := c) (by omega) N
  rw [show ((N : Int) * 256) = ((N * 256 : Nat) : Int) by simp, h1, Nat.mul_comm N 256, ← h2]
theorem mix_val (X : Nat) (hX : X < 18446744073709551616) :
    bits BinOp.xor IntKind.u64 (IntKind.u64.wrap (bits BinOp.xor IntKind.u64 (IntKind.u64.wrap (bits BinOp.xor IntKind.u64 (X : Int) ((X : Int) / 2147483648) * 11400714819323198485)) (IntKind.u64.wrap (bits BinOp.xor IntKind.u64 (X : Int) ((X : Int) / 2147483648) * 11400714819323198485) / 134217728) * 15074714826142052245))
      (IntKind.u64.wrap (bits BinOp.xor IntKind.u64 (IntKind.u64.wrap (bits BinOp.xor IntKind.u64 (X : Int) ((X : Int) / 2147483648) * 11400714819323198485)) (IntKind.u64.wrap (bits BinOp.xor IntKind.u64 (X : Int) ((X : Int) / 2147483648) * 11400714819323198485) / 134217728) * 15074714826142052245) / 8589934592) = ((mixN X : Nat) : Int) := by
  have h1 := mixStep_u64 X 2147483648 11400714819323198485 hX
  have e1 : (((2147483648 : Nat) : Int)) = 2147483648 := rfl
  have e2 : (((11400714819323198485 : Nat) : Int)) = 11400714819323198485 := rfl
  rw [e1, e2] at h1
  rw [h1]
  have ha : (X ^^^ X / 2147483648) * 11400714819323198485 % 18446744073709551616 < 18446744073709551616 := Nat.mod_lt _ (by decide)
  have hm : mixN X = (let a := (X ^^^ X / 2147483648) * 11400714819323198485 % 18446744073709551616; let b := (a ^^^ a / 134217728) * 15074714826142052245 % 18446744073709551616; b ^^^ b / 8589934592) := rfl
  rw [hm]
  generalize (X ^^^ X / 2147483648) * 11400714819323198485 % 18446744073709551616 = a at *
  simp only
  have h2 := mixStep_u64 a 134217728 15074714826142052245 ha
  have e3 : (((134217728 : Nat) : Int)) = 134217728 := rfl
  have e4 : (((15074714826142052245 : Nat) : Int)) = 15074714826142052245 := rfl
  rw [e3, e4] at h2
  rw [h2]
  have hb : (a ^^^ a / 134217728) * 15074714826142052245 % 18446744073709551616 < 18446744073709551616 := Nat.mod_lt _ (by decide)
  generalize (a ^^^ a / 134217728) * 15074714826142052245 % 18446744073709551616 = b at *
  have h3 := xorShift_u64 b 8589934592 hb
  have e5 : (((8589934592 : Nat) : Int)) = 8589934592 := rfl
  rw [e5] at h3
  exact h3
def stCells (s : Nat) : Array Value := #[.int .u64 (s : Int)]
def TakeI (l : List UInt8) (n i j : Value) : Prop := ∃ k : Nat, k ≤ 8 ∧ j = .int .i64 k ∧ n = .int .u64 (packN (l.take k) : Int)
set_option maxHeartbeats 2000000 in
theorem take_any (sb s : Nat) (l : List UInt8) (hl : l.length = 8) (hs : s < 18446744073709551616) (w : World) (hS : Blk w sb 83 (stCells s)) :
    Calls Tryz.prog 45 #[.pointer (some ⟨sb, 0, none⟩), .agg (Lib.byteCells l).toArray] w fun e w' => e = .returned (.tuple #[]) ∧ Below sb w w' ∧ Blk w' sb 83 (stCells (stepN s l)) := by
  have HBl := hide (Blk.new w 117 (Lib.byteCells l).toArray)
  have HSs := hide (hS.alloc (.cells (Lib.byteCells l).toArray 117))
  have HL := hide hl
  have HBs := hide ((Below.refl sb w).alloc (Nat.le_of_lt hS.lt) (.cells (Lib.byteCells l).toArray 117))
  go_enter Tryz.func45, Tryz.ntmps45
  go_wp2_with fail
  generalize w.alloc (.cells (Lib.byteCells l).toArray 117) = w1 at *
  generalize w.heap.size = B at *
  clear hl hS
  go_loop [4, 5, 7] (fun n i j => TakeI l n i j) (fun _ _ j => 8 - (intOf j).toNat)
  case atStart => exact ⟨0, by omega, rfl, rfl⟩
  case round =>
    obtain ⟨k, hk, rfl, rfl⟩ := hrel
    by_cases hlt : k < 8
    · obtain ⟨c, hc⟩ : ∃ c, l[k]? = some c := ⟨_, List.getElem?_eq_getElem (by have := HL.out; omega)⟩
      have cc : w1.cell? ⟨B, k, none⟩ = some (.int .u8 c.toNat) := by rw [HBl.out.cell]; simp [Lib.byteCells, hc]
      have c8 := c.toNat_lt
      have hp : packN (l.take k) < 256 ^ 7 := by
        have h1 := packN_lt (l.take k)
        have h2 : 256 ^ (l.take k).length ≤ 256 ^ 7 := Nat.pow_le_pow_right (by decide) (by simp; omega)
        omega
      have HN : Hid (packN (l.take (k + 1)) = packN (l.take k) * 256 + c.toNat) := by
        show _ = _
        rw [List.take_add_one, hc]
        exact packN_snoc _ _
      clear hc
      generalize packN (l.take k) = N at *
      go_wp2_with fail
      go_round
      case rel => exact ⟨k + 1, by omega, by go_num, by rw [HN.out, or_byte hp c8]⟩
      case measure => simp [intOf]; omega
    · obtain rfl : k = 8 := by omega
      have HP : Hid (packN (l.take 8) = packN l) := by show _ = _; rw [List.take_of_length_le (by have := HL.out; omega)]
      rw [HP.out]
      have hp : packN l < 18446744073709551616 := packN_lt64 (by have := HL.out; omega)
      have HT : Hid (stepN s l = mixN (s ^^^ packN l)) := rfl
      generalize packN l = N at *
      have hx := u64_xor_nat s N hs hp
      have c0 : w1.cell? ⟨sb, 0, none⟩ = some (.int .u64 s) := HSs.out.cell 0
      have f0 := HSs.out.frozen 0
      go_wp2_with fail
      rw [mix_val _ (xor_lt64 hs hp), ← HT.out]
      go_end0
      exact ⟨rfl, HBs.out.setCell (p := ⟨sb, 0, none⟩) (Nat.le_refl _) _, HSs.out.set_ 0 _⟩
end Go.Proofs.YtgdgdhpmjkefjaaGreatDoor
