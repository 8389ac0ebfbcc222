/- What came in, opened type by type: cells that read as data of a type, with the reach. -/
import Derived.Test.YtnpdhbagfkilkaaBase
import Derived.ProofKit
import Derived.ChangeOld
import Derived.Below
import Derived.SizedLaws
import Derived.Deep.Slices
import Derived.Deep.Fields
set_option linter.unusedVariables false
set_option linter.unusedSimpArgs false
namespace Go.Proofs.Ytnpdhbagfkilkaa
open Go.RowKit Go.ChangeShapes Go.WideShapes Go.Deep

theorem maxR {n : Nat} (h : n ≤ reachBytes) : n ≤ maxLen := by unfold reachBytes at h; unfold maxLen; omega
theorem maxN {n c b : Nat} (hn : n ≤ c) (h : c * (b + 1) ≤ reachBytes) : n ≤ 140737488355328 := by
  unfold reachBytes at h
  have : c * 1 ≤ c * (b + 1) := Nat.mul_le_mul_left _ (by omega)
  omega
/-- the cells cs came in as a datum of type t -/
def CameC {H : Type} (enc : TypeId × Value → H) (P : Program) (w : World) (t : TypeId) (cs : List Value) : Prop :=
  ∃ (n : Nat) (d : DataW H) (p : List MemPlace), DataW.trod enc P w 0 (fun _ => true) true n t cs = some (d, p) ∧ ∀ k ∈ d.weights P t, k ≤ reachBytes

section
variable {H : Type} {enc : TypeId × Value → H} {P : Program} {w : World} {t e : TypeId} {cs : List Value}

theorem CameC.of_trod {v : Value} {d : DataW H} {p : List MemPlace} (h : DataW.Trod enc P w 0 (fun _ => true) true t v d p) (hw : ∀ k ∈ d.weights P t, k ≤ reachBytes) : CameC enc P w t v.cells.toList := by
  obtain ⟨n, hn⟩ := h
  exact ⟨n, d, p, hn, hw⟩
theorem weights_each {ts : List TypeId} {ds : List (DataW H)} (h : (DataW.weightsEach P ts ds).all (· ≤ reachBytes) = true) (j : Nat) {d : DataW H} (ht : ts[j]? = some t) (hd : ds[j]? = some d) : ∀ k ∈ d.weights P t, k ≤ reachBytes := fun k hk => by
  have := List.all_eq_true.1 h _ (DataW.weights_mem_each ht hd k hk)
  simpa using this
theorem weights_all {d : DataW H} : ∀ {l : List (DataW H)}, d ∈ l → ∀ k ∈ d.weights P e, k ∈ DataW.weightsAll P e l
  | [], h, _, _ => by simp at h
  | x :: l, h, k, hk => by
    simp only [DataW.weightsAll, List.mem_append]
    rcases List.mem_cons.1 h with rfl | h
    · exact .inl hk
    · exact .inr (weights_all h k hk)

theorem CameC.int {q : IntKind} (ht : P.underlying t = some (.int q)) (h : CameC enc P w t cs) : ∃ n, cs = [.int q n] ∧ (Lit.int q n).wf = true := by
  obtain ⟨n, d, p, h, _⟩ := h
  obtain ⟨z, h1, _, h2⟩ := DataW.trod_int ht h
  exact ⟨z, h1, h2⟩
theorem CameC.string (ht : P.underlying t = some .string) (h : CameC enc P w t cs) : ∃ s : ByteArray, cs = [.string s] ∧ s.size ≤ reachBytes := by
  obtain ⟨n, d, p, h, hw⟩ := h
  obtain ⟨s, h1, h2, _⟩ := DataW.trod_string ht h
  obtain ⟨rfl, rfl⟩ := Prod.mk.injEq .. ▸ h2
  exact ⟨s, h1, by simpa using hw s.size (by simp [DataW.weights])⟩
theorem CameC.slice (ht : P.underlying t = some (.slice e)) (h : CameC enc P w t cs) :
    cs = [.slice none 0 0] ∨ ∃ (a : Addr) (n c : Nat), cs = [.slice (some a) n c] ∧ n ≤ c ∧ c * P.bytesOf e ≤ reachBytes ∧ c ≤ maxLen ∧
      ∀ i, i < n → ∃ cs', cs'.length = P.cellsOf e ∧ (∀ j, j < P.cellsOf e → w.cell? (a.add (i * P.cellsOf e + j)) = cs'[j]?) ∧ CameC enc P w e cs' := by
  obtain ⟨m, d, p, h, hw⟩ := h
  rcases DataW.trod_slice ht h with ⟨h0, _⟩ | ⟨a, n, c, elems, rest, k, _, rfl, hx, _, hl, hm, hlen, hel, hsp, _⟩
  · exact .inl h0
  · obtain ⟨rfl, rfl⟩ := Prod.mk.injEq .. ▸ hx
    have hr := (hsp rfl).1
    refine .inr ⟨a, n, c, rfl, hl, ?_, hm, fun i hi => ?_⟩
    · have := hw ((elems.length + rest.length) * P.bytesOf e) (by simp [DataW.weights, ht])
      rwa [hlen, hr, show n + (c - n) = c by omega] at this
    · have hg : elems[i]? = some (elems[i]'(by omega)) := List.getElem?_eq_getElem (by omega)
      have he := hel i hi
      rw [hg] at he
      obtain ⟨cs', h1, h2⟩ := Option.bind_eq_some_iff.1 he
      obtain ⟨_, hcl, hat⟩ := World.cells?_some h1
      refine ⟨cs', hcl, fun j hj => ?_, k, (elems[i]'(by omega)).1, (elems[i]'(by omega)).2, h2, fun q hq => hw q ?_⟩
      · rw [← add_of_add]; exact hat j hj
      · simp only [DataW.weights, ht, List.mem_cons, List.mem_append]
        exact .inr (.inl (weights_all (List.mem_map.2 ⟨_, List.getElem_mem (by omega), rfl⟩) q hq))
theorem CameC.struct {fs : Array Field} (ht : P.underlying t = some (.struct fs)) (h : CameC enc P w t cs) : cs.length = P.cellsOf t ∧ ∀ (i : Nat) (f : Field), fs[i]? = some f → CameC enc P w f.type ((cs.drop f.offset).take (P.cellsOf f.type)) := by
  obtain ⟨m, d, p, h, hw⟩ := h
  obtain ⟨xs, n, _, hx, hl, hlen, hf⟩ := DataW.trod_struct ht h
  obtain ⟨rfl, rfl⟩ := Prod.mk.injEq .. ▸ hx
  refine ⟨hl, fun i f hi => ?_⟩
  have hlt : i < xs.length := by rw [hlen]; exact (Array.getElem?_eq_some_iff.1 hi).1
  have hg : xs[i]? = some xs[i] := List.getElem?_eq_getElem hlt
  have h1 := hf i f hi
  rw [hg] at h1
  refine ⟨n, xs[i].1, xs[i].2, h1, fun q hq => hw q ?_⟩
  simp only [DataW.weights, ht]
  refine DataW.weights_mem_each (j := i) (t := f.type) (d := xs[i].1) ?_ ?_ q hq
  · rw [List.getElem?_map, Array.getElem?_toList, hi]; rfl
  · rw [List.getElem?_map, hg]; rfl
/-- a struct of one-cell fields, cell by cell -/
theorem CameC.fields {fs : Array Field} (ht : P.underlying t = some (.struct fs)) (hone : oneCellFields P fs = true) (hC : P.cellsOf t = fs.size) (h : CameC enc P w t cs) : cs.length = fs.size ∧ ∀ (i : Nat) (f : Field), fs[i]? = some f → ∃ v, cs[i]? = some v ∧ CameC enc P w f.type [v] := by
  obtain ⟨h1, h2⟩ := h.struct ht
  rw [hC] at h1
  refine ⟨h1, fun i f hi => ?_⟩
  obtain ⟨ho, hk⟩ := hone_of hone i f hi
  have hlt : i < cs.length := by rw [h1]; exact (Array.getElem?_eq_some_iff.1 hi).1
  have h3 := h2 i f hi
  rw [ho, hk, List.drop_eq_getElem_cons hlt] at h3
  exact ⟨cs[i], List.getElem?_eq_getElem hlt, h3⟩

/-- a slice of integers that came in reads as a list -/
theorem CameC.intList {q : IntKind} (ht : P.underlying t = some (.slice e)) (he : P.underlying e = some (.int q)) (hc : P.cellsOf e = 1) (h : CameC enc P w t cs) :
    ∃ (A : Option Addr) (n c : Nat) (zs : List Int), cs = [.slice A n c] ∧ Reads w w.heap.size 1 A n (zs.map (Value.int q)) ∧ c * P.bytesOf e ≤ reachBytes ∧ n ≤ c ∧ ∀ z ∈ zs, (Lit.int q z).wf = true := by
  rcases h.slice ht with rfl | ⟨a, n, c, rfl, hl, hb, _, hi⟩
  · exact ⟨none, 0, 0, [], rfl, Reads.none_, by rw [Nat.zero_mul]; exact Nat.zero_le _, Nat.le_refl _, by simp⟩
  · rw [hc] at hi
    have hz : ∀ i, ∃ z : Int, (i < n → w.cell? (a.add i) = some (.int q z)) ∧ (Lit.int q z).wf = true := fun i => by
      by_cases h : i < n
      · obtain ⟨cs', hl', hat, hcm⟩ := hi i h
        obtain ⟨z, rfl, hw⟩ := hcm.int he
        have := hat 0 (by omega)
        exact ⟨z, fun _ => by simpa using this, hw⟩
      · exact ⟨0, fun h' => absurd h' h, by cases q <;> decide⟩
    have hf := fun i => (hz i).choose_spec
    refine ⟨some a, n, c, (List.range n).map fun i => (hz i).choose, rfl, ⟨by simp, fun h0 => ⟨a, rfl, ?_, fun j u hu => ?_⟩⟩, hb, hl, fun z hzm => ?_⟩
    · have := World.block_lt_of_cell? w _ ((hf 0).1 h0)
      rwa [block_of_add] at this
    · simp only [List.getElem?_map, Option.map_eq_some_iff] at hu
      obtain ⟨z, ⟨i, hi', rfl⟩, rfl⟩ := hu
      rw [List.getElem?_eq_some_iff] at hi'
      obtain ⟨hj, e'⟩ := hi'
      simp at hj e'
      subst e'
      exact (hf j).1 hj
    · simp only [List.mem_map, List.mem_range] at hzm
      obtain ⟨i, _, rfl⟩ := hzm
      exact (hf i).2
end
end Go.Proofs.Ytnpdhbagfkilkaa
