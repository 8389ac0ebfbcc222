/- Maps that the call itself makes: a block that is a list of entries, in the order of their coming. -/
import Derived.Test.YtnpdhbagfkilkaaBase
import Derived.Maps.Own
import Derived.MapKept
import Derived.WideKeyArr
import Derived.WideKeyArr2
set_option linter.unusedVariables false
set_option linter.unusedSimpArgs false
namespace Go.Proofs.Ytnpdhbagfkilkaa
open Go.RowKit

/-- what the map's operations ask of the keys -/
structure KeySem (P : Program) (k : TypeId) (S : Value → Prop) : Prop where
  check : ∀ (w : World) (em : Bool) {v : Value}, S v → (Instr.checkKey em 10000 k v).run P w = .ok () w
  find : ∀ (w : World) {x : Value}, S x → ∀ es : List MapEntry, (∀ e ∈ es, S e.key) →
    ((Instr.findKey k x es).run P w = .ok none w ∧ ∀ e ∈ es, e.key ≠ x) ∨ ∃ j e, (Instr.findKey k x es).run P w = .ok (some (j, e.val)) w ∧ es[j]? = some e ∧ e.key = x
  stays : ∀ (w : World) {v : Value}, S v → (Instr.keyThatStays v v).run P w = .ok v w

theorem KeySem.of_keyed {P : Program} {k : TypeId} (K : Maps.Keyed P k) : KeySem P k (fun v => ∃ l, keyOf P k v = some l) :=
  ⟨fun w em _ ⟨_, h⟩ => K.check w em h, fun w _ ⟨_, h⟩ es hes => K.find w h es hes, fun w _ ⟨_, h⟩ => K.stays w h⟩

/-! keys that are pairs of integers: '[2]int', '[2]byte' -/
def pairKey (q : IntKind) (a b : Int) : Value := .agg #[.int q a, .int q b]
theorem pairKey_inj {q : IntKind} {a b c d : Int} (h : pairKey q a b = pairKey q c d) : a = c ∧ b = d := by
  simpa [pairKey] using h
theorem keyOf_pair {P : Program} {k e : TypeId} {q : IntKind} (A : WideMaps.ArrKey P k e 2) (he : P.underlying e = some (.int q)) (hsz : ∃ m, P.types.size = m + 2) {a b : Int}
    (wa : (Lit.int q a).wf = true) (wb : (Lit.int q b).wf = true) : ∃ l, keyOf P k (pairKey q a b) = some l := by
  obtain ⟨m0, hm0⟩ := hsz
  have hkt := A.keyType ⟨m0 + 1, hm0⟩
  unfold keyOf
  simp only [A.hu]
  rw [if_pos (by simp [hkt, Value.formed, A.hu, A.size, pairKey]), hm0]
  unfold Program.keyLits
  simp only [A.hu, Value.cells, pairKey]
  rw [if_pos (by rw [A.size]; rfl)]
  simp [A.one, Program.keyLits, he, wa, wb, List.range_succ, bind, Option.bind, pure]

/-! the block -/
def EntList (l : List (Value × Value)) : List MapEntry := l.zipIdx.map fun x => { key := x.1.1, val := x.1.2, born := x.2 }
theorem EntList_length (l : List (Value × Value)) : (EntList l).length = l.length := by simp [EntList]
theorem EntList_get (l : List (Value × Value)) (j : Nat) : (EntList l)[j]? = (l[j]?).map fun x => { key := x.1, val := x.2, born := j } := by
  simp [EntList, List.getElem?_zipIdx]
  cases l[j]? <;> simp
theorem EntList_append (l : List (Value × Value)) (x : Value × Value) : EntList (l ++ [x]) = EntList l ++ [{ key := x.1, val := x.2, born := l.length }] := by
  simp [EntList, List.zipIdx_append]
theorem EntList_set (l : List (Value × Value)) (j : Nat) (x : Value × Value) : EntList (l.set j x) = (EntList l).set j { key := x.1, val := x.2, born := j } := by
  apply List.ext_getElem?
  intro i
  rw [EntList_get, List.getElem?_set, List.getElem?_set, EntList_length, EntList_get]
  by_cases h : j = i
  · subst h
    by_cases hl : j < l.length <;> simp [hl]
  · simp [h]

/-- block m is a map with just the entries l: keys apart, each a key of the type -/
structure MapIs (S : Value → Prop) (w : World) (m : Nat) (l : List (Value × Value)) : Prop where
  heap : w.heap[m]? = some (.map (EntList l).toArray l.length)
  keys : ∀ x ∈ l, S x.1
  apart : l.Pairwise fun x y => x.1 ≠ y.1

section
variable {P : Program} {k e t : TypeId} {S : Value → Prop} {w w' : World} {m : Nat} {l : List (Value × Value)}

theorem MapIs.lt (h : MapIs S w m l) : m < w.heap.size := by
  rcases Nat.lt_or_ge m w.heap.size with hlt | hge
  · exact hlt
  · have := h.heap; rw [Array.getElem?_eq_none hge] at this; cases this
theorem MapIs.new (S : Value → Prop) (w : World) : MapIs S (w.alloc (.map #[] 0)) w.heap.size [] :=
  ⟨by rw [heap_alloc_new]; rfl, by simp, by simp⟩
theorem MapIs.same (h : MapIs S w m l) (he : w'.heap[m]? = w.heap[m]?) : MapIs S w' m l := ⟨he.trans h.heap, h.keys, h.apart⟩
theorem MapIs.below {B : Nat} (h : MapIs S w m l) (hb : Below B w w') (hm : m < B) : MapIs S w' m l := h.same (hb.block m hm)
theorem MapIs.alloc (h : MapIs S w m l) (o : Obj) : MapIs S (w.alloc o) m l := h.same (Below.heap_alloc w o m h.lt)
theorem MapIs.setCell (h : MapIs S w m l) {p : Addr} (hp : m ≠ p.block) (u : Value) : MapIs S (w.setCell p u) m l := h.same (Below.heap_setCell w p u m hp)
theorem MapIs.drewN (h : MapIs S w m l) (n : Nat) : MapIs S (w.drewN n) m l := ⟨h.heap, h.keys, h.apart⟩

theorem MapIs.entKeys (h : MapIs S w m l) : ∀ e ∈ EntList l, S e.key := by
  intro e he
  obtain ⟨j, hj⟩ := List.getElem?_of_mem he
  rw [EntList_get] at hj
  cases hl : l[j]? with
  | none => simp [hl] at hj
  | some x =>
    simp [hl] at hj
    subst hj
    exact h.keys x (List.mem_of_getElem? hl)

theorem MapIs.find (h : MapIs S w m l) (K : KeySem P k S) {x : Value} (hx : S x) (W : World) :
    ((Instr.findKey k x (EntList l)).run P W = .ok none W ∧ ∀ y ∈ l, y.1 ≠ x) ∨ ∃ j v, (Instr.findKey k x (EntList l)).run P W = .ok (some (j, v)) W ∧ l[j]? = some (x, v) := by
  rcases K.find W hx (EntList l) h.entKeys with ⟨h1, h2⟩ | ⟨j, e, h1, h2, h3⟩
  · refine .inl ⟨h1, fun y hy => ?_⟩
    obtain ⟨j, hj⟩ := List.getElem?_of_mem hy
    have := h2 { key := y.1, val := y.2, born := j } (List.mem_of_getElem? (i := j) (by rw [EntList_get, hj]; rfl))
    exact this
  · rw [EntList_get] at h2
    cases hl : l[j]? with
    | none => simp [hl] at h2
    | some y =>
      simp [hl] at h2
      subst h2
      exact .inr ⟨j, y.2, h1, by rw [hl, ← h3]⟩


/-- what a key leads to -/
def has (l : List (Value × Value)) (x v : Value) : Prop := (x, v) ∈ l
def lacks (l : List (Value × Value)) (x : Value) : Prop := ∀ y ∈ l, y.1 ≠ x

theorem run_lookup_ok (h : MapIs S w m l) (K : KeySem P k S) (ht : P.underlying t = some (.map k e)) {z : Value} (hz : (zeroValue e).run P w = .ok z w) {x : Value} (hx : S x) :
    ((Instr.lookup t (.map (some m)) x true).run P w = .ok (.tuple #[z, .bool false]) w ∧ lacks l x) ∨
    ∃ v, (Instr.lookup t (.map (some m)) x true).run P w = .ok (.tuple #[v, .bool true]) w ∧ has l x v := by
  rcases h.find K hx w with ⟨h1, h2⟩ | ⟨j, v, h1, h2⟩
  · exact .inl ⟨by simp [Instr.lookup, run_underlying ht, MapKept.run_getObj_map h.heap, K.check w _ hx, h1, hz, Result.andThen], h2⟩
  · exact .inr ⟨v, by simp [Instr.lookup, run_underlying ht, MapKept.run_getObj_map h.heap, K.check w _ hx, h1, Result.andThen], List.mem_of_getElem? h2⟩

theorem run_lookup (h : MapIs S w m l) (K : KeySem P k S) (ht : P.underlying t = some (.map k e)) {z : Value} (hz : (zeroValue e).run P w = .ok z w) {x : Value} (hx : S x) :
    ((Instr.lookup t (.map (some m)) x false).run P w = .ok z w ∧ lacks l x) ∨
    ∃ v, (Instr.lookup t (.map (some m)) x false).run P w = .ok v w ∧ has l x v := by
  rcases h.find K hx w with ⟨h1, h2⟩ | ⟨j, v, h1, h2⟩
  · exact .inl ⟨by simp [Instr.lookup, run_underlying ht, MapKept.run_getObj_map h.heap, K.check w _ hx, h1, hz, Result.andThen], h2⟩
  · exact .inr ⟨v, by simp [Instr.lookup, run_underlying ht, MapKept.run_getObj_map h.heap, K.check w _ hx, h1, Result.andThen], List.mem_of_getElem? h2⟩

theorem MapIs.not_both {x v : Value} (h1 : lacks l x) (h2 : has l x v) : False := h1 _ h2 rfl
theorem run_lookup_lacks (h : MapIs S w m l) (K : KeySem P k S) (ht : P.underlying t = some (.map k e)) {z : Value} (hz : (zeroValue e).run P w = .ok z w) {x : Value} (hx : S x) (hl : lacks l x) :
    (Instr.lookup t (.map (some m)) x false).run P w = .ok z w := by
  rcases run_lookup h K ht hz hx with ⟨h1, _⟩ | ⟨v, _, h2⟩
  · exact h1
  · exact absurd h2 (fun h => MapIs.not_both hl h)
theorem run_lookup_ok_lacks (h : MapIs S w m l) (K : KeySem P k S) (ht : P.underlying t = some (.map k e)) {z : Value} (hz : (zeroValue e).run P w = .ok z w) {x : Value} (hx : S x) (hl : lacks l x) :
    (Instr.lookup t (.map (some m)) x true).run P w = .ok (.tuple #[z, .bool false]) w := by
  rcases run_lookup_ok h K ht hz hx with ⟨h1, _⟩ | ⟨v, _, h2⟩
  · exact h1
  · exact absurd h2 (fun h => MapIs.not_both hl h)

theorem has_inj (h : MapIs S w m l) {x v v' : Value} (h1 : has l x v) (h2 : has l x v') : v = v' := by
  have ha := h.apart
  clear h
  unfold has at h1 h2
  induction l with
  | nil => cases h1
  | cons y r ih =>
    rw [List.pairwise_cons] at ha
    rcases List.mem_cons.1 h1 with e1 | m1 <;> rcases List.mem_cons.1 h2 with e2 | m2
    · rw [← e1] at e2; exact (Prod.mk.inj e2).2.symm
    · exact absurd (by rw [← e1]) (ha.1 _ m2)
    · exact absurd (by rw [← e2]) (ha.1 _ m1)
    · exact ih m1 m2 ha.2

theorem run_lookup_has (h : MapIs S w m l) (K : KeySem P k S) (ht : P.underlying t = some (.map k e)) {z : Value} (hz : (zeroValue e).run P w = .ok z w) {x v : Value} (hx : S x) (hl : has l x v) :
    (Instr.lookup t (.map (some m)) x false).run P w = .ok v w := by
  rcases run_lookup h K ht hz hx with ⟨_, h2⟩ | ⟨v', h1, h2⟩
  · exact absurd hl (fun h => MapIs.not_both h2 h)
  · rw [has_inj h hl h2]; exact h1
theorem run_lookup_ok_has (h : MapIs S w m l) (K : KeySem P k S) (ht : P.underlying t = some (.map k e)) {z : Value} (hz : (zeroValue e).run P w = .ok z w) {x v : Value} (hx : S x) (hl : has l x v) :
    (Instr.lookup t (.map (some m)) x true).run P w = .ok (.tuple #[v, .bool true]) w := by
  rcases run_lookup_ok h K ht hz hx with ⟨_, h2⟩ | ⟨v', h1, h2⟩
  · exact absurd hl (fun h => MapIs.not_both h2 h)
  · rw [has_inj h hl h2]; exact h1

/-- the world with the map's block put anew -/
def putMap (w : World) (m : Nat) (l : List (Value × Value)) : World := { w with heap := w.heap.setIfInBounds m (.map (EntList l).toArray l.length) }
theorem putMap_size (w : World) (m : Nat) (l : List (Value × Value)) : (putMap w m l).heap.size = w.heap.size := by simp [putMap]
theorem putMap_other (w : World) (m : Nat) (l : List (Value × Value)) {i : Nat} (h : i ≠ m) : (putMap w m l).heap[i]? = w.heap[i]? := by
  simp [putMap, Array.getElem?_setIfInBounds]; intro e; exact absurd e.symm h
theorem putMap_grown (w : World) (m : Nat) (l : List (Value × Value)) : w.grownBy (putMap w m l) (some m) :=
  ⟨rfl, rfl, rfl, by simp [putMap], fun i _ hi => putMap_other w m l (fun e => hi (by rw [e]))⟩
theorem putMap_cell {l' : List (Value × Value)} (w : World) (m : Nat) (l : List (Value × Value)) (h : MapIs S w m l') (p : Addr) : (putMap w m l).cell? p = w.cell? p := by
  by_cases hp : p.block = m
  · unfold World.cell?
    rw [hp, h.heap]
    have : (putMap w m l).heap[m]? = some (.map (EntList l).toArray l.length) := by simp [putMap, h.lt]
    rw [this]
  · exact World.cell?_of_block (w := w) (putMap_other w m l hp)
theorem putMap_frozen {l' : List (Value × Value)} (w : World) (m : Nat) (l : List (Value × Value)) (h : MapIs S w m l') (p : Addr) : (putMap w m l).frozen? p = w.frozen? p := by
  by_cases hp : p.block = m
  · unfold World.frozen?
    rw [hp, h.heap]
    have : (putMap w m l).heap[m]? = some (.map (EntList l).toArray l.length) := by simp [putMap, h.lt]
    rw [this]
  · exact World.frozen?_of_block (w := w) (putMap_other w m l hp)

theorem putMap_below {B : Nat} {W : World} (h : Below B W w) (hm : B ≤ m) : Below B W (putMap w m l) :=
  h.trans ⟨rfl, rfl, rfl, by simp [putMap], fun i hi => putMap_other w m l (by omega)⟩
theorem putMap_blk {g : Nat} {ty : TypeId} {cs : Array Value} (h : Blk w g ty cs) (hm : g ≠ m) : Blk (putMap w m l) g ty cs := (putMap_other w m l hm).trans h
theorem putMap_is (h : MapIs S w m l) {l' : List (Value × Value)} (hk : ∀ x ∈ l', S x.1) (ha : l'.Pairwise fun x y => x.1 ≠ y.1) : MapIs S (putMap w m l') m l' :=
  ⟨by simp [putMap, h.lt], hk, ha⟩

theorem MapIs.append_is (h : MapIs S w m l) {x v : Value} (hx : S x) (hl : lacks l x) : MapIs S (putMap w m (l ++ [(x, v)])) m (l ++ [(x, v)]) := by
  refine putMap_is h (fun y hy => ?_) ?_
  · rcases List.mem_append.1 hy with h1 | h1
    · exact h.keys y h1
    · rw [List.mem_singleton.1 h1]; exact hx
  · rw [List.pairwise_append]
    refine ⟨h.apart, by simp, fun a ha b hb => ?_⟩
    rw [List.mem_singleton.1 hb]
    exact hl a ha
theorem MapIs.set_is (h : MapIs S w m l) {j : Nat} {x v u : Value} (hj : l[j]? = some (x, u)) : MapIs S (putMap w m (l.set j (x, v))) m (l.set j (x, v)) := by
  have hjl : j < l.length := (List.getElem?_eq_some_iff.1 hj).1
  have hkeys : (l.set j (x, v)).map (·.1) = l.map (·.1) := by
    apply List.ext_getElem?
    intro i
    simp only [List.getElem?_map, List.getElem?_set]
    by_cases hi : j = i
    · subst hi; rw [hj]; simp [hjl]
    · simp [hi]
  refine putMap_is h (fun y hy => ?_) ?_
  · have : y.1 ∈ (l.set j (x, v)).map (·.1) := List.mem_map.2 ⟨y, hy, rfl⟩
    rw [hkeys] at this
    obtain ⟨z, hz, e⟩ := List.mem_map.1 this
    rw [← e]; exact h.keys z hz
  · have h1 : (l.map (·.1)).Pairwise (· ≠ ·) := List.pairwise_map.2 h.apart
    rw [← hkeys] at h1
    exact List.pairwise_map.1 h1

/-- 'm[x] = v' at a key that is not there -/
theorem run_update_new (h : MapIs S w m l) (K : KeySem P k S) (ht : P.underlying t = some (.map k e)) {x v : Value} (hx : S x) (hl : lacks l x) :
    (Instr.mapUpdate t (.map (some m)) x v).run P w = .ok () (putMap w m (l ++ [(x, v)])) := by
  rcases h.find K hx w with ⟨h1, h2⟩ | ⟨j, u, h1, h2⟩
  · have e1 : (EntList l).toArray.push { key := x, val := v, born := l.length } = (EntList (l ++ [(x, v)])).toArray := by rw [EntList_append]; simp
    simp [Instr.mapUpdate, run_underlying ht, MapKept.run_getObj_map h.heap, K.check w false hx, h1, MapKept.run_setObj_map _ h.heap, Result.andThen, putMap, ← e1]
  · exact absurd rfl (hl _ (List.mem_of_getElem? h2))
/-- 'm[x] = v' at a key that is there -/
theorem run_update_old (h : MapIs S w m l) (K : KeySem P k S) (ht : P.underlying t = some (.map k e)) {x v u : Value} (hx : S x) (hl : has l x u) :
    ∃ j, l[j]? = some (x, u) ∧ (Instr.mapUpdate t (.map (some m)) x v).run P w = .ok () (putMap w m (l.set j (x, v))) := by
  rcases h.find K hx w with ⟨h1, h2⟩ | ⟨j, u', h1, h2⟩
  · exact absurd rfl (h2 _ hl)
  · obtain rfl : u = u' := has_inj h hl (List.mem_of_getElem? h2)
    refine ⟨j, h2, ?_⟩
    have hjl : j < l.length := (List.getElem?_eq_some_iff.1 h2).1
    have hk : ((EntList l)[j]?).map (·.key) = some x := by rw [EntList_get, h2]; rfl
    have e1 : ((EntList l).modify j fun e => { e with key := x, val := v }) = EntList (l.set j (x, v)) := by
      apply List.ext_getElem?
      intro i
      rw [EntList_set]
      simp only [List.getElem?_modify, List.getElem?_set, EntList_length, EntList_get]
      by_cases hi : j = i
      · subst hi; rw [h2]; simp [hjl]
      · simp [hi]
    have hkey : Option.map MapEntry.key (EntList l)[j]? = some x := hk
    simp [Instr.mapUpdate, run_underlying ht, MapKept.run_getObj_map h.heap, K.check w false hx, h1, hkey, K.stays w hx, MapKept.run_setObj_map _ h.heap, Result.andThen, putMap, e1]
/-- the entry for 'm[x] op= ..', 'm[x], .. = ..' at a key that is not there -/
theorem run_mapEntry_new (h : MapIs S w m l) (K : KeySem P k S) (ht : P.underlying t = some (.map k e)) {z : Value} (hz : (zeroValue e).run P w = .ok z w) {x : Value} (hx : S x) (hl : lacks l x) :
    (Instr.mapEntry t (.map (some m)) x).run P w = .ok (.tuple #[z, .int .i64 l.length]) (putMap w m (l ++ [(x, z)])) := by
  rcases h.find K hx w with ⟨h1, h2⟩ | ⟨j, u, h1, h2⟩
  · have e1 : (EntList l).toArray.push { key := x, val := z, born := l.length } = (EntList (l ++ [(x, z)])).toArray := by rw [EntList_append]; simp
    simp [Instr.mapEntry, run_underlying ht, MapKept.run_getObj_map h.heap, K.check w false hx, h1, hz, MapKept.run_setObj_map _ h.heap, Result.andThen, putMap, ← e1, goInt]
  · exact absurd rfl (hl _ (List.mem_of_getElem? h2))
theorem run_entryStore (h : MapIs S w m l) {j : Nat} {x u v : Value} (hj : l[j]? = some (x, u)) :
    (Instr.entryStore t (.map (some m)) (.int .i64 j) v).run P w = .ok () (putMap w m (l.set j (x, v))) := by
  have hjl : j < l.length := (List.getElem?_eq_some_iff.1 hj).1
  have hf : (EntList l).toArray.findIdx? (fun e => (e.born : Int) == (j : Int)) = some j := by
    simp only [List.findIdx?_toArray]
    rw [List.findIdx?_eq_some_iff_getElem]
    refine ⟨by rw [EntList_length]; exact hjl, ?_, ?_⟩
    · have h1 := EntList_get l j
      rw [List.getElem?_eq_getElem (by rw [EntList_length]; exact hjl), hj] at h1
      have h2 := Option.some.inj h1
      simp [h2]
    · intro i hi
      have h1 := EntList_get l i
      rw [List.getElem?_eq_getElem (by rw [EntList_length]; omega), List.getElem?_eq_getElem (by omega)] at h1
      have h2 := Option.some.inj h1
      simp [h2]; omega
  have e1 : ((EntList l).modify j fun e => { e with val := v }) = EntList (l.set j (x, v)) := by
    apply List.ext_getElem?
    intro i
    rw [EntList_set]
    simp only [List.getElem?_modify, List.getElem?_set, EntList_length, EntList_get]
    by_cases hi : j = i
    · subst hi; rw [hj]; simp [hjl]
    · simp [hi]
  simp only [List.findIdx?_toArray] at hf
  simp [Instr.entryStore, MapKept.run_getObj_map h.heap, asInt, asIntOf, hf, MapKept.run_setObj_map _ h.heap, Result.andThen, putMap, e1]
end
end Go.Proofs.Ytnpdhbagfkilkaa
