/- A region that draws its order, walked once whatever the order: each operation owes its own fact, out of the facts of those that it waits for; memory may be made, and a box stored into. -/
import Derived.Test.YtnpdhbagfkilkaaCl2
import Derived.StillTail
import Derived.Deep.Quiet
set_option linter.unusedVariables false
set_option linter.unusedSimpArgs false
namespace Go.Proofs.Ytnpdhbagfkilkaa
open Go Go.RowKit

section
variable {P : Program} {ops : Array Oper} {Q : Exit → Act → World → Prop} {md : Region.Mode} {C : World → Prop} {a0 : Act}

/-- what the region does not write is as before -/
def Same (ops : Array Oper) (a0 a : Act) : Prop := a.defers = a0.defers ∧ a.tmps.size = a0.tmps.size ∧ ∀ t, (∀ (i : Nat) (o : Oper), ops[i]? = some o → o.dst ≠ some t) → a.tmps[t]? = a0.tmps[t]?
theorem Same.refl (ops : Array Oper) (a : Act) : Same ops a a := ⟨rfl, rfl, fun _ _ => rfl⟩
theorem Same.put {a : Act} (h : Same ops a0 a) {i : Nat} {o : Oper} (ho : ops[i]? = some o) (v : Value) : Same ops a0 (a.put o.dst v) := by
  obtain ⟨h1, h2, h3⟩ := h
  refine ⟨?_, ?_, fun t ht => ?_⟩
  · unfold Act.put; split <;> exact h1
  · unfold Act.put; split
    · simpa using h2
    · exact h2
  · have hne := ht i o ho
    unfold Act.put
    split
    · rename_i d hd
      have : d ≠ t := fun e => hne (by rw [hd, e])
      simp [Array.getElem?_setIfInBounds_ne this]
      exact h3 t ht
    · exact h3 t ht

theorem wpAny_inv (Kn : Nat → Act → World → Prop) (Rel : Nat → World → World → Prop)
    (hacyc : ∀ (i : Nat) (o : Oper), ops[i]? = some o → ∀ e ∈ o.after, Region.binds md e = true → e.on < i)
    (hC : ∀ i w w', C w → Rel i w w' → C w')
    (hkeep : ∀ (i j : Nat) (o : Oper), i ≠ j → ops[i]? = some o → Region.waitsFor md ops j i = false → ∀ a v w w', Kn j a w → Rel i w w' → Kn j (a.put o.dst v) w')
    (hop : ∀ (i : Nat) (o : Oper), ops[i]? = some o → ∀ a w, C w → Same ops a0 a → (∀ e ∈ o.after, Region.binds md e = true → Kn e.on a w) →
      wpOp P ops Q i (fun a' w' => ∃ v, a' = a.put o.dst v ∧ Rel i w w' ∧ Kn i (a.put o.dst v) w') a w)
    (hfin : ∀ a w, C w → Same ops a0 a → (∀ i, i < ops.size → Kn i a w) → Q .normal a w) :
    ∀ (f : Nat) (L : List Nat) (listed : Array Bool) (a : Act) (w : World), L.length ≤ f → listed.size = ops.size → (∀ i, i < ops.size → listed.getD i true = false → i ∈ L) → C w → Same ops a0 a →
      (∀ (j : Nat) (oj : Oper), ops[j]? = some oj → listed.getD j false = true → ∀ e ∈ oj.after, Region.binds md e = true → listed.getD e.on false = true) →
      (∀ i, i < ops.size → listed.getD i false = true → Kn i a w) → wpAny P md ops Q f listed a w := by
  have hfull : ∀ listed : Array Bool, listed.size = ops.size → Region.ready md ops listed = [] → ∀ (d i : Nat), i < d → i < ops.size → listed.getD i false = true := by
    intro listed hsz hr d
    induction d with
    | zero => intro i hi; omega
    | succ d ih =>
      intro i hi hin
      rcases Nat.lt_or_ge i d with h | h
      · exact ih i h hin
      · obtain rfl : i = d := by omega
        cases hl : listed.getD i false with
        | true => rfl
        | false =>
          have hmem : i ∈ Region.ready md ops listed := by
            rw [mem_ready]
            refine ⟨getD_in (by omega) hl, ops[i], Array.getElem?_eq_getElem hin, fun e he hb => ?_⟩
            have := hacyc i ops[i] (Array.getElem?_eq_getElem hin) e he hb
            exact ih e.on this (by omega)
          rw [hr] at hmem
          cases hmem
  intro f
  induction f with
  | zero =>
    intro L listed a w hL hsz hun hw hs hcl hk
    have hall : ∀ i, i < ops.size → listed.getD i false = true := by
      intro i hi
      cases hl : listed.getD i false with
      | true => rfl
      | false =>
        have := hun i hi (getD_in (by omega) hl)
        have hL0 : L = [] := List.length_eq_zero_iff.1 (by omega)
        rw [hL0] at this
        cases this
    have hr : Region.ready md ops listed = [] := by
      apply List.eq_nil_iff_forall_not_mem.2
      intro i hi
      obtain ⟨h1, o, ho, _⟩ := mem_ready.1 hi
      have hlt : i < ops.size := (Array.getElem?_eq_some_iff.1 ho).1
      have h2 := hall i hlt
      rw [getD_both h1] at h2
      cases h2
    exact ⟨hr, hfin a w hw hs (fun i hi => hk i hi (hall i hi))⟩
  | succ f ih =>
    intro L listed a w hL hsz hun hw hs hcl hk
    refine ⟨fun hr => hfin a w hw hs (fun i hi => hk i hi (hfull listed hsz hr _ i hi hi)), fun i hi => ?_⟩
    obtain ⟨hiun, o, ho, hall⟩ := mem_ready.1 hi
    have hlt : i < ops.size := (Array.getElem?_eq_some_iff.1 ho).1
    refine wpOp_mono ?_ (hop i o ho a w hw hs (fun e he hb => hk e.on (by have := hacyc i o ho e he hb; omega) (hall e he hb)))
    rintro a' w' ⟨v, rfl, hrel, hkn⟩
    have hiL := hun i hlt hiun
    refine ih (L.erase i) (listed.setIfInBounds i true) _ w' ?_ (by simpa using hsz) ?_ (hC i _ _ hw hrel) (hs.put ho v) ?_ ?_
    · rw [List.length_erase_of_mem hiL]; omega
    · intro j hj hjl
      rcases Nat.decEq j i with hji | hji
      · rw [getD_set_ne true (Ne.symm hji)] at hjl
        exact (List.mem_erase_of_ne hji).2 (hun j hj hjl)
      · subst hji
        rw [Array.getD_eq_getD_getElem?, Array.getElem?_setIfInBounds_self_of_lt (by omega)] at hjl
        cases hjl
    · intro j oj hoj hjl e he hb
      rcases Nat.decEq j i with hji | hji
      · rw [getD_set_ne false (Ne.symm hji)] at hjl
        exact getD_set_true (hcl j oj hoj hjl e he hb)
      · subst hji
        have : oj = o := Option.some.inj (hoj.symm.trans ho)
        subst this
        exact getD_set_true (hall e he hb)
    · intro j hj hjl
      rcases Nat.decEq j i with hji | hji
      · rw [getD_set_ne false (Ne.symm hji)] at hjl
        refine hkeep i j o (Ne.symm hji) ho ?_ a v w w' (hk j hj hjl) hrel
        cases hwf : Region.waitsFor md ops j i with
        | false => rfl
        | true =>
          obtain ⟨oj, hoj, e, he, hb, hon⟩ := Region.waitsFor_spec hwf
          have h1 := hcl j oj hoj hjl e he hb
          rw [hon, getD_both hiun] at h1
          cases h1
      · subst hji; exact hkn

/-! ### facts by lists: the values that are known ahead; what holds besides -/
def Kn (ops : Array Oper) (V : List (Option Value)) (Fs : List (Nat × (Act → World → Prop))) (i : Nat) (a : Act) (w : World) : Prop :=
  (∀ (o : Oper) (v : Value) (d : Tmp), ops[i]? = some o → V[i]? = some (some v) → o.dst = some d → a.tmps[d]? = some v) ∧ ∀ p ∈ Fs, p.1 = i → p.2 a w
/-- the region is fit for it -/
def looseB (ops : Array Oper) (n : Nat) : Bool :=
  (List.range ops.size).all fun i => match ops[i]? with
    | none => true
    | some o => (o.after.all fun e => !Region.binds .any e || decide (e.on < i)) &&
      (match o.dst with
       | none => true
       | some d => decide (d < n) && (List.range ops.size).all fun j => (i == j) || (match ops[j]? with
          | none => true
          | some oj => (oj.dst != some d) && (!(oj.looksAt ops).contains d || Region.waitsFor .any ops j i)))
theorem looseB_spec {n : Nat} (h : looseB ops n = true) : ∀ (i : Nat) (o : Oper), ops[i]? = some o → (∀ e ∈ o.after, Region.binds .any e = true → e.on < i) ∧
    ∀ d, o.dst = some d → d < n ∧ ∀ (j : Nat) (oj : Oper), i ≠ j → ops[j]? = some oj → oj.dst ≠ some d ∧ (d ∈ oj.looksAt ops → Region.waitsFor .any ops j i = true) := by
  intro i o ho
  have hlt : i < ops.size := (Array.getElem?_eq_some_iff.1 ho).1
  have h1 := List.all_eq_true.1 h i (List.mem_range.2 hlt)
  simp only [ho, Bool.and_eq_true] at h1
  refine ⟨fun e he hb => ?_, fun d hd => ?_⟩
  · have := Array.all_eq_true_iff_forall_mem.1 h1.1 e he
    simpa [hb] using this
  · have h2 := h1.2
    simp only [hd, Bool.and_eq_true, decide_eq_true_eq] at h2
    refine ⟨h2.1, fun j oj hij hoj => ?_⟩
    have hjlt : j < ops.size := (Array.getElem?_eq_some_iff.1 hoj).1
    have h3 := List.all_eq_true.1 h2.2 j (List.mem_range.2 hjlt)
    simp only [hoj, Bool.or_eq_true, Bool.and_eq_true, bne_iff_ne, beq_iff_eq] at h3
    rcases h3 with h3 | h3
    · exact absurd h3 hij
    · refine ⟨h3.1, fun hm => ?_⟩
      rcases h3.2 with h4 | h4
      · simp only [Bool.not_eq_true', List.contains_eq_mem, decide_eq_false_iff_not] at h4
        exact absurd hm h4
      · exact h4

/-- what operation i owes -/
def Owes (P : Program) (ops : Array Oper) (Q : Exit → Act → World → Prop) (C : World → Prop) (a0 : Act) (V : List (Option Value)) (Fs : List (Nat × (Act → World → Prop))) (Rel : Nat → World → World → Prop) (i : Nat) (o : Oper) : Prop :=
  ∀ (a : Act) (w : World) (K : Act → World → Prop), C w → Same ops a0 a → (∀ e ∈ o.after, Region.binds .any e = true → Kn ops V Fs e.on a w) →
    (∀ v w', Rel i w w' → (∀ v0, V[i]? = some (some v0) → v = v0) → (∀ p ∈ Fs, p.1 = i → p.2 (a.put o.dst v) w') → K (a.put o.dst v) w') →
    if Region.wanted o (yielded ops a.tmps) then o.wp P a w K Q else K (a.put o.dst undef) w
def AllOwe (P : Program) (ops : Array Oper) (Q : Exit → Act → World → Prop) (C : World → Prop) (a0 : Act) (V : List (Option Value)) (Fs : List (Nat × (Act → World → Prop))) (Rel : Nat → World → World → Prop) : List Oper → Nat → Prop
  | [], _ => True
  | o :: l, k => Owes P ops Q C a0 V Fs Rel k o ∧ AllOwe P ops Q C a0 V Fs Rel l (k + 1)
theorem AllOwe.at {V : List (Option Value)} {Fs : List (Nat × (Act → World → Prop))} {Rel : Nat → World → World → Prop} : ∀ (l : List Oper) (k : Nat), AllOwe P ops Q C a0 V Fs Rel l k → ∀ (j : Nat) (o : Oper), l[j]? = some o → Owes P ops Q C a0 V Fs Rel (k + j) o
  | [], _, _, j, o, ho => by simp at ho
  | x :: l, k, h, 0, o, ho => by
    simp only [List.getElem?_cons_zero, Option.some.injEq] at ho
    subst ho
    exact h.1
  | x :: l, k, h, j + 1, o, ho => by
    simp only [List.getElem?_cons_succ] at ho
    have := AllOwe.at l (k + 1) h.2 j o ho
    rwa [show k + 1 + j = k + (j + 1) by omega] at this

/-- the slots of an operation: its own and those that it looks at -/
def Oper.slots (ops : Array Oper) (i : Nat) : List Tmp := match ops[i]? with
  | none => []
  | some o => o.dst.toList ++ o.looksAt ops
theorem wpAny_loose {w : World} {l : List Oper} (V : List (Option Value)) (Fs : List (Nat × (Act → World → Prop))) (Rel : Nat → World → World → Prop)
    (hB : looseB l.toArray a0.tmps.size = true) (hCw : C w.drew) (hC : ∀ i w w', C w → Rel i w w' → C w')
    (hst : ∀ p ∈ Fs, ∀ (i : Nat) (a a' : Act) (w w' : World), i ≠ p.1 → Region.waitsFor .any l.toArray p.1 i = false → (∀ t, (Oper.slots l.toArray p.1).contains t = true → a'.tmps[t]? = a.tmps[t]?) → Rel i w w' → p.2 a w → p.2 a' w')
    (hop : AllOwe P l.toArray Q C a0 V Fs Rel l 0)
    (hfin : ∀ a w, C w → Same l.toArray a0 a → (∀ i, i < l.length → Kn l.toArray V Fs i a w) → Q .normal a w) : wpAny P .any l.toArray Q l.toArray.size (Array.replicate l.toArray.size false) a0 w.drew := by
  have hspec := looseB_spec hB
  refine (wpAny_inv (C := C) (a0 := a0) (Kn l.toArray V Fs) Rel (fun i o ho => (hspec i o ho).1) hC ?_ ?_ ?_ _ (List.range l.toArray.size) _ _ _ (by simp) (by simp) ?_ hCw (Same.refl _ _) ?_ ?_)
  · intro i j o hij ho hwf a v w w' hk hrel
    refine ⟨fun oj u d hoj hu hd => ?_, fun p hp hpj => ?_⟩
    · have h1 := hk.1 oj u d hoj hu hd
      unfold Act.put
      split
      · rename_i di hdi
        have hne : di ≠ d := fun e => ((hspec i o ho).2 di hdi).2 j oj hij hoj |>.1 (by rw [hd, e])
        show (a.tmps.setIfInBounds di v)[d]? = _
        rw [Array.getElem?_setIfInBounds_ne hne]
        exact h1
      · exact h1
    · refine hst p hp i a _ w w' (by rw [hpj]; exact hij) (by rw [hpj]; exact hwf) (fun t ht => ?_) hrel (hk.2 p hp hpj)
      rw [hpj, List.contains_iff_mem] at ht
      unfold Act.put
      split
      · rename_i di hdi
        show (a.tmps.setIfInBounds di v)[t]? = _
        have hne : di ≠ t := by
          intro e
          subst e
          unfold Oper.slots at ht
          split at ht
          · cases ht
          · rename_i oj hoj
            have h2 := ((hspec i o ho).2 di hdi).2 j oj hij hoj
            rcases List.mem_append.1 ht with h3 | h3
            · rw [Option.mem_toList] at h3
              exact h2.1 h3
            · rw [h2.2 h3] at hwf
              cases hwf
        rw [Array.getElem?_setIfInBounds_ne hne]
      · rfl
  · intro i o ho a w hw hs hk
    have h := AllOwe.at l 0 hop i o (by simpa using ho)
    rw [Nat.zero_add] at h
    unfold wpOp
    simp only [ho]
    have hput : ∀ (v : Value) (w' : World), Rel i w w' → (∀ v0, V[i]? = some (some v0) → v = v0) → (∀ p ∈ Fs, p.1 = i → p.2 (a.put o.dst v) w') → ∃ u, a.put o.dst v = a.put o.dst u ∧ Rel i w w' ∧ Kn l.toArray V Fs i (a.put o.dst u) w' := by
      intro v w' hr hv hf
      refine ⟨v, rfl, hr, fun oj u d hoj hu hd => ?_, hf⟩
      have : oj = o := Option.some.inj (hoj.symm.trans ho)
      subst this
      have hvu := hv u hu
      subst hvu
      have hlt := ((hspec i oj ho).2 d hd).1
      unfold Act.put
      rw [hd]
      show (a.tmps.setIfInBounds d v)[d]? = _
      rw [Array.getElem?_setIfInBounds_self_of_lt (by rw [hs.2.1]; exact hlt)]
    have h' := h a w (fun a' w' => ∃ u, a' = a.put o.dst u ∧ Rel i w w' ∧ Kn l.toArray V Fs i (a.put o.dst u) w') hw hs hk hput
    split
    · rename_i hwt
      rw [if_pos hwt] at h'
      exact .inl h'
    · rename_i hwt
      rw [if_neg hwt] at h'
      exact h'
  · intro a w hw hs hk
    exact hfin a w hw hs (fun i hi => hk i (by simpa using hi))
  · intro i hi _
    simpa using hi
  · intro j oj _ hl
    rw [getD_replicate_false] at hl
    cases hl
  · intro i _ hl
    rw [getD_replicate_false] at hl
    cases hl

theorem wp_region_loose {id : Nat} {w : World} {l : List Oper} (V : List (Option Value)) (Fs : List (Nat × (Act → World → Prop))) (Rel : Nat → World → World → Prop)
    (hm : P.follows .mixedOrders = true) (hB : looseB l.toArray a0.tmps.size = true) (hCw : C w.drew) (hC : ∀ i w w', C w → Rel i w w' → C w')
    (hst : ∀ p ∈ Fs, ∀ (i : Nat) (a a' : Act) (w w' : World), i ≠ p.1 → Region.waitsFor .any l.toArray p.1 i = false → (∀ t, (Oper.slots l.toArray p.1).contains t = true → a'.tmps[t]? = a.tmps[t]?) → Rel i w w' → p.2 a w → p.2 a' w')
    (hop : AllOwe P l.toArray Q C a0 V Fs Rel l 0)
    (hfin : ∀ a w, C w → Same l.toArray a0 a → (∀ i, i < l.length → Kn l.toArray V Fs i a w) → Q .normal a w) : (Code.region id l.toArray true).wp P Q a0 w :=
  wp_region_any hm (wpAny_loose V Fs Rel hB hCw hC hst hop hfin)

end
/-! ### words for its use -/
def noDst (ops : Array Oper) (t : Tmp) : Bool := ops.all fun o => o.dst != some t
theorem Same.at {ops : Array Oper} {a0 a : Act} (h : Same ops a0 a) (t : Tmp) (hno : noDst ops t = true) {v : Value} (hv : a0.tmps[t]? = some v) : a.tmps[t]? = some v := by
  rw [h.2.2 t (fun i o ho e => by
    have := Array.all_eq_true_iff_forall_mem.1 hno o (Array.mem_of_getElem? ho)
    rw [e] at this
    simp at this)]
  exact hv
theorem Kn.at {ops : Array Oper} {V : List (Option Value)} {Fs : List (Nat × (Act → World → Prop))} {i : Nat} {a : Act} {w : World} (h : Kn ops V Fs i a w) {o : Oper} {d : Tmp} {v : Value} (ho : ops[i]? = some o) (hd : o.dst = some d) (hv : V[i]? = some (some v)) : a.tmps[d]? = some v := h.1 o v d ho hv hd
theorem waits_on {ops : Array Oper} {V : List (Option Value)} {Fs : List (Nat × (Act → World → Prop))} {a : Act} {w : World} {o : Oper} (h : ∀ e ∈ o.after, Region.binds .any e = true → Kn ops V Fs e.on a w) (j : Nat)
    (hj : (o.after.any fun e => Region.binds .any e && e.on == j) = true) : Kn ops V Fs j a w := by
  obtain ⟨e, he, hb⟩ := Array.any_eq_true'.1 hj
  simp only [Bool.and_eq_true, beq_iff_eq] at hb
  rw [← hb.2]
  exact h e he hb.1
theorem vok {V : List (Option Value)} {i : Nat} {v : Value} (h : V[i]? = some (some v)) : ∀ v0, V[i]? = some (some v0) → v = v0 := fun v0 h0 => by
  rw [h] at h0
  exact Option.some.inj (Option.some.inj h0)
theorem vfree {V : List (Option Value)} {i : Nat} {v : Value} (h : V[i]? = some none) : ∀ v0, V[i]? = some (some v0) → v = v0 := fun v0 h0 => by
  rw [h] at h0
  cases h0
theorem facts_nil {i : Nat} {a : Act} {w : World} : ∀ p ∈ ([] : List (Nat × (Act → World → Prop))), p.1 = i → p.2 a w := fun p hp => by cases hp
theorem facts_cons {i j : Nat} {F : Act → World → Prop} {Fs : List (Nat × (Act → World → Prop))} {a : Act} {w : World} (h1 : j = i → F a w) (h2 : ∀ p ∈ Fs, p.1 = i → p.2 a w) : ∀ p ∈ (j, F) :: Fs, p.1 = i → p.2 a w := fun p hp hi => by
  rcases List.mem_cons.1 hp with rfl | hp
  · exact h1 hi
  · exact h2 p hp hi
section
variable {ops : Array Oper} {Rel : Nat → World → World → Prop}
theorem keeps_nil : ∀ p ∈ ([] : List (Nat × (Act → World → Prop))), ∀ (i : Nat) (a a' : Act) (w w' : World), i ≠ p.1 → Region.waitsFor .any ops p.1 i = false → (∀ t, (Oper.slots ops p.1).contains t = true → a'.tmps[t]? = a.tmps[t]?) → Rel i w w' → p.2 a w → p.2 a' w' := fun p hp => by cases hp
theorem keeps_cons {j : Nat} {F : Act → World → Prop} {Fs : List (Nat × (Act → World → Prop))} (h1 : ∀ (i : Nat) (a a' : Act) (w w' : World), i ≠ j → Region.waitsFor .any ops j i = false → (∀ t, (Oper.slots ops j).contains t = true → a'.tmps[t]? = a.tmps[t]?) → Rel i w w' → F a w → F a' w')
    (h2 : ∀ p ∈ Fs, ∀ (i : Nat) (a a' : Act) (w w' : World), i ≠ p.1 → Region.waitsFor .any ops p.1 i = false → (∀ t, (Oper.slots ops p.1).contains t = true → a'.tmps[t]? = a.tmps[t]?) → Rel i w w' → p.2 a w → p.2 a' w') :
    ∀ p ∈ (j, F) :: Fs, ∀ (i : Nat) (a a' : Act) (w w' : World), i ≠ p.1 → Region.waitsFor .any ops p.1 i = false → (∀ t, (Oper.slots ops p.1).contains t = true → a'.tmps[t]? = a.tmps[t]?) → Rel i w w' → p.2 a w → p.2 a' w' := fun p hp => by
  rcases List.mem_cons.1 hp with rfl | hp
  · exact h1
  · exact h2 p hp
end
/-- guards -/
theorem want_free {o : Oper} {f : Nat → Option Bool} (hg : o.guard = none) : Region.wanted o f = true := by unfold Region.wanted; rw [hg]
theorem want_yes {ops : Array Oper} {a : Act} {o og : Oper} {g : Nat} {b : Bool} {d : Tmp} (hg : o.guard = some (g, b)) (ho : ops[g]? = some og) (hd : og.dst = some d) (hv : a.tmps[d]? = some (.bool b)) : Region.wanted o (yielded ops a.tmps) = true := by
  unfold Region.wanted yielded
  rw [hg]
  simp [ho, hd, hv]
theorem want_no {ops : Array Oper} {a : Act} {o og : Oper} {g : Nat} {b c : Bool} {d : Tmp} (hg : o.guard = some (g, b)) (ho : ops[g]? = some og) (hd : og.dst = some d) (hv : a.tmps[d]? = some (.bool c)) (hbc : (c == b) = false) : ¬ Region.wanted o (yielded ops a.tmps) = true := by
  unfold Region.wanted yielded
  rw [hg]
  simp only [ho, hd, hv, Option.bind_some]
  cases b <;> cases c <;> simp_all
/-- the frame at the end -/
def litT (T : Array Value) : List (Tmp × Value) → Array Value
  | [] => T
  | p :: l => litT (T.setIfInBounds p.1 p.2) l
theorem litT_size : ∀ (l : List (Tmp × Value)) (T : Array Value), (litT T l).size = T.size
  | [], _ => rfl
  | p :: l, T => by show (litT (T.setIfInBounds p.1 p.2) l).size = _; rw [litT_size l]; simp
theorem litT_other : ∀ (l : List (Tmp × Value)) (T : Array Value) (t : Tmp), (∀ p ∈ l, p.1 ≠ t) → (litT T l)[t]? = T[t]?
  | [], _, _, _ => rfl
  | p :: l, T, t, h => by
    show (litT (T.setIfInBounds p.1 p.2) l)[t]? = _
    rw [litT_other l _ t (fun q hq => h q (List.mem_cons_of_mem _ hq)), Array.getElem?_setIfInBounds_ne (h p (List.mem_cons_self ..))]
theorem litT_in (u : Tmp → Option Value) : ∀ (l : List (Tmp × Value)) (T : Array Value) (t : Tmp), (∀ p ∈ l, u p.1 = some p.2) → (∃ p ∈ l, p.1 = t) → t < T.size → (litT T l)[t]? = u t
  | [], _, _, _, ⟨p, hp, _⟩, _ => by cases hp
  | p :: l, T, t, h, hex, ht => by
    show (litT (T.setIfInBounds p.1 p.2) l)[t]? = _
    by_cases hl : ∃ q ∈ l, q.1 = t
    · exact litT_in u l _ t (fun q hq => h q (List.mem_cons_of_mem _ hq)) hl (by simpa using ht)
    · rw [litT_other l _ t (fun q hq e => hl ⟨q, hq, e⟩)]
      obtain ⟨q, hq, hqt⟩ := hex
      rcases List.mem_cons.1 hq with rfl | hq
      · subst hqt
        rw [Array.getElem?_setIfInBounds_self_of_lt ht, h q (List.mem_cons_self ..)]
      · exact absurd ⟨q, hq, hqt⟩ hl
def coverB (ops : Array Oper) (l : List (Tmp × Value)) : Bool := ops.all fun o => match o.dst with | none => true | some d => l.any fun p => p.1 == d
theorem Same.lit {ops : Array Oper} {a0 a : Act} (h : Same ops a0 a) (l : List (Tmp × Value)) (hc : coverB ops l = true) (hv : ∀ p ∈ l, a.tmps[p.1]? = some p.2) : a = ⟨litT a0.tmps l, a0.defers⟩ := by
  have ht : a.tmps = litT a0.tmps l := by
    apply Array.ext_getElem?
    intro t
    by_cases hex : ∃ p ∈ l, p.1 = t
    · rcases Nat.lt_or_ge t a0.tmps.size with hlt | hge
      · rw [litT_in (fun t => a.tmps[t]?) l _ t hv hex hlt]
      · rw [Array.getElem?_eq_none (by rw [h.2.1]; exact hge), Array.getElem?_eq_none (by rw [litT_size]; exact hge)]
    · rw [litT_other l _ t (fun p hp e => hex ⟨p, hp, e⟩)]
      refine h.2.2 t (fun i o ho e => hex ?_)
      have h1 := Array.all_eq_true_iff_forall_mem.1 hc o (Array.mem_of_getElem? ho)
      simp only [e, List.any_eq_true, beq_iff_eq] at h1
      exact h1
  cases a
  simp only at ht
  rw [ht]
  have := h.1
  simp only at this
  rw [this]
theorem lits_nil {a : Act} : ∀ p ∈ ([] : List (Tmp × Value)), a.tmps[p.1]? = some p.2 := fun p hp => by cases hp
theorem lits_cons {a : Act} {d : Tmp} {v : Value} {l : List (Tmp × Value)} (h : a.tmps[d]? = some v) (h' : ∀ p ∈ l, a.tmps[p.1]? = some p.2) : ∀ p ∈ (d, v) :: l, a.tmps[p.1]? = some p.2 := fun p hp => by
  rcases List.mem_cons.1 hp with rfl | hp
  · exact h
  · exact h' p hp
/-! ### a store into a box that the region made -/
def BoxRel (B : Nat) (T : TypeId) (w w' : World) : Prop := Below B w w' ∧ (∀ b t cs, t ≠ T → Blk w b t cs → Blk w' b t cs) ∧ ∀ b cs, Blk w b T cs → ∃ cs', cs'.size = cs.size ∧ Blk w' b T cs'
theorem BoxRel.refl (B : Nat) (T : TypeId) (w : World) : BoxRel B T w w := ⟨Below.refl _ _, fun _ _ _ _ h => h, fun _ cs h => ⟨cs, rfl, h⟩⟩
theorem BoxRel.set_ {B : Nat} {T : TypeId} {w w' : World} (h : BoxRel B T w w') {b : Nat} {cs : Array Value} (hb : Blk w' b T cs) (hB : B ≤ b) (i : Nat) (v : Value) : BoxRel B T w (w'.setCell ⟨b, i, none⟩ v) := by
  refine ⟨h.1.setCell hB v, fun g t cs' ht hg => ?_, fun g cs' hg => ?_⟩
  · have h1 := h.2.1 g t cs' ht hg
    have hne : g ≠ b := by
      rintro rfl
      unfold Blk at h1 hb
      rw [h1] at hb
      cases hb
      exact ht rfl
    exact h1.far (p := ⟨b, i, none⟩) hne v
  · obtain ⟨c2, hs, h1⟩ := h.2.2 g cs' hg
    rcases Nat.decEq g b with hne | hne
    · exact ⟨c2, hs, h1.far (p := ⟨b, i, none⟩) hne v⟩
    · subst hne
      exact ⟨_, by rw [Array.size_setIfInBounds]; exact hs, h1.set_ i v⟩
theorem size2 {cs : Array Value} (h : cs.size = 2) : ∃ x y, cs = #[x, y] := by
  rcases cs with ⟨l⟩
  match l, h with
  | [x, y], _ => exact ⟨x, y, rfl⟩
/-- a box of two cells, what it holds unknown -/
def Box2 (B : Nat) (T : TypeId) (s : Tmp) (a : Act) (w : World) : Prop := ∃ b x y, a.tmps[s]? = some (.pointer (some ⟨b, 0, none⟩)) ∧ B ≤ b ∧ Blk w b T #[x, y]
/-- .. known -/
def BoxIs (B : Nat) (T : TypeId) (s : Tmp) (cs : Array Value) (a : Act) (w : World) : Prop := ∃ b, a.tmps[s]? = some (.pointer (some ⟨b, 0, none⟩)) ∧ B ≤ b ∧ Blk w b T cs
theorem Box2.keep {B : Nat} {T : TypeId} {s : Tmp} {a a' : Act} {w w' : World} (h : Box2 B T s a w) (hs : a'.tmps[s]? = a.tmps[s]?) (hr : BoxRel B T w w' ∨ Below w.heap.size w w') : Box2 B T s a' w' := by
  obtain ⟨b, x, y, h1, h2, h3⟩ := h
  rcases hr with hr | hr
  · obtain ⟨cs', hsz, h4⟩ := hr.2.2 _ _ h3
    obtain ⟨x', y', rfl⟩ := size2 (cs := cs') (by rw [hsz]; rfl)
    exact ⟨b, x', y', hs.trans h1, h2, h4⟩
  · exact ⟨b, x, y, hs.trans h1, h2, h3.to hr⟩
theorem BoxIs.keep {B : Nat} {T : TypeId} {s : Tmp} {cs : Array Value} {a a' : Act} {w w' : World} (h : BoxIs B T s cs a w) (hs : a'.tmps[s]? = a.tmps[s]?) (hr : Below w.heap.size w w') : BoxIs B T s cs a' w' := by
  obtain ⟨b, h1, h2, h3⟩ := h
  exact ⟨b, hs.trans h1, h2, h3.to hr⟩
/-- a slice that the region made -/
def RowIs (t : TypeId) (s : Tmp) (n : Nat) (cs : Array Value) (a : Act) (w : World) : Prop := ∃ b, a.tmps[s]? = some (.slice (some ⟨b, 0, none⟩) n n) ∧ Blk w b t cs
theorem RowIs.keep {t : TypeId} {s : Tmp} {n : Nat} {cs : Array Value} {a a' : Act} {w w' : World} (h : RowIs t s n cs a w) (hs : a'.tmps[s]? = a.tmps[s]?) (hr : (∃ B T, t ≠ T ∧ BoxRel B T w w') ∨ Below w.heap.size w w') : RowIs t s n cs a' w' := by
  obtain ⟨b, h1, h3⟩ := h
  rcases hr with ⟨B, T, ht, hr⟩ | hr
  · exact ⟨b, hs.trans h1, hr.2.1 _ _ _ ht h3⟩
  · exact ⟨b, hs.trans h1, h3.to hr⟩
theorem Same.put_at {ops : Array Oper} {a0 a : Act} (h : Same ops a0 a) {s : Tmp} (hs : (decide (s < a0.tmps.size)) = true) (v : Value) : (a.put (some s) v).tmps[s]? = some v := by
  show (a.tmps.setIfInBounds s v)[s]? = _
  rw [Array.getElem?_setIfInBounds_self_of_lt (by rw [h.2.1]; exact of_decide_eq_true hs)]
/-! ### the same in a class of worlds that one letter names -/
section
variable {P : Program} {ops : Array Oper} {Q : Exit → Act → World → Prop} {a0 : Act} {U : Type} {g : U → World}
def OwesG (P : Program) (ops : Array Oper) (Q : Exit → Act → World → Prop) (g : U → World) (a0 : Act) (V : List (Option Value)) (Fs : List (Nat × (Act → World → Prop))) (Rel : Nat → World → World → Prop) (i : Nat) (o : Oper) : Prop :=
  ∀ (a : Act) (u : U) (K : Act → World → Prop), Same ops a0 a → (∀ e ∈ o.after, Region.binds .any e = true → Kn ops V Fs e.on a (g u)) →
    (∀ v w', Rel i (g u) w' → (∀ v0, V[i]? = some (some v0) → v = v0) → (∀ p ∈ Fs, p.1 = i → p.2 (a.put o.dst v) w') → K (a.put o.dst v) w') →
    if Region.wanted o (yielded ops a.tmps) then o.wp P a (g u) K Q else K (a.put o.dst undef) (g u)
def AllOweG (P : Program) (ops : Array Oper) (Q : Exit → Act → World → Prop) (g : U → World) (a0 : Act) (V : List (Option Value)) (Fs : List (Nat × (Act → World → Prop))) (Rel : Nat → World → World → Prop) : List Oper → Nat → Prop
  | [], _ => True
  | o :: l, k => OwesG P ops Q g a0 V Fs Rel k o ∧ AllOweG P ops Q g a0 V Fs Rel l (k + 1)
theorem AllOweG.all {V : List (Option Value)} {Fs : List (Nat × (Act → World → Prop))} {Rel : Nat → World → World → Prop} : ∀ (l : List Oper) (k : Nat), AllOweG P ops Q g a0 V Fs Rel l k → AllOwe P ops Q (fun w' => ∃ u, w' = g u) a0 V Fs Rel l k
  | [], _, _ => trivial
  | o :: l, k, h => ⟨fun a w K hw hs hd hK => by
      obtain ⟨u, rfl⟩ := hw
      exact h.1 a u K hs hd hK, AllOweG.all l (k + 1) h.2⟩
theorem wpAny_looseG {w : World} {l : List Oper} (g : U → World) (V : List (Option Value)) (Fs : List (Nat × (Act → World → Prop))) (Rel : Nat → World → World → Prop)
    (hB : looseB l.toArray a0.tmps.size = true) (hCw : ∃ u, w.drew = g u) (hC : ∀ i u w', Rel i (g u) w' → ∃ u', w' = g u')
    (hst : ∀ p ∈ Fs, ∀ (i : Nat) (a a' : Act) (w w' : World), i ≠ p.1 → Region.waitsFor .any l.toArray p.1 i = false → (∀ t, (Oper.slots l.toArray p.1).contains t = true → a'.tmps[t]? = a.tmps[t]?) → Rel i w w' → p.2 a w → p.2 a' w')
    (hop : AllOweG P l.toArray Q g a0 V Fs Rel l 0)
    (hfin : ∀ a u, Same l.toArray a0 a → (∀ i, i < l.length → Kn l.toArray V Fs i a (g u)) → Q .normal a (g u)) : wpAny P .any l.toArray Q l.toArray.size (Array.replicate l.toArray.size false) a0 w.drew :=
  wpAny_loose (C := fun w' => ∃ u, w' = g u) V Fs Rel hB hCw (fun i w w' hw hr => by obtain ⟨u, rfl⟩ := hw; exact hC i u w' hr) hst (AllOweG.all l 0 hop)
    (fun a w hw hs hk => by obtain ⟨u, rfl⟩ := hw; exact hfin a u hs hk)
theorem wp_region_looseG {id : Nat} {w : World} {l : List Oper} (g : U → World) (V : List (Option Value)) (Fs : List (Nat × (Act → World → Prop))) (Rel : Nat → World → World → Prop)
    (hm : P.follows .mixedOrders = true) (hB : looseB l.toArray a0.tmps.size = true) (hCw : ∃ u, w.drew = g u) (hC : ∀ i u w', Rel i (g u) w' → ∃ u', w' = g u')
    (hst : ∀ p ∈ Fs, ∀ (i : Nat) (a a' : Act) (w w' : World), i ≠ p.1 → Region.waitsFor .any l.toArray p.1 i = false → (∀ t, (Oper.slots l.toArray p.1).contains t = true → a'.tmps[t]? = a.tmps[t]?) → Rel i w w' → p.2 a w → p.2 a' w')
    (hop : AllOweG P l.toArray Q g a0 V Fs Rel l 0)
    (hfin : ∀ a u, Same l.toArray a0 a → (∀ i, i < l.length → Kn l.toArray V Fs i a (g u)) → Q .normal a (g u)) : (Code.region id l.toArray true).wp P Q a0 w :=
  wp_region_loose (C := fun w' => ∃ u, w' = g u) V Fs Rel hm hB hCw (fun i w w' hw hr => by obtain ⟨u, rfl⟩ := hw; exact hC i u w' hr) hst (AllOweG.all l 0 hop)
    (fun a w hw hs hk => by obtain ⟨u, rfl⟩ := hw; exact hfin a u hs hk)
end
/-- the drawn regions' spelling of a whole number that fits -/
theorem w64 {x : Int} (h0 : -9223372036854775808 ≤ x) (h1 : x < 9223372036854775808) : IntKind.i64.wrap x = x := by
  rw [IntKind.wrap_i64]; omega
/-! ### stores into an old block f, whose contents go through the stages cs 0 .. cs m -/
structure OldI (f : Nat) (T : TypeId) (cs : Nat → Array Value) (m : Nat) (w1 w : World) : Prop where
  below : Below f w1 w
  st : ∃ s, s ≤ m ∧ Blk w f T (cs s)
/-- at stage k or later -/
def StF (f : Nat) (T : TypeId) (cs : Nat → Array Value) (m k : Nat) (_ : Act) (w : World) : Prop := ∃ s, k ≤ s ∧ s ≤ m ∧ Blk w f T (cs s)
def RelS (f : Nat) (T : TypeId) (cs : Nat → Array Value) (m k : Nat) (w w' : World) : Prop := Below f w w' ∧ (∀ g t c, g ≠ f → Blk w g t c → Blk w' g t c) ∧ ∃ s, k ≤ s ∧ s ≤ m ∧ Blk w' f T (cs s)
section
variable {f m k : Nat} {T : TypeId} {cs : Nat → Array Value} {w1 w w' : World}
theorem OldI.step (h : OldI f T cs m w1 w) (hb : Below w.heap.size w w') : OldI f T cs m w1 w' := by
  obtain ⟨s, hs, hB⟩ := h.st
  exact ⟨h.below.trans (hb.mono (Nat.le_of_lt hB.lt)), s, hs, hB.to hb⟩
theorem OldI.store (h : OldI f T cs m w1 w) (hr : RelS f T cs m k w w') : OldI f T cs m w1 w' := by
  obtain ⟨s, _, hs, hB⟩ := hr.2.2
  exact ⟨h.below.trans hr.1, s, hs, hB⟩
theorem RelS.mk_ {s0 s i : Nat} {v : Value} (hB : Blk w f T (cs s0)) (he : (cs s0).setIfInBounds i v = cs s) (hk : k ≤ s) (hm : s ≤ m) : RelS f T cs m k w (w.setCell ⟨f, i, none⟩ v) :=
  ⟨(Below.refl f w).setCell (Nat.le_refl _) v, fun g t c hg h => h.far (p := ⟨f, i, none⟩) hg v, s, hk, hm, by rw [← he]; exact hB.set_ i v⟩
theorem StF.step {a a' : Act} (h : StF f T cs m k a w) (hb : Below w.heap.size w w') : StF f T cs m k a' w' := by
  obtain ⟨s, h1, h2, hB⟩ := h
  exact ⟨s, h1, h2, hB.to hb⟩
theorem StF.later {a' : Act} {j : Nat} (hr : RelS f T cs m j w w') (hj : k ≤ j) : StF f T cs m k a' w' := by
  obtain ⟨s, h1, h2, hB⟩ := hr.2.2
  exact ⟨s, by omega, h2, hB⟩
/-- a slice that the region made, not the old block -/
def RowOf (f : Nat) (t : TypeId) (s : Tmp) (n : Nat) (c : Array Value) (a : Act) (w : World) : Prop := ∃ b, a.tmps[s]? = some (.slice (some ⟨b, 0, none⟩) n n) ∧ b ≠ f ∧ Blk w b t c
theorem RowOf.keep {t : TypeId} {s : Tmp} {n : Nat} {c : Array Value} {a a' : Act} (h : RowOf f t s n c a w) (hs : a'.tmps[s]? = a.tmps[s]?) (hr : (∃ j, RelS f T cs m j w w') ∨ Below w.heap.size w w') : RowOf f t s n c a' w' := by
  obtain ⟨b, h1, h2, h3⟩ := h
  rcases hr with ⟨j, hr⟩ | hr
  · exact ⟨b, hs.trans h1, h2, hr.2.1 _ _ _ h2 h3⟩
  · exact ⟨b, hs.trans h1, h2, h3.to hr⟩
end
theorem size1 {cs : Array Value} (h : cs.size = 1) : ∃ x0, cs = #[x0] := by
  rcases cs with ⟨l⟩
  match l, h with
  | [x0], _ => exact ⟨x0, rfl⟩
def Box1 (B : Nat) (T : TypeId) (s : Tmp) (a : Act) (w : World) : Prop := ∃ b x0, a.tmps[s]? = some (.pointer (some ⟨b, 0, none⟩)) ∧ B ≤ b ∧ Blk w b T #[x0]
theorem Box1.keep {B : Nat} {T : TypeId} {s : Tmp} {a a' : Act} {w w' : World} (h : Box1 B T s a w) (hs : a'.tmps[s]? = a.tmps[s]?) (hr : BoxRel B T w w' ∨ Below w.heap.size w w') : Box1 B T s a' w' := by
  obtain ⟨b, x0, h1, h2, h3⟩ := h
  rcases hr with hr | hr
  · obtain ⟨cs', hsz, h4⟩ := hr.2.2 _ _ h3
    obtain ⟨y0, rfl⟩ := size1 (cs := cs') (by rw [hsz]; rfl)
    exact ⟨b, y0, hs.trans h1, h2, h4⟩
  · exact ⟨b, x0, hs.trans h1, h2, h3.to hr⟩
theorem size3 {cs : Array Value} (h : cs.size = 3) : ∃ x0 x1 x2, cs = #[x0, x1, x2] := by
  rcases cs with ⟨l⟩
  match l, h with
  | [x0, x1, x2], _ => exact ⟨x0, x1, x2, rfl⟩
def Box3 (B : Nat) (T : TypeId) (s : Tmp) (a : Act) (w : World) : Prop := ∃ b x0 x1 x2, a.tmps[s]? = some (.pointer (some ⟨b, 0, none⟩)) ∧ B ≤ b ∧ Blk w b T #[x0, x1, x2]
theorem Box3.keep {B : Nat} {T : TypeId} {s : Tmp} {a a' : Act} {w w' : World} (h : Box3 B T s a w) (hs : a'.tmps[s]? = a.tmps[s]?) (hr : BoxRel B T w w' ∨ Below w.heap.size w w') : Box3 B T s a' w' := by
  obtain ⟨b, x0, x1, x2, h1, h2, h3⟩ := h
  rcases hr with hr | hr
  · obtain ⟨cs', hsz, h4⟩ := hr.2.2 _ _ h3
    obtain ⟨y0, y1, y2, rfl⟩ := size3 (cs := cs') (by rw [hsz]; rfl)
    exact ⟨b, y0, y1, y2, hs.trans h1, h2, h4⟩
  · exact ⟨b, x0, x1, x2, hs.trans h1, h2, h3.to hr⟩
theorem size4 {cs : Array Value} (h : cs.size = 4) : ∃ x0 x1 x2 x3, cs = #[x0, x1, x2, x3] := by
  rcases cs with ⟨l⟩
  match l, h with
  | [x0, x1, x2, x3], _ => exact ⟨x0, x1, x2, x3, rfl⟩
def Box4 (B : Nat) (T : TypeId) (s : Tmp) (a : Act) (w : World) : Prop := ∃ b x0 x1 x2 x3, a.tmps[s]? = some (.pointer (some ⟨b, 0, none⟩)) ∧ B ≤ b ∧ Blk w b T #[x0, x1, x2, x3]
theorem Box4.keep {B : Nat} {T : TypeId} {s : Tmp} {a a' : Act} {w w' : World} (h : Box4 B T s a w) (hs : a'.tmps[s]? = a.tmps[s]?) (hr : BoxRel B T w w' ∨ Below w.heap.size w w') : Box4 B T s a' w' := by
  obtain ⟨b, x0, x1, x2, x3, h1, h2, h3⟩ := h
  rcases hr with hr | hr
  · obtain ⟨cs', hsz, h4⟩ := hr.2.2 _ _ h3
    obtain ⟨y0, y1, y2, y3, rfl⟩ := size4 (cs := cs') (by rw [hsz]; rfl)
    exact ⟨b, y0, y1, y2, y3, hs.trans h1, h2, h4⟩
  · exact ⟨b, x0, x1, x2, x3, hs.trans h1, h2, h3.to hr⟩
theorem size5 {cs : Array Value} (h : cs.size = 5) : ∃ x0 x1 x2 x3 x4, cs = #[x0, x1, x2, x3, x4] := by
  rcases cs with ⟨l⟩
  match l, h with
  | [x0, x1, x2, x3, x4], _ => exact ⟨x0, x1, x2, x3, x4, rfl⟩
def Box5 (B : Nat) (T : TypeId) (s : Tmp) (a : Act) (w : World) : Prop := ∃ b x0 x1 x2 x3 x4, a.tmps[s]? = some (.pointer (some ⟨b, 0, none⟩)) ∧ B ≤ b ∧ Blk w b T #[x0, x1, x2, x3, x4]
theorem Box5.keep {B : Nat} {T : TypeId} {s : Tmp} {a a' : Act} {w w' : World} (h : Box5 B T s a w) (hs : a'.tmps[s]? = a.tmps[s]?) (hr : BoxRel B T w w' ∨ Below w.heap.size w w') : Box5 B T s a' w' := by
  obtain ⟨b, x0, x1, x2, x3, x4, h1, h2, h3⟩ := h
  rcases hr with hr | hr
  · obtain ⟨cs', hsz, h4⟩ := hr.2.2 _ _ h3
    obtain ⟨y0, y1, y2, y3, y4, rfl⟩ := size5 (cs := cs') (by rw [hsz]; rfl)
    exact ⟨b, y0, y1, y2, y3, y4, hs.trans h1, h2, h4⟩
  · exact ⟨b, x0, x1, x2, x3, x4, hs.trans h1, h2, h3.to hr⟩
theorem evt {a : Act} {t : Tmp} {v : Value} (h : a.tmps[t]? = some v) : a.eval (.tmp t) = v := by
  show a.tmps.getD t undef = v
  rw [Array.getD_eq_getD_getElem?, h]; rfl
end Go.Proofs.Ytnpdhbagfkilkaa
