/- A drawn region whose relations know the frame ahead of and behind an operation. -/
import Derived.Test.YtnpdhbagfkilkaaLo2
import Derived.Test.YtnpdhbagfkilkaaLoose
set_option linter.unusedVariables false
set_option linter.unusedSimpArgs false
namespace Go.Proofs.Ytnpdhbagfkilkaa
open Go Go.RowKit

/-- the region is fit for it -/
def looseB3 (ops : Array Oper) (n : Nat) (js : List Nat) : Bool :=
  (List.range ops.size).all fun i => match ops[i]? with
    | none => true
    | some o => (o.after.all fun e => !Region.binds .any e || decide (e.on < i)) &&
      (match o.dst with
       | none => true
       | some d => decide (d < n) && (List.range ops.size).all fun j => (i == j) || (match ops[j]? with
          | none => true
          | some oj => (oj.dst != some d) && (!js.contains j || !(oj.looksAt ops).contains d || Region.waitsFor .any ops j i)))
theorem looseB3_spec {ops : Array Oper} {n : Nat} {js : List Nat} (h : looseB3 ops n js = true) : ∀ (i : Nat) (o : Oper), ops[i]? = some o → (∀ e ∈ o.after, Region.binds .any e = true → e.on < i) ∧
    ∀ d, o.dst = some d → d < n ∧ ∀ (j : Nat) (oj : Oper), i ≠ j → ops[j]? = some oj → oj.dst ≠ some d ∧ (j ∈ js → d ∈ oj.looksAt ops → Region.waitsFor .any ops j i = true) := by
  intro i o ho
  have hlt : i < ops.size := (Array.getElem?_eq_some_iff.1 ho).1
  have h1 := List.all_eq_true.1 h i (List.mem_range.2 hlt)
  simp only [ho, Bool.and_eq_true] at h1
  refine ⟨fun e he hb => ?_, fun d hd => ?_⟩
  · have := Array.all_eq_true_iff_forall_mem.1 h1.1 e he
    simpa [hb] using this
  · have h2 := h1.2
    simp only [hd, Bool.and_eq_true, decide_eq_true_eq] at h2
    refine ⟨h2.1, fun j oj hij hoj => ?_⟩
    have hjlt : j < ops.size := (Array.getElem?_eq_some_iff.1 hoj).1
    have h3 := List.all_eq_true.1 h2.2 j (List.mem_range.2 hjlt)
    simp only [hoj, Bool.or_eq_true, Bool.and_eq_true, bne_iff_ne, beq_iff_eq] at h3
    rcases h3 with h3 | h3
    · exact absurd h3 hij
    · refine ⟨h3.1, fun hjm hm => ?_⟩
      rcases h3.2 with (h4 | h4) | h4
      · simp only [Bool.not_eq_true', List.contains_eq_mem, decide_eq_false_iff_not] at h4
        exact absurd hjm h4
      · simp only [Bool.not_eq_true', List.contains_eq_mem, decide_eq_false_iff_not] at h4
        exact absurd hm h4
      · exact h4

section
variable {P : Program} {ops : Array Oper} {Q : Exit → Act → World → Prop} {md : Region.Mode} {C : World → Prop} {a0 : Act}
theorem wpAny_pre3 (Kn : Nat → Act → World → Prop) (N : Nat → Act → World → Prop) (Rel : Nat → Act → Act → World → World → Prop)
    (hacyc : ∀ (i : Nat) (o : Oper), ops[i]? = some o → ∀ e ∈ o.after, Region.binds md e = true → e.on < i)
    (hC : ∀ i a a' w w', C w → Rel i a a' w w' → C w')
    (hkeep : ∀ (i j : Nat) (o : Oper), i ≠ j → ops[i]? = some o → Region.waitsFor md ops j i = false → ∀ a v w w', Kn j a w → Rel i a (a.put o.dst v) w w' → Kn j (a.put o.dst v) w')
    (hNk : ∀ (i k : Nat) (o : Oper), i ≠ k → ops[k]? = some o → waitsT md ops ops.size k i = false → ∀ a v w w', N i a w → Rel k a (a.put o.dst v) w w' → N i (a.put o.dst v) w')
    (hop : ∀ (i : Nat) (o : Oper), ops[i]? = some o → ∀ a w, C w → Same ops a0 a → (∀ e ∈ o.after, Region.binds md e = true → Kn e.on a w) → N i a w →
      wpOp P ops Q i (fun a' w' => ∃ v, a' = a.put o.dst v ∧ Rel i a (a.put o.dst v) w w' ∧ Kn i (a.put o.dst v) w') a w)
    (hfin : ∀ a w, C w → Same ops a0 a → (∀ i, i < ops.size → Kn i a w) → Q .normal a w) :
    ∀ (f : Nat) (L : List Nat) (listed : Array Bool) (a : Act) (w : World), L.length ≤ f → listed.size = ops.size → (∀ i, i < ops.size → listed.getD i true = false → i ∈ L) → C w → Same ops a0 a →
      (∀ (j : Nat) (oj : Oper), ops[j]? = some oj → listed.getD j false = true → ∀ e ∈ oj.after, Region.binds md e = true → listed.getD e.on false = true) →
      (∀ i, i < ops.size → listed.getD i false = true → Kn i a w) → (∀ i, i < ops.size → listed.getD i true = false → N i a w) → wpAny P md ops Q f listed a w := by
  have hfull : ∀ listed : Array Bool, listed.size = ops.size → Region.ready md ops listed = [] → ∀ (d i : Nat), i < d → i < ops.size → listed.getD i false = true := by
    intro listed hsz hr d
    induction d with
    | zero => intro i hi; omega
    | succ d ih =>
      intro i hi hin
      rcases Nat.lt_or_ge i d with h | h
      · exact ih i h hin
      · obtain rfl : i = d := by omega
        cases hl : listed.getD i false with
        | true => rfl
        | false =>
          have hmem : i ∈ Region.ready md ops listed := by
            rw [mem_ready]
            refine ⟨getD_in (by omega) hl, ops[i], Array.getElem?_eq_getElem hin, fun e he hb => ?_⟩
            have := hacyc i ops[i] (Array.getElem?_eq_getElem hin) e he hb
            exact ih e.on this (by omega)
          rw [hr] at hmem
          cases hmem
  intro f
  induction f with
  | zero =>
    intro L listed a w hL hsz hun hw hs hcl hk hN
    have hall : ∀ i, i < ops.size → listed.getD i false = true := by
      intro i hi
      cases hl : listed.getD i false with
      | true => rfl
      | false =>
        have := hun i hi (getD_in (by omega) hl)
        have hL0 : L = [] := List.length_eq_zero_iff.1 (by omega)
        rw [hL0] at this
        cases this
    have hr : Region.ready md ops listed = [] := by
      apply List.eq_nil_iff_forall_not_mem.2
      intro i hi
      obtain ⟨h1, o, ho, _⟩ := mem_ready.1 hi
      have hlt : i < ops.size := (Array.getElem?_eq_some_iff.1 ho).1
      have h2 := hall i hlt
      rw [getD_both h1] at h2
      cases h2
    exact ⟨hr, hfin a w hw hs (fun i hi => hk i hi (hall i hi))⟩
  | succ f ih =>
    intro L listed a w hL hsz hun hw hs hcl hk hN
    refine ⟨fun hr => hfin a w hw hs (fun i hi => hk i hi (hfull listed hsz hr _ i hi hi)), fun i hi => ?_⟩
    obtain ⟨hiun, o, ho, hall⟩ := mem_ready.1 hi
    have hlt : i < ops.size := (Array.getElem?_eq_some_iff.1 ho).1
    refine wpOp_mono ?_ (hop i o ho a w hw hs (fun e he hb => hk e.on (by have := hacyc i o ho e he hb; omega) (hall e he hb)) (hN i hlt hiun))
    rintro a' w' ⟨v, rfl, hrel, hkn⟩
    have hiL := hun i hlt hiun
    refine ih (L.erase i) (listed.setIfInBounds i true) _ w' ?_ (by simpa using hsz) ?_ (hC i _ _ _ _ hw hrel) (hs.put ho v) ?_ ?_ ?_
    · rw [List.length_erase_of_mem hiL]; omega
    · intro j hj hjl
      rcases Nat.decEq j i with hji | hji
      · rw [getD_set_ne true (Ne.symm hji)] at hjl
        exact (List.mem_erase_of_ne hji).2 (hun j hj hjl)
      · subst hji
        rw [Array.getD_eq_getD_getElem?, Array.getElem?_setIfInBounds_self_of_lt (by omega)] at hjl
        cases hjl
    · intro j oj hoj hjl e he hb
      rcases Nat.decEq j i with hji | hji
      · rw [getD_set_ne false (Ne.symm hji)] at hjl
        exact getD_set_true (hcl j oj hoj hjl e he hb)
      · subst hji
        have : oj = o := Option.some.inj (hoj.symm.trans ho)
        subst this
        exact getD_set_true (hall e he hb)
    · intro j hj hjl
      rcases Nat.decEq j i with hji | hji
      · rw [getD_set_ne false (Ne.symm hji)] at hjl
        refine hkeep i j o (Ne.symm hji) ho ?_ a v w w' (hk j hj hjl) hrel
        cases hwf : Region.waitsFor md ops j i with
        | false => rfl
        | true =>
          obtain ⟨oj, hoj, e, he, hb, hon⟩ := Region.waitsFor_spec hwf
          have h1 := hcl j oj hoj hjl e he hb
          rw [hon, getD_both hiun] at h1
          cases h1
      · subst hji; exact hkn
    · intro j hj hjl
      rcases Nat.decEq j i with hji | hji
      · rw [getD_set_ne true (Ne.symm hji)] at hjl
        refine hNk j i o hji ho ?_ a v w w' (hN j hj hjl) hrel
        cases hwt : waitsT md ops ops.size i j with
        | false => rfl
        | true =>
          have := waitsT_listed hcl _ _ _ hwt o ho hall
          rw [getD_both hjl] at this
          cases this
      · subst hji
        rw [Array.getD_eq_getD_getElem?, Array.getElem?_setIfInBounds_self_of_lt (by omega)] at hjl
        cases hjl
/-- what operation i owes -/
def Owes3 (P : Program) (ops : Array Oper) (Q : Exit → Act → World → Prop) (C : World → Prop) (a0 : Act) (V : List (Option Value)) (Fs Ns : List (Nat × (Act → World → Prop))) (Rel : Nat → Act → Act → World → World → Prop) (i : Nat) (o : Oper) : Prop :=
  ∀ (a : Act) (w : World) (K : Act → World → Prop), C w → Same ops a0 a → (∀ e ∈ o.after, Region.binds .any e = true → Kn ops V Fs e.on a w) → (∀ p ∈ Ns, p.1 = i → p.2 a w) →
    (∀ v w', Rel i a (a.put o.dst v) w w' → (∀ v0, V[i]? = some (some v0) → v = v0) → (∀ p ∈ Fs, p.1 = i → p.2 (a.put o.dst v) w') → K (a.put o.dst v) w') →
    if Region.wanted o (yielded ops a.tmps) then o.wp P a w K Q else K (a.put o.dst undef) w
def AllOwe3 (P : Program) (ops : Array Oper) (Q : Exit → Act → World → Prop) (C : World → Prop) (a0 : Act) (V : List (Option Value)) (Fs Ns : List (Nat × (Act → World → Prop))) (Rel : Nat → Act → Act → World → World → Prop) : List Oper → Nat → Prop
  | [], _ => True
  | o :: l, k => Owes3 P ops Q C a0 V Fs Ns Rel k o ∧ AllOwe3 P ops Q C a0 V Fs Ns Rel l (k + 1)
theorem AllOwe3.at {V : List (Option Value)} {Fs Ns : List (Nat × (Act → World → Prop))} {Rel : Nat → Act → Act → World → World → Prop} : ∀ (l : List Oper) (k : Nat), AllOwe3 P ops Q C a0 V Fs Ns Rel l k → ∀ (j : Nat) (o : Oper), l[j]? = some o → Owes3 P ops Q C a0 V Fs Ns Rel (k + j) o
  | [], _, _, j, o, ho => by simp at ho
  | x :: l, k, h, 0, o, ho => by
    simp only [List.getElem?_cons_zero, Option.some.injEq] at ho
    subst ho
    exact h.1
  | x :: l, k, h, j + 1, o, ho => by
    simp only [List.getElem?_cons_succ] at ho
    have := AllOwe3.at l (k + 1) h.2 j o ho
    rwa [show k + 1 + j = k + (j + 1) by omega] at this
theorem wpAny_lo3 {w : World} {l : List Oper} (V : List (Option Value)) (Fs : List (Nat × (Act → World → Prop))) (Ns : List (Nat × (Act → World → Prop))) (Rel : Nat → Act → Act → World → World → Prop)
    (hB : looseB3 l.toArray a0.tmps.size (Fs.map (·.1)) = true) (hCw : C w.drew) (hC : ∀ i a a' w w', C w → Rel i a a' w w' → C w')
    (hst : ∀ p ∈ Fs, ∀ (i : Nat) (a a' : Act) (w w' : World), i ≠ p.1 → Region.waitsFor .any l.toArray p.1 i = false → (∀ t, (Oper.slots l.toArray p.1).contains t = true → a'.tmps[t]? = a.tmps[t]?) → (∃ o v, l.toArray[i]? = some o ∧ a' = a.put o.dst v) → Rel i a a' w w' → p.2 a w → p.2 a' w')
    (hN0 : ∀ p ∈ Ns, p.2 a0 w.drew)
    (hNst : ∀ p ∈ Ns, ∀ (i : Nat) (a a' : Act) (w w' : World), i ≠ p.1 → waitsT .any l.toArray l.length i p.1 = false → Rel i a a' w w' → p.2 a w → (∃ o v, l.toArray[i]? = some o ∧ a' = a.put o.dst v) → p.2 a' w')
    (hop : AllOwe3 P l.toArray Q C a0 V Fs Ns Rel l 0)
    (hfin : ∀ a w, C w → Same l.toArray a0 a → (∀ i, i < l.length → Kn l.toArray V Fs i a w) → Q .normal a w) : wpAny P .any l.toArray Q l.toArray.size (Array.replicate l.toArray.size false) a0 w.drew := by
  have hspec := looseB3_spec hB
  refine (wpAny_pre3 (C := C) (a0 := a0) (Kn l.toArray V Fs) (fun i a w => ∀ p ∈ Ns, p.1 = i → p.2 a w) Rel (fun i o ho => (hspec i o ho).1) hC ?_ ?_ ?_ ?_ _ (List.range l.toArray.size) _ _ _ (by simp) (by simp) ?_ hCw (Same.refl _ _) ?_ ?_ ?_)
  · intro i j o hij ho hwf a v w w' hk hrel
    refine ⟨fun oj u d hoj hu hd => ?_, fun p hp hpj => ?_⟩
    · have h1 := hk.1 oj u d hoj hu hd
      unfold Act.put
      split
      · rename_i di hdi
        have hne : di ≠ d := fun e => ((hspec i o ho).2 di hdi).2 j oj hij hoj |>.1 (by rw [hd, e])
        show (a.tmps.setIfInBounds di v)[d]? = _
        rw [Array.getElem?_setIfInBounds_ne hne]
        exact h1
      · exact h1
    · refine hst p hp i a _ w w' (by rw [hpj]; exact hij) (by rw [hpj]; exact hwf) (fun t ht => ?_) ⟨o, v, ho, rfl⟩ hrel (hk.2 p hp hpj)
      rw [hpj, List.contains_iff_mem] at ht
      unfold Act.put
      split
      · rename_i di hdi
        show (a.tmps.setIfInBounds di v)[t]? = _
        have hne : di ≠ t := by
          intro e
          subst e
          unfold Oper.slots at ht
          split at ht
          · cases ht
          · rename_i oj hoj
            have h2 := ((hspec i o ho).2 di hdi).2 j oj hij hoj
            rcases List.mem_append.1 ht with h3 | h3
            · rw [Option.mem_toList] at h3
              exact h2.1 h3
            · rw [h2.2 (List.mem_map.2 ⟨p, hp, hpj⟩) h3] at hwf
              cases hwf
        rw [Array.getElem?_setIfInBounds_ne hne]
      · rfl
  · intro i k o hik ho hwt a v w w' hN hrel p hp hpi
    refine hNst p hp k a _ w w' (by rw [hpi]; exact Ne.symm hik) (by rw [hpi]; simpa using hwt) hrel (hN p hp hpi) ⟨o, v, ho, rfl⟩
  · intro i o ho a w hw hs hk hN
    have h := AllOwe3.at l 0 hop i o (by simpa using ho)
    rw [Nat.zero_add] at h
    unfold wpOp
    simp only [ho]
    have hput : ∀ (v : Value) (w' : World), Rel i a (a.put o.dst v) w w' → (∀ v0, V[i]? = some (some v0) → v = v0) → (∀ p ∈ Fs, p.1 = i → p.2 (a.put o.dst v) w') → ∃ u, a.put o.dst v = a.put o.dst u ∧ Rel i a (a.put o.dst u) w w' ∧ Kn l.toArray V Fs i (a.put o.dst u) w' := by
      intro v w' hr hv hf
      refine ⟨v, rfl, hr, fun oj u d hoj hu hd => ?_, hf⟩
      have : oj = o := Option.some.inj (hoj.symm.trans ho)
      subst this
      have hvu := hv u hu
      subst hvu
      have hlt := ((hspec i oj ho).2 d hd).1
      unfold Act.put
      rw [hd]
      show (a.tmps.setIfInBounds d v)[d]? = _
      rw [Array.getElem?_setIfInBounds_self_of_lt (by rw [hs.2.1]; exact hlt)]
    have h' := h a w (fun a' w' => ∃ u, a' = a.put o.dst u ∧ Rel i a (a.put o.dst u) w w' ∧ Kn l.toArray V Fs i (a.put o.dst u) w') hw hs hk hN hput
    split
    · rename_i hwt
      rw [if_pos hwt] at h'
      exact .inl h'
    · rename_i hwt
      rw [if_neg hwt] at h'
      exact h'
  · intro a w hw hs hk
    exact hfin a w hw hs (fun i hi => hk i (by simpa using hi))
  · intro i hi _
    simpa using hi
  · intro j oj _ hl
    rw [getD_replicate_false] at hl
    cases hl
  · intro i _ hl
    rw [getD_replicate_false] at hl
    cases hl
  · intro i _ _ p hp _
    exact hN0 p hp
theorem wp_region_lo3 {id : Nat} {w : World} {l : List Oper} (V : List (Option Value)) (Fs : List (Nat × (Act → World → Prop))) (Ns : List (Nat × (Act → World → Prop))) (Rel : Nat → Act → Act → World → World → Prop)
    (hm : P.follows .mixedOrders = true) (hB : looseB3 l.toArray a0.tmps.size (Fs.map (·.1)) = true) (hCw : C w.drew) (hC : ∀ i a a' w w', C w → Rel i a a' w w' → C w')
    (hst : ∀ p ∈ Fs, ∀ (i : Nat) (a a' : Act) (w w' : World), i ≠ p.1 → Region.waitsFor .any l.toArray p.1 i = false → (∀ t, (Oper.slots l.toArray p.1).contains t = true → a'.tmps[t]? = a.tmps[t]?) → (∃ o v, l.toArray[i]? = some o ∧ a' = a.put o.dst v) → Rel i a a' w w' → p.2 a w → p.2 a' w')
    (hN0 : ∀ p ∈ Ns, p.2 a0 w.drew)
    (hNst : ∀ p ∈ Ns, ∀ (i : Nat) (a a' : Act) (w w' : World), i ≠ p.1 → waitsT .any l.toArray l.length i p.1 = false → Rel i a a' w w' → p.2 a w → (∃ o v, l.toArray[i]? = some o ∧ a' = a.put o.dst v) → p.2 a' w')
    (hop : AllOwe3 P l.toArray Q C a0 V Fs Ns Rel l 0)
    (hfin : ∀ a w, C w → Same l.toArray a0 a → (∀ i, i < l.length → Kn l.toArray V Fs i a w) → Q .normal a w) : (Code.region id l.toArray true).wp P Q a0 w :=
  wp_region_any hm (wpAny_lo3 V Fs Ns Rel hB hCw hC hst hN0 hNst hop hfin)

end
section
variable {ops : Array Oper} {n : Nat} {Rel : Nat → Act → Act → World → World → Prop}
theorem prek_nil3 : ∀ p ∈ ([] : List (Nat × (Act → World → Prop))), ∀ (i : Nat) (a a' : Act) (w w' : World), i ≠ p.1 → waitsT .any ops n i p.1 = false → Rel i a a' w w' → p.2 a w → (∃ o v, ops[i]? = some o ∧ a' = a.put o.dst v) → p.2 a' w' := fun p hp => by cases hp
theorem prek_cons3 {j : Nat} {F : Act → World → Prop} {Ns : List (Nat × (Act → World → Prop))} (h1 : ∀ (i : Nat) (a a' : Act) (w w' : World), i ≠ j → waitsT .any ops n i j = false → Rel i a a' w w' → F a w → (∃ o v, ops[i]? = some o ∧ a' = a.put o.dst v) → F a' w')
    (h2 : ∀ p ∈ Ns, ∀ (i : Nat) (a a' : Act) (w w' : World), i ≠ p.1 → waitsT .any ops n i p.1 = false → Rel i a a' w w' → p.2 a w → (∃ o v, ops[i]? = some o ∧ a' = a.put o.dst v) → p.2 a' w') :
    ∀ p ∈ (j, F) :: Ns, ∀ (i : Nat) (a a' : Act) (w w' : World), i ≠ p.1 → waitsT .any ops n i p.1 = false → Rel i a a' w w' → p.2 a w → (∃ o v, ops[i]? = some o ∧ a' = a.put o.dst v) → p.2 a' w' := fun p hp => by
  rcases List.mem_cons.1 hp with rfl | hp
  · exact h1
  · exact h2 p hp
end
section
variable {ops : Array Oper} {Rel : Nat → Act → Act → World → World → Prop}
theorem keeps3_nil : ∀ p ∈ ([] : List (Nat × (Act → World → Prop))), ∀ (i : Nat) (a a' : Act) (w w' : World), i ≠ p.1 → Region.waitsFor .any ops p.1 i = false → (∀ t, (Oper.slots ops p.1).contains t = true → a'.tmps[t]? = a.tmps[t]?) → (∃ o v, ops[i]? = some o ∧ a' = a.put o.dst v) → Rel i a a' w w' → p.2 a w → p.2 a' w' := fun p hp => by cases hp
theorem keeps3_cons {j : Nat} {F : Act → World → Prop} {Fs : List (Nat × (Act → World → Prop))} (h1 : ∀ (i : Nat) (a a' : Act) (w w' : World), i ≠ j → Region.waitsFor .any ops j i = false → (∀ t, (Oper.slots ops j).contains t = true → a'.tmps[t]? = a.tmps[t]?) → (∃ o v, ops[i]? = some o ∧ a' = a.put o.dst v) → Rel i a a' w w' → F a w → F a' w')
    (h2 : ∀ p ∈ Fs, ∀ (i : Nat) (a a' : Act) (w w' : World), i ≠ p.1 → Region.waitsFor .any ops p.1 i = false → (∀ t, (Oper.slots ops p.1).contains t = true → a'.tmps[t]? = a.tmps[t]?) → (∃ o v, ops[i]? = some o ∧ a' = a.put o.dst v) → Rel i a a' w w' → p.2 a w → p.2 a' w') : ∀ p ∈ (j, F) :: Fs, ∀ (i : Nat) (a a' : Act) (w w' : World), i ≠ p.1 → Region.waitsFor .any ops p.1 i = false → (∀ t, (Oper.slots ops p.1).contains t = true → a'.tmps[t]? = a.tmps[t]?) → (∃ o v, ops[i]? = some o ∧ a' = a.put o.dst v) → Rel i a a' w w' → p.2 a w → p.2 a' w' := fun p hp => by
  rcases List.mem_cons.1 hp with rfl | hp
  · exact h1
  · exact h2 p hp
/-- a slot that only operation k writes -/
theorem other_slot {d k i : Nat} (hd : ((List.range ops.size).all fun j => j == k || decide ((ops[j]?.bind (·.dst)) ≠ some d)) = true) {a a' : Act} (h : ∃ o v, ops[i]? = some o ∧ a' = a.put o.dst v) (hi : i ≠ k) : a'.tmps[d]? = a.tmps[d]? := by
  obtain ⟨o, v, ho, rfl⟩ := h
  have hlt : i < ops.size := (Array.getElem?_eq_some_iff.1 ho).1
  have h1 := List.all_eq_true.1 hd i (by simpa using hlt)
  simp only [Bool.or_eq_true, beq_iff_eq, decide_eq_true_eq, ho, Option.bind_some] at h1
  have h2 : o.dst ≠ some d := h1.resolve_left hi
  unfold Act.put
  split
  · rename_i di hdi
    have hne : di ≠ d := fun e => h2 (by rw [hdi, e])
    show (a.tmps.setIfInBounds di v)[d]? = _
    rw [Array.getElem?_setIfInBounds_ne hne]
  · rfl
end
end Go.Proofs.Ytnpdhbagfkilkaa
