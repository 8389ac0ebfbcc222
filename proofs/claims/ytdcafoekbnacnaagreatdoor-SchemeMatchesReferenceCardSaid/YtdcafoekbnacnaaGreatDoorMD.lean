/- Several texts as one, in build order. -/
import Derived.Test.YtdcafoekbnacnaaGreatDoorMC
import Derived.Test.YtdcafoekbnacnaaGreatDoorMA
import Derived.Laws.AppendOwn
import Derived.Maps.AppendAt
import Derived.Recover
import Derived.Defers
import Derived.Laws.Pointers
import Derived.Test.YtdcafoekbnacnaaGreatDoorRows
import Derived.Stop.LaidErr
import Derived.Lib.LaidTab
import Derived.Clock
import Derived.OpenShut
import Derived.Test.YtdcafoekbnacnaaGreatDoorMB
/- A drawn region whose relations know the frame ahead of and behind an operation. -/
set_option linter.unusedVariables false
set_option linter.unusedSimpArgs false
namespace Go.Proofs.YtdcafoekbnacnaaGreatDoor
open Go Go.RowKit

/-- the region is fit for it -/
def looseB3 (ops : Array Oper) (n : Nat) (js : List Nat) : Bool :=
  (List.range ops.size).all fun i => match ops[i]? with
    | none => true
    | some o => (o.after.all fun e => !Region.binds .any e || decide (e.on < i)) &&
      (match o.dst with
       | none => true
       | some d => decide (d < n) && (List.range ops.size).all fun j => (i == j) || (match ops[j]? with
          | none => true
          | some oj => (oj.dst != some d) && (!js.contains j || !(oj.looksAt ops).contains d || Region.waitsFor .any ops j i)))
theorem looseB3_spec {ops : Array Oper} {n : Nat} {js : List Nat} (h : looseB3 ops n js = true) : ∀ (i : Nat) (o : Oper), ops[i]? = some o → (∀ e ∈ o.after, Region.binds .any e = true → e.on < i) ∧
    ∀ d, o.dst = some d → d < n ∧ ∀ (j : Nat) (oj : Oper), i ≠ j → ops[j]? = some oj → oj.dst ≠ some d ∧ (j ∈ js → d ∈ oj.looksAt ops → Region.waitsFor .any ops j i = true) := by
  intro i o ho
  have hlt : i < ops.size := (Array.getElem?_eq_some_iff.1 ho).1
  have h1 := List.all_eq_true.1 h i (List.mem_range.2 hlt)
  simp only [ho, Bool.and_eq_true] at h1
  refine ⟨fun e he hb => ?_, fun d hd => ?_⟩
  · have := Array.all_eq_true_iff_forall_mem.1 h1.1 e he
    simpa [hb] using this
  · have h2 := h1.2
    simp only [hd, Bool.and_eq_true, decide_eq_true_eq] at h2
    refine ⟨h2.1, fun j oj hij hoj => ?_⟩
    have hjlt : j < ops.size := (Array.getElem?_eq_some_iff.1 hoj).1
    have h3 := List.all_eq_true.1 h2.2 j (List.mem_range.2 hjlt)
    simp only [hoj, Bool.or_eq_true, Bool.and_eq_true, bne_iff_ne, beq_iff_eq] at h3
    rcases h3 with h3 | h3
    · exact absurd h3 hij
    · refine ⟨h3.1, fun hjm hm => ?_⟩
      rcases h3.2 with (h4 | h4) | h4
      · simp only [Bool.not_eq_true', List.contains_eq_mem, decide_eq_false_iff_not] at h4
        exact absurd hjm h4
      · simp only [Bool.not_eq_true', List.contains_eq_mem, decide_eq_false_iff_not] at h4
        exact absurd hm h4
      · exact h4

section
variable {P : Program} {ops : Array Oper} {Q : Exit → Act → World → Prop} {md : Region.Mode} {C : World → Prop} {a0 : Act}
theorem wpAny_pre3 (Kn : Nat → Act → World → Prop) (N : Nat → Act → World → Prop) (Rel : Nat → Act → Act → World → World → Prop)
    (hacyc : ∀ (i : Nat) (o : Oper), ops[i]? = some o → ∀ e ∈ o.after, Region.binds md e = true → e.on < i)
    (hC : ∀ i a a' w w', C w → Rel i a a' w w' → C w')
    (hkeep : ∀ (i j : Nat) (o : Oper), i ≠ j → ops[i]? = some o → Region.waitsFor md ops j i = false → ∀ a v w w', Kn j a w → Rel i a (a.put o.dst v) w w' → Kn j (a.put o.dst v) w')
    (hNk : ∀ (i k : Nat) (o : Oper), i ≠ k → ops[k]? = some o → waitsT md ops ops.size k i = false → ∀ a v w w', N i a w → Rel k a (a.put o.dst v) w w' → N i (a.put o.dst v) w')
    (hop : ∀ (i : Nat) (o : Oper), ops[i]? = some o → ∀ a w, C w → Same ops a0 a → (∀ e ∈ o.after, Region.binds md e = true → Kn e.on a w) → N i a w →
      wpOp P ops Q i (fun a' w' => ∃ v, a' = a.put o.dst v ∧ Rel i a (a.put o.dst v) w w' ∧ Kn i (a.put o.dst v) w') a w)
    (hfin : ∀ a w, C w → Same ops a0 a → (∀ i, i < ops.size → Kn i a w) → Q .normal a w) :
    ∀ (f : Nat) (L : List Nat) (listed : Array Bool) (a : Act) (w : World), L.length ≤ f → listed.size = ops.size → (∀ i, i < ops.size → listed.getD i true = false → i ∈ L) → C w → Same ops a0 a →
      (∀ (j : Nat) (oj : Oper), ops[j]? = some oj → listed.getD j false = true → ∀ e ∈ oj.after, Region.binds md e = true → listed.getD e.on false = true) →
      (∀ i, i < ops.size → listed.getD i false = true → Kn i a w) → (∀ i, i < ops.size → listed.getD i true = false → N i a w) → wpAny P md ops Q f listed a w := by
  have hfull : ∀ listed : Array Bool, listed.size = ops.size → Region.ready md ops listed = [] → ∀ (d i : Nat), i < d → i < ops.size → listed.getD i false = true := by
    intro listed hsz hr d
    induction d with
    | zero => intro i hi; omega
    | succ d ih =>
      intro i hi hin
      rcases Nat.lt_or_ge i d with h | h
      · exact ih i h hin
      · obtain rfl : i = d := by omega
        cases hl : listed.getD i false with
        | true => rfl
        | false =>
          have hmem : i ∈ Region.ready md ops listed := by
            rw [mem_ready]
            refine ⟨getD_in (by omega) hl, ops[i], Array.getElem?_eq_getElem hin, fun e he hb => ?_⟩
            have := hacyc i ops[i] (Array.getElem?_eq_getElem hin) e he hb
            exact ih e.on this (by omega)
          rw [hr] at hmem
          cases hmem
  intro f
  induction f with
  | zero =>
    intro L listed a w hL hsz hun hw hs hcl hk hN
    have hall : ∀ i, i < ops.size → listed.getD i false = true := by
      intro i hi
      cases hl : listed.getD i false with
      | true => rfl
      | false =>
        have := hun i hi (getD_in (by omega) hl)
        have hL0 : L = [] := List.length_eq_zero_iff.1 (by omega)
        rw [hL0] at this
        cases this
    have hr : Region.ready md ops listed = [] := by
      apply List.eq_nil_iff_forall_not_mem.2
      intro i hi
      obtain ⟨h1, o, ho, _⟩ := mem_ready.1 hi
      have hlt : i < ops.size := (Array.getElem?_eq_some_iff.1 ho).1
      have h2 := hall i hlt
      rw [getD_both h1] at h2
      cases h2
    exact ⟨hr, hfin a w hw hs (fun i hi => hk i hi (hall i hi))⟩
  | succ f ih =>
    intro L listed a w hL hsz hun hw hs hcl hk hN
    refine ⟨fun hr => hfin a w hw hs (fun i hi => hk i hi (hfull listed hsz hr _ i hi hi)), fun i hi => ?_⟩
    obtain ⟨hiun, o, ho, hall⟩ := mem_ready.1 hi
    have hlt : i < ops.size := (Array.getElem?_eq_some_iff.1 ho).1
    refine wpOp_mono ?_ (hop i o ho a w hw hs (fun e he hb => hk e.on (by have := hacyc i o ho e he hb; omega) (hall e he hb)) (hN i hlt hiun))
    rintro a' w' ⟨v, rfl, hrel, hkn⟩
    have hiL := hun i hlt hiun
    refine ih (L.erase i) (listed.setIfInBounds i true) _ w' ?_ (by simpa using hsz) ?_ (hC i _ _ _ _ hw hrel) (hs.put ho v) ?_ ?_ ?_
    · rw [List.length_erase_of_mem hiL]; omega
    · intro j hj hjl
      rcases Nat.decEq j i with hji | hji
      · rw [getD_set_ne true (Ne.symm hji)] at hjl
        exact (List.mem_erase_of_ne hji).2 (hun j hj hjl)
      · subst hji
        rw [Array.getD_eq_getD_getElem?, Array.getElem?_setIfInBounds_self_of_lt (by omega)] at hjl
        cases hjl
    · intro j oj hoj hjl e he hb
      rcases Nat.decEq j i with hji | hji
      · rw [getD_set_ne false (Ne.symm hji)] at hjl
        exact getD_set_true (hcl j oj hoj hjl e he hb)
      · subst hji
        have : oj = o := Option.some.inj (hoj.symm.trans ho)
        subst this
        exact getD_set_true (hall e he hb)
    · intro j hj hjl
      rcases Nat.decEq j i with hji | hji
      · rw [getD_set_ne false (Ne.symm hji)] at hjl
        refine hkeep i j o (Ne.symm hji) ho ?_ a v w w' (hk j hj hjl) hrel
        cases hwf : Region.waitsFor md ops j i with
        | false => rfl
        | true =>
          obtain ⟨oj, hoj, e, he, hb, hon⟩ := Region.waitsFor_spec hwf
          have h1 := hcl j oj hoj hjl e he hb
          rw [hon, getD_both hiun] at h1
          cases h1
      · subst hji; exact hkn
    · intro j hj hjl
      rcases Nat.decEq j i with hji | hji
      · rw [getD_set_ne true (Ne.symm hji)] at hjl
        refine hNk j i o hji ho ?_ a v w w' (hN j hj hjl) hrel
        cases hwt : waitsT md ops ops.size i j with
        | false => rfl
        | true =>
          have := waitsT_listed hcl _ _ _ hwt o ho hall
          rw [getD_both hjl] at this
          cases this
      · subst hji
        rw [Array.getD_eq_getD_getElem?, Array.getElem?_setIfInBounds_self_of_lt (by omega)] at hjl
        cases hjl
/-- what operation i owes -/
def Owes3 (P : Program) (ops : Array Oper) (Q : Exit → Act → World → Prop) (C : World → Prop) (a0 : Act) (V : List (Option Value)) (Fs Ns : List (Nat × (Act → World → Prop))) (Rel : Nat → Act → Act → World → World → Prop) (i : Nat) (o : Oper) : Prop :=
  ∀ (a : Act) (w : World) (K : Act → World → Prop), C w → Same ops a0 a → (∀ e ∈ o.after, Region.binds .any e = true → Kn ops V Fs e.on a w) → (∀ p ∈ Ns, p.1 = i → p.2 a w) →
    (∀ v w', Rel i a (a.put o.dst v) w w' → (∀ v0, V[i]? = some (some v0) → v = v0) → (∀ p ∈ Fs, p.1 = i → p.2 (a.put o.dst v) w') → K (a.put o.dst v) w') →
    if Region.wanted o (yielded ops a.tmps) then o.wp P a w K Q else K (a.put o.dst undef) w
def AllOwe3 (P : Program) (ops : Array Oper) (Q : Exit → Act → World → Prop) (C : World → Prop) (a0 : Act) (V : List (Option Value)) (Fs Ns : List (Nat × (Act → World → Prop))) (Rel : Nat → Act → Act → World → World → Prop) : List Oper → Nat → Prop
  | [], _ => True
  | o :: l, k => Owes3 P ops Q C a0 V Fs Ns Rel k o ∧ AllOwe3 P ops Q C a0 V Fs Ns Rel l (k + 1)
theorem AllOwe3.at {V : List (Option Value)} {Fs Ns : List (Nat × (Act → World → Prop))} {Rel : Nat → Act → Act → World → World → Prop} : ∀ (l : List Oper) (k : Nat), AllOwe3 P ops Q C a0 V Fs Ns Rel l k → ∀ (j : Nat) (o : Oper), l[j]? = some o → Owes3 P ops Q C a0 V Fs Ns Rel (k + j) o
  | [], _, _, j, o, ho => by simp at ho
  | x :: l, k, h, 0, o, ho => by
    simp only [List.getElem?_cons_zero, Option.some.injEq] at ho
    subst ho
    exact h.1
  | x :: l, k, h, j + 1, o, ho => by
    simp only [List.getElem?_cons_succ] at ho
    have := AllOwe3.at l (k + 1) h.2 j o ho
    rwa [show k + 1 + j = k + (j + 1) by omega] at this
theorem wpAny_lo3 {w : World} {l : List Oper} (V : List (Option Value)) (Fs : List (Nat × (Act → World → Prop))) (Ns : List (Nat × (Act → World → Prop))) (Rel : Nat → Act → Act → World → World → Prop)
    (hB : looseB3 l.toArray a0.tmps.size (Fs.map (·.1)) = true) (hCw : C w.drew) (hC : ∀ i a a' w w', C w → Rel i a a' w w' → C w')
    (hst : ∀ p ∈ Fs, ∀ (i : Nat) (a a' : Act) (w w' : World), i ≠ p.1 → Region.waitsFor .any l.toArray p.1 i = false → (∀ t, (Oper.slots l.toArray p.1).contains t = true → a'.tmps[t]? = a.tmps[t]?) → (∃ o v, l.toArray[i]? = some o ∧ a' = a.put o.dst v) → Rel i a a' w w' → p.2 a w → p.2 a' w')
    (hN0 : ∀ p ∈ Ns, p.2 a0 w.drew)
    (hNst : ∀ p ∈ Ns, ∀ (i : Nat) (a a' : Act) (w w' : World), i ≠ p.1 → waitsT .any l.toArray l.length i p.1 = false → Rel i a a' w w' → p.2 a w → (∃ o v, l.toArray[i]? = some o ∧ a' = a.put o.dst v) → p.2 a' w')
    (hop : AllOwe3 P l.toArray Q C a0 V Fs Ns Rel l 0)
    (hfin : ∀ a w, C w → Same l.toArray a0 a → (∀ i, i < l.length → Kn l.toArray V Fs i a w) → Q .normal a w) : wpAny P .any l.toArray Q l.toArray.size (Array.replicate l.toArray.size false) a0 w.drew := by
  have hspec := looseB3_spec hB
  refine (wpAny_pre3 (C := C) (a0 := a0) (Kn l.toArray V Fs) (fun i a w => ∀ p ∈ Ns, p.1 = i → p.2 a w) Rel (fun i o ho => (hspec i o ho).1) hC ?_ ?_ ?_ ?_ _ (List.range l.toArray.size) _ _ _ (by simp) (by simp) ?_ hCw (Same.refl _ _) ?_ ?_ ?_)
  · intro i j o hij ho hwf a v w w' hk hrel
    refine ⟨fun oj u d hoj hu hd => ?_, fun p hp hpj => ?_⟩
    · have h1 := hk.1 oj u d hoj hu hd
      unfold Act.put
      split
      · rename_i di hdi
        have hne : di ≠ d := fun e => ((hspec i o ho).2 di hdi).2 j oj hij hoj |>.1 (by rw [hd, e])
        show (a.tmps.setIfInBounds di v)[d]? = _
        rw [Array.getElem?_setIfInBounds_ne hne]
        exact h1
      · exact h1
    · refine hst p hp i a _ w w' (by rw [hpj]; exact hij) (by rw [hpj]; exact hwf) (fun t ht => ?_) ⟨o, v, ho, rfl⟩ hrel (hk.2 p hp hpj)
      rw [hpj, List.contains_iff_mem] at ht
      unfold Act.put
      split
      · rename_i di hdi
        show (a.tmps.setIfInBounds di v)[t]? = _
        have hne : di ≠ t := by
          intro e
          subst e
          unfold Oper.slots at ht
          split at ht
          · cases ht
          · rename_i oj hoj
            have h2 := ((hspec i o ho).2 di hdi).2 j oj hij hoj
            rcases List.mem_append.1 ht with h3 | h3
            · rw [Option.mem_toList] at h3
              exact h2.1 h3
            · rw [h2.2 (List.mem_map.2 ⟨p, hp, hpj⟩) h3] at hwf
              cases hwf
        rw [Array.getElem?_setIfInBounds_ne hne]
      · rfl
  · intro i k o hik ho hwt a v w w' hN hrel p hp hpi
    refine hNst p hp k a _ w w' (by rw [hpi]; exact Ne.symm hik) (by rw [hpi]; simpa using hwt) hrel (hN p hp hpi) ⟨o, v, ho, rfl⟩
  · intro i o ho a w hw hs hk hN
    have h := AllOwe3.at l 0 hop i o (by simpa using ho)
    rw [Nat.zero_add] at h
    unfold wpOp
    simp only [ho]
    have hput : ∀ (v : Value) (w' : World), Rel i a (a.put o.dst v) w w' → (∀ v0, V[i]? = some (some v0) → v = v0) → (∀ p ∈ Fs, p.1 = i → p.2 (a.put o.dst v) w') → ∃ u, a.put o.dst v = a.put o.dst u ∧ Rel i a (a.put o.dst u) w w' ∧ Kn l.toArray V Fs i (a.put o.dst u) w' := by
      intro v w' hr hv hf
      refine ⟨v, rfl, hr, fun oj u d hoj hu hd => ?_, hf⟩
      have : oj = o := Option.some.inj (hoj.symm.trans ho)
      subst this
      have hvu := hv u hu
      subst hvu
      have hlt := ((hspec i oj ho).2 d hd).1
      unfold Act.put
      rw [hd]
      show (a.tmps.setIfInBounds d v)[d]? = _
      rw [Array.getElem?_setIfInBounds_self_of_lt (by rw [hs.2.1]; exact hlt)]
    have h' := h a w (fun a' w' => ∃ u, a' = a.put o.dst u ∧ Rel i a (a.put o.dst u) w w' ∧ Kn l.toArray V Fs i (a.put o.dst u) w') hw hs hk hN hput
    split
    · rename_i hwt
      rw [if_pos hwt] at h'
      exact .inl h'
    · rename_i hwt
      rw [if_neg hwt] at h'
      exact h'
  · intro a w hw hs hk
    exact hfin a w hw hs (fun i hi => hk i (by simpa using hi))
  · intro i hi _
    simpa using hi
  · intro j oj _ hl
    rw [getD_replicate_false] at hl
    cases hl
  · intro i _ hl
    rw [getD_replicate_false] at hl
    cases hl
  · intro i _ _ p hp _
    exact hN0 p hp
theorem wp_region_lo3 {id : Nat} {w : World} {l : List Oper} (V : List (Option Value)) (Fs : List (Nat × (Act → World → Prop))) (Ns : List (Nat × (Act → World → Prop))) (Rel : Nat → Act → Act → World → World → Prop)
    (hm : P.follows .mixedOrders = true) (hB : looseB3 l.toArray a0.tmps.size (Fs.map (·.1)) = true) (hCw : C w.drew) (hC : ∀ i a a' w w', C w → Rel i a a' w w' → C w')
    (hst : ∀ p ∈ Fs, ∀ (i : Nat) (a a' : Act) (w w' : World), i ≠ p.1 → Region.waitsFor .any l.toArray p.1 i = false → (∀ t, (Oper.slots l.toArray p.1).contains t = true → a'.tmps[t]? = a.tmps[t]?) → (∃ o v, l.toArray[i]? = some o ∧ a' = a.put o.dst v) → Rel i a a' w w' → p.2 a w → p.2 a' w')
    (hN0 : ∀ p ∈ Ns, p.2 a0 w.drew)
    (hNst : ∀ p ∈ Ns, ∀ (i : Nat) (a a' : Act) (w w' : World), i ≠ p.1 → waitsT .any l.toArray l.length i p.1 = false → Rel i a a' w w' → p.2 a w → (∃ o v, l.toArray[i]? = some o ∧ a' = a.put o.dst v) → p.2 a' w')
    (hop : AllOwe3 P l.toArray Q C a0 V Fs Ns Rel l 0)
    (hfin : ∀ a w, C w → Same l.toArray a0 a → (∀ i, i < l.length → Kn l.toArray V Fs i a w) → Q .normal a w) : (Code.region id l.toArray true).wp P Q a0 w :=
  wp_region_any hm (wpAny_lo3 V Fs Ns Rel hB hCw hC hst hN0 hNst hop hfin)

end
section
variable {ops : Array Oper} {n : Nat} {Rel : Nat → Act → Act → World → World → Prop}
theorem prek_nil3 : ∀ p ∈ ([] : List (Nat × (Act → World → Prop))), ∀ (i : Nat) (a a' : Act) (w w' : World), i ≠ p.1 → waitsT .any ops n i p.1 = false → Rel i a a' w w' → p.2 a w → (∃ o v, ops[i]? = some o ∧ a' = a.put o.dst v) → p.2 a' w' := fun p hp => by cases hp
theorem prek_cons3 {j : Nat} {F : Act → World → Prop} {Ns : List (Nat × (Act → World → Prop))} (h1 : ∀ (i : Nat) (a a' : Act) (w w' : World), i ≠ j → waitsT .any ops n i j = false → Rel i a a' w w' → F a w → (∃ o v, ops[i]? = some o ∧ a' = a.put o.dst v) → F a' w')
    (h2 : ∀ p ∈ Ns, ∀ (i : Nat) (a a' : Act) (w w' : World), i ≠ p.1 → waitsT .any ops n i p.1 = false → Rel i a a' w w' → p.2 a w → (∃ o v, ops[i]? = some o ∧ a' = a.put o.dst v) → p.2 a' w') :
    ∀ p ∈ (j, F) :: Ns, ∀ (i : Nat) (a a' : Act) (w w' : World), i ≠ p.1 → waitsT .any ops n i p.1 = false → Rel i a a' w w' → p.2 a w → (∃ o v, ops[i]? = some o ∧ a' = a.put o.dst v) → p.2 a' w' := fun p hp => by
  rcases List.mem_cons.1 hp with rfl | hp
  · exact h1
  · exact h2 p hp
end
section
variable {ops : Array Oper} {Rel : Nat → Act → Act → World → World → Prop}
theorem keeps3_nil : ∀ p ∈ ([] : List (Nat × (Act → World → Prop))), ∀ (i : Nat) (a a' : Act) (w w' : World), i ≠ p.1 → Region.waitsFor .any ops p.1 i = false → (∀ t, (Oper.slots ops p.1).contains t = true → a'.tmps[t]? = a.tmps[t]?) → (∃ o v, ops[i]? = some o ∧ a' = a.put o.dst v) → Rel i a a' w w' → p.2 a w → p.2 a' w' := fun p hp => by cases hp
theorem keeps3_cons {j : Nat} {F : Act → World → Prop} {Fs : List (Nat × (Act → World → Prop))} (h1 : ∀ (i : Nat) (a a' : Act) (w w' : World), i ≠ j → Region.waitsFor .any ops j i = false → (∀ t, (Oper.slots ops j).contains t = true → a'.tmps[t]? = a.tmps[t]?) → (∃ o v, ops[i]? = some o ∧ a' = a.put o.dst v) → Rel i a a' w w' → F a w → F a' w')
    (h2 : ∀ p ∈ Fs, ∀ (i : Nat) (a a' : Act) (w w' : World), i ≠ p.1 → Region.waitsFor .any ops p.1 i = false → (∀ t, (Oper.slots ops p.1).contains t = true → a'.tmps[t]? = a.tmps[t]?) → (∃ o v, ops[i]? = some o ∧ a' = a.put o.dst v) → Rel i a a' w w' → p.2 a w → p.2 a' w') : ∀ p ∈ (j, F) :: Fs, ∀ (i : Nat) (a a' : Act) (w w' : World), i ≠ p.1 → Region.waitsFor .any ops p.1 i = false → (∀ t, (Oper.slots ops p.1).contains t = true → a'.tmps[t]? = a.tmps[t]?) → (∃ o v, ops[i]? = some o ∧ a' = a.put o.dst v) → Rel i a a' w w' → p.2 a w → p.2 a' w' := fun p hp => by
  rcases List.mem_cons.1 hp with rfl | hp
  · exact h1
  · exact h2 p hp
/-- a slot that only operation k writes -/
theorem other_slot {d k i : Nat} (hd : ((List.range ops.size).all fun j => j == k || decide ((ops[j]?.bind (·.dst)) ≠ some d)) = true) {a a' : Act} (h : ∃ o v, ops[i]? = some o ∧ a' = a.put o.dst v) (hi : i ≠ k) : a'.tmps[d]? = a.tmps[d]? := by
  obtain ⟨o, v, ho, rfl⟩ := h
  have hlt : i < ops.size := (Array.getElem?_eq_some_iff.1 ho).1
  have h1 := List.all_eq_true.1 hd i (by simpa using hlt)
  simp only [Bool.or_eq_true, beq_iff_eq, decide_eq_true_eq, ho, Option.bind_some] at h1
  have h2 : o.dst ≠ some d := h1.resolve_left hi
  unfold Act.put
  split
  · rename_i di hdi
    have hne : di ≠ d := fun e => h2 (by rw [hdi, e])
    show (a.tmps.setIfInBounds di v)[d]? = _
    rw [Array.getElem?_setIfInBounds_ne hne]
  · rfl
end
end Go.Proofs.YtdcafoekbnacnaaGreatDoor

/- As XLo3, but an operation owes its fact out of the facts of all that it waits for, by however many steps; a fact need not be kept by what it waits for so. -/
set_option linter.unusedVariables false
set_option linter.unusedSimpArgs false
namespace Go.Proofs.YtdcafoekbnacnaaGreatDoor
open Go Go.RowKit

theorem waitsT_of {md : Region.Mode} {ops : Array Oper} {j i : Nat} (h : Region.waitsFor md ops j i = true) (hs : 0 < ops.size) : waitsT md ops ops.size j i = true := by
  obtain ⟨n, hn⟩ : ∃ n, ops.size = n + 1 := ⟨ops.size - 1, by omega⟩
  rw [hn]
  obtain ⟨oj, hoj, e, he, hb, hon⟩ := Region.waitsFor_spec h
  unfold waitsT
  simp only [hoj]
  exact Array.any_eq_true'.2 ⟨e, he, by simp [hb, hon]⟩
section
variable {P : Program} {ops : Array Oper} {Q : Exit → Act → World → Prop} {md : Region.Mode} {C : World → Prop} {a0 : Act}
theorem wpAny_pre4 (Kn : Nat → Act → World → Prop) (N : Nat → Act → World → Prop) (Rel : Nat → Act → Act → World → World → Prop)
    (hacyc : ∀ (i : Nat) (o : Oper), ops[i]? = some o → ∀ e ∈ o.after, Region.binds md e = true → e.on < i)
    (hC : ∀ i a a' w w', C w → Rel i a a' w w' → C w')
    (hkeep : ∀ (i j : Nat) (o : Oper), i ≠ j → ops[i]? = some o → waitsT md ops ops.size j i = false → ∀ a v w w', Kn j a w → Rel i a (a.put o.dst v) w w' → Kn j (a.put o.dst v) w')
    (hNk : ∀ (i k : Nat) (o : Oper), i ≠ k → ops[k]? = some o → waitsT md ops ops.size k i = false → ∀ a v w w', N i a w → Rel k a (a.put o.dst v) w w' → N i (a.put o.dst v) w')
    (hop : ∀ (i : Nat) (o : Oper), ops[i]? = some o → ∀ a w, C w → Same ops a0 a → (∀ j, waitsT md ops ops.size i j = true → Kn j a w) → N i a w →
      wpOp P ops Q i (fun a' w' => ∃ v, a' = a.put o.dst v ∧ Rel i a (a.put o.dst v) w w' ∧ Kn i (a.put o.dst v) w') a w)
    (hfin : ∀ a w, C w → Same ops a0 a → (∀ i, i < ops.size → Kn i a w) → Q .normal a w) :
    ∀ (f : Nat) (L : List Nat) (listed : Array Bool) (a : Act) (w : World), L.length ≤ f → listed.size = ops.size → (∀ i, i < ops.size → listed.getD i true = false → i ∈ L) → C w → Same ops a0 a →
      (∀ (j : Nat) (oj : Oper), ops[j]? = some oj → listed.getD j false = true → ∀ e ∈ oj.after, Region.binds md e = true → listed.getD e.on false = true) →
      (∀ i, i < ops.size → listed.getD i false = true → Kn i a w) → (∀ i, i < ops.size → listed.getD i true = false → N i a w) → wpAny P md ops Q f listed a w := by
  have hfull : ∀ listed : Array Bool, listed.size = ops.size → Region.ready md ops listed = [] → ∀ (d i : Nat), i < d → i < ops.size → listed.getD i false = true := by
    intro listed hsz hr d
    induction d with
    | zero => intro i hi; omega
    | succ d ih =>
      intro i hi hin
      rcases Nat.lt_or_ge i d with h | h
      · exact ih i h hin
      · obtain rfl : i = d := by omega
        cases hl : listed.getD i false with
        | true => rfl
        | false =>
          have hmem : i ∈ Region.ready md ops listed := by
            rw [mem_ready]
            refine ⟨getD_in (by omega) hl, ops[i], Array.getElem?_eq_getElem hin, fun e he hb => ?_⟩
            have := hacyc i ops[i] (Array.getElem?_eq_getElem hin) e he hb
            exact ih e.on this (by omega)
          rw [hr] at hmem
          cases hmem
  intro f
  induction f with
  | zero =>
    intro L listed a w hL hsz hun hw hs hcl hk hN
    have hall : ∀ i, i < ops.size → listed.getD i false = true := by
      intro i hi
      cases hl : listed.getD i false with
      | true => rfl
      | false =>
        have := hun i hi (getD_in (by omega) hl)
        have hL0 : L = [] := List.length_eq_zero_iff.1 (by omega)
        rw [hL0] at this
        cases this
    have hr : Region.ready md ops listed = [] := by
      apply List.eq_nil_iff_forall_not_mem.2
      intro i hi
      obtain ⟨h1, o, ho, _⟩ := mem_ready.1 hi
      have hlt : i < ops.size := (Array.getElem?_eq_some_iff.1 ho).1
      have h2 := hall i hlt
      rw [getD_both h1] at h2
      cases h2
    exact ⟨hr, hfin a w hw hs (fun i hi => hk i hi (hall i hi))⟩
  | succ f ih =>
    intro L listed a w hL hsz hun hw hs hcl hk hN
    refine ⟨fun hr => hfin a w hw hs (fun i hi => hk i hi (hfull listed hsz hr _ i hi hi)), fun i hi => ?_⟩
    obtain ⟨hiun, o, ho, hall⟩ := mem_ready.1 hi
    have hlt : i < ops.size := (Array.getElem?_eq_some_iff.1 ho).1
    refine wpOp_mono ?_ (hop i o ho a w hw hs (fun j hwj => by
      have h1 := waitsT_listed hcl _ _ _ hwj o ho hall
      have h2 : j < ops.size := by
        rcases Nat.lt_or_ge j ops.size with h | h
        · exact h
        · rw [Array.getD_eq_getD_getElem?, Array.getElem?_eq_none (by omega)] at h1; cases h1
      exact hk j h2 h1) (hN i hlt hiun))
    rintro a' w' ⟨v, rfl, hrel, hkn⟩
    have hiL := hun i hlt hiun
    refine ih (L.erase i) (listed.setIfInBounds i true) _ w' ?_ (by simpa using hsz) ?_ (hC i _ _ _ _ hw hrel) (hs.put ho v) ?_ ?_ ?_
    · rw [List.length_erase_of_mem hiL]; omega
    · intro j hj hjl
      rcases Nat.decEq j i with hji | hji
      · rw [getD_set_ne true (Ne.symm hji)] at hjl
        exact (List.mem_erase_of_ne hji).2 (hun j hj hjl)
      · subst hji
        rw [Array.getD_eq_getD_getElem?, Array.getElem?_setIfInBounds_self_of_lt (by omega)] at hjl
        cases hjl
    · intro j oj hoj hjl e he hb
      rcases Nat.decEq j i with hji | hji
      · rw [getD_set_ne false (Ne.symm hji)] at hjl
        exact getD_set_true (hcl j oj hoj hjl e he hb)
      · subst hji
        have : oj = o := Option.some.inj (hoj.symm.trans ho)
        subst this
        exact getD_set_true (hall e he hb)
    · intro j hj hjl
      rcases Nat.decEq j i with hji | hji
      · rw [getD_set_ne false (Ne.symm hji)] at hjl
        refine hkeep i j o (Ne.symm hji) ho ?_ a v w w' (hk j hj hjl) hrel
        cases hwf : waitsT md ops ops.size j i with
        | false => rfl
        | true =>
          have h1 := waitsT_listed hcl _ _ _ hwf ops[j] (Array.getElem?_eq_getElem hj) (hcl j _ (Array.getElem?_eq_getElem hj) hjl)
          rw [getD_both hiun] at h1
          cases h1
      · subst hji; exact hkn
    · intro j hj hjl
      rcases Nat.decEq j i with hji | hji
      · rw [getD_set_ne true (Ne.symm hji)] at hjl
        refine hNk j i o hji ho ?_ a v w w' (hN j hj hjl) hrel
        cases hwt : waitsT md ops ops.size i j with
        | false => rfl
        | true =>
          have := waitsT_listed hcl _ _ _ hwt o ho hall
          rw [getD_both hjl] at this
          cases this
      · subst hji
        rw [Array.getD_eq_getD_getElem?, Array.getElem?_setIfInBounds_self_of_lt (by omega)] at hjl
        cases hjl
/-- what operation i owes -/
def Owes4 (P : Program) (ops : Array Oper) (Q : Exit → Act → World → Prop) (C : World → Prop) (a0 : Act) (V : List (Option Value)) (Fs Ns : List (Nat × (Act → World → Prop))) (Rel : Nat → Act → Act → World → World → Prop) (i : Nat) (o : Oper) : Prop :=
  ∀ (a : Act) (w : World) (K : Act → World → Prop), C w → Same ops a0 a → (∀ j, waitsT .any ops ops.size i j = true → Kn ops V Fs j a w) → (∀ p ∈ Ns, p.1 = i → p.2 a w) →
    (∀ v w', Rel i a (a.put o.dst v) w w' → (∀ v0, V[i]? = some (some v0) → v = v0) → (∀ p ∈ Fs, p.1 = i → p.2 (a.put o.dst v) w') → K (a.put o.dst v) w') →
    if Region.wanted o (yielded ops a.tmps) then o.wp P a w K Q else K (a.put o.dst undef) w
def AllOwe4 (P : Program) (ops : Array Oper) (Q : Exit → Act → World → Prop) (C : World → Prop) (a0 : Act) (V : List (Option Value)) (Fs Ns : List (Nat × (Act → World → Prop))) (Rel : Nat → Act → Act → World → World → Prop) : List Oper → Nat → Prop
  | [], _ => True
  | o :: l, k => Owes4 P ops Q C a0 V Fs Ns Rel k o ∧ AllOwe4 P ops Q C a0 V Fs Ns Rel l (k + 1)
theorem AllOwe4.at {V : List (Option Value)} {Fs Ns : List (Nat × (Act → World → Prop))} {Rel : Nat → Act → Act → World → World → Prop} : ∀ (l : List Oper) (k : Nat), AllOwe4 P ops Q C a0 V Fs Ns Rel l k → ∀ (j : Nat) (o : Oper), l[j]? = some o → Owes4 P ops Q C a0 V Fs Ns Rel (k + j) o
  | [], _, _, j, o, ho => by simp at ho
  | x :: l, k, h, 0, o, ho => by
    simp only [List.getElem?_cons_zero, Option.some.injEq] at ho
    subst ho
    exact h.1
  | x :: l, k, h, j + 1, o, ho => by
    simp only [List.getElem?_cons_succ] at ho
    have := AllOwe4.at l (k + 1) h.2 j o ho
    rwa [show k + 1 + j = k + (j + 1) by omega] at this
theorem wpAny_lo4 {w : World} {l : List Oper} (V : List (Option Value)) (Fs : List (Nat × (Act → World → Prop))) (Ns : List (Nat × (Act → World → Prop))) (Rel : Nat → Act → Act → World → World → Prop)
    (hB : looseB3 l.toArray a0.tmps.size (Fs.map (·.1)) = true) (hCw : C w.drew) (hC : ∀ i a a' w w', C w → Rel i a a' w w' → C w')
    (hst : ∀ p ∈ Fs, ∀ (i : Nat) (a a' : Act) (w w' : World), i ≠ p.1 → waitsT .any l.toArray l.length p.1 i = false → (∀ t, (Oper.slots l.toArray p.1).contains t = true → a'.tmps[t]? = a.tmps[t]?) → (∃ o v, l.toArray[i]? = some o ∧ a' = a.put o.dst v) → Rel i a a' w w' → p.2 a w → p.2 a' w')
    (hN0 : ∀ p ∈ Ns, p.2 a0 w.drew)
    (hNst : ∀ p ∈ Ns, ∀ (i : Nat) (a a' : Act) (w w' : World), i ≠ p.1 → waitsT .any l.toArray l.length i p.1 = false → Rel i a a' w w' → p.2 a w → (∃ o v, l.toArray[i]? = some o ∧ a' = a.put o.dst v) → p.2 a' w')
    (hop : AllOwe4 P l.toArray Q C a0 V Fs Ns Rel l 0)
    (hfin : ∀ a w, C w → Same l.toArray a0 a → (∀ i, i < l.length → Kn l.toArray V Fs i a w) → Q .normal a w) : wpAny P .any l.toArray Q l.toArray.size (Array.replicate l.toArray.size false) a0 w.drew := by
  have hspec := looseB3_spec hB
  refine (wpAny_pre4 (C := C) (a0 := a0) (Kn l.toArray V Fs) (fun i a w => ∀ p ∈ Ns, p.1 = i → p.2 a w) Rel (fun i o ho => (hspec i o ho).1) hC ?_ ?_ ?_ ?_ _ (List.range l.toArray.size) _ _ _ (by simp) (by simp) ?_ hCw (Same.refl _ _) ?_ ?_ ?_)
  · intro i j o hij ho hwf a v w w' hk hrel
    refine ⟨fun oj u d hoj hu hd => ?_, fun p hp hpj => ?_⟩
    · have h1 := hk.1 oj u d hoj hu hd
      unfold Act.put
      split
      · rename_i di hdi
        have hne : di ≠ d := fun e => ((hspec i o ho).2 di hdi).2 j oj hij hoj |>.1 (by rw [hd, e])
        show (a.tmps.setIfInBounds di v)[d]? = _
        rw [Array.getElem?_setIfInBounds_ne hne]
        exact h1
      · exact h1
    · refine hst p hp i a _ w w' (by rw [hpj]; exact hij) (by rw [hpj]; simpa using hwf) (fun t ht => ?_) ⟨o, v, ho, rfl⟩ hrel (hk.2 p hp hpj)
      rw [hpj, List.contains_iff_mem] at ht
      unfold Act.put
      split
      · rename_i di hdi
        show (a.tmps.setIfInBounds di v)[t]? = _
        have hne : di ≠ t := by
          intro e
          subst e
          unfold Oper.slots at ht
          split at ht
          · cases ht
          · rename_i oj hoj
            have h2 := ((hspec i o ho).2 di hdi).2 j oj hij hoj
            rcases List.mem_append.1 ht with h3 | h3
            · rw [Option.mem_toList] at h3
              exact h2.1 h3
            · have h4 := waitsT_of (h2.2 (List.mem_map.2 ⟨p, hp, hpj⟩) h3) (by have := (Array.getElem?_eq_some_iff.1 ho).1; omega)
              rw [h4] at hwf
              cases hwf
        rw [Array.getElem?_setIfInBounds_ne hne]
      · rfl
  · intro i k o hik ho hwt a v w w' hN hrel p hp hpi
    refine hNst p hp k a _ w w' (by rw [hpi]; exact Ne.symm hik) (by rw [hpi]; simpa using hwt) hrel (hN p hp hpi) ⟨o, v, ho, rfl⟩
  · intro i o ho a w hw hs hk hN
    have h := AllOwe4.at l 0 hop i o (by simpa using ho)
    rw [Nat.zero_add] at h
    unfold wpOp
    simp only [ho]
    have hput : ∀ (v : Value) (w' : World), Rel i a (a.put o.dst v) w w' → (∀ v0, V[i]? = some (some v0) → v = v0) → (∀ p ∈ Fs, p.1 = i → p.2 (a.put o.dst v) w') → ∃ u, a.put o.dst v = a.put o.dst u ∧ Rel i a (a.put o.dst u) w w' ∧ Kn l.toArray V Fs i (a.put o.dst u) w' := by
      intro v w' hr hv hf
      refine ⟨v, rfl, hr, fun oj u d hoj hu hd => ?_, hf⟩
      have : oj = o := Option.some.inj (hoj.symm.trans ho)
      subst this
      have hvu := hv u hu
      subst hvu
      have hlt := ((hspec i oj ho).2 d hd).1
      unfold Act.put
      rw [hd]
      show (a.tmps.setIfInBounds d v)[d]? = _
      rw [Array.getElem?_setIfInBounds_self_of_lt (by rw [hs.2.1]; exact hlt)]
    have h' := h a w (fun a' w' => ∃ u, a' = a.put o.dst u ∧ Rel i a (a.put o.dst u) w w' ∧ Kn l.toArray V Fs i (a.put o.dst u) w') hw hs hk hN hput
    split
    · rename_i hwt
      rw [if_pos hwt] at h'
      exact .inl h'
    · rename_i hwt
      rw [if_neg hwt] at h'
      exact h'
  · intro a w hw hs hk
    exact hfin a w hw hs (fun i hi => hk i (by simpa using hi))
  · intro i hi _
    simpa using hi
  · intro j oj _ hl
    rw [getD_replicate_false] at hl
    cases hl
  · intro i _ hl
    rw [getD_replicate_false] at hl
    cases hl
  · intro i _ _ p hp _
    exact hN0 p hp
theorem wp_region_lo4 {id : Nat} {w : World} {l : List Oper} (V : List (Option Value)) (Fs : List (Nat × (Act → World → Prop))) (Ns : List (Nat × (Act → World → Prop))) (Rel : Nat → Act → Act → World → World → Prop)
    (hm : P.follows .mixedOrders = true) (hB : looseB3 l.toArray a0.tmps.size (Fs.map (·.1)) = true) (hCw : C w.drew) (hC : ∀ i a a' w w', C w → Rel i a a' w w' → C w')
    (hst : ∀ p ∈ Fs, ∀ (i : Nat) (a a' : Act) (w w' : World), i ≠ p.1 → waitsT .any l.toArray l.length p.1 i = false → (∀ t, (Oper.slots l.toArray p.1).contains t = true → a'.tmps[t]? = a.tmps[t]?) → (∃ o v, l.toArray[i]? = some o ∧ a' = a.put o.dst v) → Rel i a a' w w' → p.2 a w → p.2 a' w')
    (hN0 : ∀ p ∈ Ns, p.2 a0 w.drew)
    (hNst : ∀ p ∈ Ns, ∀ (i : Nat) (a a' : Act) (w w' : World), i ≠ p.1 → waitsT .any l.toArray l.length i p.1 = false → Rel i a a' w w' → p.2 a w → (∃ o v, l.toArray[i]? = some o ∧ a' = a.put o.dst v) → p.2 a' w')
    (hop : AllOwe4 P l.toArray Q C a0 V Fs Ns Rel l 0)
    (hfin : ∀ a w, C w → Same l.toArray a0 a → (∀ i, i < l.length → Kn l.toArray V Fs i a w) → Q .normal a w) : (Code.region id l.toArray true).wp P Q a0 w :=
  wp_region_any hm (wpAny_lo4 V Fs Ns Rel hB hCw hC hst hN0 hNst hop hfin)

end
section
variable {ops : Array Oper} {n : Nat} {Rel : Nat → Act → Act → World → World → Prop}
theorem keeps4_nil : ∀ p ∈ ([] : List (Nat × (Act → World → Prop))), ∀ (i : Nat) (a a' : Act) (w w' : World), i ≠ p.1 → waitsT .any ops n p.1 i = false → (∀ t, (Oper.slots ops p.1).contains t = true → a'.tmps[t]? = a.tmps[t]?) → (∃ o v, ops[i]? = some o ∧ a' = a.put o.dst v) → Rel i a a' w w' → p.2 a w → p.2 a' w' := fun p hp => by cases hp
theorem keeps4_cons {j : Nat} {F : Act → World → Prop} {Fs : List (Nat × (Act → World → Prop))} (h1 : ∀ (i : Nat) (a a' : Act) (w w' : World), i ≠ j → waitsT .any ops n j i = false → (∀ t, (Oper.slots ops j).contains t = true → a'.tmps[t]? = a.tmps[t]?) → (∃ o v, ops[i]? = some o ∧ a' = a.put o.dst v) → Rel i a a' w w' → F a w → F a' w')
    (h2 : ∀ p ∈ Fs, ∀ (i : Nat) (a a' : Act) (w w' : World), i ≠ p.1 → waitsT .any ops n p.1 i = false → (∀ t, (Oper.slots ops p.1).contains t = true → a'.tmps[t]? = a.tmps[t]?) → (∃ o v, ops[i]? = some o ∧ a' = a.put o.dst v) → Rel i a a' w w' → p.2 a w → p.2 a' w') : ∀ p ∈ (j, F) :: Fs, ∀ (i : Nat) (a a' : Act) (w w' : World), i ≠ p.1 → waitsT .any ops n p.1 i = false → (∀ t, (Oper.slots ops p.1).contains t = true → a'.tmps[t]? = a.tmps[t]?) → (∃ o v, ops[i]? = some o ∧ a' = a.put o.dst v) → Rel i a a' w w' → p.2 a w → p.2 a' w' := fun p hp => by
  rcases List.mem_cons.1 hp with rfl | hp
  · exact h1
  · exact h2 p hp
end
end Go.Proofs.YtdcafoekbnacnaaGreatDoor

/- Worlds that differ at one block; rows under a store elsewhere. -/
set_option linter.unusedVariables false
set_option linter.unusedSimpArgs false
namespace Go.Proofs.YtdcafoekbnacnaaGreatDoor
open Go.RowKit

theorem RowsAt.store {w : World} {size : Nat} {A : Option Addr} {n c : Nat} {ls : List (List Value)} (h : RowsAt w size (.slice A n c) ls) {p : Addr} (hp : ∀ a, A = some a → a.block ≠ p.block) (u : Value) : RowsAt (w.setCell p u) size (.slice A n c) ls := by
  obtain ⟨A', c', h1, h2, h3, h4⟩ := h
  have e := h1
  injection e with e1 e2 e3
  subst e1
  refine ⟨A, c', h1, h2, h3, fun k x hx => ?_⟩
  obtain ⟨a, ha, hl, hc⟩ := h4 k x hx
  refine ⟨a, ha, by simpa [World.setCell] using hl, fun j v hv => ?_⟩
  rw [World.cell?_setCell_other _ _ _ _ (fun h => hp a ha (by rw [h, block_of_add, block_of_add]))]
  exact hc j v hv
/-- all is as it was but for the blocks p and q -/
structure Two (p q : Nat) (w w' : World) : Prop where
  os : w'.os = w.os
  tape : w'.tape = w.tape
  output : w'.output = w.output
  size : w.heap.size ≤ w'.heap.size
  block : ∀ k, k < w.heap.size → k ≠ p → k ≠ q → w'.heap[k]? = w.heap[k]?
section
variable {p q : Nat} {a w w' : World}
theorem Two.refl (p q : Nat) (w : World) : Two p q w w := ⟨rfl, rfl, rfl, Nat.le_refl _, fun _ _ _ _ => rfl⟩
theorem Two.trans {b c : World} (h : Two p q a b) (k : Two p q b c) : Two p q a c := ⟨k.os.trans h.os, k.tape.trans h.tape, k.output.trans h.output, Nat.le_trans h.size k.size, fun i hi h1 h2 => (k.block i (Nat.lt_of_lt_of_le hi h.size) h1 h2).trans (h.block i hi h1 h2)⟩
theorem Two.of (h : Below w.heap.size w w') : Two p q w w' := ⟨h.os, h.tape, h.output, h.size, fun k hk _ _ => h.block k hk⟩
theorem Two.to {w2 : World} (h : Two p q w w') (h' : Below w'.heap.size w' w2) : Two p q w w2 := h.trans (Two.of h')
theorem Two.set1 (h : Two p q a w) (i : Nat) (u : Value) : Two p q a (w.setCell ⟨p, i, none⟩ u) := h.trans ⟨rfl, rfl, rfl, by simp [World.setCell], fun k hk h1 _ => Below.heap_setCell _ _ _ _ h1⟩
theorem Two.set2 (h : Two p q a w) (i : Nat) (u : Value) : Two p q a (w.setCell ⟨q, i, none⟩ u) := h.trans ⟨rfl, rfl, rfl, by simp [World.setCell], fun k hk _ h2 => Below.heap_setCell _ _ _ _ h2⟩
theorem Two.drewN (h : Two p q a w) (n : Nat) : Two p q a (w.drewN n) := ⟨h.os, h.tape, h.output, h.size, h.block⟩
theorem Two.blk {g : Nat} {t : TypeId} {cs : Array Value} (H : Blk w g t cs) (hb : Two p q w w') (h1 : g ≠ p) (h2 : g ≠ q) : Blk w' g t cs := (hb.block g H.lt h1 h2).trans H
theorem Two.further (h : Two p q a w) (hb : Below a.heap.size w w') : Two p q a w' := ⟨hb.os.trans h.os, hb.tape.trans h.tape, hb.output.trans h.output, Nat.le_trans h.size hb.size, fun k hk h1 h2 => (hb.block k hk).trans (h.block k hk h1 h2)⟩
theorem Two.below {B : Nat} (h : Two p q w w') (hB : B ≤ w.heap.size) (h1 : B ≤ p) (h2 : B ≤ q) : Below B w w' := ⟨h.os, h.tape, h.output, h.size, fun k hk => h.block k (by omega) (by omega) (by omega)⟩
end
end Go.Proofs.YtdcafoekbnacnaaGreatDoor

/- append to a row that is one's own: the elder value still reads as before; worlds that differ at two blocks. -/
set_option linter.unusedVariables false
set_option linter.unusedSimpArgs false
namespace Go.Proofs.YtdcafoekbnacnaaGreatDoor
open Go Go.RowKit

section
variable {P : Program} (w : World)
theorem run_append_keep (base : Nat) (t ty e : TypeId) (i : TypeInfo) (z : Value) (size bytes : Nat) (ht : P.underlying t = some (.slice e)) (hi : P.info? e = some i) (hz : i.zero = some z)
    (hsize : i.size = size) (hby : i.bytes = bytes) (hzs : z.cells.size = size) (hsz : 0 < size)
    (v : Value) (n : Nat) (xs : List Value) (hown : w.ownsRow base e size v n xs)
    (a : Addr) (m c : Nat) (news : List Value) (hl : news.length = m * size) (hnews : ∀ j u, news[j]? = some u → w.cell? (a.add j) = some u) (h1 : ∀ u ∈ news, u.oneCell' = true)
    (h63 : n + m ≤ maxLen) (hbytes : (n + m) * bytes ≤ 140737488355328) (hbase : base ≤ w.heap.size) :
    ∃ v' w', (Builtin.append_ #[t, t] ty #[v, .slice (some a) m c]).run P w = .ok v' w' ∧ w'.ownsRow base e size v' (n + m) (xs ++ news) ∧ w.grownBy w' v.ownBlock ∧
      w'.ownsRow base e size v n xs ∧ (v'.ownBlock = v.ownBlock ∨ ∃ g, v'.ownBlock = some g ∧ w.heap.size ≤ g) := by
  rcases hown.2 with ⟨rfl, rfl⟩ | ⟨g, cap, cur, rfl, hbg, hg, hnc, hcm, hcs, htake⟩
  · obtain ⟨v', w', h2, h3, h4, _, h5⟩ := run_append_own_at (P := P) w base t ty e i z size bytes ht hi hz hsize hby hzs hsz _ _ xs hown a m c news hl hnews h1 h63 hbytes hbase
    have hx : xs = [] := List.eq_nil_of_length_eq_zero (by simpa using hown.1)
    subst hx
    exact ⟨v', w', h2, h3, h4, World.ownsRow_nil _ _ _ _, h5.imp id fun h => ⟨_, h, Nat.le_refl _⟩⟩
  · by_cases hroom : n + m ≤ cap
    · subst hsize
      have hlen : (xs ++ news).length = (n + m) * i.size := by rw [List.length_append, hown.1, hl, Nat.add_mul]
      have hfit : n * i.size + news.length ≤ cur.size := by rw [hl, hcs, ← Nat.add_mul]; exact Nat.mul_le_mul_right _ hroom
      have hr := run_append_room (P := P) w t ty e i ht hi g n cap cur hg a m c news hl hnews h1 hroom hfit
      have hsz2 : (cur.toList.take (n * i.size) ++ news ++ cur.toList.drop (n * i.size + news.length)).toArray.size = cap * i.size := by
        simp only [List.size_toArray, List.length_append, List.length_take, List.length_drop, Array.length_toList]
        omega
      refine ⟨_, _, hr, ⟨hlen, .inr ⟨g, cap, _, rfl, hbg, setRow_heap w g cur _ e _ hg, hroom, hcm, hsz2, ?_⟩⟩, ⟨rfl, rfl, rfl, by simp, fun k _ hk => setRow_other w g k _ (fun e => hk (by simp [Value.ownBlock, e]))⟩,
        ⟨hown.1, .inr ⟨g, cap, _, rfl, hbg, setRow_heap w g cur _ e _ hg, hnc, hcm, hsz2, ?_⟩⟩, .inl rfl⟩
      · rw [htake, ← hlen]
        exact List.take_left
      · rw [htake, ← hown.1]
        show ((xs ++ news) ++ _).take xs.length = xs
        rw [List.append_assoc]
        exact List.take_left
    · obtain ⟨v', w', h2, h3, h4, _, h5⟩ := run_append_own_at (P := P) w base t ty e i z size bytes ht hi hz hsize hby hzs hsz _ _ xs hown a m c news hl hnews h1 h63 hbytes hbase
      subst hsize
      subst hby
      have holds : ∀ j u, xs[j]? = some u → w.cell? ((⟨g, 0, none⟩ : Addr).add j) = some u := hown.cells (g := g) rfl
      have hr := run_append_grow (P := P) w t ty e i z ht hi hz ⟨g, 0, none⟩ n cap xs hown.1 holds a m c news hl hnews (by omega) (by simp only [maxLen] at h63; omega) (growslice_fits (by omega) hbytes)
      rw [hr] at h2
      injection h2 with e1 e2
      subst e1 e2
      refine ⟨_, _, hr, h3, h4, ⟨hown.1, .inr ⟨g, cap, cur, rfl, hbg, ?_, hnc, hcm, hcs, htake⟩⟩, .inr ⟨_, rfl, Nat.le_refl _⟩⟩
      rw [heap_alloc_old w.drew _ (Array.getElem?_eq_some_iff.1 hg).1]
      exact hg
theorem wp_append_keep {o : Oper} {a : Act} {K : Act → World → Prop} {Q : Exit → Act → World → Prop} (s x : Operand) (t : TypeId)
    (ho : o.op = .call { callee := .builtin .append, args := #[s, x], argTypes := #[t, t] })
    (base : Nat) (e : TypeId) (i : TypeInfo) (z : Value) (size bytes : Nat) (ht : P.underlying t = some (.slice e)) (hi : P.info? e = some i) (hz : i.zero = some z)
    (hsize : i.size = size) (hby : i.bytes = bytes) (hzs : z.cells.size = size) (hsz : 0 < size)
    (v : Value) (n : Nat) (xs : List Value) (hs : a.eval s = v) (hown : w.ownsRow base e size v n xs)
    (ad : Addr) (m c : Nat) (news : List Value) (hx : a.eval x = .slice (some ad) m c) (hl : news.length = m * size) (hnews : ∀ j u, news[j]? = some u → w.cell? (ad.add j) = some u) (h1 : ∀ u ∈ news, u.oneCell' = true)
    (h63 : n + m ≤ maxLen) (hbytes : (n + m) * bytes ≤ 140737488355328) (hbase : base ≤ w.heap.size)
    (h : ∀ v' w', w'.ownsRow base e size v' (n + m) (xs ++ news) → w.grownBy w' v.ownBlock → w'.ownsRow base e size v n xs → (v'.ownBlock = v.ownBlock ∨ ∃ g, v'.ownBlock = some g ∧ w.heap.size ≤ g) → K (a.put o.dst v') w') : o.wp P a w K Q := by
  obtain ⟨v', w', hr, h2, h3, h4, h5⟩ := run_append_keep (P := P) w base t o.type e i z size bytes ht hi hz hsize hby hzs hsz v n xs hown ad m c news hl hnews h1 h63 hbytes hbase
  unfold Oper.wp execOp
  simp only [ho, resolve, invoke, builtin, Sem.run_bind, Sem.run_pure, Result.andThen_ok, List.map_toArray, List.map_cons, List.map_nil, hs, hx, hr]
  exact h v' w' h2 h3 h4 h5
theorem wpList_append_keep {ops : Array Oper} {rest : List Oper} {o : Oper} {a : Act} {Q : Exit → Act → World → Prop} (hgd : o.guard = none) (s x : Operand) (t : TypeId)
    (ho : o.op = .call { callee := .builtin .append, args := #[s, x], argTypes := #[t, t] })
    (base : Nat) (e : TypeId) (i : TypeInfo) (z : Value) (size bytes : Nat) (ht : P.underlying t = some (.slice e)) (hi : P.info? e = some i) (hz : i.zero = some z)
    (hsize : i.size = size) (hby : i.bytes = bytes) (hzs : z.cells.size = size) (hsz : 0 < size)
    (v : Value) (n : Nat) (xs : List Value) (hs : a.eval s = v) (hown : w.ownsRow base e size v n xs)
    (ad : Addr) (m c : Nat) (news : List Value) (hx : a.eval x = .slice (some ad) m c) (hl : news.length = m * size) (hnews : ∀ j u, news[j]? = some u → w.cell? (ad.add j) = some u) (h1 : ∀ u ∈ news, u.oneCell' = true)
    (h63 : n + m ≤ maxLen) (hbytes : (n + m) * bytes ≤ 140737488355328) (hbase : base ≤ w.heap.size)
    (h : ∀ v' w', w'.ownsRow base e size v' (n + m) (xs ++ news) → w.grownBy w' v.ownBlock → w'.ownsRow base e size v n xs → (v'.ownBlock = v.ownBlock ∨ ∃ g, v'.ownBlock = some g ∧ w.heap.size ≤ g) → wpList P ops Q rest (a.put o.dst v') w') : wpList P ops Q (o :: rest) a w :=
  wpList_plain hgd fun _ hK => wp_append_keep w s x t ho base e i z size bytes ht hi hz hsize hby hzs hsz v n xs hs hown ad m c news hx hl hnews h1 h63 hbytes hbase fun v' w' h2 h3 h4 h5 => hK _ _ (h v' w' h2 h3 h4 h5)
end
/-- the block that an append may write, or another one -/
def rowOr (v : Value) (p : Nat) : Nat := v.ownBlock.getD p
section
variable {p q : Nat} {a w w' : World}
theorem Two.grown {v : Value} (h : w.grownBy w' v.ownBlock) : Two p (rowOr v p) w w' := by
  refine ⟨h.os, h.tape, h.output, h.size, fun k hk h1 h2 => h.block k hk fun e => ?_⟩
  unfold rowOr at h2
  rw [← e] at h2
  exact h2 rfl
theorem below_grown {B : Nat} {row : Option Nat} (h : w.grownBy w' row) (hB : B ≤ w.heap.size) (hr : ∀ k, row = some k → B ≤ k) : Below B w w' :=
  ⟨h.os, h.tape, h.output, h.size, fun k hk => h.block k (by omega) (fun e => by have := hr k e.symm; omega)⟩
theorem ownsRow_two {B : Nat} {e : TypeId} {s n : Nat} {v : Value} {xs : List Value} (h : w.ownsRow B e s v n xs) (hb : Two p q w w') (h1 : v.ownBlock ≠ some p) (h2 : v.ownBlock ≠ some q) : w'.ownsRow B e s v n xs := by
  refine ⟨h.1, ?_⟩
  rcases h.2 with hn | ⟨g, cap, cur, rfl, hb', hgg, rest⟩
  · exact .inl hn
  · refine .inr ⟨g, cap, cur, rfl, hb', ?_, rest⟩
    rw [hb.block g (Array.getElem?_eq_some_iff.1 hgg).1 (fun e => h1 (by rw [← e]; rfl)) (fun e => h2 (by rw [← e]; rfl))]
    exact hgg
theorem ownsRow_set {B : Nat} {e : TypeId} {s n : Nat} {v : Value} {xs : List Value} (h : w.ownsRow B e s v n xs) {i : Nat} {u : Value} (h1 : v.ownBlock ≠ some p) : (w.setCell ⟨p, i, none⟩ u).ownsRow B e s v n xs :=
  ownsRow_two h ((Two.refl p p w).set1 i u) h1 h1
theorem ownsRow_to {B : Nat} {e : TypeId} {s n : Nat} {v : Value} {xs : List Value} (h : w.ownsRow B e s v n xs) (hb : Below w.heap.size w w') : w'.ownsRow B e s v n xs := by
  refine ⟨h.1, ?_⟩
  rcases h.2 with hn | ⟨g, cap, cur, rfl, hb', hgg, rest⟩
  · exact .inl hn
  · exact .inr ⟨g, cap, cur, rfl, hb', (hb.block g (Array.getElem?_eq_some_iff.1 hgg).1).trans hgg, rest⟩
/-- rows of two kinds lie in two blocks -/
theorem ownsRow_apart {B B' : Nat} {e e' : TypeId} {s s' n n' : Nat} {v v' : Value} {xs xs' : List Value} (h : w.ownsRow B e s v n xs) (h' : w.ownsRow B' e' s' v' n' xs') (he : e ≠ e') : v.ownBlock ≠ v'.ownBlock ∨ v.ownBlock = none := by
  rcases h.2 with ⟨rfl, _⟩ | ⟨g, cap, cur, rfl, _, hg, _⟩
  · exact .inr rfl
  · rcases h'.2 with ⟨rfl, _⟩ | ⟨g', cap', cur', rfl, _, hg', _⟩
    · left; simp [Value.ownBlock]
    · left
      intro e1
      simp only [Value.ownBlock, Option.some.injEq] at e1
      subst e1
      rw [hg] at hg'
      cases hg'
      exact he rfl
end
/-- a slice of texts, whose array is not the block g -/
def FarB (v : Value) (g : Option Nat) : Prop := v.ownBlock = none ∨ v.ownBlock ≠ g
theorem TextsAt.two {p q : Nat} {w w' : World} {v : Value} {ls : List (List UInt8)} (h : TextsAt w v ls) (hb : Two p q w w') (h1 : v.ownBlock ≠ some p) (h2 : v.ownBlock ≠ some q) : TextsAt w' v ls := by
  obtain ⟨A, c, rfl, h3, h4, h5⟩ := h
  refine ⟨A, c, rfl, h3, h4, fun k x hx => ?_⟩
  obtain ⟨ad, e, hl, hc⟩ := h5 k x hx
  subst e
  refine ⟨ad, rfl, Nat.lt_of_lt_of_le hl hb.size, fun j u hu => ?_⟩
  rw [← hc j u hu]
  refine World.cell?_of_block ?_
  have e : ((ad.add (k * 1)).add j).block = ad.block := by rw [block_of_add, block_of_add]
  rw [e]
  exact hb.block _ hl (fun e => h1 (by rw [← e]; rfl)) (fun e => h2 (by rw [← e]; rfl))
end Go.Proofs.YtdcafoekbnacnaaGreatDoor

/- Package scheme: the parser: scheme. -/
set_option linter.unusedVariables false
set_option linter.unusedSimpArgs false
namespace Go.Proofs.YtdcafoekbnacnaaGreatDoor
open Go.RowKit Go.Shelf

theorem info_part : (Tryz.prog.info? 41).map (fun i => (i.zero, i.size, i.bytes)) = some (some (.agg #[.int .i64 0, .string ⟨#[]⟩, .string ⟨#[]⟩, .bool false]), 4, 48) := by kernel_rfl
theorem partP_len {n : Int} {others : List Prt} {l r : List Tk} {p : Prt} (h : partP n others l = .ok p r) : r.length + 2 ≤ l.length := by
  unfold partP partR at h
  have h0 : ∀ l1 : List Tk, (match takeP n 1 [] l1 with
    | .err e a => PR.err e a
    | .ok t r =>
      if kindW t.s < 1 then .err 7 t.a
      else if others.any (fun y => decide (y.k = kindW t.s)) then .err 8 t.a
      else match betwP n wBefore r with
        | .err e a => .err e a
        | .ok b r2 => match betwP n wAfter r2 with
          | .err e a => .err e a
          | .ok a r3 => match takeP n 4 [59] r3 with
            | .err e a => .err e a
            | .ok _ r4 => .ok (⟨kindW t.s, b, a, seesP 1 wNeed l⟩ : Prt) r4) = .ok p r → r.length + 2 ≤ l1.length := by
    intro l1 h
    cases hT : takeP n 1 [] l1 with
    | err x a => rw [hT] at h; cases h
    | ok t r1 =>
      rw [hT] at h
      dsimp only at h
      split at h
      · cases h
      · split at h
        · cases h
        · cases hB : betwP n wBefore r1 with
          | err x a => rw [hB] at h; cases h
          | ok b r2 =>
            rw [hB] at h
            dsimp only at h
            cases hA : betwP n wAfter r2 with
            | err x a => rw [hA] at h; cases h
            | ok a r3 =>
              rw [hA] at h
              dsimp only at h
              cases hE : takeP n 4 [59] r3 with
              | err x a => rw [hE] at h; cases h
              | ok ts r4 =>
                rw [hE] at h
                dsimp only at h
                cases h
                have e1 := takeP_len hT
                have e2 := betwP_len hB
                have e3 := betwP_len hA
                have e4 := takeP_len hE
                rw [e1, List.length_cons]
                rw [e4, List.length_cons] at e3
                omega
  have := h0 _ h
  split at this
  · rw [List.length_tail] at this; omega
  · exact this
/-- scheme under way -/
structure ScS (bP B : Nat) (n : Int) (w : World) (l : List Tk) (c : List UInt8) (v : Value) (ps : List Prt) (W : World) : Prop where
  st : PSt bP B n l W
  r : Blk W w.heap.size 24 #[.string ⟨#[]⟩, .slice none 0 0]
  s : Blk W (w.heap.size + 1) 24 #[.string (bs c), v]
  own : W.ownsRow (w.heap.size + 2) 41 4 v ps.length (ps.map ptV).flatten
  nil : ps = [] → v = .slice none 0 0
  on : Only w W bP
  lt : bP < w.heap.size
  lo : B ≤ w.heap.size
theorem ownsRow_only {B g : Nat} {e : TypeId} {s n : Nat} {v : Value} {xs : List Value} {w w' : World} (h : w.ownsRow B e s v n xs) (ho : Only w w' g) (h1 : v.ownBlock ≠ some g) : w'.ownsRow B e s v n xs :=
  h.kept ho (.inr h1)
theorem own_ge {B : Nat} {e : TypeId} {s n : Nat} {v : Value} {xs : List Value} {w : World} (h : w.ownsRow B e s v n xs) {g : Nat} (hg : g < B) : v.ownBlock ≠ some g := fun e => by have := (World.ownsRow.lt h g e).1; omega
theorem ScS.step {bP B : Nat} {n : Int} {w : World} {l l' : List Tk} {c : List UInt8} {v : Value} {ps : List Prt} {W W' : World} (h : ScS bP B n w l c v ps W) (hs : PSt bP B n l' W') (ho : Only W W' bP) : ScS bP B n w l' c v ps W' :=
  ⟨hs, ho.blk h.r (by have := h.lt; omega), ho.blk h.s (by have := h.lt; omega), ownsRow_only h.own ho (own_ge h.own (by have := h.lt; omega)), h.nil, h.on.trans ho, h.lt, h.lo⟩
theorem ScS.to {bP B : Nat} {n : Int} {w : World} {l : List Tk} {c : List UInt8} {v : Value} {ps : List Prt} {W W' : World} (h : ScS bP B n w l c v ps W) (hb : Below W.heap.size W W') : ScS bP B n w l c v ps W' :=
  h.step (h.st.to hb) (Only.of_below bP hb)
theorem PSt.setLow {bP B : Nat} {n : Int} {l : List Tk} {W : World} {b i : Nat} {v : Value} (h : PSt bP B n l W) (hb : b ≠ bP) (hB : B ≤ b) : PSt bP B n l (W.setCell ⟨b, i, none⟩ v) :=
  h.setNew hb fun hl v' hp b' o c hv e => by have := hp.lo b' o _ c hv hl; omega
theorem PSt.grown {bP B : Nat} {n : Int} {l : List Tk} {W W' : World} {row : Option Nat} (h : PSt bP B n l W) (hg : W.grownBy W' row) (hr : ∀ k, row = some k → B ≤ k ∧ k ≠ bP) : PSt bP B n l W' := by
  obtain ⟨v', hp⟩ := h
  have hblk : Blk W' bP 74 #[v', .int .i64 n] := (hg.block bP hp.p.lt (fun e => (hr bP e.symm).2 rfl)).trans hp.p
  refine ⟨v', hblk, ?_, hp.lo⟩
  obtain ⟨A, c, rfl, hc⟩ := hp.t.slice
  cases l with
  | nil => exact ⟨A, c, rfl, Nat.zero_le _, by simp, fun k x h => by simp at h⟩
  | cons t r =>
    obtain ⟨b', o, c', e, _, hb', _⟩ := hp.t.hd
    have hlo := hp.lo b' o _ c' e (by simp)
    have e2 := e
    injection e2 with e2 _ _
    subst e2
    cases row with
    | none => exact RowsAt.only hp.t (g := W.heap.size) ⟨hg.os, hg.tape, hg.output, hg.size, fun i hi _ => hg.block i hi (by simp)⟩ (fun _ a ha => by cases ha; show b' ≠ _; omega)
    | some k => exact RowsAt.only hp.t hg (fun _ a ha => by cases ha; have := (hr k rfl).1; show b' ≠ k; omega)
theorem ScS.setC {bP B : Nat} {n : Int} {w : World} {l : List Tk} {c c' : List UInt8} {v : Value} {ps : List Prt} {W : World} (h : ScS bP B n w l c v ps W) : ScS bP B n w l c' v ps (W.setCell ⟨w.heap.size + 1, 0, none⟩ (.string (bs c'))) :=
  ⟨h.st.setLow (by have := h.lt; omega) (by have := h.lo; omega), h.r.far (p := ⟨w.heap.size + 1, 0, none⟩) (by show w.heap.size ≠ w.heap.size + 1; omega) _, h.s.set_ 0 _, ownsRow_set h.own (own_ge h.own (by omega)), h.nil, h.on.set_new (by omega) _ _, h.lt, h.lo⟩
theorem ScS.parts {bP B : Nat} {n : Int} {w : World} {l : List Tk} {c : List UInt8} {v : Value} {ps : List Prt} {W : World} (h : ScS bP B n w l c v ps W) : PartsAt W v ps := by
  refine RowsAt.of_own (B := w.heap.size + 2) (e := 41) ?_ (by rw [List.length_map]; exact h.own)
  intro x hx
  obtain ⟨p, _, rfl⟩ := List.mem_map.1 hx; rfl
def SchR (bP B : Nat) (n : Int) (w : World) (r : PR Sch) (e : Ending) (w' : World) : Prop := match r with
  | .ok s l => (∃ v, e = .returned (.agg #[.string (bs s.c), v]) ∧ PartsAt w' v s.ps) ∧ Only w w' bP
  | .err x a => e = faultE x a ∧ Only w w' bP
theorem partsP_stop {n : Int} {f : Nat} {acc : List Prt} {l : List Tk} (h : acc ≠ [] ∧ seesP 4 [125] l = true) : partsP n (f + 1) acc l = .ok acc l := by unfold partsP; rw [if_pos h]
theorem partsP_go {n : Int} {f : Nat} {acc : List Prt} {l : List Tk} (h : ¬ (acc ≠ [] ∧ seesP 4 [125] l = true)) : partsP n (f + 1) acc l = match partP n acc l with | .err e a => .err e a | .ok p r => partsP n f (acc ++ [p]) r := by
  show (if acc ≠ [] ∧ seesP 4 [125] l = true then PR.ok acc l else _) = _
  exact if_neg h
/-- the loop of scheme -/
structure ScL (bP B : Nat) (n : Int) (w : World) (l3 : List Tk) (c : List UInt8) (g : Nat) (wr : World) (l : List Tk) (v : Value) (ps : List Prt) (f : Nat) : Prop where
  s : ScS bP B n w l c v ps wr
  fu : l.length < f
  eq : partsP n (l3.length + 1) [] l3 = partsP n f ps l
  le : ps.length + l.length ≤ l3.length
  g : l.length ≤ g
theorem Only.grown {w W W' : World} {g : Nat} {row : Option Nat} (h : Only w W g) (hg : W.grownBy W' row) (hr : ∀ k, row = some k → w.heap.size ≤ k) : Only w W' g :=
  ⟨hg.os.trans h.os, hg.tape.trans h.tape, hg.output.trans h.output, Nat.le_trans h.size hg.size, fun i hi hne => (hg.block i (Nat.lt_of_lt_of_le hi h.size) (fun e => by have := hr i e.symm; omega)).trans (h.block i hi hne)⟩
theorem schR_err {nm : List UInt8 → Bool} {n : Int} {c : List UInt8} {l3 : List Tk} {x a : Int} (h : partsP n (l3.length + 1) [] l3 = .err x a) : schR nm n c l3 = .err x a := by unfold schR; rw [h]
theorem schR_end {nm : List UInt8 → Bool} {n : Int} {c : List UInt8} {l3 l4 : List Tk} {ps : List Prt} (h : partsP n (l3.length + 1) [] l3 = .ok ps l4) : schR nm n c l3 = match takeP n 4 [125] l4 with
    | .err e a => .err e a
    | .ok stop l5 => if validB nm ⟨c, ps⟩ = false then .err 1 stop.a else match l5 with
      | [] => .ok ⟨c, ps⟩ []
      | t :: _ => .err 5 t.a := by unfold schR; rw [h]; rfl
theorem eval_at {a : Act} {d : Nat} {v : Value} (h : a.tmps[d]? = some v) : a.eval (.tmp d) = v := by
  show a.tmps.getD d undef = v
  rw [Array.getD_eq_getD_getElem?, h]; rfl
/-- what a round of scheme leaves alone -/
structure ScC (bP : Nat) (w wr W : World) : Prop where
  r : Blk W w.heap.size 24 #[.string ⟨#[]⟩, .slice none 0 0]
  on : Only w W bP
  sz : wr.heap.size ≤ W.heap.size
set_option maxRecDepth 100000 in
set_option maxHeartbeats 2000000 in
theorem scheme_any (bP B : Nat) (n : Int) (l0 : List Tk) (hl : l0.length ≤ 1000000) (hts : ∀ t ∈ l0, t.s.length ≤ 100000) (w : World) (hB : B ≤ w.heap.size) (h : PSt bP B n l0 w) :
    Calls Tryz.prog 44 #[.pointer (some ⟨bP, 0, none⟩)] w fun e w' => SchR bP B n w (schemeP isNm n l0) e w' := by
  have hbP := h.only
  have H0 : Hid (ScS bP B n w l0 [] (.slice none 0 0) [] ((w.alloc (.cells #[.string ⟨#[]⟩, .slice none 0 0] 24)).alloc (.cells #[.string ⟨#[]⟩, .slice none 0 0] 24))) := by
    refine ⟨h.to (below_two w _ _), (Blk.new w _ _).alloc _, ?_, World.ownsRow_nil _ _ _ _, fun _ => rfl, ((Only.refl w bP).alloc _).alloc _, hbP, hB⟩
    have := Blk.new (w.alloc (.cells #[.string ⟨#[]⟩, .slice none 0 0] 24)) 24 #[.string ⟨#[]⟩, .slice none 0 0]
    rwa [World.size_alloc] at this
  have CT := fun w h => take_any bP B n l0 1 wScheme (by omega) w h
  clear h
  go_enter Tryz.func44, Tryz.ntmps44
  go_wp2_with fail
  refine (CT _ H0.out.st).mono ?_
  intro e w1 hr
  clear CT
  cases hT : takeP n 1 wScheme l0 with
  | err x a =>
    rw [hT] at hr
    have HV : Hid (schemeP isNm n l0 = .err x a) := by show _ = _; unfold schemeP; rw [hT]
    obtain ⟨he, ho⟩ := hr
    unfold faultE at he
    subst he
    have HO := hide (H0.out.on.trans ho)
    clear ho hT
    go_wp2_with fail
    exact ⟨rfl, by rw [HV.out]; exact ⟨rfl, HO.out⟩⟩
  | ok t0 l1 =>
    rw [hT] at hr
    obtain ⟨rfl, hp, ho⟩ := hr
    have e0 := takeP_len hT
    have HV1 : Hid (schemeP isNm n l0 = match takeP n 1 [] l1 with | .err e a => .err e a | .ok c l2 => match takeP n 4 [123] l2 with | .err e a => .err e a | .ok _ l3 => schR isNm n c.s l3) := by show _ = _; unfold schemeP; rw [hT]; rfl
    have HT1 := hide (H0.out.step hp ho)
    have hl1 : l1.length ≤ 1000000 := by rw [e0, List.length_cons] at hl; omega
    have HTS1 : Hid (∀ t ∈ l1, t.s.length ≤ 100000) := fun t ht => hts t (by rw [e0]; exact List.mem_cons_of_mem _ ht)
    clear hp ho hT H0 e0 hts
    have CT := fun w h => take_any bP B n l1 1 [] (by omega) w h
    go_wp2_with fail
    refine (CT _ HT1.out.st).mono ?_
    intro e w2 hr
    clear CT
    cases hT : takeP n 1 [] l1 with
    | err x a =>
      rw [hT] at hr
      have HV : Hid (schemeP isNm n l0 = .err x a) := by show _ = _; rw [HV1.out, hT]
      obtain ⟨he, ho⟩ := hr
      unfold faultE at he
      subst he
      have HO := hide (HT1.out.on.trans ho)
      clear ho hT
      go_wp2_with fail
      exact ⟨rfl, by rw [HV.out]; exact ⟨rfl, HO.out⟩⟩
    | ok tc l2 =>
      rw [hT] at hr
      obtain ⟨rfl, hp, ho⟩ := hr
      have e0 := takeP_len hT
      have HV2 : Hid (schemeP isNm n l0 = match takeP n 4 [123] l2 with | .err e a => .err e a | .ok _ l3 => schR isNm n tc.s l3) := by show _ = _; rw [HV1.out, hT]
      have HT2 := hide (HT1.out.step hp ho)
      have hl2 : l2.length ≤ 1000000 := by rw [e0, List.length_cons] at hl1; omega
      have HTC : Hid (tc.s.length ≤ 100000) := HTS1.out tc (by rw [e0]; exact List.mem_cons_self ..)
      have HTS2 : Hid (∀ t ∈ l2, t.s.length ≤ 100000) := fun t ht => HTS1.out t (by rw [e0]; exact List.mem_cons_of_mem _ ht)
      clear hp ho hT HT1 HV1 e0
      unfold tcells
      have z0 : w2.cell? ⟨w.heap.size + 1, 0, none⟩ = some (.string (bs [])) := HT2.out.s.cell 0
      have y0 := HT2.out.s.frozen 0
      have HT3 : Hid (ScS bP B n w l2 tc.s (.slice none 0 0) [] (w2.setCell ⟨w.heap.size + 1, 0, none⟩ (.string (bs tc.s)))) := HT2.out.setC
      have CT := fun w h => take_any bP B n l2 4 [123] (by omega) w h
      have hfl : ∀ w, (Instr.field 50 (.agg #[.int .i64 tc.k, .int .i64 tc.a, .int .i64 tc.n, .string (bs tc.s)]) 3).run Tryz.prog w = .ok (.string (bs tc.s)) w := fun _ => by kernel_rfl
      go_wp2_with fail
      clear z0 y0 HT2 hfl
      generalize w2.setCell ⟨w.heap.size + 1, 0, none⟩ (.string (bs tc.s)) = w3 at *
      refine (CT _ HT3.out.st).mono ?_
      intro e w4 hr
      clear CT
      cases hT : takeP n 4 [123] l2 with
      | err x a =>
        rw [hT] at hr
        have HV : Hid (schemeP isNm n l0 = .err x a) := by show _ = _; rw [HV2.out, hT]
        obtain ⟨he, ho⟩ := hr
        unfold faultE at he
        subst he
        have HO := hide (HT3.out.on.trans ho)
        clear ho hT
        go_wp2_with fail
        exact ⟨rfl, by rw [HV.out]; exact ⟨rfl, HO.out⟩⟩
      | ok t4 l3 =>
        rw [hT] at hr
        obtain ⟨rfl, hp, ho⟩ := hr
        have e0 := takeP_len hT
        have HV3 : Hid (schemeP isNm n l0 = schR isNm n tc.s l3) := by show _ = _; rw [HV2.out, hT]
        have HT4 := hide (HT3.out.step hp ho)
        have hl3 : l3.length ≤ 1000000 := by rw [e0, List.length_cons] at hl2; omega
        clear hp ho hT HT3 HV2 e0
        generalize tc.s = c at *
        unfold tcells
        go_wp2_with fail
        go_loopg [13] l3.length (fun g _ wr => ∃ l v ps f, ScL bP B n w l3 c g wr l v ps f)
        case atStart => exact ⟨l3, .slice none 0 0, [], l3.length + 1, HT4.out, by omega, rfl, by simp, Nat.le_refl _⟩
        case round =>
          obtain ⟨l, v, ps, f, hL⟩ := hrel
          have HL := hide hL
          obtain ⟨f', rfl⟩ : ∃ f', f = f' + 1 := ⟨f - 1, by have := hL.fu; omega⟩
          have hll : l.length ≤ 8796093022208 := by have := hL.le; omega
          have hps : ps.length ≤ 1000000 := by have := hL.le; omega
          obtain ⟨A, cp, hv0⟩ := own_slice hL.s.own
          have hlt : ∀ g, v.ownBlock = some g → w.heap.size + 2 ≤ g ∧ g < wr.heap.size := fun g e => World.ownsRow.lt hL.s.own g e
          have HLT := hide hlt
          have HSd := hide (hL.s.to ((Below.refl wr.heap.size wr).drew))
          have CS := fun w h => sees_any bP B n l 4 [125] hll w h
          clear HT4 hL hlt
          by_cases hgo : ¬ (ps ≠ [] ∧ seesP 4 [125] l = true)
          · have HPG : Hid (partsP n (l3.length + 1) [] l3 = match partP n ps l with | .err e a => .err e a | .ok p r => partsP n f' (ps ++ [p]) r) := HL.out.eq.trans (partsP_go hgo)
            have hs1 : wr.cell? ⟨w.heap.size + 1, 1, none⟩ = some v := HL.out.s.s.cell 1
            rw [hv0] at hs1
            have HV0 := hide hv0
            clear hv0
            by_cases hpe : ps = []
            · have e0 : ((ps.length : Int) == 0) = true := by rw [hpe]; rfl
              clear hgo hpe
              go_wp2_with fail
              clear hs1 e0 CS
              have hlt := HLT.out
              have hbS : w.heap.size + 1 < wr.heap.size := HL.out.s.s.lt
              apply wp_region_lo4 (C := fun W => ScC bP w wr W) (V := [some _, some _, some _, some _, some _, none, none, none, some _, none]) (Fs := [(5, fun a W => ∃ p l', partP n ps l = .ok p l' ∧ a.tmps[27]? = some (.agg (ptC p)) ∧ PSt bP B n l' W), (6, fun a W => ∃ g p l', a.tmps[28]? = some (.slice (some ⟨g, 0, none⟩) 1 1) ∧ (partP n ps l = .ok p l' ∧ Blk W g 41 (ptC p)) ∧ wr.heap.size ≤ g), (7, fun a W => ∃ v2 p l', a.tmps[29]? = some v2 ∧ partP n ps l = .ok p l' ∧ World.ownsRow W (w.heap.size + 2) 41 4 v2 (ps.length + 1) ((ps.map ptV).flatten ++ ptV p)), (9, fun a W => ∃ v2, a.tmps[29]? = some v2 ∧ Blk W (w.heap.size + 1) 24 #[.string (bs c), v2])]) (Ns := [(1, fun (_ : Act) W => Blk W (w.heap.size + 1) 24 #[.string (bs c), v]), (4, fun (_ : Act) W => Blk W (w.heap.size + 1) 24 #[.string (bs c), v]), (5, fun (_ : Act) W => ScS bP B n w l c v ps W), (7, fun (_ : Act) W => World.ownsRow W (w.heap.size + 2) 41 4 v ps.length (ps.map ptV).flatten ∧ wr.heap.size ≤ W.heap.size), (9, fun (_ : Act) W => Blk W (w.heap.size + 1) 24 #[.string (bs c), v])]) (Rel := fun i a0_ a1_ x x' => if i = 5 then (fun b0 b1 x x' => Only x x' bP) a0_ a1_ x x' else if i = 7 then (fun b0 b1 x x' => World.grownBy x x' (Value.ownBlock v)) a0_ a1_ x x' else if i = 9 then (fun b0 b1 x x' => ∃ u, x' = World.setCell x ⟨(w.heap.size + 1), 1, none⟩ u) a0_ a1_ x x' else Below x.heap.size x x')
              case hm => kernel_rfl
              case hB => kernel_rfl
              case hCw => exact ⟨HSd.out.r, HSd.out.on, Nat.le_refl _⟩
              case hC =>
                intro i a a' w_ w' hw hr
                by_cases e5 : i = 5
                · subst e5
                  have hr' : (fun b0 b1 x x' => Only x x' bP) a a' w_ w' := hr
                  exact ⟨Only.blk hr' hw.r (by omega), hw.on.trans hr', Nat.le_trans hw.sz hr'.size⟩
                by_cases e7 : i = 7
                · subst e7
                  have hr' : (fun b0 b1 x x' => World.grownBy x x' (Value.ownBlock v)) a a' w_ w' := hr
                  exact ⟨(hr'.block _ hw.r.lt (fun e => by have := (hlt _ e.symm).1; omega)).trans hw.r, hw.on.grown hr' (fun k e => by have := (hlt _ e).1; omega), Nat.le_trans hw.sz hr'.size⟩
                by_cases e9 : i = 9
                · subst e9
                  have hr' : (fun b0 b1 x x' => ∃ u, x' = World.setCell x ⟨(w.heap.size + 1), 1, none⟩ u) a a' w_ w' := hr
                  obtain ⟨u, rfl⟩ := hr'
                  exact ⟨hw.r.far (p := ⟨w.heap.size + 1, 1, none⟩) (by show w.heap.size ≠ w.heap.size + 1; omega) u, hw.on.set_new (by omega) _ u, by rw [World.size_setCell]; exact hw.sz⟩
                have hr' : Below w_.heap.size w_ w' := by simpa [e5, e7, e9] using hr
                exact ⟨hw.r.to hr', hw.on.trans (Only.of_below bP hr'), Nat.le_trans hw.sz hr'.size⟩
              case hst =>
                refine keeps4_cons (fun i a a' w_ w' hne hwt hs hput hr h => by
                  by_cases e5 : i = 5
                  · exact absurd e5 hne
                  by_cases e7 : i = 7
                  · subst e7
                    have hr' : (fun b0 b1 x x' => World.grownBy x x' (Value.ownBlock v)) a a' w_ w' := hr
                    obtain ⟨p, l', h1, h2, h3⟩ := h
                    exact ⟨p, l', h1, (hs 27 (by kernel_rfl)).trans h2, h3.grown hr' (fun k e => by have := (hlt _ e).1; omega)⟩
                  by_cases e9 : i = 9
                  · subst e9
                    have hr' : (fun b0 b1 x x' => ∃ u, x' = World.setCell x ⟨(w.heap.size + 1), 1, none⟩ u) a a' w_ w' := hr
                    obtain ⟨p, l', h1, h2, h3⟩ := h
                    obtain ⟨u, rfl⟩ := hr'
                    exact ⟨p, l', h1, (hs 27 (by kernel_rfl)).trans h2, h3.setLow (by omega) (by omega)⟩
                  have hr' : Below w_.heap.size w_ w' := by simpa [e5, e7, e9] using hr
                  obtain ⟨p, l', h1, h2, h3⟩ := h
                  exact ⟨p, l', h1, (hs 27 (by kernel_rfl)).trans h2, h3.to hr'⟩) ?_
                refine keeps4_cons (fun i a a' w_ w' hne hwt hs hput hr h => by
                  by_cases e5 : i = 5
                  · subst e5
                    exact absurd (hwt.symm.trans (show waitsT .any _ _ 6 5 = true by kernel_rfl)) (by decide)
                  by_cases e7 : i = 7
                  · subst e7
                    have hr' : (fun b0 b1 x x' => World.grownBy x x' (Value.ownBlock v)) a a' w_ w' := hr
                    obtain ⟨g, p, l', h1, h2, h3⟩ := h
                    exact ⟨g, p, l', (hs 28 (by kernel_rfl)).trans h1, ⟨h2.1, (hr'.block g h2.2.lt (fun e => by have := (hlt g e.symm).2; omega)).trans h2.2⟩, h3⟩
                  by_cases e9 : i = 9
                  · subst e9
                    have hr' : (fun b0 b1 x x' => ∃ u, x' = World.setCell x ⟨(w.heap.size + 1), 1, none⟩ u) a a' w_ w' := hr
                    obtain ⟨g, p, l', h1, h2, h3⟩ := h
                    obtain ⟨u, rfl⟩ := hr'
                    exact ⟨g, p, l', (hs 28 (by kernel_rfl)).trans h1, ⟨h2.1, h2.2.far (p := ⟨w.heap.size + 1, 1, none⟩) (by show g ≠ w.heap.size + 1; omega) u⟩, h3⟩
                  have hr' : Below w_.heap.size w_ w' := by simpa [e5, e7, e9] using hr
                  obtain ⟨g, p, l', h1, h2, h3⟩ := h
                  exact ⟨g, p, l', (hs 28 (by kernel_rfl)).trans h1, ⟨h2.1, h2.2.to hr'⟩, h3⟩) ?_
                refine keeps4_cons (fun i a a' w_ w' hne hwt hs hput hr h => by
                  by_cases e5 : i = 5
                  · subst e5
                    exact absurd (hwt.symm.trans (show waitsT .any _ _ 7 5 = true by kernel_rfl)) (by decide)
                  by_cases e7 : i = 7
                  · exact absurd e7 hne
                  by_cases e9 : i = 9
                  · subst e9
                    have hr' : (fun b0 b1 x x' => ∃ u, x' = World.setCell x ⟨(w.heap.size + 1), 1, none⟩ u) a a' w_ w' := hr
                    obtain ⟨v2, p, l', h1, h2, h3⟩ := h
                    obtain ⟨u, rfl⟩ := hr'
                    exact ⟨v2, p, l', (hs 29 (by kernel_rfl)).trans h1, h2, ownsRow_set h3 (fun e => by have := (World.ownsRow.lt h3 _ e).1; omega)⟩
                  have hr' : Below w_.heap.size w_ w' := by simpa [e5, e7, e9] using hr
                  obtain ⟨v2, p, l', h1, h2, h3⟩ := h
                  exact ⟨v2, p, l', (hs 29 (by kernel_rfl)).trans h1, h2, ownsRow_to h3 hr'⟩) ?_
                refine keeps4_cons (fun i a a' w_ w' hne hwt hs hput hr h => by
                  by_cases e5 : i = 5
                  · subst e5
                    exact absurd (hwt.symm.trans (show waitsT .any _ _ 9 5 = true by kernel_rfl)) (by decide)
                  by_cases e7 : i = 7
                  · subst e7
                    exact absurd (hwt.symm.trans (show waitsT .any _ _ 9 7 = true by kernel_rfl)) (by decide)
                  by_cases e9 : i = 9
                  · exact absurd e9 hne
                  have hr' : Below w_.heap.size w_ w' := by simpa [e5, e7, e9] using hr
                  obtain ⟨g, h1, h2⟩ := h
                  exact ⟨g, (hs 29 (by kernel_rfl)).trans h1, h2.to hr'⟩) ?_
                exact keeps4_nil
              case hN0 => exact pre0_cons (HSd.out.s) (pre0_cons (HSd.out.s) (pre0_cons (HSd.out) (pre0_cons (⟨HSd.out.own, Nat.le_refl _⟩) (pre0_cons (HSd.out.s) (pre0_nil)))))
              case hNst =>
                refine prek_cons3 (fun i a a' w_ w' hne hwt hr h hput => by
                  by_cases e5 : i = 5
                  · subst e5
                    have hr' : (fun b0 b1 x x' => Only x x' bP) a a' w_ w' := hr
                    exact Only.blk hr' h (by omega)
                  by_cases e7 : i = 7
                  · subst e7
                    exact absurd (hwt.symm.trans (show waitsT .any _ _ 7 1 = true by kernel_rfl)) (by decide)
                  by_cases e9 : i = 9
                  · subst e9
                    exact absurd (hwt.symm.trans (show waitsT .any _ _ 9 1 = true by kernel_rfl)) (by decide)
                  have hr' : Below w_.heap.size w_ w' := by simpa [e5, e7, e9] using hr
                  exact h.to hr') ?_
                refine prek_cons3 (fun i a a' w_ w' hne hwt hr h hput => by
                  by_cases e5 : i = 5
                  · subst e5
                    exact absurd (hwt.symm.trans (show waitsT .any _ _ 5 4 = true by kernel_rfl)) (by decide)
                  by_cases e7 : i = 7
                  · subst e7
                    exact absurd (hwt.symm.trans (show waitsT .any _ _ 7 4 = true by kernel_rfl)) (by decide)
                  by_cases e9 : i = 9
                  · subst e9
                    exact absurd (hwt.symm.trans (show waitsT .any _ _ 9 4 = true by kernel_rfl)) (by decide)
                  have hr' : Below w_.heap.size w_ w' := by simpa [e5, e7, e9] using hr
                  exact h.to hr') ?_
                refine prek_cons3 (fun i a a' w_ w' hne hwt hr h hput => by
                  by_cases e5 : i = 5
                  · exact absurd e5 hne
                  by_cases e7 : i = 7
                  · subst e7
                    exact absurd (hwt.symm.trans (show waitsT .any _ _ 7 5 = true by kernel_rfl)) (by decide)
                  by_cases e9 : i = 9
                  · subst e9
                    exact absurd (hwt.symm.trans (show waitsT .any _ _ 9 5 = true by kernel_rfl)) (by decide)
                  have hr' : Below w_.heap.size w_ w' := by simpa [e5, e7, e9] using hr
                  exact h.to hr') ?_
                refine prek_cons3 (fun i a a' w_ w' hne hwt hr h hput => by
                  by_cases e5 : i = 5
                  · subst e5
                    have hr' : (fun b0 b1 x x' => Only x x' bP) a a' w_ w' := hr
                    exact ⟨ownsRow_only h.1 hr' (own_ge h.1 (by omega)), Nat.le_trans h.2 hr'.size⟩
                  by_cases e7 : i = 7
                  · exact absurd e7 hne
                  by_cases e9 : i = 9
                  · subst e9
                    exact absurd (hwt.symm.trans (show waitsT .any _ _ 9 7 = true by kernel_rfl)) (by decide)
                  have hr' : Below w_.heap.size w_ w' := by simpa [e5, e7, e9] using hr
                  exact ⟨ownsRow_to h.1 hr', Nat.le_trans h.2 hr'.size⟩) ?_
                refine prek_cons3 (fun i a a' w_ w' hne hwt hr h hput => by
                  by_cases e5 : i = 5
                  · subst e5
                    have hr' : (fun b0 b1 x x' => Only x x' bP) a a' w_ w' := hr
                    exact Only.blk hr' h (by omega)
                  by_cases e7 : i = 7
                  · subst e7
                    have hr' : (fun b0 b1 x x' => World.grownBy x x' (Value.ownBlock v)) a a' w_ w' := hr
                    exact (hr'.block (w.heap.size + 1) h.lt (fun e => by have := (hlt _ e.symm).1; omega)).trans h
                  by_cases e9 : i = 9
                  · exact absurd e9 hne
                  have hr' : Below w_.heap.size w_ w' := by simpa [e5, e7, e9] using hr
                  exact h.to hr') ?_
                exact prek_nil3
              case hop =>
                refine ⟨?_, ?_, ?_, ?_, ?_, ?_, ?_, ?_, ?_, ?_, trivial⟩
                · intro a w_ K hw hS hd hN hK
                  have s3 := hS.at 3 (by kernel_rfl) rfl
                  rw [if_pos (want_free rfl)]
                  go_simp
                  exact hK _ _ (Below.refl _ _) (vok rfl) (facts_cons (fun h => absurd h (by decide)) (facts_cons (fun h => absurd h (by decide)) (facts_cons (fun h => absurd h (by decide)) (facts_cons (fun h => absurd h (by decide)) facts_nil))))
                · intro a w_ K hw hS hd hN hK
                  have s22 := (hd 0 (by kernel_rfl)).at (d := 22) rfl rfl rfl
                  have hB1 := hN _ (List.mem_cons_self ..) rfl
                  rw [if_pos (want_free rfl)]
                  have c0 := (hB1.cell 1).trans (show _ = some v from rfl)
                  go_simp
                  exact hK _ _ (Below.refl _ _) (vok rfl) (facts_cons (fun h => absurd h (by decide)) (facts_cons (fun h => absurd h (by decide)) (facts_cons (fun h => absurd h (by decide)) (facts_cons (fun h => absurd h (by decide)) facts_nil))))
                · intro a w_ K hw hS hd hN hK
                  have s0 := hS.at 0 (by kernel_rfl) rfl
                  rw [if_pos (want_free rfl)]
                  go_simp
                  exact hK _ _ (Below.refl _ _) (vok rfl) (facts_cons (fun h => absurd h (by decide)) (facts_cons (fun h => absurd h (by decide)) (facts_cons (fun h => absurd h (by decide)) (facts_cons (fun h => absurd h (by decide)) facts_nil))))
                · intro a w_ K hw hS hd hN hK
                  have s3 := hS.at 3 (by kernel_rfl) rfl
                  rw [if_pos (want_free rfl)]
                  go_simp
                  exact hK _ _ (Below.refl _ _) (vok rfl) (facts_cons (fun h => absurd h (by decide)) (facts_cons (fun h => absurd h (by decide)) (facts_cons (fun h => absurd h (by decide)) (facts_cons (fun h => absurd h (by decide)) facts_nil))))
                · intro a w_ K hw hS hd hN hK
                  have s25 := (hd 3 (by kernel_rfl)).at (d := 25) rfl rfl rfl
                  have hB4 := hN _ (List.mem_cons_of_mem _ (List.mem_cons_self ..)) rfl
                  rw [if_pos (want_free rfl)]
                  have c0 := (hB4.cell 1).trans (show _ = some v from rfl)
                  go_simp
                  exact hK _ _ (Below.refl _ _) (vok rfl) (facts_cons (fun h => absurd h (by decide)) (facts_cons (fun h => absurd h (by decide)) (facts_cons (fun h => absurd h (by decide)) (facts_cons (fun h => absurd h (by decide)) facts_nil))))
                · intro a w_ K hw hS hd hN hK
                  have s24 := (hd 2 (by kernel_rfl)).at (d := 24) rfl rfl rfl
                  have s26 := (hd 4 (by kernel_rfl)).at (d := 26) rfl rfl rfl
                  have hSc := hN _ (List.mem_cons_of_mem _ (List.mem_cons_of_mem _ (List.mem_cons_self ..))) rfl
                  rw [if_pos (want_free rfl)]
                  go_simp
                  refine (part_any bP B n l ps v hll (by omega) w_ hSc.st hSc.parts hSc.nil).mono ?_
                  intro e w' hr
                  cases hp : partP n ps l with
                  | err x a2 =>
                    rw [hp] at hr
                    obtain ⟨he, ho⟩ := hr
                    unfold faultE at he
                    subst he
                    have HV : Hid (schemeP isNm n l0 = .err x a2) := by show _ = _; rw [HV3.out]; exact schR_err (HPG.out.trans (by rw [hp]))
                    exact ⟨hS.1, by rw [HV.out]; exact ⟨rfl, hw.on.trans ho⟩⟩
                  | ok p l' =>
                    rw [hp] at hr
                    obtain ⟨he, hst, ho⟩ := hr
                    unfold ptVal at he
                    subst he
                    exact hK _ _ ho (vfree rfl) (facts_cons (fun _ => ⟨p, l', hp, hS.put_at (by kernel_rfl) _, hst⟩) (facts_cons (fun h => absurd h (by decide)) (facts_cons (fun h => absurd h (by decide)) (facts_cons (fun h => absurd h (by decide)) facts_nil))))
                · intro a w_ K hw hS hd hN hK
                  obtain ⟨p, l', hp, s27, hst⟩ := (hd 5 (by kernel_rfl)).2 _ (List.mem_cons_self ..) rfl
                  rw [if_pos (want_free rfl)]
                  unfold ptC at s27
                  go_simp
                  exact hK _ _ (below_one _ _) (vfree rfl) (facts_cons (fun h => absurd h (by decide)) (facts_cons (fun _ => ⟨_, p, l', hS.put_at (by kernel_rfl) _, ⟨hp, Blk.new _ _ _⟩, hw.sz⟩) (facts_cons (fun h => absurd h (by decide)) (facts_cons (fun h => absurd h (by decide)) facts_nil))))
                · intro a w_ K hw hS hd hN hK
                  have s23 := (hd 1 (by kernel_rfl)).at (d := 23) rfl rfl rfl
                  obtain ⟨b28, p28, l28, s28, ⟨hp28, r28⟩, g28⟩ := (hd 6 (by kernel_rfl)).2 _ (List.mem_cons_of_mem _ (List.mem_cons_self ..)) rfl
                  obtain ⟨hOwn, hSz⟩ := hN _ (List.mem_cons_of_mem _ (List.mem_cons_of_mem _ (List.mem_cons_of_mem _ (List.mem_cons_self ..)))) rfl
                  rw [if_pos (want_free rfl)]
                  obtain ⟨i0, hi0, hz0, hz1, hz2⟩ := info_parts info_part
                  refine wp_append_keep w_ (.tmp 23) (.tmp 28) 22 rfl (w.heap.size + 2) 41 i0 _ 4 48 Tryz.underlying22 hi0 hz0 hz1 hz2 rfl (by decide) v ps.length _ (eval_at s23) hOwn ⟨b28, 0, none⟩ 1 1 (ptV p28) (eval_at s28) rfl (fun j u hj => by
                    have := (r28.cell j).trans (show _ = some u by rw [← hj]; simp [ptC, ptV])
                    unfold Addr.add
                    split
                    · rename_i h0; rw [h0] at this; exact this
                    · simpa using this) (by intro u hu; simp [ptV] at hu; rcases hu with rfl | rfl | rfl | rfl <;> rfl) (by unfold maxLen; omega) (by omega) (by omega) ?_
                  intro v2 w' h2 h3 h4 h5
                  exact hK v2 w' h3 (vfree rfl) (facts_cons (fun h => absurd h (by decide)) (facts_cons (fun h => absurd h (by decide)) (facts_cons (fun _ => ⟨v2, p28, l28, hS.put_at (by kernel_rfl) _, hp28, h2⟩) (facts_cons (fun h => absurd h (by decide)) facts_nil))))
                · intro a w_ K hw hS hd hN hK
                  have s3 := hS.at 3 (by kernel_rfl) rfl
                  rw [if_pos (want_free rfl)]
                  go_simp
                  exact hK _ _ (Below.refl _ _) (vok rfl) (facts_cons (fun h => absurd h (by decide)) (facts_cons (fun h => absurd h (by decide)) (facts_cons (fun h => absurd h (by decide)) (facts_cons (fun h => absurd h (by decide)) facts_nil))))
                · intro a w_ K hw hS hd hN hK
                  have s30 := (hd 8 (by kernel_rfl)).at (d := 30) rfl rfl rfl
                  obtain ⟨v29, p29, l29, s29, hp29, o29⟩ := (hd 7 (by kernel_rfl)).2 _ (List.mem_cons_of_mem _ (List.mem_cons_of_mem _ (List.mem_cons_self ..))) rfl
                  have hBs := hN _ (List.mem_cons_of_mem _ (List.mem_cons_of_mem _ (List.mem_cons_of_mem _ (List.mem_cons_of_mem _ (List.mem_cons_self ..))))) rfl
                  rw [if_pos (want_free rfl)]
                  have c0 := (hBs.cell 1).trans (show _ = some v from rfl)
                  have f0 := hBs.frozen 1
                  obtain ⟨A1, c1', rfl⟩ := own_slice o29
                  have hv0 := HV0.out
                  rw [hv0] at c0
                  clear hv0
                  go_simp
                  exact hK undef _ ⟨_, rfl⟩ (vfree rfl) (facts_cons (fun h => absurd h (by decide)) (facts_cons (fun h => absurd h (by decide)) (facts_cons (fun h => absurd h (by decide)) (facts_cons (fun _ => ⟨_, s29, hBs.set_ 1 _⟩) facts_nil))))
              case hfin =>
                intro a w_ hw hS hk
                have s22 := (hk 0 (by decide)).at (d := 22) rfl rfl rfl
                have s23 := (hk 1 (by decide)).at (d := 23) rfl rfl rfl
                have s24 := (hk 2 (by decide)).at (d := 24) rfl rfl rfl
                have s25 := (hk 3 (by decide)).at (d := 25) rfl rfl rfl
                have s26 := (hk 4 (by decide)).at (d := 26) rfl rfl rfl
                obtain ⟨p, l', hp, s27, hst⟩ := (hk 5 (by decide)).2 _ (List.mem_cons_self ..) rfl
                obtain ⟨b28, p28, l28, s28, ⟨hp28, r28⟩, g28⟩ := (hk 6 (by decide)).2 _ (List.mem_cons_of_mem _ (List.mem_cons_self ..)) rfl
                obtain ⟨v29, p29, l29, s29, hp29, o29⟩ := (hk 7 (by decide)).2 _ (List.mem_cons_of_mem _ (List.mem_cons_of_mem _ (List.mem_cons_self ..))) rfl
                have s30 := (hk 8 (by decide)).at (d := 30) rfl rfl rfl
                obtain ⟨z29, zs29, zP⟩ := (hk 9 (by decide)).2 _ (List.mem_cons_of_mem _ (List.mem_cons_of_mem _ (List.mem_cons_of_mem _ (List.mem_cons_self ..)))) rfl
                have hlit := hS.lit _ (by kernel_rfl) (lits_cons s22 (lits_cons s23 (lits_cons s24 (lits_cons s25 (lits_cons s26 (lits_cons s27 (lits_cons s28 (lits_cons s29 (lits_cons s30 lits_nil)))))))))
                rw [hlit]
                obtain rfl : v29 = z29 := Option.some.inj (s29.symm.trans zs29)
                have hq := hp28.symm.trans hp
                have hq2 := hp29.symm.trans hp
                injection hq with hq3 hq4
                injection hq2 with hq5 hq6
                subst hq3 hq4 hq5 hq6
                have HFIN : Hid (ScS bP B n w l29 c v29 (ps ++ [p29]) w_) := ⟨hst, hw.r, zP, by rw [List.length_append, List.map_append, List.flatten_append]; simpa using o29, fun e => by simp at e, hw.on, hbP, hB⟩
                have HLL := hide (partP_len hp)
                have HPG2 : Hid (partsP n (l3.length + 1) [] l3 = partsP n f' (ps ++ [p29]) l29) := HPG.out.trans (by rw [hp])
                clear zs29 r28 g28 hp hp28 hp29 hst o29 zP hw hlt
                simp only [litT, List.setIfInBounds_toArray, List.set_cons_succ, List.set_cons_zero]
                clear hlit hk hS s22 s23 s24 s25 s26 s27 s28 s29 s30
                go_wp2_with fail
                have hL := HL.out
                have hlL := HLL.out
                go_roundg l29.length
                case measure => have := hL.g; omega
                case rel => exact ⟨l29, v29, ps ++ [p29], f', HFIN.out, by have := hL.fu; omega, HPG2.out, by have := hL.le; rw [List.length_append, List.length_singleton]; omega, Nat.le_refl _⟩
            · have e0 : ((ps.length : Int) == 0) = false := by rw [beq_eq_false_iff_ne]; have : ps.length ≠ 0 := fun h => hpe (List.eq_nil_of_length_eq_zero h); omega
              have hsf : seesP 4 [125] l = false := by cases h : seesP 4 [125] l; rfl; exact absurd ⟨hpe, h⟩ hgo
              rw [hsf] at CS
              clear hgo hpe hsf
              go_wp2_with fail
              refine (CS _ HL.out.s.st).mono ?_
              rintro e w' ⟨rfl, e9⟩
              have e9 := e9.symm
              subst e9
              go_wp2_with fail
              clear hs1 e0 CS
              have hlt := HLT.out
              have hbS : w.heap.size + 1 < wr.heap.size := HL.out.s.s.lt
              apply wp_region_lo4 (C := fun W => ScC bP w wr W) (V := [some _, some _, some _, some _, some _, none, none, none, some _, none]) (Fs := [(5, fun a W => ∃ p l', partP n ps l = .ok p l' ∧ a.tmps[27]? = some (.agg (ptC p)) ∧ PSt bP B n l' W), (6, fun a W => ∃ g p l', a.tmps[28]? = some (.slice (some ⟨g, 0, none⟩) 1 1) ∧ (partP n ps l = .ok p l' ∧ Blk W g 41 (ptC p)) ∧ wr.heap.size ≤ g), (7, fun a W => ∃ v2 p l', a.tmps[29]? = some v2 ∧ partP n ps l = .ok p l' ∧ World.ownsRow W (w.heap.size + 2) 41 4 v2 (ps.length + 1) ((ps.map ptV).flatten ++ ptV p)), (9, fun a W => ∃ v2, a.tmps[29]? = some v2 ∧ Blk W (w.heap.size + 1) 24 #[.string (bs c), v2])]) (Ns := [(1, fun (_ : Act) W => Blk W (w.heap.size + 1) 24 #[.string (bs c), v]), (4, fun (_ : Act) W => Blk W (w.heap.size + 1) 24 #[.string (bs c), v]), (5, fun (_ : Act) W => ScS bP B n w l c v ps W), (7, fun (_ : Act) W => World.ownsRow W (w.heap.size + 2) 41 4 v ps.length (ps.map ptV).flatten ∧ wr.heap.size ≤ W.heap.size), (9, fun (_ : Act) W => Blk W (w.heap.size + 1) 24 #[.string (bs c), v])]) (Rel := fun i a0_ a1_ x x' => if i = 5 then (fun b0 b1 x x' => Only x x' bP) a0_ a1_ x x' else if i = 7 then (fun b0 b1 x x' => World.grownBy x x' (Value.ownBlock v)) a0_ a1_ x x' else if i = 9 then (fun b0 b1 x x' => ∃ u, x' = World.setCell x ⟨(w.heap.size + 1), 1, none⟩ u) a0_ a1_ x x' else Below x.heap.size x x')
              case hm => kernel_rfl
              case hB => kernel_rfl
              case hCw => exact ⟨HSd.out.r, HSd.out.on, Nat.le_refl _⟩
              case hC =>
                intro i a a' w_ w' hw hr
                by_cases e5 : i = 5
                · subst e5
                  have hr' : (fun b0 b1 x x' => Only x x' bP) a a' w_ w' := hr
                  exact ⟨Only.blk hr' hw.r (by omega), hw.on.trans hr', Nat.le_trans hw.sz hr'.size⟩
                by_cases e7 : i = 7
                · subst e7
                  have hr' : (fun b0 b1 x x' => World.grownBy x x' (Value.ownBlock v)) a a' w_ w' := hr
                  exact ⟨(hr'.block _ hw.r.lt (fun e => by have := (hlt _ e.symm).1; omega)).trans hw.r, hw.on.grown hr' (fun k e => by have := (hlt _ e).1; omega), Nat.le_trans hw.sz hr'.size⟩
                by_cases e9 : i = 9
                · subst e9
                  have hr' : (fun b0 b1 x x' => ∃ u, x' = World.setCell x ⟨(w.heap.size + 1), 1, none⟩ u) a a' w_ w' := hr
                  obtain ⟨u, rfl⟩ := hr'
                  exact ⟨hw.r.far (p := ⟨w.heap.size + 1, 1, none⟩) (by show w.heap.size ≠ w.heap.size + 1; omega) u, hw.on.set_new (by omega) _ u, by rw [World.size_setCell]; exact hw.sz⟩
                have hr' : Below w_.heap.size w_ w' := by simpa [e5, e7, e9] using hr
                exact ⟨hw.r.to hr', hw.on.trans (Only.of_below bP hr'), Nat.le_trans hw.sz hr'.size⟩
              case hst =>
                refine keeps4_cons (fun i a a' w_ w' hne hwt hs hput hr h => by
                  by_cases e5 : i = 5
                  · exact absurd e5 hne
                  by_cases e7 : i = 7
                  · subst e7
                    have hr' : (fun b0 b1 x x' => World.grownBy x x' (Value.ownBlock v)) a a' w_ w' := hr
                    obtain ⟨p, l', h1, h2, h3⟩ := h
                    exact ⟨p, l', h1, (hs 27 (by kernel_rfl)).trans h2, h3.grown hr' (fun k e => by have := (hlt _ e).1; omega)⟩
                  by_cases e9 : i = 9
                  · subst e9
                    have hr' : (fun b0 b1 x x' => ∃ u, x' = World.setCell x ⟨(w.heap.size + 1), 1, none⟩ u) a a' w_ w' := hr
                    obtain ⟨p, l', h1, h2, h3⟩ := h
                    obtain ⟨u, rfl⟩ := hr'
                    exact ⟨p, l', h1, (hs 27 (by kernel_rfl)).trans h2, h3.setLow (by omega) (by omega)⟩
                  have hr' : Below w_.heap.size w_ w' := by simpa [e5, e7, e9] using hr
                  obtain ⟨p, l', h1, h2, h3⟩ := h
                  exact ⟨p, l', h1, (hs 27 (by kernel_rfl)).trans h2, h3.to hr'⟩) ?_
                refine keeps4_cons (fun i a a' w_ w' hne hwt hs hput hr h => by
                  by_cases e5 : i = 5
                  · subst e5
                    exact absurd (hwt.symm.trans (show waitsT .any _ _ 6 5 = true by kernel_rfl)) (by decide)
                  by_cases e7 : i = 7
                  · subst e7
                    have hr' : (fun b0 b1 x x' => World.grownBy x x' (Value.ownBlock v)) a a' w_ w' := hr
                    obtain ⟨g, p, l', h1, h2, h3⟩ := h
                    exact ⟨g, p, l', (hs 28 (by kernel_rfl)).trans h1, ⟨h2.1, (hr'.block g h2.2.lt (fun e => by have := (hlt g e.symm).2; omega)).trans h2.2⟩, h3⟩
                  by_cases e9 : i = 9
                  · subst e9
                    have hr' : (fun b0 b1 x x' => ∃ u, x' = World.setCell x ⟨(w.heap.size + 1), 1, none⟩ u) a a' w_ w' := hr
                    obtain ⟨g, p, l', h1, h2, h3⟩ := h
                    obtain ⟨u, rfl⟩ := hr'
                    exact ⟨g, p, l', (hs 28 (by kernel_rfl)).trans h1, ⟨h2.1, h2.2.far (p := ⟨w.heap.size + 1, 1, none⟩) (by show g ≠ w.heap.size + 1; omega) u⟩, h3⟩
                  have hr' : Below w_.heap.size w_ w' := by simpa [e5, e7, e9] using hr
                  obtain ⟨g, p, l', h1, h2, h3⟩ := h
                  exact ⟨g, p, l', (hs 28 (by kernel_rfl)).trans h1, ⟨h2.1, h2.2.to hr'⟩, h3⟩) ?_
                refine keeps4_cons (fun i a a' w_ w' hne hwt hs hput hr h => by
                  by_cases e5 : i = 5
                  · subst e5
                    exact absurd (hwt.symm.trans (show waitsT .any _ _ 7 5 = true by kernel_rfl)) (by decide)
                  by_cases e7 : i = 7
                  · exact absurd e7 hne
                  by_cases e9 : i = 9
                  · subst e9
                    have hr' : (fun b0 b1 x x' => ∃ u, x' = World.setCell x ⟨(w.heap.size + 1), 1, none⟩ u) a a' w_ w' := hr
                    obtain ⟨v2, p, l', h1, h2, h3⟩ := h
                    obtain ⟨u, rfl⟩ := hr'
                    exact ⟨v2, p, l', (hs 29 (by kernel_rfl)).trans h1, h2, ownsRow_set h3 (fun e => by have := (World.ownsRow.lt h3 _ e).1; omega)⟩
                  have hr' : Below w_.heap.size w_ w' := by simpa [e5, e7, e9] using hr
                  obtain ⟨v2, p, l', h1, h2, h3⟩ := h
                  exact ⟨v2, p, l', (hs 29 (by kernel_rfl)).trans h1, h2, ownsRow_to h3 hr'⟩) ?_
                refine keeps4_cons (fun i a a' w_ w' hne hwt hs hput hr h => by
                  by_cases e5 : i = 5
                  · subst e5
                    exact absurd (hwt.symm.trans (show waitsT .any _ _ 9 5 = true by kernel_rfl)) (by decide)
                  by_cases e7 : i = 7
                  · subst e7
                    exact absurd (hwt.symm.trans (show waitsT .any _ _ 9 7 = true by kernel_rfl)) (by decide)
                  by_cases e9 : i = 9
                  · exact absurd e9 hne
                  have hr' : Below w_.heap.size w_ w' := by simpa [e5, e7, e9] using hr
                  obtain ⟨g, h1, h2⟩ := h
                  exact ⟨g, (hs 29 (by kernel_rfl)).trans h1, h2.to hr'⟩) ?_
                exact keeps4_nil
              case hN0 => exact pre0_cons (HSd.out.s) (pre0_cons (HSd.out.s) (pre0_cons (HSd.out) (pre0_cons (⟨HSd.out.own, Nat.le_refl _⟩) (pre0_cons (HSd.out.s) (pre0_nil)))))
              case hNst =>
                refine prek_cons3 (fun i a a' w_ w' hne hwt hr h hput => by
                  by_cases e5 : i = 5
                  · subst e5
                    have hr' : (fun b0 b1 x x' => Only x x' bP) a a' w_ w' := hr
                    exact Only.blk hr' h (by omega)
                  by_cases e7 : i = 7
                  · subst e7
                    exact absurd (hwt.symm.trans (show waitsT .any _ _ 7 1 = true by kernel_rfl)) (by decide)
                  by_cases e9 : i = 9
                  · subst e9
                    exact absurd (hwt.symm.trans (show waitsT .any _ _ 9 1 = true by kernel_rfl)) (by decide)
                  have hr' : Below w_.heap.size w_ w' := by simpa [e5, e7, e9] using hr
                  exact h.to hr') ?_
                refine prek_cons3 (fun i a a' w_ w' hne hwt hr h hput => by
                  by_cases e5 : i = 5
                  · subst e5
                    exact absurd (hwt.symm.trans (show waitsT .any _ _ 5 4 = true by kernel_rfl)) (by decide)
                  by_cases e7 : i = 7
                  · subst e7
                    exact absurd (hwt.symm.trans (show waitsT .any _ _ 7 4 = true by kernel_rfl)) (by decide)
                  by_cases e9 : i = 9
                  · subst e9
                    exact absurd (hwt.symm.trans (show waitsT .any _ _ 9 4 = true by kernel_rfl)) (by decide)
                  have hr' : Below w_.heap.size w_ w' := by simpa [e5, e7, e9] using hr
                  exact h.to hr') ?_
                refine prek_cons3 (fun i a a' w_ w' hne hwt hr h hput => by
                  by_cases e5 : i = 5
                  · exact absurd e5 hne
                  by_cases e7 : i = 7
                  · subst e7
                    exact absurd (hwt.symm.trans (show waitsT .any _ _ 7 5 = true by kernel_rfl)) (by decide)
                  by_cases e9 : i = 9
                  · subst e9
                    exact absurd (hwt.symm.trans (show waitsT .any _ _ 9 5 = true by kernel_rfl)) (by decide)
                  have hr' : Below w_.heap.size w_ w' := by simpa [e5, e7, e9] using hr
                  exact h.to hr') ?_
                refine prek_cons3 (fun i a a' w_ w' hne hwt hr h hput => by
                  by_cases e5 : i = 5
                  · subst e5
                    have hr' : (fun b0 b1 x x' => Only x x' bP) a a' w_ w' := hr
                    exact ⟨ownsRow_only h.1 hr' (own_ge h.1 (by omega)), Nat.le_trans h.2 hr'.size⟩
                  by_cases e7 : i = 7
                  · exact absurd e7 hne
                  by_cases e9 : i = 9
                  · subst e9
                    exact absurd (hwt.symm.trans (show waitsT .any _ _ 9 7 = true by kernel_rfl)) (by decide)
                  have hr' : Below w_.heap.size w_ w' := by simpa [e5, e7, e9] using hr
                  exact ⟨ownsRow_to h.1 hr', Nat.le_trans h.2 hr'.size⟩) ?_
                refine prek_cons3 (fun i a a' w_ w' hne hwt hr h hput => by
                  by_cases e5 : i = 5
                  · subst e5
                    have hr' : (fun b0 b1 x x' => Only x x' bP) a a' w_ w' := hr
                    exact Only.blk hr' h (by omega)
                  by_cases e7 : i = 7
                  · subst e7
                    have hr' : (fun b0 b1 x x' => World.grownBy x x' (Value.ownBlock v)) a a' w_ w' := hr
                    exact (hr'.block (w.heap.size + 1) h.lt (fun e => by have := (hlt _ e.symm).1; omega)).trans h
                  by_cases e9 : i = 9
                  · exact absurd e9 hne
                  have hr' : Below w_.heap.size w_ w' := by simpa [e5, e7, e9] using hr
                  exact h.to hr') ?_
                exact prek_nil3
              case hop =>
                refine ⟨?_, ?_, ?_, ?_, ?_, ?_, ?_, ?_, ?_, ?_, trivial⟩
                · intro a w_ K hw hS hd hN hK
                  have s3 := hS.at 3 (by kernel_rfl) rfl
                  rw [if_pos (want_free rfl)]
                  go_simp
                  exact hK _ _ (Below.refl _ _) (vok rfl) (facts_cons (fun h => absurd h (by decide)) (facts_cons (fun h => absurd h (by decide)) (facts_cons (fun h => absurd h (by decide)) (facts_cons (fun h => absurd h (by decide)) facts_nil))))
                · intro a w_ K hw hS hd hN hK
                  have s22 := (hd 0 (by kernel_rfl)).at (d := 22) rfl rfl rfl
                  have hB1 := hN _ (List.mem_cons_self ..) rfl
                  rw [if_pos (want_free rfl)]
                  have c0 := (hB1.cell 1).trans (show _ = some v from rfl)
                  go_simp
                  exact hK _ _ (Below.refl _ _) (vok rfl) (facts_cons (fun h => absurd h (by decide)) (facts_cons (fun h => absurd h (by decide)) (facts_cons (fun h => absurd h (by decide)) (facts_cons (fun h => absurd h (by decide)) facts_nil))))
                · intro a w_ K hw hS hd hN hK
                  have s0 := hS.at 0 (by kernel_rfl) rfl
                  rw [if_pos (want_free rfl)]
                  go_simp
                  exact hK _ _ (Below.refl _ _) (vok rfl) (facts_cons (fun h => absurd h (by decide)) (facts_cons (fun h => absurd h (by decide)) (facts_cons (fun h => absurd h (by decide)) (facts_cons (fun h => absurd h (by decide)) facts_nil))))
                · intro a w_ K hw hS hd hN hK
                  have s3 := hS.at 3 (by kernel_rfl) rfl
                  rw [if_pos (want_free rfl)]
                  go_simp
                  exact hK _ _ (Below.refl _ _) (vok rfl) (facts_cons (fun h => absurd h (by decide)) (facts_cons (fun h => absurd h (by decide)) (facts_cons (fun h => absurd h (by decide)) (facts_cons (fun h => absurd h (by decide)) facts_nil))))
                · intro a w_ K hw hS hd hN hK
                  have s25 := (hd 3 (by kernel_rfl)).at (d := 25) rfl rfl rfl
                  have hB4 := hN _ (List.mem_cons_of_mem _ (List.mem_cons_self ..)) rfl
                  rw [if_pos (want_free rfl)]
                  have c0 := (hB4.cell 1).trans (show _ = some v from rfl)
                  go_simp
                  exact hK _ _ (Below.refl _ _) (vok rfl) (facts_cons (fun h => absurd h (by decide)) (facts_cons (fun h => absurd h (by decide)) (facts_cons (fun h => absurd h (by decide)) (facts_cons (fun h => absurd h (by decide)) facts_nil))))
                · intro a w_ K hw hS hd hN hK
                  have s24 := (hd 2 (by kernel_rfl)).at (d := 24) rfl rfl rfl
                  have s26 := (hd 4 (by kernel_rfl)).at (d := 26) rfl rfl rfl
                  have hSc := hN _ (List.mem_cons_of_mem _ (List.mem_cons_of_mem _ (List.mem_cons_self ..))) rfl
                  rw [if_pos (want_free rfl)]
                  go_simp
                  refine (part_any bP B n l ps v hll (by omega) w_ hSc.st hSc.parts hSc.nil).mono ?_
                  intro e w' hr
                  cases hp : partP n ps l with
                  | err x a2 =>
                    rw [hp] at hr
                    obtain ⟨he, ho⟩ := hr
                    unfold faultE at he
                    subst he
                    have HV : Hid (schemeP isNm n l0 = .err x a2) := by show _ = _; rw [HV3.out]; exact schR_err (HPG.out.trans (by rw [hp]))
                    exact ⟨hS.1, by rw [HV.out]; exact ⟨rfl, hw.on.trans ho⟩⟩
                  | ok p l' =>
                    rw [hp] at hr
                    obtain ⟨he, hst, ho⟩ := hr
                    unfold ptVal at he
                    subst he
                    exact hK _ _ ho (vfree rfl) (facts_cons (fun _ => ⟨p, l', hp, hS.put_at (by kernel_rfl) _, hst⟩) (facts_cons (fun h => absurd h (by decide)) (facts_cons (fun h => absurd h (by decide)) (facts_cons (fun h => absurd h (by decide)) facts_nil))))
                · intro a w_ K hw hS hd hN hK
                  obtain ⟨p, l', hp, s27, hst⟩ := (hd 5 (by kernel_rfl)).2 _ (List.mem_cons_self ..) rfl
                  rw [if_pos (want_free rfl)]
                  unfold ptC at s27
                  go_simp
                  exact hK _ _ (below_one _ _) (vfree rfl) (facts_cons (fun h => absurd h (by decide)) (facts_cons (fun _ => ⟨_, p, l', hS.put_at (by kernel_rfl) _, ⟨hp, Blk.new _ _ _⟩, hw.sz⟩) (facts_cons (fun h => absurd h (by decide)) (facts_cons (fun h => absurd h (by decide)) facts_nil))))
                · intro a w_ K hw hS hd hN hK
                  have s23 := (hd 1 (by kernel_rfl)).at (d := 23) rfl rfl rfl
                  obtain ⟨b28, p28, l28, s28, ⟨hp28, r28⟩, g28⟩ := (hd 6 (by kernel_rfl)).2 _ (List.mem_cons_of_mem _ (List.mem_cons_self ..)) rfl
                  obtain ⟨hOwn, hSz⟩ := hN _ (List.mem_cons_of_mem _ (List.mem_cons_of_mem _ (List.mem_cons_of_mem _ (List.mem_cons_self ..)))) rfl
                  rw [if_pos (want_free rfl)]
                  obtain ⟨i0, hi0, hz0, hz1, hz2⟩ := info_parts info_part
                  refine wp_append_keep w_ (.tmp 23) (.tmp 28) 22 rfl (w.heap.size + 2) 41 i0 _ 4 48 Tryz.underlying22 hi0 hz0 hz1 hz2 rfl (by decide) v ps.length _ (eval_at s23) hOwn ⟨b28, 0, none⟩ 1 1 (ptV p28) (eval_at s28) rfl (fun j u hj => by
                    have := (r28.cell j).trans (show _ = some u by rw [← hj]; simp [ptC, ptV])
                    unfold Addr.add
                    split
                    · rename_i h0; rw [h0] at this; exact this
                    · simpa using this) (by intro u hu; simp [ptV] at hu; rcases hu with rfl | rfl | rfl | rfl <;> rfl) (by unfold maxLen; omega) (by omega) (by omega) ?_
                  intro v2 w' h2 h3 h4 h5
                  exact hK v2 w' h3 (vfree rfl) (facts_cons (fun h => absurd h (by decide)) (facts_cons (fun h => absurd h (by decide)) (facts_cons (fun _ => ⟨v2, p28, l28, hS.put_at (by kernel_rfl) _, hp28, h2⟩) (facts_cons (fun h => absurd h (by decide)) facts_nil))))
                · intro a w_ K hw hS hd hN hK
                  have s3 := hS.at 3 (by kernel_rfl) rfl
                  rw [if_pos (want_free rfl)]
                  go_simp
                  exact hK _ _ (Below.refl _ _) (vok rfl) (facts_cons (fun h => absurd h (by decide)) (facts_cons (fun h => absurd h (by decide)) (facts_cons (fun h => absurd h (by decide)) (facts_cons (fun h => absurd h (by decide)) facts_nil))))
                · intro a w_ K hw hS hd hN hK
                  have s30 := (hd 8 (by kernel_rfl)).at (d := 30) rfl rfl rfl
                  obtain ⟨v29, p29, l29, s29, hp29, o29⟩ := (hd 7 (by kernel_rfl)).2 _ (List.mem_cons_of_mem _ (List.mem_cons_of_mem _ (List.mem_cons_self ..))) rfl
                  have hBs := hN _ (List.mem_cons_of_mem _ (List.mem_cons_of_mem _ (List.mem_cons_of_mem _ (List.mem_cons_of_mem _ (List.mem_cons_self ..))))) rfl
                  rw [if_pos (want_free rfl)]
                  have c0 := (hBs.cell 1).trans (show _ = some v from rfl)
                  have f0 := hBs.frozen 1
                  obtain ⟨A1, c1', rfl⟩ := own_slice o29
                  have hv0 := HV0.out
                  rw [hv0] at c0
                  clear hv0
                  go_simp
                  exact hK undef _ ⟨_, rfl⟩ (vfree rfl) (facts_cons (fun h => absurd h (by decide)) (facts_cons (fun h => absurd h (by decide)) (facts_cons (fun h => absurd h (by decide)) (facts_cons (fun _ => ⟨_, s29, hBs.set_ 1 _⟩) facts_nil))))
              case hfin =>
                intro a w_ hw hS hk
                have s22 := (hk 0 (by decide)).at (d := 22) rfl rfl rfl
                have s23 := (hk 1 (by decide)).at (d := 23) rfl rfl rfl
                have s24 := (hk 2 (by decide)).at (d := 24) rfl rfl rfl
                have s25 := (hk 3 (by decide)).at (d := 25) rfl rfl rfl
                have s26 := (hk 4 (by decide)).at (d := 26) rfl rfl rfl
                obtain ⟨p, l', hp, s27, hst⟩ := (hk 5 (by decide)).2 _ (List.mem_cons_self ..) rfl
                obtain ⟨b28, p28, l28, s28, ⟨hp28, r28⟩, g28⟩ := (hk 6 (by decide)).2 _ (List.mem_cons_of_mem _ (List.mem_cons_self ..)) rfl
                obtain ⟨v29, p29, l29, s29, hp29, o29⟩ := (hk 7 (by decide)).2 _ (List.mem_cons_of_mem _ (List.mem_cons_of_mem _ (List.mem_cons_self ..))) rfl
                have s30 := (hk 8 (by decide)).at (d := 30) rfl rfl rfl
                obtain ⟨z29, zs29, zP⟩ := (hk 9 (by decide)).2 _ (List.mem_cons_of_mem _ (List.mem_cons_of_mem _ (List.mem_cons_of_mem _ (List.mem_cons_self ..)))) rfl
                have hlit := hS.lit _ (by kernel_rfl) (lits_cons s22 (lits_cons s23 (lits_cons s24 (lits_cons s25 (lits_cons s26 (lits_cons s27 (lits_cons s28 (lits_cons s29 (lits_cons s30 lits_nil)))))))))
                rw [hlit]
                obtain rfl : v29 = z29 := Option.some.inj (s29.symm.trans zs29)
                have hq := hp28.symm.trans hp
                have hq2 := hp29.symm.trans hp
                injection hq with hq3 hq4
                injection hq2 with hq5 hq6
                subst hq3 hq4 hq5 hq6
                have HFIN : Hid (ScS bP B n w l29 c v29 (ps ++ [p29]) w_) := ⟨hst, hw.r, zP, by rw [List.length_append, List.map_append, List.flatten_append]; simpa using o29, fun e => by simp at e, hw.on, hbP, hB⟩
                have HLL := hide (partP_len hp)
                have HPG2 : Hid (partsP n (l3.length + 1) [] l3 = partsP n f' (ps ++ [p29]) l29) := HPG.out.trans (by rw [hp])
                clear zs29 r28 g28 hp hp28 hp29 hst o29 zP hw hlt
                simp only [litT, List.setIfInBounds_toArray, List.set_cons_succ, List.set_cons_zero]
                clear hlit hk hS s22 s23 s24 s25 s26 s27 s28 s29 s30
                go_wp2_with fail
                have hL := HL.out
                have hlL := HLL.out
                go_roundg l29.length
                case measure => have := hL.g; omega
                case rel => exact ⟨l29, v29, ps ++ [p29], f', HFIN.out, by have := hL.fu; omega, HPG2.out, by have := hL.le; rw [List.length_append, List.length_singleton]; omega, Nat.le_refl _⟩
          · have hps2 := Classical.byContradiction hgo
            have HPE : Hid (partsP n (l3.length + 1) [] l3 = .ok ps l) := HL.out.eq.trans (partsP_stop hps2)
            have e0 : ((ps.length : Int) == 0) = false := by rw [beq_eq_false_iff_ne]; have : ps.length ≠ 0 := fun h => hps2.1 (List.eq_nil_of_length_eq_zero h); omega
            have hs1 : wr.cell? ⟨w.heap.size + 1, 1, none⟩ = some v := HL.out.s.s.cell 1
            rw [hv0] at hs1
            have HV0 := hide hv0
            rw [hps2.2] at CS
            have HSE := hide hps2.2
            clear hgo hps2 hv0
            go_wp2_with fail
            refine (CS _ HL.out.s.st).mono ?_
            rintro e w' ⟨rfl, e9⟩
            have e9 := e9.symm
            subst e9
            have CT := fun w h => take_any bP B n l 4 [125] hll w h
            go_wp2_with fail
            clear hs1 e0 CS
            refine (CT _ HL.out.s.st).mono ?_
            intro e w5 hr
            clear CT
            obtain ⟨stop, hstop, _⟩ := take_sees (n := n) HSE.out
            rw [hstop] at hr
            obtain ⟨rfl, hp, ho⟩ := hr
            have HE : Hid (schemeP isNm n l0 = if validB isNm ⟨c, ps⟩ = false then .err 1 stop.a else match l.tail with | [] => .ok ⟨c, ps⟩ [] | t :: _ => .err 5 t.a) := by
              show _ = _
              rw [HV3.out, schR_end HPE.out, hstop]
            have HT5 := hide (HL.out.s.step hp ho)
            have hlt5 : l.tail.length ≤ 8796093022208 := by rw [List.length_tail]; omega
            clear hp ho hstop HL HSE HPE HV3
            generalize l.tail = l5 at *
            unfold tcells
            have HT6 := hide (HT5.out.to (below_one w5 (.cells #[.int .i64 stop.k, .int .i64 stop.a, .int .i64 stop.n, .string (bs stop.s)] 50)))
            have HK6 := hide (Blk.new w5 50 #[.int .i64 stop.k, .int .i64 stop.a, .int .i64 stop.n, .string (bs stop.s)])
            have s0 : (w5.alloc (.cells #[.int .i64 stop.k, .int .i64 stop.a, .int .i64 stop.n, .string (bs stop.s)] 50)).cell? ⟨w.heap.size + 1, 0, none⟩ = some (.string (bs c)) := HT6.out.s.cell 0
            have s1 : (w5.alloc (.cells #[.int .i64 stop.k, .int .i64 stop.a, .int .i64 stop.n, .string (bs stop.s)] 50)).cell? ⟨w.heap.size + 1, 1, none⟩ = some v := HT6.out.s.cell 1
            have CV := fun w h => SValid_any ⟨c, ps⟩ (by show ps.length ≤ _; omega) (by show c.length ≤ _; have := HTC.out; omega) v w h
            go_wp2_with fail
            clear s0 s1 HT5
            generalize w5.alloc (.cells #[.int .i64 stop.k, .int .i64 stop.a, .int .i64 stop.n, .string (bs stop.s)] 50) = w6 at *
            refine (CV _ HT6.out.parts).mono ?_
            rintro e w7 ⟨rfl, hb⟩
            have HT7 := hide (HT6.out.to hb)
            have HK7 := hide (HK6.out.to hb)
            clear hb HT6 HK6 CV
            cases hva : validB isNm ⟨c, ps⟩ with
            | false =>
              have k1 : w7.cell? ⟨w5.heap.size, 1, none⟩ = some (.int .i64 stop.a) := HK7.out.cell 1
              rw [if_pos hva] at HE
              clear hva
              go_wp2_with fail
              exact ⟨rfl, by rw [HE.out]; exact ⟨rfl, HT7.out.on⟩⟩
            | true =>
              rw [if_neg (by rw [hva]; decide)] at HE
              clear hva HK7
              obtain ⟨u, hpa⟩ := HT7.out.st
              have p0 := hpa.p.cell 0
              cases l5 with
              | cons t5 r5 =>
                obtain ⟨b5, o5, c5, rfl, hc5, hb5, q0, q1, q2, q3⟩ := hpa.t.hd
                have HE2 : Hid (schemeP isNm n l0 = .err 5 t5.a) := HE.out
                clear hpa
                go_wp2_with fail
                exact ⟨rfl, by rw [HE2.out]; exact ⟨rfl, HT7.out.on⟩⟩
              | nil =>
                obtain ⟨A5, c5, rfl, _⟩ := hpa.t.slice
                have HE2 : Hid (schemeP isNm n l0 = .ok ⟨c, ps⟩ []) := HE.out
                have s0 : w7.cell? ⟨w.heap.size + 1, 0, none⟩ = some (.string (bs c)) := HT7.out.s.cell 0
                have s1 : w7.cell? ⟨w.heap.size + 1, 1, none⟩ = some v := HT7.out.s.cell 1
                have r0 : w7.cell? ⟨w.heap.size, 0, none⟩ = some (.string ⟨#[]⟩) := HT7.out.r.cell 0
                have r1 : w7.cell? ⟨w.heap.size, 1, none⟩ = some (.slice none 0 0) := HT7.out.r.cell 1
                have y0 := HT7.out.r.frozen 0
                have y1 := HT7.out.r.frozen 1
                have HR : Hid (Blk ((w7.setCell ⟨w.heap.size, 0, none⟩ (.string (bs c))).setCell ⟨w.heap.size, 1, none⟩ v) w.heap.size 24 #[.string (bs c), v]) := (HT7.out.r.set_ 0 _).set_ 1 _
                have HPA : Hid (PartsAt ((w7.setCell ⟨w.heap.size, 0, none⟩ (.string (bs c))).setCell ⟨w.heap.size, 1, none⟩ v) v ps) := by
                  have h1 := ownsRow_set (i := 0) (u := .string (bs c)) HT7.out.own (own_ge HT7.out.own (g := w.heap.size) (by omega))
                  have h2 := ownsRow_set (i := 1) (u := v) h1 (own_ge h1 (g := w.heap.size) (by omega))
                  refine RowsAt.of_own (B := w.heap.size + 2) (e := 41) ?_ (by rw [List.length_map]; exact h2)
                  intro x hx
                  obtain ⟨p, _, rfl⟩ := List.mem_map.1 hx; rfl
                have HON : Hid (Only w ((w7.setCell ⟨w.heap.size, 0, none⟩ (.string (bs c))).setCell ⟨w.heap.size, 1, none⟩ v) bP) := (HT7.out.on.set_new (Nat.le_refl _) _ _).set_new (Nat.le_refl _) _ _
                have hv0 := HV0.out
                clear hpa
                subst hv0
                go_wp2_with fail
                exact bodyPost_ret (results_cell_blk rfl _ _ w.heap.size 24 #[.string (bs c), .slice A ps.length cp] _ rfl HR.out Tryz.underlying24 rfl (by kernel_rfl)) rfl (by rw [HE2.out]; exact ⟨⟨_, rfl, HPA.out⟩, HON.out⟩)
end Go.Proofs.YtdcafoekbnacnaaGreatDoor

/- Package scheme: Parse: what is deferred. -/
set_option linter.unusedVariables false
set_option linter.unusedSimpArgs false
namespace Go.Proofs.YtdcafoekbnacnaaGreatDoor
open Go.RowKit Go.Shelf

/-- the three results in their blocks -/
structure PR3 (b0 b1 b2 : Nat) (c v : Value) (x y : Int) (w : World) : Prop where
  s : Blk w b0 24 #[c, v]
  e : Blk w b1 30 #[.int .i64 x]
  a : Blk w b2 3 #[.int .i64 y]
  n1 : b0 ≠ b1
  n2 : b0 ≠ b2
  n3 : b1 ≠ b2
theorem PR3.to {b0 b1 b2 : Nat} {c v : Value} {x y : Int} {w w' : World} (h : PR3 b0 b1 b2 c v x y w) (hb : Below w.heap.size w w') : PR3 b0 b1 b2 c v x y w' := ⟨h.s.to hb, h.e.to hb, h.a.to hb, h.n1, h.n2, h.n3⟩
theorem PR3.only {b0 b1 b2 g : Nat} {c v : Value} {x y : Int} {w w' : World} (h : PR3 b0 b1 b2 c v x y w) (ho : Only w w' g) (h0 : b0 ≠ g) (h1 : b1 ≠ g) (h2 : b2 ≠ g) : PR3 b0 b1 b2 c v x y w' := ⟨ho.blk h.s h0, ho.blk h.e h1, ho.blk h.a h2, h.n1, h.n2, h.n3⟩
theorem PartsAt.setSmall {w : World} {v : Value} {ps : List Prt} {b : Nat} {T : TypeId} {cs : Array Value} (h : PartsAt w v ps) (hB : Blk w b T cs) (hs : cs.size ≤ 3) (i : Nat) (u : Value) : PartsAt (w.setCell ⟨b, i, none⟩ u) v ps := by
  by_cases hne : ps = []
  · obtain ⟨A, c, rfl, _⟩ := h.slice
    subst hne
    exact ⟨A, c, rfl, Nat.zero_le _, by simp, fun k x h => by simp at h⟩
  obtain ⟨b', off, c, rfl, _, _, hat⟩ := h.lit hne
  refine RowsAt.only h (Only.set_ (Only.refl w b) i u) (fun _ a ha => ?_)
  cases ha
  rintro rfl
  have hl : 0 < ps.length := by cases ps with | nil => exact absurd rfl hne | cons p r => simp
  have := hat 0 hl 3 _ rfl
  rw [hB.cell, Array.getElem?_eq_none (by omega)] at this
  cases this
/-- nothing but the three results was written -/
def Kept3 (b0 b1 b2 : Nat) (w w' : World) : Prop := ∀ (B : Nat) (a : World), Below B a w → B ≤ b0 → B ≤ b1 → B ≤ b2 → Below B a w'
theorem PR3.put {b0 b1 b2 : Nat} {c v : Value} {x y : Int} {w : World} (h : PR3 b0 b1 b2 c v x y w) (c' v' : Value) (e a : Int) : PR3 b0 b1 b2 c' v' e a ((((w.setCell ⟨b0, 0, none⟩ c').setCell ⟨b0, 1, none⟩ v').setCell ⟨b1, 0, none⟩ (.int .i64 e)).setCell ⟨b2, 0, none⟩ (.int .i64 a)) :=
  ⟨(((h.s.set_ 0 c').set_ 1 v').far (p := ⟨b1, 0, none⟩) h.n1 _).far (p := ⟨b2, 0, none⟩) h.n2 _, (((h.e.far (p := ⟨b0, 0, none⟩) (Ne.symm h.n1) _).far (p := ⟨b0, 1, none⟩) (Ne.symm h.n1) _).set_ 0 (.int .i64 e)).far (p := ⟨b2, 0, none⟩) h.n3 _,
    (((h.a.far (p := ⟨b0, 0, none⟩) (Ne.symm h.n2) _).far (p := ⟨b0, 1, none⟩) (Ne.symm h.n2) _).far (p := ⟨b1, 0, none⟩) (Ne.symm h.n3) _).set_ 0 (.int .i64 a), h.n1, h.n2, h.n3⟩
theorem PR3.put_below {b0 b1 b2 B : Nat} {w a0 : World} (hB : Below B a0 w) (h0 : B ≤ b0) (h1 : B ≤ b1) (h2 : B ≤ b2) (c' v' : Value) (e a : Int) : Below B a0 ((((w.setCell ⟨b0, 0, none⟩ c').setCell ⟨b0, 1, none⟩ v').setCell ⟨b1, 0, none⟩ (.int .i64 e)).setCell ⟨b2, 0, none⟩ (.int .i64 a)) :=
  (((hB.setCell (p := ⟨b0, 0, none⟩) h0 _).setCell (p := ⟨b0, 1, none⟩) h0 _).setCell (p := ⟨b1, 0, none⟩) h1 _).setCell (p := ⟨b2, 0, none⟩) h2 _
theorem mem_le_sum : ∀ (l : List Nat) (x : Nat), x ∈ l → x ≤ l.sum
  | [], x, h => by cases h
  | y :: l, x, h => by
    rw [List.sum_cons]
    rcases List.mem_cons.1 h with rfl | h
    · omega
    · have := mem_le_sum l x h; omega
theorem tok_len {t : List UInt8} : (lexP t).1.length ≤ t.length ∧ ∀ x ∈ (lexP t).1, x.s.length ≤ t.length := by
  obtain ⟨⟨h1, h2⟩, _⟩ := lex_wf t
  have hp := raw_pos (l := (lexP t).1) fun x hx => (h2 x hx).1
  refine ⟨Nat.le_trans hp h1, fun x hx => ?_⟩
  have hm : (rawT x).length ≤ rawSum (lexP t).1 := by
    unfold rawSum
    exact mem_le_sum _ _ (List.mem_map.2 ⟨x, hx, rfl⟩)
  have : x.s.length ≤ (rawT x).length := by unfold rawT; split <;> simp; omega
  omega
set_option maxRecDepth 100000 in
set_option maxHeartbeats 1000000 in
theorem catch_fault (b0 b1 b2 : Nat) (c v : Value) (x y e a : Int) (w : World) (h : PR3 b0 b1 b2 c v x y w) :
    CallsD Tryz.prog 43 #[.pointer (some ⟨b0, 0, none⟩), .pointer (some ⟨b1, 0, none⟩), .pointer (some ⟨b2, 0, none⟩)] (.panicking [{ v := faultV e a, recovered := false }]) w fun e' u' w' =>
      e' = .returned (.tuple #[]) ∧ u' = .panicking [{ v := faultV e a, recovered := true }] ∧ PR3 b0 b1 b2 (.string ⟨#[]⟩) (.slice none 0 0) e a w' ∧ Kept3 b0 b1 b2 w w' := by
  unfold faultV
  have hta : ∀ w, (Instr.typeAssert (Value.iface 70 (.agg #[.int .i64 e, .int .i64 a])) 20 70 true).run Tryz.prog w = .ok (.tuple #[.agg #[.int .i64 e, .int .i64 a], .bool true]) w := fun _ => by kernel_rfl
  refine callsD_of_wpS Tryz.func43 rfl fun c₀ ks hu => ?_
  apply wpS_seq
  apply wpS_region
  simp [wpOpsS, go_sem, recoverD, hu, Tryz.ntmps43, Exit.thenS, List.replicate, hta, Array.replicate_succ]
  refine wpS_of_wp ?_
  have n1 : ¬ b1 = b0 := fun e => h.n1 e.symm
  have n2 : ¬ b0 = b1 := h.n1
  have n3 : ¬ b2 = b0 := fun e => h.n2 e.symm
  have n4 : ¬ b0 = b2 := h.n2
  have n5 : ¬ b2 = b1 := fun e => h.n3 e.symm
  have n6 : ¬ b1 = b2 := h.n3
  have l0 : b0 < w.heap.size := h.s.lt
  have l1 : b1 < w.heap.size := h.e.lt
  have l2 : b2 < w.heap.size := h.a.lt
  refine wp_mono (Q := fun e' a' w' => e' = .normal ∧ a'.defers = [] ∧ PR3 b0 b1 b2 (.string ⟨#[]⟩) (.slice none 0 0) e a w' ∧ Kept3 b0 b1 b2 w w') ?_ ?_
  · have HW := hide h
    have x0 := (HW.out.s.cell 0).trans (show _ = some c from rfl)
    have x1 := (HW.out.s.cell 1).trans (show _ = some v from rfl)
    have x2 := (HW.out.e.cell 0).trans (show _ = some (.int .i64 x) from rfl)
    have x3 := (HW.out.a.cell 0).trans (show _ = some (.int .i64 y) from rfl)
    have f0 := HW.out.s.frozen 0
    have f1 := HW.out.s.frozen 1
    have f2 := HW.out.e.frozen 0
    have f3 := HW.out.a.frozen 0
    clear h
    go_wp2_with fail
    go_region
    refine ⟨rfl, rfl, ⟨?_, ?_, ?_, HW.out.n1, HW.out.n2, HW.out.n3⟩, ?_⟩
    · exact ((((((HW.out.s.set_ 0 (.string ⟨#[]⟩)).set_ 1 (.slice none 0 0)).far (p := ⟨b1, 0, none⟩) n2 _).far (p := ⟨b2, 0, none⟩) n4 _).alloc _).drew)
    · exact ((((((HW.out.e.far (p := ⟨b0, 0, none⟩) n1 _).far (p := ⟨b0, 1, none⟩) n1 _).set_ 0 (.int .i64 e)).far (p := ⟨b2, 0, none⟩) n6 _).alloc _).drew)
    · exact ((((((HW.out.a.far (p := ⟨b0, 0, none⟩) n3 _).far (p := ⟨b0, 1, none⟩) n3 _).far (p := ⟨b1, 0, none⟩) n5 _).set_ 0 (.int .i64 a)).alloc _).drew)
    · intro B a' hB h0 h1 h2
      exact ((((((hB.setCell (p := ⟨b0, 0, none⟩) h0 _).setCell (p := ⟨b0, 1, none⟩) h0 _).setCell (p := ⟨b1, 0, none⟩) h1 _).setCell (p := ⟨b2, 0, none⟩) h2 _).alloc (by simp; omega) _).drew)
  · rintro e' a' w' ⟨rfl, h1, h2, h3⟩
    refine ⟨h1, _, rfl, .tuple #[], ?_, rfl, rfl, h2, h3⟩
    exact results_none rfl _ _ _
set_option maxRecDepth 100000 in
set_option maxHeartbeats 1000000 in
theorem catch_none (b0 b1 b2 : Nat) (w : World) :
    CallsD Tryz.prog 43 #[.pointer (some ⟨b0, 0, none⟩), .pointer (some ⟨b1, 0, none⟩), .pointer (some ⟨b2, 0, none⟩)] .returning w fun e u' w' =>
      e = .returned (.tuple #[]) ∧ u' = .returning ∧ Below w.heap.size w w' := by
  have hta : ∀ w, (Instr.typeAssert Value.nilIface 20 70 true).run Tryz.prog w = .ok (.tuple #[.agg #[.int .i64 0, .int .i64 0], .bool false]) w := fun _ => by kernel_rfl
  refine callsD_of_wpS Tryz.func43 rfl fun c₀ ks hu => ?_
  apply wpS_seq
  apply wpS_region
  simp [wpOpsS, go_sem, recoverD, hu, Tryz.ntmps43, Exit.thenS, List.replicate, hta, Array.replicate_succ]
  refine wpS_of_wp ?_
  refine wp_mono (Q := fun e' a' w' => e' = .normal ∧ a'.defers = [] ∧ Below w.heap.size w w') ?_ ?_
  · go_wp2_with fail
    exact below_one w _
  · rintro e' a' w' ⟨rfl, h1, h2⟩
    exact ⟨h1, .returning, (by cases c₀; simp_all), .tuple #[], results_none rfl _ _ _, rfl, rfl, h2⟩
theorem results_three {fn : Func} {p q r : Tmp} (h : fn.results = #[.cell p 24, .cell q 30, .cell r 3]) (tmps : Array Value) (w : World) (b0 b1 b2 : Nat) (hp : tmps[p]? = some (.pointer (some ⟨b0, 0, none⟩))) (hq : tmps[q]? = some (.pointer (some ⟨b1, 0, none⟩))) (hr : tmps[r]? = some (.pointer (some ⟨b2, 0, none⟩))) (c v : Value) (x y : Int)
    (hP : PR3 b0 b1 b2 c v x y w) : (results fn tmps).run Tryz.prog w = .ok (.tuple #[.agg #[c, v], .int .i64 x, .int .i64 y]) w := by
  have hp' : tmps[p]?.getD undef = .pointer (some ⟨b0, 0, none⟩) := by rw [hp]; rfl
  have hq' : tmps[q]?.getD undef = .pointer (some ⟨b1, 0, none⟩) := by rw [hq]; rfl
  have hr' : tmps[r]?.getD undef = .pointer (some ⟨b2, 0, none⟩) := by rw [hr]; rfl
  have x0 := (hP.s.cell 0).trans (show _ = some c from rfl)
  have x1 := (hP.s.cell 1).trans (show _ = some v from rfl)
  have x2 := (hP.e.cell 0).trans (show _ = some (.int .i64 x) from rfl)
  have x3 := (hP.a.cell 0).trans (show _ = some (.int .i64 y) from rfl)
  simp [results, h, hp', hq', hr', go_sem, x0, x1, x2, x3]
def SParseR (t : List UInt8) (w : World) (e : Ending) (w' : World) : Prop := ∃ v, e = .returned (.tuple #[.agg #[.string (bs (parseS isNm t).1.c), v], .int .i64 (parseS isNm t).2.1, .int .i64 (parseS isNm t).2.2]) ∧ PartsAt w' v (parseS isNm t).1.ps ∧ Below w.heap.size w w'
theorem sparse_fault {t : List UInt8} {e a : Int} (hno : parseS isNm t = (zSch, e, a)) (w W : World) (b0 b1 b2 : Nat) (h0 : w.heap.size ≤ b0) (h1 : w.heap.size ≤ b1) (h2 : w.heap.size ≤ b2) (hb : Below w.heap.size w W) (c v : Value) (x y : Int) (h : PR3 b0 b1 b2 c v x y W) (tmps : Array Value)
    (t2 : tmps[2]? = some (.pointer (some ⟨b0, 0, none⟩))) (t3 : tmps[3]? = some (.pointer (some ⟨b1, 0, none⟩))) (t4 : tmps[4]? = some (.pointer (some ⟨b2, 0, none⟩))) :
    Leaves Tryz.prog Tryz.f20 tmps (SParseR t w) [{ target := .fn (.func 43) #[.pointer (some ⟨b0, 0, none⟩), .pointer (some ⟨b1, 0, none⟩), .pointer (some ⟨b2, 0, none⟩)], args := #[] }] (.panicking [{ v := faultV e a, recovered := false }]) W := by
  refine leaves_cons (f := 43) (args := #[.pointer (some ⟨b0, 0, none⟩), .pointer (some ⟨b1, 0, none⟩), .pointer (some ⟨b2, 0, none⟩)]) (by simp) (by simp [go_sem]) ?_
  refine (catch_fault b0 b1 b2 c v x y e a W h).mono ?_
  rintro e' u' w' ⟨rfl, rfl, h4, h5⟩
  show Leaves _ _ _ _ [] .returning w'
  refine ⟨_, results_three rfl tmps w' b0 b1 b2 t2 t3 t4 _ _ e a h4, .slice none 0 0, ?_, ?_, h5 _ _ hb h0 h1 h2⟩
  · rw [hno]; rfl
  · rw [hno]; exact RowsAt.nil _ _
theorem sparse_end {t : List UInt8} {s : Sch} (hp : parseS isNm t = (s, 0, 0)) (w W : World) (b0 b1 b2 : Nat) (hb : Below w.heap.size w W) (v : Value) (h : PR3 b0 b1 b2 (.string (bs s.c)) v 0 0 W) (hP : PartsAt W v s.ps) (tmps : Array Value)
    (t2 : tmps[2]? = some (.pointer (some ⟨b0, 0, none⟩))) (t3 : tmps[3]? = some (.pointer (some ⟨b1, 0, none⟩))) (t4 : tmps[4]? = some (.pointer (some ⟨b2, 0, none⟩))) :
    Leaves Tryz.prog Tryz.f20 tmps (SParseR t w) [{ target := .fn (.func 43) #[.pointer (some ⟨b0, 0, none⟩), .pointer (some ⟨b1, 0, none⟩), .pointer (some ⟨b2, 0, none⟩)], args := #[] }] .returning W := by
  refine leaves_cons (f := 43) (args := #[.pointer (some ⟨b0, 0, none⟩), .pointer (some ⟨b1, 0, none⟩), .pointer (some ⟨b2, 0, none⟩)]) (by simp) (by simp [go_sem]) ?_
  refine (catch_none b0 b1 b2 W).mono ?_
  rintro e u' w' ⟨rfl, rfl, hw⟩
  show Leaves _ _ _ _ [] .returning w'
  refine ⟨_, results_three rfl tmps w' b0 b1 b2 t2 t3 t4 _ _ 0 0 (h.to hw), v, ?_, ?_, below_to hb (Nat.le_refl _) hw⟩
  · rw [hp]
  · rw [hp]; exact hP.to hw
set_option maxRecDepth 100000 in
set_option maxHeartbeats 4000000 in
theorem SParse_any (t : List UInt8) (ht : t.length ≤ 100000) (w : World) :
    Calls Tryz.prog 20 #[.string (bs t)] w (SParseR t w) := by
  have hmf : ∀ (fn : Fn) (first cap : Array Value) (w : World), (Instr.makeFunc fn first cap).run Tryz.prog w = .ok (.func fn first cap) w := fun _ _ _ _ => rfl
  have HWF := hide (lex_wf t)
  have CL := fun w => Lex_any t (by omega) w
  go_enter_defers Tryz.func20, Tryz.ntmps20
  go_wp2_with fail
  have HPR : Hid (PR3 w.heap.size (w.heap.size + 1) (w.heap.size + 2) (.string ⟨#[]⟩) (.slice none 0 0) 0 0 (((w.alloc (.cells #[.string ⟨#[]⟩, .slice none 0 0] 24)).alloc (.cells #[.int .i64 0] 30)).alloc (.cells #[.int .i64 0] 3))) := by
    refine ⟨((Blk.new w _ _).alloc _).alloc _, ?_, ?_, by omega, by omega, by omega⟩
    · have := Blk.new (w.alloc (.cells #[.string ⟨#[]⟩, .slice none 0 0] 24)) 30 #[.int .i64 0]
      rw [World.size_alloc] at this
      exact this.alloc _
    · have := Blk.new ((w.alloc (.cells #[.string ⟨#[]⟩, .slice none 0 0] 24)).alloc (.cells #[.int .i64 0] 30)) 3 #[.int .i64 0]
      simp only [World.size_alloc] at this
      exact this
  have HB := hide ((below_two w (.cells #[.string ⟨#[]⟩, .slice none 0 0] 24) (.cells #[.int .i64 0] 30)).alloc (by simp; omega) (.cells #[.int .i64 0] 3))
  generalize ((w.alloc (.cells #[.string ⟨#[]⟩, .slice none 0 0] 24)).alloc (.cells #[.int .i64 0] 30)).alloc (.cells #[.int .i64 0] 3) = w1 at *
  refine (CL _).mono ?_
  rintro e w2 ⟨v, rfl, hv, hb⟩
  obtain ⟨A, cv, rfl, _⟩ := (TksAt.of_row hv).slice
  have HV := hide (TksAt.of_row hv)
  have HPR2 := hide (HPR.out.to hb)
  have HB2 := hide (below_to HB.out (Nat.le_refl _) hb)
  clear hv hb HPR HB CL
  by_cases hE : (lexP t).2.1 = 0
  · have htl := tok_len (t := t)
    have HS : Hid (parseS isNm t = match schemeP isNm t.length (lexP t).1 with | .ok s _ => (s, 0, 0) | .err e a => (zSch, e, a)) := by show _ = _; unfold parseS; rw [if_neg (by rw [hE]; decide)]; rfl
    rw [hE]
    have HPS : Hid (PSt w2.heap.size w2.heap.size t.length (lexP t).1 (w2.alloc (.cells #[.slice A (lexP t).1.length cv, .int .i64 (t.length : Int)] 74))) := by
      refine ⟨_, Blk.new _ _ _, HV.out.to (below_one _ _), fun b o m c e hne => ?_⟩
      have hx : ((lexP t).1.map tkV)[0]? = some ((lexP t).1.map tkV)[0]! := by
        cases h : (lexP t).1 with
        | nil => exact absurd h hne
        | cons x r => rfl
      obtain ⟨a, c', e', _, hb, _⟩ := RowsAt.at_ HV.out hx
      rw [e] at e'
      injection e' with e' _ _
      injection e' with e'
      rw [← e'] at hb
      exact hb
    have HPR3 := hide (HPR2.out.to (below_one w2 (.cells #[.slice A (lexP t).1.length cv, .int .i64 (t.length : Int)] 74)))
    have HB3 := hide (HB2.out.alloc HB2.out.size (.cells #[.slice A (lexP t).1.length cv, .int .i64 (t.length : Int)] 74))
    have hsz := bs_size t
    have hlt0 : w.heap.size + 2 < w2.heap.size := HPR2.out.a.lt
    have CS := scheme_any w2.heap.size w2.heap.size t.length (lexP t).1 (by omega) (fun x hx => by have := htl.2 x hx; omega) (w2.alloc (.cells #[.slice A (lexP t).1.length cv, .int .i64 (t.length : Int)] 74)) (by simp) HPS.out
    clear hE HWF htl HPR2 HB2 HV
    generalize (lexP t).1 = L at *
    go_wp2_with fail
    refine CS.mono ?_
    intro e w3 hr
    cases hsc : schemeP isNm t.length L with
    | err x a =>
      rw [hsc] at hr
      have HS2 : Hid (parseS isNm t = (zSch, x, a)) := by show _ = _; rw [HS.out, hsc]
      obtain ⟨he, ho⟩ := hr
      have HPR4 := hide (HPR3.out.only ho (by omega) (by omega) (by omega))
      have HB4 := hide (Only.below HB3.out ho HB3.out.size (by omega))
      clear hsc ho HS HPS HPR3 HB3 CS hsz
      unfold faultE at he
      subst he
      go_wp2_with fail
      exact sparse_fault HS2.out w w3 w.heap.size (w.heap.size + 1) (w.heap.size + 2) (Nat.le_refl _) (by omega) (by omega) HB4.out _ _ _ _ HPR4.out _ rfl rfl rfl
    | ok sc l =>
      rw [hsc] at hr
      have HS2 : Hid (parseS isNm t = (sc, 0, 0)) := by show _ = _; rw [HS.out, hsc]
      obtain ⟨⟨v, rfl, hP⟩, ho⟩ := hr
      have HPR4 := hide (HPR3.out.only ho (by omega) (by omega) (by omega))
      have HB4 := hide (Only.below HB3.out ho HB3.out.size (by omega))
      obtain ⟨A2, c2, rfl, _⟩ := hP.slice
      have HP := hide hP
      clear hsc ho HS HPS HPR3 HB3 CS hsz hP
      have x0 := (HPR4.out.s.cell 0).trans (show _ = some (.string ⟨#[]⟩) from rfl)
      have x1 := (HPR4.out.s.cell 1).trans (show _ = some (.slice none 0 0) from rfl)
      have x2 := (HPR4.out.e.cell 0).trans (show _ = some (.int .i64 0) from rfl)
      have x3 := (HPR4.out.a.cell 0).trans (show _ = some (.int .i64 0) from rfl)
      have f0 := HPR4.out.s.frozen 0
      have f1 := HPR4.out.s.frozen 1
      have f2 := HPR4.out.e.frozen 0
      have f3 := HPR4.out.a.frozen 0
      go_wp2_with fail
      have hP1 := HP.out.setSmall HPR4.out.s (by simp) 0 (.string (bs sc.c))
      have hP2 := hP1.setSmall (HPR4.out.s.set_ 0 _) (by simp) 1 (.slice A2 sc.ps.length c2)
      have hP3 := hP2.setSmall ((HPR4.out.e.far (p := ⟨w.heap.size, 0, none⟩) (by show w.heap.size + 1 ≠ w.heap.size; omega) _).far (p := ⟨w.heap.size, 1, none⟩) (by show w.heap.size + 1 ≠ w.heap.size; omega) _) (by simp) 0 (.int .i64 0)
      have hP4 := hP3.setSmall (((HPR4.out.a.far (p := ⟨w.heap.size, 0, none⟩) (by show w.heap.size + 2 ≠ w.heap.size; omega) _).far (p := ⟨w.heap.size, 1, none⟩) (by show w.heap.size + 2 ≠ w.heap.size; omega) _).far (p := ⟨w.heap.size + 1, 0, none⟩) (by show w.heap.size + 2 ≠ w.heap.size + 1; omega) _) (by simp) 0 (.int .i64 0)
      exact sparse_end HS2.out w _ w.heap.size (w.heap.size + 1) (w.heap.size + 2) (PR3.put_below HB4.out (Nat.le_refl _) (by omega) (by omega) _ _ _ _) _ (HPR4.out.put _ _ _ _) hP4 _ rfl rfl rfl
  · have HS : Hid (parseS isNm t = (zSch, (lexP t).2.1, (lexP t).2.2)) := by show _ = _; unfold parseS; rw [if_pos hE]
    have e1 : ((lexP t).2.1 != 0) = true := by rw [bne_iff_ne]; exact hE
    clear hE HWF
    generalize (lexP t).2.1 = E at *
    generalize (lexP t).2.2 = F at *
    have x0 := (HPR2.out.s.cell 0).trans (show _ = some (.string ⟨#[]⟩) from rfl)
    have x1 := (HPR2.out.s.cell 1).trans (show _ = some (.slice none 0 0) from rfl)
    have x2 := (HPR2.out.e.cell 0).trans (show _ = some (.int .i64 0) from rfl)
    have x3 := (HPR2.out.a.cell 0).trans (show _ = some (.int .i64 0) from rfl)
    have f0 := HPR2.out.s.frozen 0
    have f1 := HPR2.out.s.frozen 1
    have f2 := HPR2.out.e.frozen 0
    have f3 := HPR2.out.a.frozen 0
    go_wp2_with fail
    show Leaves _ _ _ _ [] .returning _
    refine ⟨_, results_three rfl _ _ w.heap.size (w.heap.size + 1) (w.heap.size + 2) rfl rfl rfl _ _ E F (HPR2.out.put _ _ _ _), .slice none 0 0, ?_, ?_, PR3.put_below HB2.out (Nat.le_refl _) (by omega) (by omega) _ _ _ _⟩
    · rw [HS.out]; rfl
    · rw [HS.out]; exact RowsAt.nil _ _
end Go.Proofs.YtdcafoekbnacnaaGreatDoor

/- Chapters 23, 24: sizes (ref23 Few, Short). -/
set_option linter.unusedVariables false
set_option linter.unusedSimpArgs false
namespace Go.Proofs.YtdcafoekbnacnaaGreatDoor
open Go.RowKit Go.Shelf

def smP (p : Prt) : Bool := decide (p.b.length ≤ 60) && decide (p.a.length ≤ 60)
def fewB (s : Sch) : Bool := (s.ps.take 10).all smP && (decide (s.ps.length ≤ 10) && decide (s.c.length ≤ 60))
theorem all_take_no {ps : List Prt} {k : Nat} {p : Prt} {f : Prt → Bool} (hp : ps[k]? = some p) (hk : k < 10) (h : f p = false) : (ps.take 10).all f = false := by
  rw [List.all_eq_false]
  exact ⟨p, List.mem_of_getElem? (i := k) (by rw [List.getElem?_take_of_lt hk]; exact hp), by rw [h]; decide⟩
theorem all_take_yes {ps : List Prt} {k : Nat} {f : Prt → Bool} (h : ∀ j p, j < k → ps[j]? = some p → f p = true) (hk : 10 ≤ k ∨ ps.length ≤ k) : (ps.take 10).all f = true := by
  rw [List.all_eq_true]
  intro p hp
  obtain ⟨j, hj, rfl⟩ := List.getElem_of_mem hp
  rw [List.length_take] at hj
  refine h j _ (by omega) ?_
  rw [List.getElem_take]
  exact List.getElem?_eq_getElem (by omega)
set_option maxRecDepth 100000 in
set_option maxHeartbeats 2000000 in
theorem Few_any (s : Sch) (hl0 : s.ps.length ≤ 8796093022208) (v : Value) (w : World) (hP : PartsAt w v s.ps) :
    Calls Tryz.prog 16 #[.agg #[.string (bs s.c), v]] w fun e w' => e = .returned (.bool (fewB s)) ∧ Below w.heap.size w w' := by
  obtain ⟨c, ps⟩ := s
  dsimp only at hl0 hP
  obtain ⟨A, cp, rfl, hcp⟩ := hP.slice
  have HB := hide (below_one w (.cells #[.string (bs c), .slice A ps.length cp] 24))
  have HS := hide (Blk.new w 24 #[.string (bs c), .slice A ps.length cp])
  have HP := hide (hP.to HB.out)
  have hcs := bs_size c
  clear hP
  go_enter Tryz.func16, Tryz.ntmps16
  go_wp2_with fail
  generalize w.alloc (.cells #[.string (bs c), .slice A ps.length cp] 24) = w1 at *
  have s0 := HS.out.cell 0
  have s1 := HS.out.cell 1
  go_loop [3] (fun i => ∃ k : Nat, k ≤ ps.length ∧ k ≤ 10 ∧ i = .int .i64 (k : Int) ∧ ∀ j p, j < k → ps[j]? = some p → smP p = true) (fun i => ps.length - (intOf i).toNat)
  case atStart => exact ⟨0, by omega, by omega, rfl, fun j p h => absurd h (by omega)⟩
  case round =>
    obtain ⟨k, hk, hk10, rfl, hA⟩ := hrel
    have HA := hide hA
    clear hA
    by_cases hlt : k < ps.length
    · have e1 : decide ((k : Int) < (ps.length : Int)) = true := by simp; omega
      by_cases h10 : k < 10
      · have e2 : decide ((k : Int) < 10) = true := by simp; omega
        obtain ⟨p, hp⟩ : ∃ p, ps[k]? = some p := ⟨_, List.getElem?_eq_getElem hlt⟩
        obtain ⟨a, cp', ea, _, hab, c0, c1, c2, c3⟩ := HP.out.at_ hp
        injection ea with ea _ ec
        subst ec
        obtain rfl := ea
        have hbs := bs_size p.b
        have has := bs_size p.a
        have HPK := hide hp
        clear hp
        by_cases hb : 60 < p.b.length
        · have e3 : decide ((60 : Int) < ((bs p.b).size : Int)) = true := by rw [hbs]; simp; omega
          have HF : Hid (fewB ⟨c, ps⟩ = false) := by show _ = _; unfold fewB; rw [all_take_no HPK.out h10 (by unfold smP; rw [decide_eq_false (by omega)]; rfl)]; rfl
          clear hbs has hcs
          go_wp2_with fail
          go_ret
          exact ⟨ret_bool (by rw [HF.out]), HB.out⟩
        have e3 : decide ((60 : Int) < ((bs p.b).size : Int)) = false := by rw [hbs]; simp; omega
        by_cases ha : 60 < p.a.length
        · have e4 : decide ((60 : Int) < ((bs p.a).size : Int)) = true := by rw [has]; simp; omega
          have HF : Hid (fewB ⟨c, ps⟩ = false) := by show _ = _; unfold fewB; rw [all_take_no HPK.out h10 (by unfold smP; rw [decide_eq_false (show ¬ p.a.length ≤ 60 by omega)]; simp)]; rfl
          clear hbs has hcs
          go_wp2_with fail
          go_ret
          exact ⟨ret_bool (by rw [HF.out]), HB.out⟩
        have e4 : decide ((60 : Int) < ((bs p.a).size : Int)) = false := by rw [has]; simp; omega
        have HA2 : Hid (∀ j q, j < k + 1 → ps[j]? = some q → smP q = true) := fun j q hj hq => by
          rcases Nat.lt_or_ge j k with h | h
          · exact HA.out j q h hq
          · obtain rfl : j = k := by omega
            rw [HPK.out] at hq
            cases hq
            unfold smP
            rw [decide_eq_true (by omega), decide_eq_true (by omega)]; rfl
        clear hbs has hcs
        go_wp2_with fail
        go_round
        case rel => exact ⟨k + 1, by omega, by omega, by go_num, HA2.out⟩
        case measure => simp [intOf]; omega
      · have e2 : decide ((k : Int) < 10) = false := by simp; omega
        have HF : Hid (fewB ⟨c, ps⟩ = false) := by show _ = _; unfold fewB; rw [show decide ((⟨c, ps⟩ : Sch).ps.length ≤ 10) = false from decide_eq_false (by dsimp only; omega)]; simp
        have e5 : decide ((ps.length : Int) ≤ 10) = false := by simp; omega
        clear hcs
        go_wp2_with fail
        go_ret
        exact ⟨ret_bool (by rw [HF.out]), HB.out⟩
    · have e1 : decide ((k : Int) < (ps.length : Int)) = false := by simp; omega
      have e5 : decide ((ps.length : Int) ≤ 10) = true := by simp; omega
      have HF : Hid (fewB ⟨c, ps⟩ = decide (c.length ≤ 60)) := by
        show _ = _
        unfold fewB
        rw [all_take_yes HA.out (.inr (by omega)), show decide ((⟨c, ps⟩ : Sch).ps.length ≤ 10) = true from decide_eq_true (by dsimp only; omega)]; rfl
      by_cases hc : c.length ≤ 60
      · have e6 : decide (((bs c).size : Int) ≤ 60) = true := by rw [hcs]; simp; omega
        rw [decide_eq_true hc] at HF
        clear hcs
        go_wp2_with fail
        go_ret
        exact ⟨ret_bool (by rw [HF.out]), HB.out⟩
      · have e6 : decide (((bs c).size : Int) ≤ 60) = false := by rw [hcs]; simp; omega
        rw [decide_eq_false hc] at HF
        clear hcs
        go_wp2_with fail
        go_ret
        exact ⟨ret_bool (by rw [HF.out]), HB.out⟩
theorem fields_at (f0 f1 f2 f3 f4 f5 f6 f7 f8 : List UInt8) : ∀ (k : Nat), k < 9 → (#[Value.string (bs f0), .string (bs f1), .string (bs f2), .string (bs f3), .string (bs f4), .string (bs f5), .string (bs f6), .string (bs f7), .string (bs f8)] : Array Value)[k]? = some (.string (bs ([f0, f1, f2, f3, f4, f5, f6, f7, f8].getD k [])))
  | 0, _ => rfl
  | 1, _ => rfl
  | 2, _ => rfl
  | 3, _ => rfl
  | 4, _ => rfl
  | 5, _ => rfl
  | 6, _ => rfl
  | 7, _ => rfl
  | 8, _ => rfl
  | k + 9, h => absurd h (by omega)
def shortF (f : List (List UInt8)) : Bool := (List.range 9).all fun k => decide ((f.getD k []).length ≤ 100)
set_option maxRecDepth 100000 in
set_option maxHeartbeats 2000000 in
theorem Short_any (f0 f1 f2 f3 f4 f5 f6 f7 f8 : List UInt8) (w : World) :
    Calls Tryz.prog 17 #[.agg #[.string (bs f0), .string (bs f1), .string (bs f2), .string (bs f3), .string (bs f4), .string (bs f5), .string (bs f6), .string (bs f7), .string (bs f8)]] w fun e w' => e = .returned (.bool (shortF [f0, f1, f2, f3, f4, f5, f6, f7, f8])) ∧ Below w.heap.size w w' := by
  have HB := hide (below_one w (.cells #[.string (bs f0), .string (bs f1), .string (bs f2), .string (bs f3), .string (bs f4), .string (bs f5), .string (bs f6), .string (bs f7), .string (bs f8)] 26))
  have HS := hide (Blk.new w 26 #[.string (bs f0), .string (bs f1), .string (bs f2), .string (bs f3), .string (bs f4), .string (bs f5), .string (bs f6), .string (bs f7), .string (bs f8)])
  have HA := hide (fields_at f0 f1 f2 f3 f4 f5 f6 f7 f8)
  go_enter Tryz.func17, Tryz.ntmps17
  go_wp2_with fail
  generalize w.alloc (.cells #[.string (bs f0), .string (bs f1), .string (bs f2), .string (bs f3), .string (bs f4), .string (bs f5), .string (bs f6), .string (bs f7), .string (bs f8)] 26) = w1 at *
  have HC : Hid (∀ k, k < 9 → w1.cell? ⟨w.heap.size, k, none⟩ = some (.string (bs ([f0, f1, f2, f3, f4, f5, f6, f7, f8].getD k [])))) := fun k hk => (HS.out.cell k).trans (HA.out k hk)
  obtain ⟨fl, hfl⟩ : ∃ fl, [f0, f1, f2, f3, f4, f5, f6, f7, f8] = fl := ⟨_, rfl⟩
  have HFL := hide hfl
  rw [hfl] at HC
  clear HS HA hfl
  go_loop [3] (fun i => ∃ k : Nat, k ≤ 9 ∧ i = .int .i64 (k : Int) ∧ ∀ j, j < k → (fl.getD j []).length ≤ 100) (fun i => 9 - (intOf i).toNat)
  case atStart => exact ⟨0, by omega, rfl, fun j h => absurd h (by omega)⟩
  case round =>
    obtain ⟨k, hk, rfl, hT⟩ := hrel
    have HT := hide hT
    clear hT
    by_cases hlt : k < 9
    · have ck := HC.out k hlt
      have hz := bs_size (fl.getD k [])
      by_cases h1 : 100 < (fl.getD k []).length
      · have e1 : decide ((100 : Int) < ((bs (fl.getD k [])).size : Int)) = true := by rw [hz]; exact decide_eq_true (by omega)
        have HF : Hid (shortF fl = false) := by
          show _ = _
          unfold shortF
          rw [List.all_eq_false]
          exact ⟨k, List.mem_range.2 hlt, by rw [decide_eq_false (by omega)]; decide⟩
        clear hz
        generalize fl.getD k [] = x at *
        go_wp2_with fail
        go_ret
        exact ⟨ret_bool (by rw [HFL.out, HF.out]), HB.out⟩
      · have e1 : decide ((100 : Int) < ((bs (fl.getD k [])).size : Int)) = false := by rw [hz]; exact decide_eq_false (by omega)
        have HT2 : Hid (∀ j, j < k + 1 → (fl.getD j []).length ≤ 100) := fun j hj => by
          rcases Nat.lt_or_ge j k with h | h
          · exact HT.out j h
          · obtain rfl : j = k := by omega
            omega
        clear hz
        generalize hx : fl.getD k [] = x at ck e1
        clear hx h1
        go_wp2_with fail
        go_round
        case rel => exact ⟨k + 1, by omega, by go_num, HT2.out⟩
        case measure => simp [intOf]; omega
    · obtain rfl : k = 9 := by omega
      have HF : Hid (shortF fl = true) := by
        show _ = _
        unfold shortF
        rw [List.all_eq_true]
        exact fun j hj => decide_eq_true (HT.out j (List.mem_range.1 hj))
      go_wp2_with fail
      go_ret
      exact ⟨ret_bool (by rw [HFL.out, HF.out]), HB.out⟩
end Go.Proofs.YtdcafoekbnacnaaGreatDoor

/- Chapters 23, 24: values as they are written. -/
set_option linter.unusedVariables false
set_option linter.unusedSimpArgs false
namespace Go.Proofs.YtdcafoekbnacnaaGreatDoor
open Go.RowKit Go.Shelf

theorem writL_snoc {f : List (List UInt8)} {ps : List Prt} {k : Nat} {p : Prt} (h : ps[k]? = some p) : writL f (ps.take (k + 1)) = writL f (ps.take k) ++ (if valF f p.k = [] then [] else p.b ++ (valF f p.k ++ p.a)) := by
  rw [List.take_add_one, h, writL_app]
  congr 1
  show writL f [p] = _
  unfold writL
  split <;> simp [writL]
theorem writL_len {f : List (List UInt8)} (hf : ∀ k, (f.getD k []).length ≤ 100) : ∀ ps : List Prt, (∀ p ∈ ps, p.b.length ≤ 60 ∧ p.a.length ≤ 60) → (writL f ps).length ≤ 220 * ps.length
  | [], _ => by simp [writL]
  | p :: ps, h => by
    have ih := writL_len hf ps (fun q hq => h q (List.mem_cons_of_mem _ hq))
    have := h p (List.mem_cons_self ..)
    have hv : (valF f p.k).length ≤ 100 := hf _
    unfold writL
    split
    · rw [List.nil_append, List.length_cons]; omega
    · simp only [List.length_append, List.length_cons]; omega
set_option maxRecDepth 100000 in
set_option maxHeartbeats 4000000 in
theorem written_any (c : List UInt8) (ps : List Prt) (hl0 : ps.length ≤ 10) (v : Value) (f0 f1 f2 f3 f4 f5 f6 f7 f8 : List UInt8) (hk : ∀ p ∈ ps, 1 ≤ p.k ∧ p.k ≤ 8) (hs : ∀ p ∈ ps, p.b.length ≤ 60 ∧ p.a.length ≤ 60) (hf : ∀ k, ([f0, f1, f2, f3, f4, f5, f6, f7, f8].getD k []).length ≤ 100) (w : World) (hP : PartsAt w v ps) :
    Calls Tryz.prog 27 #[.agg #[.string (bs c), v], .agg #[.string (bs f0), .string (bs f1), .string (bs f2), .string (bs f3), .string (bs f4), .string (bs f5), .string (bs f6), .string (bs f7), .string (bs f8)]] w fun e w' => e = .returned (.string (bs (writL [f0, f1, f2, f3, f4, f5, f6, f7, f8] ps))) ∧ Below w.heap.size w w' := by
  obtain ⟨A, cp, rfl, hcp⟩ := hP.slice
  have HP := hide hP
  have HKK := hide hk
  have HSS := hide hs
  have HB := hide (below_two w (.cells #[.string (bs c), .slice A ps.length cp] 24) (.cells #[.string (bs f0), .string (bs f1), .string (bs f2), .string (bs f3), .string (bs f4), .string (bs f5), .string (bs f6), .string (bs f7), .string (bs f8)] 26))
  have HS := hide ((Blk.new w 24 #[.string (bs c), .slice A ps.length cp]).alloc (.cells #[.string (bs f0), .string (bs f1), .string (bs f2), .string (bs f3), .string (bs f4), .string (bs f5), .string (bs f6), .string (bs f7), .string (bs f8)] 26))
  have hF := Blk.new (w.alloc (.cells #[.string (bs c), .slice A ps.length cp] 24)) 26 #[.string (bs f0), .string (bs f1), .string (bs f2), .string (bs f3), .string (bs f4), .string (bs f5), .string (bs f6), .string (bs f7), .string (bs f8)]
  rw [World.size_alloc] at hF
  have HF := hide hF
  have HA := hide (fields_at f0 f1 f2 f3 f4 f5 f6 f7 f8)
  have HFF := hide hf
  clear hP hk hs hF hf
  go_enter Tryz.func27, Tryz.ntmps27
  go_wp2_with fail
  generalize (w.alloc (.cells #[.string (bs c), .slice A ps.length cp] 24)).alloc (.cells #[.string (bs f0), .string (bs f1), .string (bs f2), .string (bs f3), .string (bs f4), .string (bs f5), .string (bs f6), .string (bs f7), .string (bs f8)] 26) = w1 at *
  have HFC : Hid (∀ W, Below w1.heap.size w1 W → ∀ k, k < 9 → W.cell? ⟨w.heap.size + 1, k, none⟩ = some (.string (bs ([f0, f1, f2, f3, f4, f5, f6, f7, f8].getD k [])))) := fun W hW k hk => ((HF.out.to hW).cell k).trans (HA.out k hk)
  obtain ⟨fl, hfl⟩ : ∃ fl, [f0, f1, f2, f3, f4, f5, f6, f7, f8] = fl := ⟨_, rfl⟩
  have HFL := hide hfl
  rw [hfl] at HFC HFF
  have hg1 : w.heap.size + 1 < w1.heap.size := HF.out.lt
  clear HA HF hfl
  go_loopw [5, 6] (fun o i wr => ∃ k : Nat, k ≤ ps.length ∧ i = .int .i64 (k : Int) ∧ o = .string (bs (writL fl (ps.take k))) ∧ Below w1.heap.size w1 wr) (fun _ i _ => ps.length - (intOf i).toNat)
  case atStart => exact ⟨0, by omega, rfl, rfl, Below.refl _ _⟩
  case round =>
    obtain ⟨k, hk, rfl, rfl, hB⟩ := hrel
    have HBw := hide hB
    have s1 := (HS.out.to hB).cell 1
    clear hB
    by_cases hlt : k < ps.length
    · obtain ⟨p, hp⟩ : ∃ p, ps[k]? = some p := ⟨_, List.getElem?_eq_getElem hlt⟩
      obtain ⟨a, cp', ea, _, hab, c0, c1, c2, c3⟩ := (HP.out.to (HB.out.trans (HBw.out.mono HB.out.size))).at_ hp
      injection ea with ea _ ec
      subst ec
      obtain rfl := ea
      have hkp := HKK.out p (List.mem_of_getElem? hp)
      have hsp := HSS.out p (List.mem_of_getElem? hp)
      have HW := hide (writL_snoc (f := fl) hp)
      have hlen := writL_len HFF.out (ps.take k) (fun q hq => HSS.out q (List.mem_of_mem_take hq))
      have hlk : (ps.take k).length ≤ k := List.length_take_le _ _
      clear hp
      obtain ⟨j, hj, hj9⟩ : ∃ j : Nat, p.k = (j : Int) ∧ j < 9 := ⟨p.k.toNat, by omega, by omega⟩
      have hj1 : 1 ≤ j := by omega
      rw [hj] at c0 HW
      clear hj hkp
      rw [show valF fl (j : Int) = fl.getD j [] from val_nat fl j] at HW
      have hx100 := HFF.out j
      have ck := HFC.out (wr.alloc (.cells #[.int .i64 (j : Int), .string (bs p.b), .string (bs p.a), .bool p.need] 41)) (below_alloc HBw.out (Nat.le_refl _) _) j hj9
      obtain ⟨o, ho⟩ : ∃ o, writL fl (ps.take k) = o := ⟨_, rfl⟩
      rw [ho] at hlen HW ⊢
      obtain ⟨x, hx⟩ : ∃ x, fl.getD j [] = x := ⟨_, rfl⟩
      rw [hx] at ck HW hx100
      clear ho hx
      have hBp := Blk.new wr 41 #[.int .i64 (j : Int), .string (bs p.b), .string (bs p.a), .bool p.need]
      have HBX := hide (below_alloc HBw.out (Nat.le_refl _) (.cells #[.int .i64 (j : Int), .string (bs p.b), .string (bs p.a), .bool p.need] 41))
      have hzo : (bs o).size ≤ 2200 := by rw [bs_size]; omega
      have hzx : (bs x).size ≤ 100 := by rw [bs_size]; exact hx100
      have hzb : (bs p.b).size ≤ 60 := by rw [bs_size]; exact hsp.1
      have hza : (bs p.a).size ≤ 60 := by rw [bs_size]; exact hsp.2
      have HBP := hide hBp
      clear hBp hlen hx100 hsp
      by_cases hxe : x = []
      · have e1 : (bs x).toList.isEmpty = true := by rw [bs_toList, hxe]; rfl
        rw [if_pos hxe, List.append_nil] at HW
        clear hxe
        go_wp2_with fail
        go_roundw
        case rel => exact ⟨k + 1, by omega, by go_num, by rw [HW.out], HBX.out⟩
        case measure => simp [intOf]; omega
      · have e1 : (bs x).toList.isEmpty = false := by rw [bs_toList]; cases x with | nil => exact absurd rfl hxe | cons a l => rfl
        rw [if_neg hxe] at HW
        clear hxe
        have hs1 : (bs o ++ bs p.b).size ≤ 2260 := by rw [bs_app, bs_size, List.length_append, ← bs_size, ← bs_size]; omega
        have hs2 : (bs o ++ bs p.b ++ bs x).size ≤ 2360 := by rw [bs_app, bs_app, bs_size, List.length_append, List.length_append, ← bs_size, ← bs_size, ← bs_size]; omega
        go_wp2_with fail
        clear c0 c1 c2 c3 s1
        have p0 := HBP.out.cell 0
        have p1 := HBP.out.cell 1
        have p2 := HBP.out.cell 2
        generalize wr.alloc (.cells #[.int .i64 (j : Int), .string (bs p.b), .string (bs p.a), .bool p.need] 41) = w5 at *
        go_quiet (fail)
        go_wp2_with fail
        go_roundw
        case rel => exact ⟨k + 1, by omega, by go_num, by rw [HW.out, ← bs_app, ← bs_app, ← bs_app, ← ByteArray.append_assoc, ← ByteArray.append_assoc], below_drewN HBX.out _⟩
        case measure => simp [intOf]; omega
    · obtain rfl : k = ps.length := by omega
      rw [List.take_length]
      go_wp2_with fail
      go_ret
      exact ⟨by rw [HFL.out]; rfl, HB.out.trans (HBw.out.mono HB.out.size)⟩
end Go.Proofs.YtdcafoekbnacnaaGreatDoor

/- Chapters 23, 24: values as they are written. -/
set_option linter.unusedVariables false
set_option linter.unusedSimpArgs false
namespace Go.Proofs.YtdcafoekbnacnaaGreatDoor
open Go.RowKit Go.Shelf

set_option maxRecDepth 100000 in
set_option maxHeartbeats 4000000 in
theorem rWritten_any (c : List UInt8) (ps : List Prt) (hl0 : ps.length ≤ 10) (v : Value) (f0 f1 f2 f3 f4 f5 f6 f7 f8 : List UInt8) (hk : ∀ p ∈ ps, 1 ≤ p.k ∧ p.k ≤ 8) (hs : ∀ p ∈ ps, p.b.length ≤ 60 ∧ p.a.length ≤ 60) (hf : ∀ k, ([f0, f1, f2, f3, f4, f5, f6, f7, f8].getD k []).length ≤ 100) (w : World) (hP : PartsAt w v ps) :
    Calls Tryz.prog 38 #[.agg #[.string (bs c), v], .agg #[.string (bs f0), .string (bs f1), .string (bs f2), .string (bs f3), .string (bs f4), .string (bs f5), .string (bs f6), .string (bs f7), .string (bs f8)]] w fun e w' => e = .returned (.string (bs (writL [f0, f1, f2, f3, f4, f5, f6, f7, f8] ps))) ∧ Below w.heap.size w w' := by
  obtain ⟨A, cp, rfl, hcp⟩ := hP.slice
  have HP := hide hP
  have HKK := hide hk
  have HSS := hide hs
  have HB := hide (below_two w (.cells #[.string (bs c), .slice A ps.length cp] 24) (.cells #[.string (bs f0), .string (bs f1), .string (bs f2), .string (bs f3), .string (bs f4), .string (bs f5), .string (bs f6), .string (bs f7), .string (bs f8)] 26))
  have HS := hide ((Blk.new w 24 #[.string (bs c), .slice A ps.length cp]).alloc (.cells #[.string (bs f0), .string (bs f1), .string (bs f2), .string (bs f3), .string (bs f4), .string (bs f5), .string (bs f6), .string (bs f7), .string (bs f8)] 26))
  have hF := Blk.new (w.alloc (.cells #[.string (bs c), .slice A ps.length cp] 24)) 26 #[.string (bs f0), .string (bs f1), .string (bs f2), .string (bs f3), .string (bs f4), .string (bs f5), .string (bs f6), .string (bs f7), .string (bs f8)]
  rw [World.size_alloc] at hF
  have HF := hide hF
  have HA := hide (fields_at f0 f1 f2 f3 f4 f5 f6 f7 f8)
  have HFF := hide hf
  clear hP hk hs hF hf
  go_enter Tryz.func38, Tryz.ntmps38
  go_wp2_with fail
  generalize (w.alloc (.cells #[.string (bs c), .slice A ps.length cp] 24)).alloc (.cells #[.string (bs f0), .string (bs f1), .string (bs f2), .string (bs f3), .string (bs f4), .string (bs f5), .string (bs f6), .string (bs f7), .string (bs f8)] 26) = w1 at *
  have HFC : Hid (∀ W, Below w1.heap.size w1 W → ∀ k, k < 9 → W.cell? ⟨w.heap.size + 1, k, none⟩ = some (.string (bs ([f0, f1, f2, f3, f4, f5, f6, f7, f8].getD k [])))) := fun W hW k hk => ((HF.out.to hW).cell k).trans (HA.out k hk)
  obtain ⟨fl, hfl⟩ : ∃ fl, [f0, f1, f2, f3, f4, f5, f6, f7, f8] = fl := ⟨_, rfl⟩
  have HFL := hide hfl
  rw [hfl] at HFC HFF
  have hg1 : w.heap.size + 1 < w1.heap.size := HF.out.lt
  clear HA HF hfl
  go_loopw [5, 6] (fun o i wr => ∃ k : Nat, k ≤ ps.length ∧ i = .int .i64 (k : Int) ∧ o = .string (bs (writL fl (ps.take k))) ∧ Below w1.heap.size w1 wr) (fun _ i _ => ps.length - (intOf i).toNat)
  case atStart => exact ⟨0, by omega, rfl, rfl, Below.refl _ _⟩
  case round =>
    obtain ⟨k, hk, rfl, rfl, hB⟩ := hrel
    have HBw := hide hB
    have s1 := (HS.out.to hB).cell 1
    clear hB
    by_cases hlt : k < ps.length
    · obtain ⟨p, hp⟩ : ∃ p, ps[k]? = some p := ⟨_, List.getElem?_eq_getElem hlt⟩
      obtain ⟨a, cp', ea, _, hab, c0, c1, c2, c3⟩ := (HP.out.to (HB.out.trans (HBw.out.mono HB.out.size))).at_ hp
      injection ea with ea _ ec
      subst ec
      obtain rfl := ea
      have hkp := HKK.out p (List.mem_of_getElem? hp)
      have hsp := HSS.out p (List.mem_of_getElem? hp)
      have HW := hide (writL_snoc (f := fl) hp)
      have hlen := writL_len HFF.out (ps.take k) (fun q hq => HSS.out q (List.mem_of_mem_take hq))
      have hlk : (ps.take k).length ≤ k := List.length_take_le _ _
      clear hp
      obtain ⟨j, hj, hj9⟩ : ∃ j : Nat, p.k = (j : Int) ∧ j < 9 := ⟨p.k.toNat, by omega, by omega⟩
      have hj1 : 1 ≤ j := by omega
      rw [hj] at c0 HW
      clear hj hkp
      rw [show valF fl (j : Int) = fl.getD j [] from val_nat fl j] at HW
      have hx100 := HFF.out j
      have ck := HFC.out (wr.alloc (.cells #[.int .i64 (j : Int), .string (bs p.b), .string (bs p.a), .bool p.need] 41)) (below_alloc HBw.out (Nat.le_refl _) _) j hj9
      obtain ⟨o, ho⟩ : ∃ o, writL fl (ps.take k) = o := ⟨_, rfl⟩
      rw [ho] at hlen HW ⊢
      obtain ⟨x, hx⟩ : ∃ x, fl.getD j [] = x := ⟨_, rfl⟩
      rw [hx] at ck HW hx100
      clear ho hx
      have hBp := Blk.new wr 41 #[.int .i64 (j : Int), .string (bs p.b), .string (bs p.a), .bool p.need]
      have HBX := hide (below_alloc HBw.out (Nat.le_refl _) (.cells #[.int .i64 (j : Int), .string (bs p.b), .string (bs p.a), .bool p.need] 41))
      have hzo : (bs o).size ≤ 2200 := by rw [bs_size]; omega
      have hzx : (bs x).size ≤ 100 := by rw [bs_size]; exact hx100
      have hzb : (bs p.b).size ≤ 60 := by rw [bs_size]; exact hsp.1
      have hza : (bs p.a).size ≤ 60 := by rw [bs_size]; exact hsp.2
      have HBP := hide hBp
      clear hBp hlen hx100 hsp
      by_cases hxe : x = []
      · have e1 : (bs x).toList.isEmpty = true := by rw [bs_toList, hxe]; rfl
        rw [if_pos hxe, List.append_nil] at HW
        clear hxe
        go_wp2_with fail
        go_roundw
        case rel => exact ⟨k + 1, by omega, by go_num, by rw [HW.out], HBX.out⟩
        case measure => simp [intOf]; omega
      · have e1 : (bs x).toList.isEmpty = false := by rw [bs_toList]; cases x with | nil => exact absurd rfl hxe | cons a l => rfl
        rw [if_neg hxe] at HW
        clear hxe
        have hs1 : (bs o ++ bs p.b).size ≤ 2260 := by rw [bs_app, bs_size, List.length_append, ← bs_size, ← bs_size]; omega
        have hs2 : (bs o ++ bs p.b ++ bs x).size ≤ 2360 := by rw [bs_app, bs_app, bs_size, List.length_append, List.length_append, ← bs_size, ← bs_size, ← bs_size]; omega
        go_wp2_with fail
        clear c0 c1 c2 c3 s1
        have p0 := HBP.out.cell 0
        have p1 := HBP.out.cell 1
        have p2 := HBP.out.cell 2
        generalize wr.alloc (.cells #[.int .i64 (j : Int), .string (bs p.b), .string (bs p.a), .bool p.need] 41) = w5 at *
        go_quiet (fail)
        go_wp2_with fail
        go_roundw
        case rel => exact ⟨k + 1, by omega, by go_num, by rw [HW.out, ← bs_app, ← bs_app, ← bs_app, ← ByteArray.append_assoc, ← ByteArray.append_assoc], below_drewN HBX.out _⟩
        case measure => simp [intOf]; omega
    · obtain rfl : k = ps.length := by omega
      rw [List.take_length]
      go_wp2_with fail
      go_ret
      exact ⟨by rw [HFL.out]; rfl, HB.out.trans (HBw.out.mono HB.out.size)⟩
end Go.Proofs.YtdcafoekbnacnaaGreatDoor

/- Chapters 23, 24: equal schemes (ref23 Same). -/
set_option linter.unusedVariables false
set_option linter.unusedSimpArgs false
namespace Go.Proofs.YtdcafoekbnacnaaGreatDoor
open Go.RowKit Go.Shelf

def samP (p q : Prt) : Bool := decide (p.k = q.k) && (decide (p.b = q.b) && (decide (p.a = q.a) && decide (p.need = q.need)))
theorem samP_iff (p q : Prt) : samP p q = true ↔ p = q := by
  unfold samP
  simp only [Bool.and_eq_true, decide_eq_true_eq]
  constructor
  · rintro ⟨h1, h2, h3, h4⟩; cases p; cases q; simp_all
  · rintro rfl; exact ⟨rfl, rfl, rfl, rfl⟩
def samL : List Prt → List Prt → Bool
  | [], [] => true
  | p :: l, q :: r => samP p q && samL l r
  | _, _ => false
theorem samL_iff : ∀ l r : List Prt, samL l r = true ↔ l = r
  | [], [] => by simp [samL]
  | p :: l, q :: r => by simp [samL, samP_iff, samL_iff l r]
  | [], q :: r => by simp [samL]
  | p :: l, [] => by simp [samL]
def sameB (s t : Sch) : Bool := decide (s.c = t.c) && samL s.ps t.ps
theorem sameB_iff (s t : Sch) : sameB s t = true ↔ s = t := by
  unfold sameB
  rw [Bool.and_eq_true, decide_eq_true_eq, samL_iff]
  constructor
  · rintro ⟨h1, h2⟩; cases s; cases t; simp_all
  · rintro rfl; exact ⟨rfl, rfl⟩
theorem sameB_no {s t : Sch} (h : s ≠ t) : sameB s t = false := by
  rw [← Bool.not_eq_true]; exact fun e => h ((sameB_iff s t).1 e)
theorem neq_yes {p q : Prt} (h : p ≠ q) (w : World) : (binOp .neq 41 (.agg #[.int .i64 p.k, .string (bs p.b), .string (bs p.a), .bool p.need]) (.agg #[.int .i64 q.k, .string (bs q.b), .string (bs q.a), .bool q.need])).run Tryz.prog w = .ok (.bool true) w := by
  rw [run_neq_struct]
  go_simp
  intro h1 h2 h3 h4
  exact h (by cases p; cases q; simp_all [bs_toList])
theorem neq_no (p : Prt) (w : World) : (binOp .neq 41 (.agg #[.int .i64 p.k, .string (bs p.b), .string (bs p.a), .bool p.need]) (.agg #[.int .i64 p.k, .string (bs p.b), .string (bs p.a), .bool p.need])).run Tryz.prog w = .ok (.bool false) w := by
  rw [run_neq_struct]
  go_simp
set_option maxRecDepth 100000 in
set_option maxHeartbeats 2000000 in
theorem Same_any (s t : Sch) (hl0 : s.ps.length ≤ 8796093022208) (hl1 : t.ps.length ≤ 8796093022208) (v u : Value) (w : World) (hP : PartsAt w v s.ps) (hQ : PartsAt w u t.ps) :
    Calls Tryz.prog 26 #[.agg #[.string (bs s.c), v], .agg #[.string (bs t.c), u]] w fun e w' => e = .returned (.bool (sameB s t)) ∧ Below w.heap.size w w' := by
  obtain ⟨c, ps⟩ := s
  obtain ⟨d, qs⟩ := t
  dsimp only at hl0 hl1 hP hQ
  obtain ⟨A, cp, rfl, hcp⟩ := hP.slice
  obtain ⟨A', cq, rfl, hcq⟩ := hQ.slice
  have HB := hide (below_two w (.cells #[.string (bs c), .slice A ps.length cp] 24) (.cells #[.string (bs d), .slice A' qs.length cq] 24))
  have HS := hide ((Blk.new w 24 #[.string (bs c), .slice A ps.length cp]).alloc (.cells #[.string (bs d), .slice A' qs.length cq] 24))
  have hF := Blk.new (w.alloc (.cells #[.string (bs c), .slice A ps.length cp] 24)) 24 #[.string (bs d), .slice A' qs.length cq]
  rw [World.size_alloc] at hF
  have HT := hide hF
  have HP := hide (hP.to HB.out)
  have HQ := hide (hQ.to HB.out)
  clear hP hQ hF
  by_cases hcd : c = d
  · have e1 : ((bs c).toList == (bs d).toList) = true := by rw [hcd]; simp
    by_cases hln : ps.length = qs.length
    · have e2 : ((ps.length : Int) != (qs.length : Int)) = false := by rw [hln]; simp
      have HC := hide hcd
      have HLN := hide hln
      clear hcd hln
      go_enter Tryz.func26, Tryz.ntmps26
      go_wp2_with fail
      clear e1 e2
      generalize hW1 : ((w.alloc (.cells #[.string (bs c), .slice A ps.length cp] 24)).alloc (.cells #[.string (bs d), .slice A' qs.length cq] 24)) = w1 at *
      go_loopw [5] (fun i wr => ∃ k : Nat, k ≤ ps.length ∧ i = .int .i64 (k : Int) ∧ ps.take k = qs.take k ∧ Below w1.heap.size w1 wr) (fun i _ => ps.length - (intOf i).toNat)
      case atStart => exact ⟨0, by omega, rfl, rfl, Below.refl _ _⟩
      case round =>
        obtain ⟨k, hk, rfl, hE, hB⟩ := hrel
        have HBw := hide hB
        have HE := hide hE
        have s1 := (HS.out.to hB).cell 1
        have t1 := (HT.out.to hB).cell 1
        clear hB hE hW1
        by_cases hlt : k < ps.length
        · have hlq : k < qs.length := by have := HLN.out; omega
          obtain ⟨p, hp⟩ : ∃ p, ps[k]? = some p := ⟨_, List.getElem?_eq_getElem hlt⟩
          obtain ⟨q, hq⟩ : ∃ q, qs[k]? = some q := ⟨_, List.getElem?_eq_getElem hlq⟩
          obtain ⟨a, cp', ea, _, hab, c0, c1, c2, c3⟩ := (HP.out.to HBw.out).at_ hp
          injection ea with ea _ ec
          subst ec
          obtain rfl := ea
          obtain ⟨a', cq', ea, _, hab', d0, d1, d2, d3⟩ := (HQ.out.to HBw.out).at_ hq
          injection ea with ea _ ec
          subst ec
          obtain rfl := ea
          by_cases hpq : p = q
          · subst hpq
            have HE2 : Hid (ps.take (k + 1) = qs.take (k + 1)) := by show _ = _; rw [List.take_add_one, List.take_add_one, hp, hq, HE.out]
            have hn := neq_no p
            clear hp hq
            have k0 : (0 : Int) ≤ (k : Int) := by omega
            have k1 : (k : Int) < (ps.length : Int) := by omega
            have k2 : (k : Int) < (qs.length : Int) := by omega
            go_wp2_with fail
            go_quiet (fail)
            go_wp2_with fail
            go_roundw
            case rel => exact ⟨k + 1, by omega, by go_num, HE2.out, below_drewN HBw.out _⟩
            case measure => simp [intOf]; omega
          · have hn := neq_yes hpq
            have HF : Hid (sameB ⟨c, ps⟩ ⟨d, qs⟩ = false) := sameB_no fun e => by
              injection e with _ e
              rw [e] at hp
              rw [hp] at hq
              exact hpq (Option.some.inj hq)
            clear hp hq hpq
            have k0 : (0 : Int) ≤ (k : Int) := by omega
            have k1 : (k : Int) < (ps.length : Int) := by omega
            have k2 : (k : Int) < (qs.length : Int) := by omega
            go_wp2_with fail
            go_quiet (fail)
            go_wp2_with fail
            go_ret
            exact ⟨ret_bool (by rw [HF.out]), below_drewN (HB.out.trans (HBw.out.mono HB.out.size)) _⟩
        · obtain rfl : k = ps.length := by omega
          have HF : Hid (sameB ⟨c, ps⟩ ⟨d, qs⟩ = true) := by
            refine (sameB_iff _ _).2 ?_
            have := HE.out
            rw [List.take_length, HLN.out, List.take_length] at this
            rw [HC.out, this]
          go_wp2_with fail
          go_ret
          exact ⟨ret_bool (by rw [HF.out]), HB.out.trans (HBw.out.mono HB.out.size)⟩
    · have e2 : ((ps.length : Int) != (qs.length : Int)) = true := by rw [bne_iff_ne]; omega
      have HF : Hid (sameB ⟨c, ps⟩ ⟨d, qs⟩ = false) := sameB_no fun e => by injection e with _ e; exact hln (by rw [e])
      clear hcd hln
      go_enter Tryz.func26, Tryz.ntmps26
      go_wp2_with fail
      go_ret
      exact ⟨ret_bool (by rw [HF.out]), HB.out⟩
  · have e1 : ((bs c).toList == (bs d).toList) = false := by rw [bs_toList, bs_toList, beq_eq_false_iff_ne]; exact hcd
    have HF : Hid (sameB ⟨c, ps⟩ ⟨d, qs⟩ = false) := sameB_no fun e => by injection e with e _; exact hcd e
    clear hcd
    go_enter Tryz.func26, Tryz.ntmps26
    go_wp2_with fail
    go_ret
    exact ⟨ret_bool (by rw [HF.out]), HB.out⟩
end Go.Proofs.YtdcafoekbnacnaaGreatDoor

/- Chapter 23: marked. -/
set_option linter.unusedVariables false
set_option linter.unusedSimpArgs false
namespace Go.Proofs.YtdcafoekbnacnaaGreatDoor
open Go.RowKit Go.Shelf

def hitB (p : Prt) (c : UInt8) : Bool := (p.b.head? == some c) || (p.a.head? == some c)
theorem mrk_hit (ps : List Prt) (c : UInt8) : mrk ps c = ps.any fun p => hitB p c := rfl
theorem idx0 (x : UInt8) (r : List UInt8) (w : World) : (Instr.index 9 (.string (bs (x :: r))) (.int .i64 0)).run Tryz.prog w = .ok (.int .u8 (x.toNat : Int)) w := index_bs (x :: r) 0 x rfl w
theorem mrk_yes {ps : List Prt} {k : Nat} {p : Prt} {c : UInt8} (hp : ps[k]? = some p) (h : hitB p c = true) : mrk ps c = true := by
  rw [mrk_hit, List.any_eq_true]; exact ⟨p, List.mem_of_getElem? hp, h⟩
set_option maxRecDepth 100000 in
set_option maxHeartbeats 8000000 in
theorem marked_any (c : List UInt8) (ps : List Prt) (hl0 : ps.length ≤ 8796093022208) (v : Value) (x : List UInt8) (hx : x.length ≤ 140737488355328) (w : World) (hP : PartsAt w v ps) :
    Calls Tryz.prog 28 #[.agg #[.string (bs c), v], .string (bs x)] w fun e w' => e = .returned (.bool (x.any (mrk ps))) ∧ Below w.heap.size w w' := by
  obtain ⟨A, cp, rfl, hcp⟩ := hP.slice
  have HB := hide (below_one w (.cells #[.string (bs c), .slice A ps.length cp] 24))
  have HS := hide (Blk.new w 24 #[.string (bs c), .slice A ps.length cp])
  have HP := hide (hP.to HB.out)
  have hsz := bs_size x
  clear hP
  go_enter Tryz.func28, Tryz.ntmps28
  go_wp2_with fail
  generalize w.alloc (.cells #[.string (bs c), .slice A ps.length cp] 24) = w1 at *
  go_loopw [5] (fun i wr => ∃ k : Nat, k ≤ x.length ∧ i = .int .i64 (k : Int) ∧ (∀ j d, j < k → x[j]? = some d → mrk ps d = false) ∧ Below w1.heap.size w1 wr) (fun i _ => x.length - (intOf i).toNat)
  case atStart => exact ⟨0, by omega, rfl, fun j d h => absurd h (by omega), Below.refl _ _⟩
  case round =>
    obtain ⟨i, hi, rfl, hM, hB⟩ := hrel
    have HBo := hide hB
    have HM := hide hM
    clear hB hM
    by_cases hlt : i < x.length
    · obtain ⟨d, hd⟩ : ∃ d, x[i]? = some d := ⟨_, List.getElem?_eq_getElem hlt⟩
      have ci := index_bs x i d hd
      have HD := hide hd
      clear hd
      go_wp2_with fail
      obtain ⟨wo, hwo⟩ : ∃ wo : World, wo = wr := ⟨_, rfl⟩
      subst hwo
      go_loopw [6] (fun t wr => ∃ k : Nat, k ≤ ps.length ∧ t = .int .i64 (k : Int) ∧ (∀ j p, j < k → ps[j]? = some p → hitB p d = false) ∧ Below w1.heap.size w1 wr) (fun t _ => ps.length - (intOf t).toNat)
      case atStart => exact ⟨0, by omega, rfl, fun j p h => absurd h (by omega), HBo.out⟩
      case round =>
        obtain ⟨k, hk, rfl, hH, hB⟩ := hrel
        have HBw := hide hB
        have HH := hide hH
        have s1 := (HS.out.to hB).cell 1
        clear hB hH
        by_cases hkt : k < ps.length
        · obtain ⟨p, hp⟩ : ∃ p, ps[k]? = some p := ⟨_, List.getElem?_eq_getElem hkt⟩
          obtain ⟨a, cp', ea, _, hab, c0, c1, c2, c3⟩ := (HP.out.to HBw.out).at_ hp
          injection ea with ea _ ec
          subst ec
          obtain rfl := ea
          have HYES : Hid (hitB p d = true → x.any (mrk ps) = true) := fun h => List.any_eq_true.2 ⟨d, List.mem_of_getElem? HD.out, mrk_yes hp h⟩
          have HNO : Hid (hitB p d = false → ∀ j q, j < k + 1 → ps[j]? = some q → hitB q d = false) := fun h j q hj hq => by
            rcases Nat.lt_or_ge j k with h' | h'
            · exact HH.out j q h' hq
            · obtain rfl : j = k := by omega
              rw [hp] at hq; cases hq; exact h
          have HHB : Hid (hitB p d = ((p.b.head? == some d) || (p.a.head? == some d))) := rfl
          have HBX := hide (below_alloc HBw.out (Nat.le_refl _) (.cells #[.int .i64 p.k, .string (bs p.b), .string (bs p.a), .bool p.need] 41))
          have HBP := hide (Blk.new wr 41 #[.int .i64 p.k, .string (bs p.b), .string (bs p.a), .bool p.need])
          clear hp
          go_wp2_with fail
          clear c0 c1 c2 c3 s1
          have p1 := HBP.out.cell 1
          have p2 := HBP.out.cell 2
          generalize wr.alloc (.cells #[.int .i64 p.k, .string (bs p.b), .string (bs p.a), .bool p.need] 41) = w5 at *
          generalize p.b = pb at *
          generalize p.a = pa at *
          cases pb with
          | nil =>
            have e1 : (bs ([] : List UInt8)).toList.isEmpty = true := by rw [bs_toList]; rfl
            cases pa with
            | nil =>
              have e2 : (bs ([] : List UInt8)).toList.isEmpty = true := by rw [bs_toList]; rfl
              have HF := hide (HNO.out (by rw [HHB.out]; simp []))
              go_quiet (fail)
              go_wp2_with fail
              go_roundw
              case rel => exact ⟨k + 1, by omega, by go_num, HF.out, below_drewN HBX.out _⟩
              case measure => simp [intOf]; omega
            | cons a0 ar =>
              have e2 : (bs (a0 :: ar)).toList.isEmpty = false := by rw [bs_toList]; rfl
              have i2 := idx0 a0 ar
              by_cases ha : a0 = d
              · subst ha
                have e4 : ((a0.toNat : Int) == (a0.toNat : Int)) = true := by simp
                have HF := hide (HYES.out (by rw [HHB.out]; simp))
                go_quiet (fail)
                go_wp2_with fail
                go_ret
                exact ⟨ret_bool (by rw [HF.out]), below_drewN (HB.out.trans (HBX.out.mono HB.out.size)) _⟩
              · have e4 : ((a0.toNat : Int) == (d.toNat : Int)) = false := by rw [beq_eq_false_iff_ne]; intro h; exact ha (UInt8.toNat_inj.1 (by omega))
                have HF := hide (HNO.out (by rw [HHB.out]; simp [ha]))
                clear ha
                go_quiet (fail)
                go_wp2_with fail
                go_roundw
                case rel => exact ⟨k + 1, by omega, by go_num, HF.out, below_drewN HBX.out _⟩
                case measure => simp [intOf]; omega
          | cons b0 br =>
            have e1 : (bs (b0 :: br)).toList.isEmpty = false := by rw [bs_toList]; rfl
            have i1 := idx0 b0 br
            by_cases hb : b0 = d
            · subst hb
              have e3 : ((b0.toNat : Int) == (b0.toNat : Int)) = true := by simp
              have HF := hide (HYES.out (by rw [HHB.out]; simp))
              go_quiet (fail)
              go_wp2_with fail
              go_ret
              exact ⟨ret_bool (by rw [HF.out]), below_drewN (HB.out.trans (HBX.out.mono HB.out.size)) _⟩
            · have e3 : ((b0.toNat : Int) == (d.toNat : Int)) = false := by rw [beq_eq_false_iff_ne]; intro h; exact hb (UInt8.toNat_inj.1 (by omega))
              cases pa with
              | nil =>
                have e2 : (bs ([] : List UInt8)).toList.isEmpty = true := by rw [bs_toList]; rfl
                have HF := hide (HNO.out (by rw [HHB.out]; simp [hb]))
                clear hb
                go_quiet (fail)
                go_wp2_with fail
                go_roundw
                case rel => exact ⟨k + 1, by omega, by go_num, HF.out, below_drewN HBX.out _⟩
                case measure => simp [intOf]; omega
              | cons a0 ar =>
                have e2 : (bs (a0 :: ar)).toList.isEmpty = false := by rw [bs_toList]; rfl
                have i2 := idx0 a0 ar
                by_cases ha : a0 = d
                · subst ha
                  have e4 : ((a0.toNat : Int) == (a0.toNat : Int)) = true := by simp
                  have HF := hide (HYES.out (by rw [HHB.out]; simp))
                  go_quiet (fail)
                  go_wp2_with fail
                  go_ret
                  exact ⟨ret_bool (by rw [HF.out]), below_drewN (HB.out.trans (HBX.out.mono HB.out.size)) _⟩
                · have e4 : ((a0.toNat : Int) == (d.toNat : Int)) = false := by rw [beq_eq_false_iff_ne]; intro h; exact ha (UInt8.toNat_inj.1 (by omega))
                  have HF := hide (HNO.out (by rw [HHB.out]; simp [hb, ha]))
                  clear hb ha
                  go_quiet (fail)
                  go_wp2_with fail
                  go_roundw
                  case rel => exact ⟨k + 1, by omega, by go_num, HF.out, below_drewN HBX.out _⟩
                  case measure => simp [intOf]; omega
        · obtain rfl : k = ps.length := by omega
          have HM2 : Hid (∀ j e, j < i + 1 → x[j]? = some e → mrk ps e = false) := fun j e hj he => by
            rcases Nat.lt_or_ge j i with h' | h'
            · exact HM.out j e h' he
            · obtain rfl : j = i := by omega
              rw [HD.out] at he; cases he
              rw [mrk_hit, List.any_eq_false]
              intro q hq
              obtain ⟨n, hn, rfl⟩ := List.getElem_of_mem hq
              rw [HH.out n _ hn (List.getElem?_eq_getElem hn)]; decide
          go_wp2_with fail
          go_roundw
          case rel => exact ⟨i + 1, by omega, by go_num, HM2.out, HBw.out⟩
          case measure => simp [intOf]; omega
    · obtain rfl : i = x.length := by omega
      have HF : Hid (x.any (mrk ps) = false) := by
        show _ = _
        rw [List.any_eq_false]
        intro e he
        obtain ⟨n, hn, rfl⟩ := List.getElem_of_mem he
        rw [HM.out n _ hn (List.getElem?_eq_getElem hn)]; decide
      go_wp2_with fail
      go_ret
      exact ⟨ret_bool (by rw [HF.out]), HB.out.trans (HBo.out.mono HB.out.size)⟩
end Go.Proofs.YtdcafoekbnacnaaGreatDoor

/- Chapters 23, 24: the examples of the chapters, computed. -/
set_option linter.unusedVariables false
set_option linter.unusedSimpArgs false
namespace Go.Proofs.YtdcafoekbnacnaaGreatDoor
open Go.RowKit Go.Shelf

def exS : Sch := ⟨[97, 97], [⟨4, [], [], true⟩, ⟨3, [44, 32], [], true⟩, ⟨1, [47], [], false⟩, ⟨8, [59, 32], [], true⟩, ⟨7, [45, 32], [], true⟩]⟩
def exV (street number unit code : List UInt8) : List (List UInt8) := [[], unit, [], number, street, [], [], [120], code]
theorem ex_valid : validB isNm exS = true := by decide +kernel
theorem ex_fits1 : fitsB isNm numB exS (exV [97, 98] [49, 50] [] [55, 55]) = true := by decide +kernel
theorem ex_fits2 : fitsB isNm numB exS (exV [97, 98] [49, 50] [51] [55, 55]) = true := by decide +kernel
theorem ex_fits3 : fitsB isNm numB exS (exV [97, 45, 98] [49, 50] [] [55, 55]) = false := by decide +kernel
theorem ex_fits4 : fitsB isNm numB exS (exV [97, 98] [48, 49, 50] [] [55, 55]) = false := by decide +kernel
theorem ex_fits5 : fitsB isNm numB exS (exV [97, 98] [49, 50] [] []) = false := by decide +kernel
def exT1 : List UInt8 := [115, 99, 104, 101, 109, 101, 32, 97, 32, 123, 32, 110, 101, 101, 100, 32, 115, 116, 114, 101, 101, 116, 59, 32, 110, 117, 109, 98, 101, 114, 32, 98, 101, 102, 111, 114, 101, 32, 34, 32, 34, 59, 32, 125]
def exP1 : Sch := ⟨[97], [⟨4, [], [], true⟩, ⟨3, [32], [], false⟩]⟩
def exT2 : List UInt8 := [115, 99, 104, 101, 109, 101, 32, 97, 32, 123, 32, 115, 116, 114, 101, 101, 116, 59, 32, 110, 117, 109, 98, 101, 114, 59, 32, 125]
def exT3 : List UInt8 := [115, 99, 104, 101, 109, 101, 32, 97, 32, 123, 32, 115, 116, 114, 101, 101, 116, 59, 32, 115, 116, 114, 101, 101, 116, 59, 32, 125]
def exT4 : List UInt8 := [115, 99, 104, 101, 109, 101, 32, 97, 32, 123, 32, 114, 111, 97, 100, 59, 32, 125]
theorem ex_parse1 : samL (parseS isNm exT1).1.ps exP1.ps = true ∧ (parseS isNm exT1).1.c = exP1.c ∧ (parseS isNm exT1).2 = (0, 0) := by decide +kernel
theorem ex_parse2 : (parseS isNm exT2).2 = (1, 27) := by decide +kernel
theorem ex_parse3 : (parseS isNm exT3).2 = (8, 19) := by decide +kernel
theorem ex_parse4 : (parseS isNm exT4).2 = (7, 11) := by decide +kernel
theorem ex_text : textV exP1 = [115, 99, 104, 101, 109, 101, 32, 97, 32, 123, 10, 110, 101, 101, 100, 32, 115, 116, 114, 101, 101, 116, 59, 10, 110, 117, 109, 98, 101, 114, 32, 98, 101, 102, 111, 114, 101, 32, 34, 32, 34, 59, 10, 125, 10] ∧ textE exP1 = 0 := by decide +kernel
theorem ex_writ : writL (exV [97, 98] [49, 50] [51] [55, 55]) exS.ps = [97, 98, 44, 32, 49, 50, 47, 51, 59, 32, 55, 55, 45, 32, 120] := by decide +kernel
end Go.Proofs.YtdcafoekbnacnaaGreatDoor

/- Chapter 23: example, values. -/
set_option linter.unusedVariables false
set_option linter.unusedSimpArgs false
namespace Go.Proofs.YtdcafoekbnacnaaGreatDoor
open Go.RowKit Go.Shelf

theorem short_facts {f : List (List UInt8)} (hl : f.length = 9) (h : shortF f = true) : ∀ k, (f.getD k []).length ≤ 100 := fun k => by
  rcases Nat.lt_or_ge k 9 with hk | hk
  · exact of_decide_eq_true (List.all_eq_true.1 h k (List.mem_range.2 hk))
  · rw [List.getD_eq_getElem?_getD, List.getElem?_eq_none (by omega)]; exact Nat.zero_le _
def exC : Array Value := #[.int .i64 4, .string ⟨#[]⟩, .string ⟨#[]⟩, .bool true, .int .i64 3, .string ⟨#[44, 32]⟩, .string ⟨#[]⟩, .bool true, .int .i64 1, .string ⟨#[47]⟩, .string ⟨#[]⟩, .bool false, .int .i64 8, .string ⟨#[59, 32]⟩, .string ⟨#[]⟩, .bool true, .int .i64 7, .string ⟨#[45, 32]⟩, .string ⟨#[]⟩, .bool true]
theorem example_any (w : World) : Calls Tryz.prog 36 #[] w fun e w' => ∃ v, e = .returned (.agg #[.string (bs [97, 97]), v]) ∧ PartsAt w' v exS.ps ∧ Below w.heap.size w w' := by
  go_enter Tryz.func36, Tryz.ntmps36
  go_wp2_with fail
  have hB := Blk.new (w.alloc (.cells #[.string ⟨#[97, 97]⟩, .slice (some ⟨w.heap.size + 1, 0, none⟩) 5 5] 24)) 41 exC
  rw [World.size_alloc] at hB
  refine bodyPost_ret (results_cell_blk rfl _ _ w.heap.size 24 #[.string ⟨#[97, 97]⟩, .slice (some ⟨w.heap.size + 1, 0, none⟩) 5 5] _ rfl ((Blk.new w _ _).alloc _) Tryz.underlying24 rfl (by kernel_rfl)) rfl ⟨_, rfl, ?_, below_two w _ _⟩
  have hs : ∀ x ∈ exS.ps.map ptV, x.length = 4 := fun x hx => by obtain ⟨p, _, rfl⟩ := List.mem_map.1 hx; rfl
  refine RowsAt.of_blk hB rfl (Nat.le_refl _) hs fun k x hx j u hu => ?_
  have := flat_at _ hs k x j u hx hu
  rw [show exC = (exS.ps.map ptV).flatten.toArray from rfl, List.getElem?_toArray]
  exact this
set_option maxHeartbeats 1000000 in
theorem values_any (a b c d : List UInt8) (w : World) : Calls Tryz.prog 37 #[.string (bs a), .string (bs b), .string (bs c), .string (bs d)] w fun e w' => e = .returned (.agg #[.string (bs []), .string (bs c), .string (bs []), .string (bs b), .string (bs a), .string (bs []), .string (bs []), .string (bs [120]), .string (bs d)]) ∧ Below w.heap.size w w' := by
  go_enter Tryz.func37, Tryz.ntmps37
  go_wp2_with fail
  exact bodyPost_ret (results_cell_blk rfl _ _ w.heap.size 26 #[.string (bs []), .string (bs c), .string (bs []), .string (bs b), .string (bs a), .string (bs []), .string (bs []), .string (bs [120]), .string (bs d)] _ rfl (Blk.new w _ _) Tryz.underlying26 rfl (by kernel_rfl)) rfl ⟨rfl, below_one w _⟩
end Go.Proofs.YtdcafoekbnacnaaGreatDoor

/- Chapter 23: head. -/
set_option linter.unusedVariables false
set_option linter.unusedSimpArgs false
namespace Go.Proofs.YtdcafoekbnacnaaGreatDoor
open Go.RowKit Go.Shelf

theorem parse_ex1 (w : World) : Calls Tryz.prog 20 #[.string ⟨#[115, 99, 104, 101, 109, 101, 32, 97, 32, 123, 32, 110, 101, 101, 100, 32, 115, 116, 114, 101, 101, 116, 59, 32, 110, 117, 109, 98, 101, 114, 32, 98, 101, 102, 111, 114, 101, 32, 34, 32, 34, 59, 32, 125]⟩] w fun e w' => ∃ A n c, e = .returned (.tuple #[.agg #[.string (bs [97]), .slice A 2 c], .int .i64 0, .int .i64 0]) ∧ PartsAt w' (.slice A 2 c) exP1.ps ∧ n = 0 ∧ Below w.heap.size w w' := by
  refine (SParse_any exT1 (by decide) w).mono ?_
  rintro e w' ⟨v, rfl, hP, hb⟩
  obtain ⟨h1, h2, h3⟩ := ex_parse1
  rw [(samL_iff _ _).1 h1] at hP
  obtain ⟨A, c, rfl, _⟩ := hP.slice
  rw [h2, h3]
  exact ⟨A, 0, c, rfl, hP, rfl, hb⟩
theorem parse_ex2 (w : World) : Calls Tryz.prog 20 #[.string ⟨#[115, 99, 104, 101, 109, 101, 32, 97, 32, 123, 32, 115, 116, 114, 101, 101, 116, 59, 32, 110, 117, 109, 98, 101, 114, 59, 32, 125]⟩] w fun e w' => ∃ x A n c, e = .returned (.tuple #[.agg #[.string x, .slice A n c], .int .i64 1, .int .i64 27]) ∧ Below w.heap.size w w' := by
  refine (SParse_any exT2 (by decide) w).mono ?_
  rintro e w' ⟨v, rfl, hP, hb⟩
  obtain ⟨A, c, rfl, _⟩ := hP.slice
  rw [ex_parse2]
  exact ⟨_, A, _, c, rfl, hb⟩
theorem parse_ex3 (w : World) : Calls Tryz.prog 20 #[.string ⟨#[115, 99, 104, 101, 109, 101, 32, 97, 32, 123, 32, 115, 116, 114, 101, 101, 116, 59, 32, 115, 116, 114, 101, 101, 116, 59, 32, 125]⟩] w fun e w' => ∃ x A n c, e = .returned (.tuple #[.agg #[.string x, .slice A n c], .int .i64 8, .int .i64 19]) ∧ Below w.heap.size w w' := by
  refine (SParse_any exT3 (by decide) w).mono ?_
  rintro e w' ⟨v, rfl, hP, hb⟩
  obtain ⟨A, c, rfl, _⟩ := hP.slice
  rw [ex_parse3]
  exact ⟨_, A, _, c, rfl, hb⟩
theorem parse_ex4 (w : World) : Calls Tryz.prog 20 #[.string ⟨#[115, 99, 104, 101, 109, 101, 32, 97, 32, 123, 32, 114, 111, 97, 100, 59, 32, 125]⟩] w fun e w' => ∃ x A n c, e = .returned (.tuple #[.agg #[.string x, .slice A n c], .int .i64 7, .int .i64 11]) ∧ Below w.heap.size w w' := by
  refine (SParse_any exT4 (by decide) w).mono ?_
  rintro e w' ⟨v, rfl, hP, hb⟩
  obtain ⟨A, c, rfl, _⟩ := hP.slice
  rw [ex_parse4]
  exact ⟨_, A, _, c, rfl, hb⟩
theorem text_ex (A : Option Addr) (c : Nat) (w : World) (hP : PartsAt w (.slice A 2 c) exP1.ps) : Calls Tryz.prog 18 #[.agg #[.string (bs [97]), .slice A 2 c]] w fun e w' => e = .returned (.tuple #[.string ⟨#[115, 99, 104, 101, 109, 101, 32, 97, 32, 123, 10, 110, 101, 101, 100, 32, 115, 116, 114, 101, 101, 116, 59, 10, 110, 117, 109, 98, 101, 114, 32, 98, 101, 102, 111, 114, 101, 32, 34, 32, 34, 59, 10, 125, 10]⟩, .int .i64 0]) ∧ Below w.heap.size w w' := by
  have := SText_any exP1 (by decide) (by decide) (.slice A 2 c) w hP
  rw [ex_text.1, ex_text.2] at this
  exact this
set_option maxRecDepth 100000 in
set_option maxHeartbeats 8000000 in
theorem head_any (w : World) (hg : Glob w) : Calls Tryz.prog 15 #[] w fun e w' => e = .returned (.bool true) ∧ Below w.heap.size w w' := by
  have HG0 := hide hg
  clear hg
  go_enter Tryz.func15, Tryz.ntmps15
  go_wp2_with fail
  refine (example_any w).mono ?_
  rintro e w1 ⟨v, rfl, hP, hb⟩
  have HB1 := hide hb
  have HP1 := hide hP
  obtain ⟨A, cp, rfl, _⟩ := hP.slice
  rw [show exS.ps.length = 5 from rfl] at HP1 ⊢
  clear hb hP
  go_wp2_with fail
  have HG : Hid (Glob (w1.alloc (.cells #[.string (bs [97, 97]), .slice A 5 cp] 24))) := (HG0.out.to HB1.out).alloc _
  have HP : Hid (PartsAt (w1.alloc (.cells #[.string (bs [97, 97]), .slice A 5 cp] 24)) (.slice A 5 cp) exS.ps) := HP1.out.to (below_one _ _)
  have HX := hide (Blk.new w1 24 #[.string (bs [97, 97]), .slice A 5 cp])
  have HB := hide (below_alloc HB1.out (Nat.le_refl _) (.cells #[.string (bs [97, 97]), .slice A 5 cp] 24))
  clear HP1 HB1 HG0
  generalize w1.alloc (.cells #[.string (bs [97, 97]), .slice A 5 cp] 24) = w2 at *
  obtain ⟨U, hU, g, u0, rfl, hgu, hi⟩ := cls w2
  have x0 := fun u => (((HX.out.to (hgu u)).cell 0).trans (show _ = some (Value.string (bs [97, 97])) from rfl))
  have x1 := fun u => (((HX.out.to (hgu u)).cell 1).trans (show _ = some (.slice A 5 cp) from rfl))
  have CV : ∀ u, Calls Tryz.prog 22 #[.agg #[.string (bs [97, 97]), .slice A 5 cp]] (g u) fun e w' => e = .returned (.bool true) ∧ ∃ u', w' = g u' := fun u => by
    have := cls_call hgu hi (fun W hb => SValid_any exS (by decide) (by decide) (.slice A 5 cp) W (HP.out.to hb)) u
    rw [ex_valid] at this
    exact this
  have CA1 : ∀ u, Calls Tryz.prog 37 #[.string ⟨#[97, 98]⟩, .string ⟨#[49, 50]⟩, .string ⟨#[]⟩, .string ⟨#[55, 55]⟩] (g u) fun e w' => e = .returned (.agg #[.string (bs []), .string (bs []), .string (bs []), .string (bs [49, 50]), .string (bs [97, 98]), .string (bs []), .string (bs []), .string (bs [120]), .string (bs [55, 55])]) ∧ ∃ u', w' = g u' := fun u => cls_call hgu hi (fun W _ => values_any [97, 98] [49, 50] [] [55, 55] W) u
  have CF1 : ∀ u, Calls Tryz.prog 24 #[.agg #[.string (bs [97, 97]), .slice A 5 cp], .agg #[.string (bs []), .string (bs []), .string (bs []), .string (bs [49, 50]), .string (bs [97, 98]), .string (bs []), .string (bs []), .string (bs [120]), .string (bs [55, 55])]] (g u) fun e w' => e = .returned (.bool true) ∧ ∃ u', w' = g u' := fun u => by
    have := cls_call hgu hi (fun W hb => Fits_any exS (by decide) (by decide) (.slice A 5 cp) [] [] [] [49, 50] [97, 98] [] [] [120] [55, 55] W (HP.out.to hb) (HG.out.to hb)) u
    rw [show [[], [], [], [49, 50], [97, 98], [], [], [120], [55, 55]] = exV [97, 98] [49, 50] [] [55, 55] from rfl, ex_fits1] at this
    exact this
  have CA2 : ∀ u, Calls Tryz.prog 37 #[.string ⟨#[97, 98]⟩, .string ⟨#[49, 50]⟩, .string ⟨#[51]⟩, .string ⟨#[55, 55]⟩] (g u) fun e w' => e = .returned (.agg #[.string (bs []), .string (bs [51]), .string (bs []), .string (bs [49, 50]), .string (bs [97, 98]), .string (bs []), .string (bs []), .string (bs [120]), .string (bs [55, 55])]) ∧ ∃ u', w' = g u' := fun u => cls_call hgu hi (fun W _ => values_any [97, 98] [49, 50] [51] [55, 55] W) u
  have CF2 : ∀ u, Calls Tryz.prog 24 #[.agg #[.string (bs [97, 97]), .slice A 5 cp], .agg #[.string (bs []), .string (bs [51]), .string (bs []), .string (bs [49, 50]), .string (bs [97, 98]), .string (bs []), .string (bs []), .string (bs [120]), .string (bs [55, 55])]] (g u) fun e w' => e = .returned (.bool true) ∧ ∃ u', w' = g u' := fun u => by
    have := cls_call hgu hi (fun W hb => Fits_any exS (by decide) (by decide) (.slice A 5 cp) [] [51] [] [49, 50] [97, 98] [] [] [120] [55, 55] W (HP.out.to hb) (HG.out.to hb)) u
    rw [show [[], [51], [], [49, 50], [97, 98], [], [], [120], [55, 55]] = exV [97, 98] [49, 50] [51] [55, 55] from rfl, ex_fits2] at this
    exact this
  have CA3 : ∀ u, Calls Tryz.prog 37 #[.string ⟨#[97, 45, 98]⟩, .string ⟨#[49, 50]⟩, .string ⟨#[]⟩, .string ⟨#[55, 55]⟩] (g u) fun e w' => e = .returned (.agg #[.string (bs []), .string (bs []), .string (bs []), .string (bs [49, 50]), .string (bs [97, 45, 98]), .string (bs []), .string (bs []), .string (bs [120]), .string (bs [55, 55])]) ∧ ∃ u', w' = g u' := fun u => cls_call hgu hi (fun W _ => values_any [97, 45, 98] [49, 50] [] [55, 55] W) u
  have CF3 : ∀ u, Calls Tryz.prog 24 #[.agg #[.string (bs [97, 97]), .slice A 5 cp], .agg #[.string (bs []), .string (bs []), .string (bs []), .string (bs [49, 50]), .string (bs [97, 45, 98]), .string (bs []), .string (bs []), .string (bs [120]), .string (bs [55, 55])]] (g u) fun e w' => e = .returned (.bool false) ∧ ∃ u', w' = g u' := fun u => by
    have := cls_call hgu hi (fun W hb => Fits_any exS (by decide) (by decide) (.slice A 5 cp) [] [] [] [49, 50] [97, 45, 98] [] [] [120] [55, 55] W (HP.out.to hb) (HG.out.to hb)) u
    rw [show [[], [], [], [49, 50], [97, 45, 98], [], [], [120], [55, 55]] = exV [97, 45, 98] [49, 50] [] [55, 55] from rfl, ex_fits3] at this
    exact this
  have CA4 : ∀ u, Calls Tryz.prog 37 #[.string ⟨#[97, 98]⟩, .string ⟨#[48, 49, 50]⟩, .string ⟨#[]⟩, .string ⟨#[55, 55]⟩] (g u) fun e w' => e = .returned (.agg #[.string (bs []), .string (bs []), .string (bs []), .string (bs [48, 49, 50]), .string (bs [97, 98]), .string (bs []), .string (bs []), .string (bs [120]), .string (bs [55, 55])]) ∧ ∃ u', w' = g u' := fun u => cls_call hgu hi (fun W _ => values_any [97, 98] [48, 49, 50] [] [55, 55] W) u
  have CF4 : ∀ u, Calls Tryz.prog 24 #[.agg #[.string (bs [97, 97]), .slice A 5 cp], .agg #[.string (bs []), .string (bs []), .string (bs []), .string (bs [48, 49, 50]), .string (bs [97, 98]), .string (bs []), .string (bs []), .string (bs [120]), .string (bs [55, 55])]] (g u) fun e w' => e = .returned (.bool false) ∧ ∃ u', w' = g u' := fun u => by
    have := cls_call hgu hi (fun W hb => Fits_any exS (by decide) (by decide) (.slice A 5 cp) [] [] [] [48, 49, 50] [97, 98] [] [] [120] [55, 55] W (HP.out.to hb) (HG.out.to hb)) u
    rw [show [[], [], [], [48, 49, 50], [97, 98], [], [], [120], [55, 55]] = exV [97, 98] [48, 49, 50] [] [55, 55] from rfl, ex_fits4] at this
    exact this
  have CA5 : ∀ u, Calls Tryz.prog 37 #[.string ⟨#[97, 98]⟩, .string ⟨#[49, 50]⟩, .string ⟨#[]⟩, .string ⟨#[]⟩] (g u) fun e w' => e = .returned (.agg #[.string (bs []), .string (bs []), .string (bs []), .string (bs [49, 50]), .string (bs [97, 98]), .string (bs []), .string (bs []), .string (bs [120]), .string (bs [])]) ∧ ∃ u', w' = g u' := fun u => cls_call hgu hi (fun W _ => values_any [97, 98] [49, 50] [] [] W) u
  have CF5 : ∀ u, Calls Tryz.prog 24 #[.agg #[.string (bs [97, 97]), .slice A 5 cp], .agg #[.string (bs []), .string (bs []), .string (bs []), .string (bs [49, 50]), .string (bs [97, 98]), .string (bs []), .string (bs []), .string (bs [120]), .string (bs [])]] (g u) fun e w' => e = .returned (.bool false) ∧ ∃ u', w' = g u' := fun u => by
    have := cls_call hgu hi (fun W hb => Fits_any exS (by decide) (by decide) (.slice A 5 cp) [] [] [] [49, 50] [97, 98] [] [] [120] [] W (HP.out.to hb) (HG.out.to hb)) u
    rw [show [[], [], [], [49, 50], [97, 98], [], [], [120], []] = exV [97, 98] [49, 50] [] [] from rfl, ex_fits5] at this
    exact this
  refine wp_region_class g (by kernel_rfl) (by kernel_rfl) (hi _ (hgu _).drew) ?_
  repeat (go_big_quiet_step (first | with_reducible exact CV _ | with_reducible exact CA1 _ | with_reducible exact CF1 _ | with_reducible exact CA2 _ | with_reducible exact CF2 _ | with_reducible exact CA3 _ | with_reducible exact CF3 _ | with_reducible exact CA4 _ | with_reducible exact CF4 _ | with_reducible exact CA5 _ | with_reducible exact CF5 _))
  refine wpQuiet_nil ?_
  intro w3 hw3
  obtain ⟨u, rfl⟩ := hw3
  have HPa := hide (HP.out.to (hgu u))
  have HGa := hide (HG.out.to (hgu u))
  have HXa := hide (HX.out.to (hgu u))
  have HBa := hide (below_to HB.out (Nat.le_refl _) (hgu u))
  clear x0 x1 CV CA1 CA2 CA3 CA4 CA5 CF1 CF2 CF3 CF4 CF5 HP HG HX HB
  revert HPa HGa HXa HBa
  generalize g u = w3
  intro HPa HGa HXa HBa
  clear hgu hi g u u0
  go_wp2_with fail
  refine (parse_ex1 w3).mono ?_
  rintro e w4 ⟨A1, _, c1, rfl, hP1, _, hb⟩
  have HQ := hide (hP1.to (below_one w4 (.cells #[.string (bs [97]), .slice A1 2 c1] 24)))
  have HY := hide (Blk.new w4 24 #[.string (bs [97]), .slice A1 2 c1])
  have hbb : Below w3.heap.size w3 (w4.alloc (.cells #[.string (bs [97]), .slice A1 2 c1] 24)) := below_alloc hb (Nat.le_refl _) _
  have HPb := hide (HPa.out.to hbb)
  have HGb := hide (HGa.out.to hbb)
  have HXb := hide (HXa.out.to hbb)
  have HBb := hide (below_to HBa.out (Nat.le_refl _) hbb)
  clear hP1 hb hbb HPa HGa HXa HBa
  go_wp2_with fail
  generalize w4.alloc (.cells #[.string (bs [97]), .slice A1 2 c1] 24) = w5 at *
  refine (parse_ex2 w5).mono ?_
  rintro e w6 ⟨y2, B2, n2, d2, rfl, hb⟩
  have hbb : Below w5.heap.size w5 (w6.alloc (.cells #[.string y2, .slice B2 n2 d2] 24)) := below_alloc hb (Nat.le_refl _) _
  have hQ := hide (HQ.out.to hbb)
  have hY := hide (HY.out.to hbb)
  have hP := hide (HPb.out.to hbb)
  have hG := hide (HGb.out.to hbb)
  have hX := hide (HXb.out.to hbb)
  have hB := hide (below_to HBb.out (Nat.le_refl _) hbb)
  clear hb hbb HPb HGb HXb HBb HQ HY
  have HQ := hQ
  have HY := hY
  have HPb := hP
  have HGb := hG
  have HXb := hX
  have HBb := hB
  clear hQ hY hP hG hX hB
  go_wp2_with fail
  generalize w6.alloc (.cells #[.string y2, .slice B2 n2 d2] 24) = w7 at *
  refine (parse_ex3 w7).mono ?_
  rintro e w8 ⟨y3, B3, n3, d3, rfl, hb⟩
  have hbb : Below w7.heap.size w7 (w8.alloc (.cells #[.string y3, .slice B3 n3 d3] 24)) := below_alloc hb (Nat.le_refl _) _
  have hQ := hide (HQ.out.to hbb)
  have hY := hide (HY.out.to hbb)
  have hP := hide (HPb.out.to hbb)
  have hG := hide (HGb.out.to hbb)
  have hX := hide (HXb.out.to hbb)
  have hB := hide (below_to HBb.out (Nat.le_refl _) hbb)
  clear hb hbb HPb HGb HXb HBb HQ HY
  have HQ := hQ
  have HY := hY
  have HPb := hP
  have HGb := hG
  have HXb := hX
  have HBb := hB
  clear hQ hY hP hG hX hB
  go_wp2_with fail
  generalize w8.alloc (.cells #[.string y3, .slice B3 n3 d3] 24) = w9 at *
  refine (parse_ex4 w9).mono ?_
  rintro e w10 ⟨y4, B4, n4, d4, rfl, hb⟩
  have hbb : Below w9.heap.size w9 (w10.alloc (.cells #[.string y4, .slice B4 n4 d4] 24)) := below_alloc hb (Nat.le_refl _) _
  have hQ := hide (HQ.out.to hbb)
  have hY := hide (HY.out.to hbb)
  have hP := hide (HPb.out.to hbb)
  have hG := hide (HGb.out.to hbb)
  have hX := hide (HXb.out.to hbb)
  have hB := hide (below_to HBb.out (Nat.le_refl _) hbb)
  clear hb hbb HPb HGb HXb HBb HQ HY
  have HQ := hQ
  have HY := hY
  have HPb := hP
  have HGb := hG
  have HXb := hX
  have HBb := hB
  clear hQ hY hP hG hX hB
  have q0 := HY.out.cell 0
  have q1 := HY.out.cell 1
  go_wp2_with fail
  generalize w10.alloc (.cells #[.string y4, .slice B4 n4 d4] 24) = w11 at *
  clear q0 q1
  refine (text_ex A1 c1 w11 HQ.out).mono ?_
  rintro e w12 ⟨rfl, hb⟩
  have q1 := (HY.out.to hb).cell 1
  have HP := hide (HPb.out.to hb)
  have HG := hide (HGb.out.to hb)
  have HX := hide (HXb.out.to hb)
  have HB := hide (below_to HBb.out (Nat.le_refl _) hb)
  clear hb HPb HGb HXb HBb HQ HY
  go_wp2_with fail
  clear q1
  obtain ⟨U, hU, g, u0, rfl, hgu, hi⟩ := cls w12
  have x0 := fun u => (((HX.out.to (hgu u)).cell 0).trans (show _ = some (Value.string (bs [97, 97])) from rfl))
  have x1 := fun u => (((HX.out.to (hgu u)).cell 1).trans (show _ = some (.slice A 5 cp) from rfl))
  have CA2 : ∀ u, Calls Tryz.prog 37 #[.string ⟨#[97, 98]⟩, .string ⟨#[49, 50]⟩, .string ⟨#[51]⟩, .string ⟨#[55, 55]⟩] (g u) fun e w' => e = .returned (.agg #[.string (bs []), .string (bs [51]), .string (bs []), .string (bs [49, 50]), .string (bs [97, 98]), .string (bs []), .string (bs []), .string (bs [120]), .string (bs [55, 55])]) ∧ ∃ u', w' = g u' := fun u => cls_call hgu hi (fun W _ => values_any [97, 98] [49, 50] [51] [55, 55] W) u
  have CW : ∀ u, Calls Tryz.prog 38 #[.agg #[.string (bs [97, 97]), .slice A 5 cp], .agg #[.string (bs []), .string (bs [51]), .string (bs []), .string (bs [49, 50]), .string (bs [97, 98]), .string (bs []), .string (bs []), .string (bs [120]), .string (bs [55, 55])]] (g u) fun e w' => e = .returned (.string ⟨#[97, 98, 44, 32, 49, 50, 47, 51, 59, 32, 55, 55, 45, 32, 120]⟩) ∧ ∃ u', w' = g u' := fun u => by
    have := cls_call hgu hi (fun W hb => rWritten_any [97, 97] exS.ps (by decide) (.slice A 5 cp) [] [51] [] [49, 50] [97, 98] [] [] [120] [55, 55] (by decide) (by decide) (short_facts (f := [[], [51], [], [49, 50], [97, 98], [], [], [120], [55, 55]]) rfl (by decide +kernel)) W (HP.out.to hb)) u
    rw [show [[], [51], [], [49, 50], [97, 98], [], [], [120], [55, 55]] = exV [97, 98] [49, 50] [51] [55, 55] from rfl, ex_writ] at this
    exact this
  have eqT : ((⟨#[115, 99, 104, 101, 109, 101, 32, 97, 32, 123, 10, 110, 101, 101, 100, 32, 115, 116, 114, 101, 101, 116, 59, 10, 110, 117, 109, 98, 101, 114, 32, 98, 101, 102, 111, 114, 101, 32, 34, 32, 34, 59, 10, 125, 10]⟩ : ByteArray).toList == (⟨#[115, 99, 104, 101, 109, 101, 32, 97, 32, 123, 10, 110, 101, 101, 100, 32, 115, 116, 114, 101, 101, 116, 59, 10, 110, 117, 109, 98, 101, 114, 32, 98, 101, 102, 111, 114, 101, 32, 34, 32, 34, 59, 10, 125, 10]⟩ : ByteArray).toList) = true := by simp
  have eqW : ((⟨#[97, 98, 44, 32, 49, 50, 47, 51, 59, 32, 55, 55, 45, 32, 120]⟩ : ByteArray).toList == (⟨#[97, 98, 44, 32, 49, 50, 47, 51, 59, 32, 55, 55, 45, 32, 120]⟩ : ByteArray).toList) = true := by simp
  refine wp_region_class g (by kernel_rfl) (by kernel_rfl) (hi _ (hgu _).drew) ?_
  repeat (go_big_quiet_step (first | with_reducible exact CA2 _ | with_reducible exact CW _))
  refine wpQuiet_nil ?_
  intro w3 hw3
  obtain ⟨u, rfl⟩ := hw3
  go_wp2_with fail
  go_ret
  exact ⟨rfl, below_to HB.out (Nat.le_refl _) (hgu u)⟩
end Go.Proofs.YtdcafoekbnacnaaGreatDoor

/- What a row of the seat gives: the variables' cells. -/
set_option linter.unusedVariables false
set_option linter.unusedSimpArgs false
namespace Go.Proofs.YtdcafoekbnacnaaGreatDoor
open Go.RowKit

theorem iface_of_trod {H : Type} {enc : TypeId × Value → H} {P : Program} {w : World} {base : Nat} {sp : Nat → Bool} {held : Bool} {fuel : Nat} {t : TypeId} {ms : Array (String × TypeId)} {cs : List Value} {y : DataW H} {p : List MemPlace}
    (ht : P.underlying t = some (.interface ms)) (h : DataW.trod enc P w base sp held fuel t cs = some (y, p)) : ∃ v, cs = [v] ∧ (v = .nilIface ∨ ∃ te pe, v = .iface te pe) := by
  cases fuel with
  | zero => simp [DataW.trod] at h
  | succ fuel =>
    match cs, h with
    | [], h => simp [DataW.trod, ht] at h
    | [v], h =>
      refine ⟨v, rfl, ?_⟩
      cases v <;> simp [DataW.trod, ht] at h <;> simp
    | _ :: _ :: _, h => simp [DataW.trod, ht] at h
theorem iface_head {P : Program} {n : String} {d : DataW Unit} {r : List (String × DataW Unit)} {W : World} {g : Nat} {ti : TypeId} {ms : Array (String × TypeId)}
    (h : laidMet P ((n, d) :: r) W) (hg : P.globalNamed n = some g) (ht : (P.globals[g]?).map (·.type) = some ti) (hi : P.underlying ti = some (.interface ms)) :
    ∃ ev, W.cell? ⟨g, 0, none⟩ = some ev ∧ (ev = .nilIface ∨ ∃ te pe, ev = .iface te pe) := by
  obtain ⟨ps, ⟨g0, t0, cs0, f0, p0, q0, hg0, ht0, hv0, hd0, _, e0⟩, _, _⟩ := h
  obtain rfl := Option.some.inj (hg.symm.trans hg0)
  obtain rfl := Option.some.inj (ht.symm.trans ht0)
  obtain ⟨v, hv, hc⟩ := iface_of_trod hi hd0
  obtain rfl : cs0 = #[v] := by cases cs0; simpa using hv
  exact ⟨v, by simpa using World.var?_cell hg0 hv0 0, hc⟩
theorem int_of_shape {P : Program} {w : World} {g : Nat} {t : TypeId} {zero : Array Value} (h : w.ShapedOpen P) (hg : g < P.globals.size)
    (h0 : ((begin P (fun _ _ => 0) default).world.heap[g]?).bind Obj.row? = some (zero, t)) (hz : zero.size = 1)
    (hb : P.buildable t = true) (hc : P.cellTypes P.depth t = some [t]) (hu : P.underlying t = some (.int .i64)) : ∃ p, w.cell? ⟨g, 0, none⟩ = some (.int .i64 p) := by
  obtain ⟨cs, hh, hs, hr⟩ := h.1 g zero t hg h0
  obtain ⟨ts, hts, _, hall⟩ := hr hb
  rw [hc] at hts
  cases hts
  have h1 : 0 < cs.size := by omega
  obtain ⟨u, hu', hok⟩ := hall 0 cs[0] (by simp [h1])
  have : u = t := by simpa using hu'.symm
  subst this
  have hcell : w.cell? ⟨g, 0, none⟩ = some cs[0] := by simp [World.cell?, hh, h1]
  rw [hcell]
  unfold Cell.ok at hok
  rw [hu] at hok
  cases hv : cs[0] <;> rw [hv] at hok <;> simp at hok
  obtain ⟨rfl, _⟩ := hok
  exact ⟨_, rfl⟩
theorem glob_of {w : World} (hs : w.ShapedOpen Tryz.prog) {r : List (String × DataW Unit)}
    (hL : laidMet Tryz.prog (("math/bits.deBruijn32tab", Rows.laid_math_bits_deBruijn32tab) :: ("math/bits.deBruijn64tab", Rows.laid_math_bits_deBruijn64tab) :: ("internal/strconv.uint64pow10", Rows.laid_internal_strconv_uint64pow10) :: ("unicode/utf8.acceptRanges", Rows.laid_unicode_utf8_acceptRanges) :: ("strconv.ErrRange", Rows.laid_strconv_ErrRange) :: ("strconv.ErrSyntax", Rows.laid_strconv_ErrSyntax) :: r) w) : Glob w := by
  have h2 := hL.tail
  have h3 := h2.tail
  have h5 := h3.tail.tail
  refine ⟨?_, ?_, ?_, ?_, ?_, ?_⟩
  · obtain ⟨⟨z, ty⟩, h0⟩ := Option.isSome_iff_exists.1 (show (((begin Tryz.prog (fun _ _ => 0) default).world.heap[Tryz.prog.globals.size - 1]?).bind Obj.row?).isSome = true by kernel_rfl)
    obtain ⟨cs, h, _⟩ := hs.1 (Tryz.prog.globals.size - 1) z ty (of_decide_eq_true (by kernel_rfl)) h0
    have hz : 0 < Tryz.prog.globals.size := of_decide_eq_true (by kernel_rfl)
    rcases Nat.lt_or_ge (Tryz.prog.globals.size - 1) w.heap.size with h' | h'
    · generalize Tryz.prog.globals.size = n at *; omega
    · rw [Array.getElem?_eq_none h'] at h; cases h
  · exact int_of_shape (g := 2) (t := 3) (zero := #[.int .i64 0]) hs (of_decide_eq_true (by kernel_rfl)) (by kernel_rfl) rfl (by kernel_rfl) (by kernel_rfl) Tryz.underlying3
  · exact iface_head (g := 5) (ti := 63) h5.tail (by kernel_rfl) (by kernel_rfl) Tryz.underlying63
  · exact iface_head (g := 6) (ti := 63) h5 (by kernel_rfl) (by kernel_rfl) Tryz.underlying63
  · exact Lib.tabIs_of_head (t := 217) (e := 5) (n := 64) (g := 9) (by kernel_rfl) (by kernel_rfl) Tryz.underlying217 Tryz.underlying5 (by kernel_rfl) (by kernel_rfl) h2
  · exact Lib.tabIs_of_head (t := 212) (e := 174) (n := 20) (g := 7) (by kernel_rfl) (by kernel_rfl) Tryz.underlying212 Tryz.underlying174 (by kernel_rfl) (by kernel_rfl) h3
open Go.ChangeShapes Go.WideShapes Go.Deep
theorem reachB {n : Nat} (h : n ≤ reachBytes) : n ≤ 140737488351232 := by unfold reachBytes at h; omega
end Go.Proofs.YtdcafoekbnacnaaGreatDoor

/- Slices of records and of texts that came in. -/
set_option linter.unusedVariables false
set_option linter.unusedSimpArgs false
namespace Go.Proofs.YtdcafoekbnacnaaGreatDoor
open Go.RowKit Go.ChangeShapes Go.WideShapes Go.Deep

theorem reachC {n : Nat} (h : n ≤ reachBytes) : n ≤ 140737488351232 := by unfold reachBytes at h; omega
theorem rows_came {α : Type} {w : World} {a : Addr} {n c size : Nat} (enc : α → List Value) (Q : α → Prop) (hs : ∀ x, (enc x).length = size) (h0 : 0 < size) (hc : n ≤ c)
    (h : ∀ i, i < n → ∃ x : α, Q x ∧ ∀ j u, (enc x)[j]? = some u → w.cell? (a.add (i * size + j)) = some u) : ∃ ls : List α, ls.length = n ∧ (∀ x ∈ ls, Q x) ∧ RowsAt w size (.slice (some a) n c) (ls.map enc) := by
  have hex : ∀ m, m ≤ n → ∃ ls : List α, ls.length = m ∧ (∀ x ∈ ls, Q x) ∧ ∀ (i : Nat) x, ls[i]? = some x → ∀ j u, (enc x)[j]? = some u → w.cell? (a.add (i * size + j)) = some u := by
    intro m
    induction m with
    | zero => exact fun _ => ⟨[], rfl, by simp, by simp⟩
    | succ m ih =>
      intro hm
      obtain ⟨ls, h1, h2, h3⟩ := ih (by omega)
      obtain ⟨x, hq, hx⟩ := h m (by omega)
      refine ⟨ls ++ [x], by simp [h1], fun y hy => ?_, fun i y hy j u hu => ?_⟩
      · rcases List.mem_append.1 hy with hy | hy
        · exact h2 y hy
        · rw [List.mem_singleton.1 hy]; exact hq
      · rcases Nat.lt_or_ge i ls.length with hi | hi
        · rw [List.getElem?_append_left hi] at hy
          exact h3 i y hy j u hu
        · rw [List.getElem?_append_right hi] at hy
          have hz : i - ls.length = 0 := by
            rcases Nat.eq_zero_or_pos (i - ls.length) with hz | hz
            · exact hz
            · rw [List.getElem?_eq_none (by simp only [List.length_cons, List.length_nil]; omega)] at hy; cases hy
          rw [hz] at hy
          simp at hy
          subst hy
          obtain rfl : i = m := by omega
          exact hx j u hu
  obtain ⟨ls, h1, h2, h3⟩ := hex n (Nat.le_refl _)
  refine ⟨ls, h1, h2, some a, c, by rw [List.length_map, h1], by rw [List.length_map]; omega, fun x hx => ?_, fun k x hx => ?_⟩
  · obtain ⟨y, _, rfl⟩ := List.mem_map.1 hx
    exact hs y
  · rw [List.getElem?_map, Option.map_eq_some_iff] at hx
    obtain ⟨y, hy, rfl⟩ := hx
    have hk := h3 k y hy
    refine ⟨a, rfl, ?_, fun j u hu => by rw [add_of_add]; exact hk j u hu⟩
    have hl : 0 < (enc y).length := by rw [hs]; exact h0
    have := World.block_lt_of_cell? w _ (hk 0 _ (List.getElem?_eq_getElem hl))
    rwa [block_of_add] at this
theorem came_texts {H : Type} {enc : TypeId × Value → H} {w : World} {cs : List Value} (h : CameC enc Tryz.prog w 114 cs) :
    ∃ (v : Value) (ls : List (List UInt8)), cs = [v] ∧ TextsAt w v ls ∧ (∀ x ∈ ls, x.length ≤ 140737488355328) ∧ ls.length ≤ 8796093022208 := by
  rcases h.slice Tryz.underlying114 with rfl | ⟨a, n, c, rfl, hn, hb, _, hi⟩
  · exact ⟨_, [], rfl, RowsAt.nil _ _, by simp, by simp⟩
  · have h1 : Tryz.prog.cellsOf 9 = 1 := by kernel_rfl
    have h2 : Tryz.prog.bytesOf 9 = 16 := by kernel_rfl
    rw [h1] at hi
    rw [h2] at hb
    obtain ⟨ls, e, hq, hr⟩ := rows_came (w := w) (a := a) (c := c) (size := 1) strV (fun x => x.length ≤ 140737488355328) (fun _ => rfl) (by decide) hn fun i hi' => by
      obtain ⟨cs', hl, hat, hcm⟩ := hi i hi'
      obtain ⟨s, rfl, hs⟩ := hcm.string Tryz.underlying9
      refine ⟨s.data.toList, ?_, fun j u hu => ?_⟩
      · have := reachC hs
        have h3 := Lib.size_eq s
        omega
      · have hj : j = 0 := by
          rcases Nat.eq_zero_or_pos j with hz | hz
          · exact hz
          · rw [List.getElem?_eq_none (by simp only [strV, List.length_cons, List.length_nil]; omega)] at hu; cases hu
        subst hj
        rw [hat 0 (by decide)]
        exact hu
    refine ⟨_, ls, rfl, e ▸ hr, hq, ?_⟩
    have := reachC hb
    omega
end Go.Proofs.YtdcafoekbnacnaaGreatDoor

/- Schemes and fields that came in. -/
set_option linter.unusedVariables false
set_option linter.unusedSimpArgs false
namespace Go.Proofs.YtdcafoekbnacnaaGreatDoor
open Go.RowKit Go.ChangeShapes Go.WideShapes Go.Deep

theorem len_of {s : ByteArray} (h : s.size ≤ reachBytes) : s.data.toList.length ≤ 140737488355328 := by
  have := reachC h
  have h3 := Lib.size_eq s
  omega
section
variable {H : Type} {enc : TypeId × Value → H} {P : Program} {w : World} {t e : TypeId} {cs : List Value}
theorem CameC.bool (ht : P.underlying t = some .bool) (h : CameC enc P w t cs) : ∃ b, cs = [.bool b] := by
  obtain ⟨n, d, p, h, _⟩ := h
  obtain ⟨z, h1, _⟩ := DataW.trod_bool ht h
  exact ⟨z, h1⟩
theorem CameC.arr {n : Nat} (ht : P.underlying t = some (.array n e)) (h : CameC enc P w t cs) : cs.length = P.cellsOf t ∧ ∀ i, i < n → CameC enc P w e ((cs.drop (i * P.cellsOf e)).take (P.cellsOf e)) := by
  obtain ⟨m, d, p, h, hw⟩ := h
  obtain ⟨xs, k, _, hx, hl, hlen, hf⟩ := DataW.trod_array ht h
  obtain ⟨rfl, rfl⟩ := Prod.mk.injEq .. ▸ hx
  refine ⟨hl, fun i hi => ?_⟩
  have hg : xs[i]? = some (xs[i]'(by omega)) := List.getElem?_eq_getElem (by omega)
  have h1 := hf i hi
  rw [hg] at h1
  refine ⟨k, (xs[i]'(by omega)).1, (xs[i]'(by omega)).2, h1, fun q hq => hw q ?_⟩
  simp only [DataW.weights, ht]
  exact weights_all (List.mem_map.2 ⟨_, List.getElem_mem (by omega), rfl⟩) q hq
theorem okWide_array {P : Program} {w : World} {r : Reach} {base : Nat} {v : Value} {n : Nat} (ht : P.underlying t = some (.array n e)) (h : Value.okWide P w r base t v) : ∃ cs, v = .agg cs ∧ cs.size = P.cellsOf t := by
  simp only [Value.okWide, ht] at h
  obtain ⟨cs, h1, h2, _⟩ := h
  exact ⟨cs, h1, h2⟩
end
theorem came_fields {H : Type} {enc : TypeId × Value → H} {w : World} {cs : List Value} (h : CameC enc Tryz.prog w 26 cs) :
    ∃ f0 f1 f2 f3 f4 f5 f6 f7 f8 : List UInt8, cs = [.string (bs f0), .string (bs f1), .string (bs f2), .string (bs f3), .string (bs f4), .string (bs f5), .string (bs f6), .string (bs f7), .string (bs f8)] := by
  obtain ⟨h1, h2⟩ := h.arr Tryz.underlying26
  have k1 : Tryz.prog.cellsOf 9 = 1 := by kernel_rfl
  have h1' : cs.length = 9 := h1.trans (by kernel_rfl)
  rw [k1] at h2
  match cs, h1' with
  | [y0, y1, y2, y3, y4, y5, y6, y7, y8], _ =>
    obtain ⟨s0, g0, _⟩ := (h2 0 (by decide)).string Tryz.underlying9
    obtain ⟨s1, g1, _⟩ := (h2 1 (by decide)).string Tryz.underlying9
    obtain ⟨s2, g2, _⟩ := (h2 2 (by decide)).string Tryz.underlying9
    obtain ⟨s3, g3, _⟩ := (h2 3 (by decide)).string Tryz.underlying9
    obtain ⟨s4, g4, _⟩ := (h2 4 (by decide)).string Tryz.underlying9
    obtain ⟨s5, g5, _⟩ := (h2 5 (by decide)).string Tryz.underlying9
    obtain ⟨s6, g6, _⟩ := (h2 6 (by decide)).string Tryz.underlying9
    obtain ⟨s7, g7, _⟩ := (h2 7 (by decide)).string Tryz.underlying9
    obtain ⟨s8, g8, _⟩ := (h2 8 (by decide)).string Tryz.underlying9
    simp at g0 g1 g2 g3 g4 g5 g6 g7 g8
    subst g0 g1 g2 g3 g4 g5 g6 g7 g8
    exact ⟨s0.data.toList, s1.data.toList, s2.data.toList, s3.data.toList, s4.data.toList, s5.data.toList, s6.data.toList, s7.data.toList, s8.data.toList, rfl⟩
theorem came_part {H : Type} {enc : TypeId × Value → H} {w : World} {cs : List Value} (h : CameC enc Tryz.prog w 41 cs) : ∃ p : Prt, cs = ptV p ∧ True := by
  obtain ⟨h1, h2⟩ := h.fields Tryz.underlying41 (by kernel_rfl) (by kernel_rfl)
  obtain ⟨v0, e0, c0⟩ := h2 0 _ rfl
  obtain ⟨v1, e1, c1⟩ := h2 1 _ rfl
  obtain ⟨v2, e2, c2⟩ := h2 2 _ rfl
  obtain ⟨v3, e3, c3⟩ := h2 3 _ rfl
  obtain ⟨k0, g0, _⟩ := c0.int Tryz.underlying3
  obtain ⟨s1, g1, l1⟩ := c1.string Tryz.underlying9
  obtain ⟨s2, g2, l2⟩ := c2.string Tryz.underlying9
  obtain ⟨b3, g3⟩ := c3.bool Tryz.underlying4
  simp only [List.cons.injEq, and_true] at g0 g1 g2 g3
  subst g0 g1 g2 g3
  have h1' : cs.length = 4 := h1
  match cs, h1' with
  | [y0, y1, y2, y3], _ =>
    simp only [List.getElem?_cons_zero, List.getElem?_cons_succ, Option.some.injEq] at e0 e1 e2 e3
    exact ⟨⟨k0, s1.data.toList, s2.data.toList, b3⟩, by rw [e0, e1, e2, e3]; rfl, trivial⟩
theorem came_parts {H : Type} {enc : TypeId × Value → H} {w : World} {cs : List Value} (h : CameC enc Tryz.prog w 22 cs) :
    ∃ (v : Value) (ps : List Prt), cs = [v] ∧ PartsAt w v ps ∧ ps.length ≤ 8796093022208 := by
  rcases h.slice Tryz.underlying22 with rfl | ⟨a, n, c, rfl, hn, hb, _, hi⟩
  · exact ⟨_, [], rfl, RowsAt.nil _ _, by simp⟩
  · have h1 : Tryz.prog.cellsOf 41 = 4 := by kernel_rfl
    have h2 : Tryz.prog.bytesOf 41 = 48 := by kernel_rfl
    rw [h1] at hi
    rw [h2] at hb
    obtain ⟨ls, e, hq, hr⟩ := rows_came (w := w) (a := a) (c := c) (size := 4) ptV (fun x => True) (fun _ => rfl) (by decide) hn fun i hi' => by
      obtain ⟨cs', hl, hat, hcm⟩ := hi i hi'
      obtain ⟨l, rfl, hf⟩ := came_part hcm
      refine ⟨l, hf, fun j u hu => ?_⟩
      rw [hat j (by rcases Nat.lt_or_ge j 4 with h | h; exact h; rw [List.getElem?_eq_none (by simpa [ptV] using h)] at hu; cases hu)]
      exact hu
    refine ⟨_, ls, rfl, e ▸ hr, ?_⟩
    have := reachC hb
    omega
theorem came_scheme {H : Type} {enc : TypeId × Value → H} {w : World} {cs : List Value} (h : CameC enc Tryz.prog w 24 cs) :
    ∃ (v : Value) (s : Sch), cs = [.string (bs s.c), v] ∧ PartsAt w v s.ps ∧ s.ps.length ≤ 8796093022208 ∧ s.c.length ≤ 140737488355328 := by
  obtain ⟨h1, h2⟩ := h.fields Tryz.underlying24 (by kernel_rfl) (by kernel_rfl)
  obtain ⟨v0, e0, c0⟩ := h2 0 _ rfl
  obtain ⟨v1, e1, c1⟩ := h2 1 _ rfl
  obtain ⟨s0, g0, l0⟩ := c0.string Tryz.underlying9
  obtain ⟨u, ps, g1, hP, hl⟩ := came_parts c1
  simp only [List.cons.injEq, and_true] at g0 g1
  subst g0 g1
  have h1' : cs.length = 2 := h1
  match cs, h1' with
  | [y0, y1], _ =>
    simp only [List.getElem?_cons_zero, List.getElem?_cons_succ, Option.some.injEq] at e0 e1
    exact ⟨v1, ⟨s0.data.toList, ps⟩, by rw [e0, e1]; rfl, hP, hl, len_of l0⟩
end Go.Proofs.YtdcafoekbnacnaaGreatDoor

/- Plain laws of schemes: the reference's reader, which goes on behind an error. No program in sight. -/
set_option linter.unusedVariables false
set_option linter.unusedSimpArgs false
namespace Go.Proofs.YtdcafoekbnacnaaGreatDoor
open Go.RowKit

/-- the reader: what is left, the first error, its place -/
structure RQ where
  r : List Tk
  e : Int
  a : Int
def faultQ (e a : Int) (q : RQ) : RQ := if q.e = 0 then ⟨q.r, e, a⟩ else q
def takeQ (en k : Int) (s : List UInt8) (q : RQ) : Tk × RQ :=
  match q.r with
  | [] => (zTk, faultQ 6 en q)
  | t :: r => (t, if t.k ≠ k ∨ (s ≠ [] ∧ t.s ≠ s) then ⟨r, (faultQ 5 t.a q).e, (faultQ 5 t.a q).a⟩ else ⟨r, q.e, q.a⟩)
def seesQ (k : Int) (s : List UInt8) (q : RQ) : Bool := decide (q.e = 0) && seesP k s q.r
def betwQ (en : Int) (w : List UInt8) (q : RQ) : List UInt8 × RQ :=
  if seesQ 1 w q then
    ((takeQ en 3 [] ⟨q.r.tail, q.e, q.a⟩).1.s,
      if (takeQ en 3 [] ⟨q.r.tail, q.e, q.a⟩).1.s = [] ∨ smallB (takeQ en 3 [] ⟨q.r.tail, q.e, q.a⟩).1.s = false then faultQ 1 (takeQ en 3 [] ⟨q.r.tail, q.e, q.a⟩).1.a (takeQ en 3 [] ⟨q.r.tail, q.e, q.a⟩).2 else (takeQ en 3 [] ⟨q.r.tail, q.e, q.a⟩).2)
  else ([], q)
/-- the kind of a word, 0 if there is none -/
def kindR (s : List UInt8) : Int := if kindW s < 1 then 0 else kindW s
def nameQ (others : List Prt) (t : Tk) (q : RQ) : RQ :=
  if others.any (fun y => decide (y.k = kindR t.s)) then faultQ 8 t.a (if kindR t.s = 0 then faultQ 7 t.a q else q) else (if kindR t.s = 0 then faultQ 7 t.a q else q)
def needQ (q : RQ) : RQ := if seesQ 1 wNeed q then ⟨q.r.tail, q.e, q.a⟩ else q
def partQ (en : Int) (others : List Prt) (q : RQ) : Prt × RQ :=
  let t := takeQ en 1 [] (needQ q)
  let b := betwQ en wBefore (nameQ others t.1 t.2)
  let a := betwQ en wAfter b.2
  (⟨kindR t.1.s, b.1, a.1, seesQ 1 wNeed q⟩, (takeQ en 4 [59] a.2).2)
def partsQ (en : Int) : Nat → List Prt → RQ → List Prt × RQ
  | 0, acc, q => (acc, q)
  | f + 1, acc, q => if q.e = 0 ∧ (acc = [] ∨ seesQ 4 [125] q = false) then partsQ en f (acc ++ [(partQ en acc q).1]) (partQ en acc q).2 else (acc, q)
/-- an outcome of the parser, and of the reader -/
def Rel {α : Type} (R : PR α) (x : α) (q : RQ) : Prop :=
  match R with
  | .ok y r => x = y ∧ q = ⟨r, 0, 0⟩
  | .err e a => q.e = e ∧ q.a = a ∧ e ≠ 0
theorem fault_zero (e a : Int) (r : List Tk) : faultQ e a ⟨r, 0, 0⟩ = ⟨r, e, a⟩ := by unfold faultQ; rw [if_pos rfl]
theorem fault_kept {q : RQ} (h : q.e ≠ 0) (e a : Int) : faultQ e a q = q := by unfold faultQ; rw [if_neg h]
/-- the error and its place stay as they are -/
def Kp (q q' : RQ) : Prop := q'.e = q.e ∧ q'.a = q.a
theorem Kp.trans {q q' q'' : RQ} (h : Kp q q') (h' : Kp q' q'') : Kp q q'' := ⟨h'.1.trans h.1, h'.2.trans h.2⟩
theorem take_kept {q : RQ} (h : q.e ≠ 0) (en k : Int) (s : List UInt8) : Kp q (takeQ en k s q).2 := by
  unfold takeQ
  split
  · rw [fault_kept h]; exact ⟨rfl, rfl⟩
  · dsimp only
    split
    · rw [fault_kept h]; exact ⟨rfl, rfl⟩
    · exact ⟨rfl, rfl⟩
theorem sees_err {q : RQ} (h : q.e ≠ 0) (k : Int) (s : List UInt8) : seesQ k s q = false := by unfold seesQ; rw [decide_eq_false h]; rfl
theorem sees_zero (k : Int) (s : List UInt8) (r : List Tk) : seesQ k s ⟨r, 0, 0⟩ = seesP k s r := by unfold seesQ; rw [decide_eq_true rfl]; rfl
theorem betw_kept {q : RQ} (h : q.e ≠ 0) (en : Int) (w : List UInt8) : betwQ en w q = ([], q) := by unfold betwQ; rw [sees_err h]; rfl
theorem name_kept {q : RQ} (h : q.e ≠ 0) (others : List Prt) (t : Tk) : nameQ others t q = q := by
  unfold nameQ
  rw [fault_kept h]
  have e1 : (if kindR t.s = 0 then q else q) = q := by split <;> rfl
  rw [e1, fault_kept h]
  split <;> rfl
theorem need_kept {q : RQ} (h : q.e ≠ 0) : needQ q = q := by unfold needQ; rw [sees_err h]; rfl
theorem take_rel (en k : Int) (s : List UInt8) (r : List Tk) : Rel (takeP en k s r) (takeQ en k s ⟨r, 0, 0⟩).1 (takeQ en k s ⟨r, 0, 0⟩).2 := by
  unfold takeP takeQ
  cases r with
  | nil => dsimp only; rw [fault_zero]; exact ⟨rfl, rfl, by decide⟩
  | cons t r =>
    dsimp only
    by_cases h : t.k ≠ k ∨ (s ≠ [] ∧ t.s ≠ s)
    · rw [if_pos h, if_pos h, fault_zero]; exact ⟨rfl, rfl, by decide⟩
    · rw [if_neg h, if_neg h]; exact ⟨rfl, rfl⟩
theorem betw_rel (en : Int) (w : List UInt8) (r : List Tk) : Rel (betwP en w r) (betwQ en w ⟨r, 0, 0⟩).1 (betwQ en w ⟨r, 0, 0⟩).2 := by
  unfold betwP betwQ
  rw [sees_zero]
  cases hs : seesP 1 w r with
  | false => exact ⟨rfl, rfl⟩
  | true =>
    rw [if_pos rfl, if_pos rfl]
    dsimp only
    have h := take_rel en 3 [] r.tail
    generalize takeQ en 3 [] ⟨r.tail, 0, 0⟩ = z at *
    obtain ⟨t, q⟩ := z
    cases hT : takeP en 3 [] r.tail with
    | err e a =>
      rw [hT] at h
      obtain ⟨h1, h2, h3⟩ := h
      dsimp only at h1 h2 ⊢
      have hq : q.e ≠ 0 := by rw [h1]; exact h3
      rw [fault_kept hq]
      split
      · exact ⟨h1, h2, h3⟩
      · exact ⟨h1, h2, h3⟩
    | ok x l =>
      rw [hT] at h
      obtain ⟨h1, h2⟩ := h
      dsimp only at h1 h2 ⊢
      subst h1 h2
      by_cases hc : t.s = [] ∨ smallB t.s = false
      · rw [if_pos hc, if_pos hc, fault_zero]; exact ⟨rfl, rfl, by decide⟩
      · rw [if_neg hc, if_neg hc]; exact ⟨rfl, rfl⟩
theorem kindR_no {s : List UInt8} (h : kindW s < 1) : kindR s = 0 := by unfold kindR; rw [if_pos h]
theorem kindR_yes {s : List UInt8} (h : ¬ kindW s < 1) : kindR s = kindW s := by unfold kindR; rw [if_neg h]
theorem rest_kept {q : RQ} (h : q.e ≠ 0) (en : Int) : Kp q (takeQ en 4 [59] (betwQ en wAfter (betwQ en wBefore q).2).2).2 := by
  rw [betw_kept h, betw_kept h]; exact take_kept h en 4 [59]
theorem part_kept {q : RQ} (h : q.e ≠ 0) (en : Int) (others : List Prt) : Kp q (partQ en others q).2 := by
  unfold partQ
  dsimp only
  rw [need_kept h]
  have h1 := take_kept h en 1 []
  generalize takeQ en 1 [] q = z at *
  have h2 : z.2.e ≠ 0 := by rw [h1.1]; exact h
  rw [name_kept h2]
  exact h1.trans (rest_kept h2 en)
theorem Kp.err {α : Type} {x : α} {q q' : RQ} {e a : Int} (h : q.e = e ∧ q.a = a ∧ e ≠ 0) (hk : Kp q q') : Rel (PR.err e a) x q' := ⟨hk.1.trans h.1, hk.2.trans h.2.1, h.2.2⟩
theorem part_rel (en : Int) (others : List Prt) (r : List Tk) : Rel (partP en others r) (partQ en others ⟨r, 0, 0⟩).1 (partQ en others ⟨r, 0, 0⟩).2 := by
  unfold partP partQ partR
  have hn : needQ ⟨r, 0, 0⟩ = ⟨if seesP 1 wNeed r then r.tail else r, 0, 0⟩ := by
    unfold needQ
    rw [sees_zero]
    split <;> rfl
  rw [hn, sees_zero]
  generalize (if seesP 1 wNeed r then r.tail else r) = l
  generalize seesP 1 wNeed r = n
  dsimp only
  have h := take_rel en 1 [] l
  generalize takeQ en 1 [] ⟨l, 0, 0⟩ = z at *
  obtain ⟨t, q⟩ := z
  dsimp only at h ⊢
  cases hT : takeP en 1 [] l with
  | err e a =>
    rw [hT] at h
    have hq : q.e ≠ 0 := by rw [h.1]; exact h.2.2
    rw [name_kept hq]
    exact Kp.err h (rest_kept hq en)
  | ok x l1 =>
    rw [hT] at h
    obtain ⟨h1, h2⟩ := h
    subst h1 h2
    dsimp only
    by_cases hk : kindW t.s < 1
    · rw [if_pos hk]
      have e1 : nameQ others t ⟨l1, 0, 0⟩ = ⟨l1, 7, t.a⟩ := by
        unfold nameQ
        rw [if_pos (kindR_no hk), fault_zero]
        split
        · rw [fault_kept (by simp)]
        · rfl
      rw [e1]
      exact Kp.err ⟨rfl, rfl, by decide⟩ (rest_kept (q := ⟨l1, 7, t.a⟩) (by simp) en)
    · rw [if_neg hk]
      have e0 : ¬ kindR t.s = 0 := by rw [kindR_yes hk]; omega
      by_cases ho : others.any (fun y => decide (y.k = kindW t.s)) = true
      · rw [if_pos ho]
        have e1 : nameQ others t ⟨l1, 0, 0⟩ = ⟨l1, 8, t.a⟩ := by
          unfold nameQ
          rw [kindR_yes hk, if_pos ho, if_neg (by omega), fault_zero]
        rw [e1]
        exact Kp.err ⟨rfl, rfl, by decide⟩ (rest_kept (q := ⟨l1, 8, t.a⟩) (by simp) en)
      · rw [if_neg ho]
        have e1 : nameQ others t ⟨l1, 0, 0⟩ = ⟨l1, 0, 0⟩ := by
          unfold nameQ
          rw [kindR_yes hk, if_neg ho, if_neg (by omega)]
        rw [e1, kindR_yes hk]
        have hb := betw_rel en wBefore l1
        generalize betwQ en wBefore ⟨l1, 0, 0⟩ = zb at *
        obtain ⟨b, qb⟩ := zb
        dsimp only at hb ⊢
        cases hB : betwP en wBefore l1 with
        | err e a =>
          rw [hB] at hb
          have hq : qb.e ≠ 0 := by rw [hb.1]; exact hb.2.2
          rw [betw_kept hq]
          exact Kp.err hb (take_kept hq en 4 [59])
        | ok x l2 =>
          rw [hB] at hb
          obtain ⟨h1, h2⟩ := hb
          subst h1 h2
          dsimp only
          have ha := betw_rel en wAfter l2
          generalize betwQ en wAfter ⟨l2, 0, 0⟩ = za at *
          obtain ⟨a, qa⟩ := za
          dsimp only at ha ⊢
          cases hA : betwP en wAfter l2 with
          | err e a =>
            rw [hA] at ha
            have hq : qa.e ≠ 0 := by rw [ha.1]; exact ha.2.2
            exact Kp.err ha (take_kept hq en 4 [59])
          | ok x l3 =>
            rw [hA] at ha
            obtain ⟨h1, h2⟩ := ha
            subst h1 h2
            dsimp only
            have ht := take_rel en 4 [59] l3
            generalize takeQ en 4 [59] ⟨l3, 0, 0⟩ = zt at *
            obtain ⟨t2, qt⟩ := zt
            dsimp only at ht ⊢
            cases hT2 : takeP en 4 [59] l3 with
            | err e a => rw [hT2] at ht; exact ht
            | ok x l4 => rw [hT2] at ht; exact ⟨rfl, ht.2⟩
theorem parts_stop {en : Int} {f : Nat} {acc : List Prt} {q : RQ} (h : q.e ≠ 0) : partsQ en f acc q = (acc, q) := by
  cases f with
  | zero => rfl
  | succ f => rw [partsQ, if_neg (fun hh => h hh.1)]
theorem parts_rel (en : Int) : ∀ (f : Nat) (acc : List Prt) (r : List Tk), Rel (partsP en f acc r) (partsQ en f acc ⟨r, 0, 0⟩).1 (partsQ en f acc ⟨r, 0, 0⟩).2
  | 0, acc, r => ⟨rfl, rfl⟩
  | f + 1, acc, r => by
    rw [partsP, partsQ, sees_zero]
    by_cases h : acc ≠ [] ∧ seesP 4 [125] r = true
    · rw [if_pos h, if_neg]
      · exact ⟨rfl, rfl⟩
      · rintro ⟨_, h2 | h2⟩
        · exact h.1 h2
        · rw [h.2] at h2; cases h2
    · rw [if_neg h, if_pos]
      · have hp := part_rel en acc r
        generalize partQ en acc ⟨r, 0, 0⟩ = z at *
        obtain ⟨p, q⟩ := z
        dsimp only at hp ⊢
        cases hP : partP en acc r with
        | err e a =>
          rw [hP] at hp
          have hq : q.e ≠ 0 := by rw [hp.1]; exact hp.2.2
          rw [parts_stop hq]
          exact hp
        | ok x l =>
          rw [hP] at hp
          obtain ⟨h1, h2⟩ := hp
          subst h1 h2
          exact parts_rel en f _ l
      · refine ⟨rfl, ?_⟩
        by_cases ha : acc = []
        · exact .inl ha
        · right
          cases hs : seesP 4 [125] r with
          | false => rfl
          | true => exact absurd ⟨ha, hs⟩ h
def endQ (nm : List UInt8 → Bool) (c : List UInt8) (ps : List Prt) (z : Tk × RQ) : RQ :=
  let q := if validB nm ⟨c, ps⟩ = false then faultQ 1 z.1.a z.2 else z.2
  match q.r with
  | [] => q
  | t :: _ => faultQ 5 t.a q
def finQ (c : List UInt8) (ps : List Prt) (q : RQ) : Sch × Int × Int := if q.e ≠ 0 then (zSch, q.e, q.a) else (⟨c, ps⟩, 0, 0)
/-- the head: the scheme's name, and the reader behind it -/
def headQ (en : Int) (L : List Tk) : Tk × RQ := takeQ en 1 [] (takeQ en 1 wScheme ⟨L, 0, 0⟩).2
def schemeQ (nm : List UInt8 → Bool) (en : Int) (L : List Tk) : Sch × Int × Int :=
  let c := headQ en L
  let ps := partsQ en (L.length + 1) [] (takeQ en 4 [123] c.2).2
  finQ c.1.s ps.1 (endQ nm c.1.s ps.1 (takeQ en 4 [125] ps.2))
def outP9 : PR Sch → Sch × Int × Int
  | .ok s _ => (s, 0, 0)
  | .err e a => (zSch, e, a)
theorem end_kept {nm : List UInt8 → Bool} {c : List UInt8} {ps : List Prt} {z : Tk × RQ} (h : z.2.e ≠ 0) : endQ nm c ps z = z.2 := by
  unfold endQ
  rw [fault_kept h]
  have e1 : (if validB nm ⟨c, ps⟩ = false then z.2 else z.2) = z.2 := by split <;> rfl
  rw [e1]
  dsimp only
  split
  · rfl
  · rw [fault_kept h]
theorem fin_err {c : List UInt8} {ps : List Prt} {q : RQ} {e a : Int} (h : q.e = e ∧ q.a = a ∧ e ≠ 0) : finQ c ps q = (zSch, e, a) := by
  unfold finQ
  rw [if_pos (by rw [h.1]; exact h.2.2), h.1, h.2.1]
theorem fin_all {nm : List UInt8 → Bool} {en : Int} {c : List UInt8} {f : Nat} {q : RQ} {e a : Int} (h : q.e = e ∧ q.a = a ∧ e ≠ 0) :
    finQ c (partsQ en f [] q).1 (endQ nm c (partsQ en f [] q).1 (takeQ en 4 [125] (partsQ en f [] q).2)) = (zSch, e, a) := by
  have hq : q.e ≠ 0 := by rw [h.1]; exact h.2.2
  rw [parts_stop hq]
  have hk := take_kept hq en 4 [125]
  generalize takeQ en 4 [125] (([] : List Prt), q).2 = z at *
  have hz : z.2.e ≠ 0 := by rw [hk.1]; exact hq
  rw [end_kept hz]
  exact fin_err ⟨hk.1.trans h.1, hk.2.trans h.2.1, h.2.2⟩
theorem take_short {en k : Int} {s : List UInt8} {r l : List Tk} {t : Tk} (h : takeP en k s r = .ok t l) : l.length < r.length := by
  cases r with
  | nil => cases h
  | cons x r =>
    unfold takeP at h
    dsimp only at h
    split at h
    · cases h
    · injection h with _ h; subst h; simp
theorem betw_short {en : Int} {w : List UInt8} {r l : List Tk} {b : List UInt8} (h : betwP en w r = .ok b l) : l.length ≤ r.length := by
  unfold betwP at h
  split at h
  · split at h
    · cases h
    · rename_i t r2 hT
      split at h
      · cases h
      · injection h with _ h
        subst h
        have := take_short hT
        rw [List.length_tail] at this
        omega
  · injection h with _ h; subst h; exact Nat.le_refl _
theorem part_short {en : Int} {others : List Prt} {r l : List Tk} {p : Prt} (h : partP en others r = .ok p l) : l.length < r.length := by
  unfold partP partR at h
  have h0 : (if seesP 1 wNeed r then r.tail else r).length ≤ r.length := by
    split
    · rw [List.length_tail]; omega
    · exact Nat.le_refl _
  generalize (if seesP 1 wNeed r then r.tail else r) = r0 at *
  split at h
  · cases h
  · rename_i t r1 hT
    have h1 := take_short hT
    split at h
    · cases h
    · split at h
      · cases h
      · split at h
        · cases h
        · rename_i b r2 hB
          have h2 := betw_short hB
          split at h
          · cases h
          · rename_i a r3 hA
            have h3 := betw_short hA
            split at h
            · cases h
            · rename_i t2 r4 hT2
              have h4 := take_short hT2
              injection h with _ h
              subst h
              omega
theorem parts_fuel (en : Int) : ∀ (f : Nat) (acc : List Prt) (r : List Tk) (k : Nat), r.length < f → partsP en (f + k) acc r = partsP en f acc r
  | 0, _, _, _, h => absurd h (Nat.not_lt_zero _)
  | f + 1, acc, r, k, h => by
    rw [show f + 1 + k = (f + k) + 1 by omega, partsP, partsP]
    split
    · rfl
    · cases hP : partP en acc r with
      | err e a => rfl
      | ok p l =>
        dsimp only
        refine parts_fuel en f _ l k ?_
        have := part_short hP
        omega
/-- the reader's outcome is the parser's -/
theorem scheme_rel (nm : List UInt8 → Bool) (en : Int) (L : List Tk) : schemeQ nm en L = outP9 (schemeP nm en L) := by
  unfold schemeQ headQ schemeP
  dsimp only
  have h1 := take_rel en 1 wScheme L
  generalize takeQ en 1 wScheme ⟨L, 0, 0⟩ = z1 at *
  obtain ⟨t1, q1⟩ := z1
  dsimp only at h1 ⊢
  cases hT1 : takeP en 1 wScheme L with
  | err e a =>
    rw [hT1] at h1
    have hq : q1.e ≠ 0 := by rw [h1.1]; exact h1.2.2
    have k1 := take_kept hq en 1 []
    generalize takeQ en 1 [] q1 = z2 at *
    have hq2 : z2.2.e ≠ 0 := by rw [k1.1]; exact hq
    have k2 := take_kept hq2 en 4 [123]
    generalize takeQ en 4 [123] z2.2 = z3 at *
    exact fin_all ⟨(k2.1.trans k1.1).trans h1.1, (k2.2.trans k1.2).trans h1.2.1, h1.2.2⟩
  | ok x l1 =>
    rw [hT1] at h1
    obtain ⟨g1, g2⟩ := h1
    subst g1 g2
    dsimp only
    have h2 := take_rel en 1 [] l1
    generalize takeQ en 1 [] ⟨l1, 0, 0⟩ = z2 at *
    obtain ⟨t2, q2⟩ := z2
    dsimp only at h2 ⊢
    cases hT2 : takeP en 1 [] l1 with
    | err e a =>
      rw [hT2] at h2
      have hq2 : q2.e ≠ 0 := by rw [h2.1]; exact h2.2.2
      have k2 := take_kept hq2 en 4 [123]
      generalize takeQ en 4 [123] q2 = z3 at *
      exact fin_all ⟨k2.1.trans h2.1, k2.2.trans h2.2.1, h2.2.2⟩
    | ok x l2 =>
      rw [hT2] at h2
      obtain ⟨g1, g2⟩ := h2
      subst g1 g2
      dsimp only
      have h3 := take_rel en 4 [123] l2
      generalize takeQ en 4 [123] ⟨l2, 0, 0⟩ = z3 at *
      obtain ⟨t3, q3⟩ := z3
      dsimp only at h3 ⊢
      cases hT3 : takeP en 4 [123] l2 with
      | err e a =>
        rw [hT3] at h3
        exact fin_all h3
      | ok x l3 =>
        rw [hT3] at h3
        obtain ⟨g1, g2⟩ := h3
        subst g1 g2
        dsimp only
        have e1 : l3.length + 1 ≤ L.length + 1 := by
          have a1 := take_short hT1
          have a2 := take_short hT2
          have a3 := take_short hT3
          omega
        have e2 : partsP en (L.length + 1) [] l3 = partsP en (l3.length + 1) [] l3 := by
          have := parts_fuel en (l3.length + 1) [] l3 (L.length - l3.length) (by omega)
          rw [show l3.length + 1 + (L.length - l3.length) = L.length + 1 by omega] at this
          exact this
        have hp := parts_rel en (L.length + 1) [] l3
        rw [e2] at hp
        generalize partsQ en (L.length + 1) [] ⟨l3, 0, 0⟩ = zp at *
        obtain ⟨ps, qp⟩ := zp
        dsimp only at hp ⊢
        unfold schR
        cases hP : partsP en (l3.length + 1) [] l3 with
        | err e a =>
          rw [hP] at hp
          have hq : qp.e ≠ 0 := by rw [hp.1]; exact hp.2.2
          have hk := take_kept hq en 4 [125]
          generalize takeQ en 4 [125] qp = z at *
          have hz : z.2.e ≠ 0 := by rw [hk.1]; exact hq
          rw [end_kept hz]
          exact fin_err ⟨hk.1.trans hp.1, hk.2.trans hp.2.1, hp.2.2⟩
        | ok x l4 =>
          rw [hP] at hp
          obtain ⟨g1, g2⟩ := hp
          subst g1 g2
          dsimp only
          have ht := take_rel en 4 [125] l4
          generalize takeQ en 4 [125] ⟨l4, 0, 0⟩ = zt at *
          cases hT4 : takeP en 4 [125] l4 with
          | err e a =>
            rw [hT4] at ht
            have hz : zt.2.e ≠ 0 := by rw [ht.1]; exact ht.2.2
            rw [end_kept hz]
            exact fin_err ht
          | ok stop l5 =>
            rw [hT4] at ht
            obtain ⟨g1, g2⟩ := ht
            obtain ⟨t5, q5⟩ := zt
            dsimp only at g1 g2
            subst g1 g2
            dsimp only
            unfold endQ
            dsimp only
            by_cases hv : validB nm ⟨t2.s, ps⟩ = false
            · rw [if_pos hv, if_pos hv, fault_zero]
              cases l5 with
              | nil => exact fin_err ⟨rfl, rfl, by decide⟩
              | cons y l5 => dsimp only; rw [fault_kept (by simp)]; exact fin_err ⟨rfl, rfl, by decide⟩
            · rw [if_neg hv, if_neg hv]
              cases l5 with
              | nil => rfl
              | cons y l5 => dsimp only; rw [fault_zero]; exact fin_err ⟨rfl, rfl, by decide⟩
/-- what the reference's Parse returns -/
def parseQ (nm : List UInt8 → Bool) (t : List UInt8) : Sch × Int × Int := if (lexP t).2.1 ≠ 0 then (zSch, (lexP t).2.1, (lexP t).2.2) else schemeQ nm t.length (lexP t).1
theorem parse_rel (nm : List UInt8 → Bool) (t : List UInt8) : parseQ nm t = parseS nm t := by
  unfold parseQ parseS
  rw [scheme_rel]
  split
  · rfl
  · generalize schemeP nm t.length (lexP t).1 = R
    cases R <;> rfl
end Go.Proofs.YtdcafoekbnacnaaGreatDoor

/- Boxes made at the entry of a function. -/
set_option linter.unusedVariables false
set_option linter.unusedSimpArgs false
namespace Go.Proofs.YtdcafoekbnacnaaGreatDoor
open Go.RowKit

theorem box1 (w : World) (T1 : TypeId) (c1 : Array Value) : Blk (w.alloc (.cells c1 T1)) w.heap.size T1 c1 ∧ Below w.heap.size w (w.alloc (.cells c1 T1)) := ⟨Blk.new _ _ _, below_one _ _⟩
theorem box2 (w : World) (T1 : TypeId) (c1 : Array Value) (T2 : TypeId) (c2 : Array Value) :
    Blk ((w.alloc (.cells c1 T1)).alloc (.cells c2 T2)) w.heap.size T1 c1 ∧ Blk ((w.alloc (.cells c1 T1)).alloc (.cells c2 T2)) (w.heap.size + 1) T2 c2 ∧ Below w.heap.size w ((w.alloc (.cells c1 T1)).alloc (.cells c2 T2)) := by
  refine ⟨(box1 w T1 c1).1.to (below_one _ _), ?_, below_two _ _ _⟩
  have := Blk.new (w.alloc (.cells c1 T1)) T2 c2
  simpa using this
theorem box3 (w : World) (T1 : TypeId) (c1 : Array Value) (T2 : TypeId) (c2 : Array Value) (T3 : TypeId) (c3 : Array Value) :
    Blk (((w.alloc (.cells c1 T1)).alloc (.cells c2 T2)).alloc (.cells c3 T3)) w.heap.size T1 c1 ∧ Blk (((w.alloc (.cells c1 T1)).alloc (.cells c2 T2)).alloc (.cells c3 T3)) (w.heap.size + 1) T2 c2 ∧
    Blk (((w.alloc (.cells c1 T1)).alloc (.cells c2 T2)).alloc (.cells c3 T3)) (w.heap.size + 1 + 1) T3 c3 ∧ Below w.heap.size w (((w.alloc (.cells c1 T1)).alloc (.cells c2 T2)).alloc (.cells c3 T3)) := by
  obtain ⟨h1, h2, h3⟩ := box2 w T1 c1 T2 c2
  refine ⟨h1.to (below_one _ _), h2.to (below_one _ _), ?_, below_alloc h3 (Nat.le_refl _) _⟩
  have := Blk.new ((w.alloc (.cells c1 T1)).alloc (.cells c2 T2)) T3 c3
  simpa using this
end Go.Proofs.YtdcafoekbnacnaaGreatDoor
