/- Whole numbers in blocks and slices; calls on a row that the caller has just made. -/
import Derived.Test.YtdiebacfbhjbdaaGreatDoorCl2
set_option linter.unusedVariables false
set_option linter.unusedSimpArgs false
namespace Go.Proofs.YtdiebacfbhjbdaaGreatDoor
open Go.RowKit

/-- a call on a row that the caller has just made, in a class of worlds -/
theorem cls_row {P : Program} {f : FuncId} {n : Nat} {t : TypeId} {cs : Array Value} {w1 : World} {v : Value} {U : Type} {g : U → World} (hgu : ∀ u, Below w1.heap.size w1 (g u)) (hi : ∀ w', Below w1.heap.size w1 w' → ∃ u, w' = g u)
    (h : ∀ (w : World) (b : Nat), Blk w b t cs → Calls P f #[.slice (some ⟨b, 0, none⟩) n n] w fun e w' => e = .returned v ∧ Below w.heap.size w w') (u : U) :
    Calls P f #[.slice (some ⟨(g u).heap.size, 0, none⟩) n n] ((g u).alloc (.cells cs t)) fun e w' => e = .returned v ∧ ∃ u', w' = g u' :=
  (h _ _ (Blk.new _ _ _)).mono fun _ _ ⟨he, hb⟩ => ⟨he, hi _ (below_to (below_alloc (hgu u) (Nat.le_refl _) _) (Nat.le_refl _) hb)⟩
def intC (l : List Int) : Array Value := (l.map fun v => Value.int .i64 v).toArray
theorem intC_at {l : List Int} {k : Nat} {v : Int} (h : l[k]? = some v) : (intC l)[k]? = some (.int .i64 v) := by unfold intC; simp [h]
theorem intC_set (l : List Int) (i : Nat) (v : Int) : (intC l).setIfInBounds i (.int .i64 v) = intC (l.set i v) := by
  unfold intC
  simp [List.map_set]
/-- a slice whose cells are the numbers l -/
def IntsAt (w : World) (v : Value) (l : List Int) : Prop := ∃ b c, v = .slice (some ⟨b, 0, none⟩) l.length c ∧ b < w.heap.size ∧ l.length ≤ c ∧ ∀ (k : Nat) (x : Int), l[k]? = some x → w.cell? ⟨b, k, none⟩ = some (.int .i64 x)
theorem IntsAt.to {w w' : World} {v : Value} {l : List Int} (h : IntsAt w v l) (hb : Below w.heap.size w w') : IntsAt w' v l := by
  obtain ⟨b, c, h1, h2, h3, h4⟩ := h
  exact ⟨b, c, h1, Nat.lt_of_lt_of_le h2 hb.size, h3, fun k x hx => (hb.cell h2).trans (h4 k x hx)⟩
theorem IntsAt.of_own {w : World} {B : Nat} {v : Value} {l : List Int} (hl : 1 ≤ l.length) (h : w.ownsRow B 3 1 v l.length (l.map (Value.int .i64))) : IntsAt w v l := by
  obtain ⟨_, h⟩ := h
  rcases h with ⟨_, h0⟩ | ⟨g, cap, cur, hv, hB, hg, hn, _, hs, ht⟩
  · omega
  · refine ⟨g, cap, hv, ?_, hn, fun k x hx => ?_⟩
    · rcases Nat.lt_or_ge g w.heap.size with h | h
      · exact h
      · rw [Array.getElem?_eq_none h] at hg; cases hg
    · rw [cell_of_row w g k cur 3 (0, 0) hg]
      have : (cur.toList.take (l.length * 1))[k]? = some (.int .i64 x) := by rw [ht, List.getElem?_map, hx]; rfl
      rw [List.getElem?_take] at this
      split at this
      · simpa using this
      · cases this
end Go.Proofs.YtdiebacfbhjbdaaGreatDoor
