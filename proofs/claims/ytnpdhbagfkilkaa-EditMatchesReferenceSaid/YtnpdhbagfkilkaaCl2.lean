/- The worlds of a walk as one letter: everything that keeps what a first world had; blocks in such a class. -/
import Derived.Test.YtnpdhbagfkilkaaCls
import Derived.Test.YtnpdhbagfkilkaaLaws
set_option linter.unusedVariables false
set_option linter.unusedSimpArgs false
namespace Go.Proofs.Ytnpdhbagfkilkaa
open Go.RowKit

/-- the worlds that keep what w1 had, as one letter -/
theorem cls (w1 : World) : ∃ (U : Type) (_ : Nonempty U) (g : U → World) (u0 : U), w1 = g u0 ∧ (∀ u, Below w1.heap.size w1 (g u)) ∧ ∀ w', Below w1.heap.size w1 w' → ∃ u, w' = g u := by
  obtain ⟨U, hU, g, hgu, hi⟩ := the_class (fun w' => Below w1.heap.size w1 w') (Below.refl w1.heap.size w1)
  obtain ⟨u0, h0⟩ := hi w1 (Below.refl _ _)
  exact ⟨U, hU, g, u0, h0, hgu, hi⟩
theorem cls_call {P : Program} {f : FuncId} {args : Array Value} {w1 : World} {v : Value} {U : Type} {g : U → World} (hgu : ∀ u, Below w1.heap.size w1 (g u)) (hi : ∀ w', Below w1.heap.size w1 w' → ∃ u, w' = g u)
    (h : ∀ w : World, Below w1.heap.size w1 w → Calls P f args w fun e w' => e = .returned v ∧ Below w.heap.size w w') (u : U) : Calls P f args (g u) fun e w' => e = .returned v ∧ ∃ u', w' = g u' :=
  (h _ (hgu u)).mono fun _ _ ⟨he, hb⟩ => ⟨he, hi _ ((hgu u).trans (hb.mono (hgu u).size))⟩
theorem below_to {B : Nat} {w w1 w2 : World} (h : Below B w w1) (hB : B ≤ w.heap.size) (h' : Below w1.heap.size w1 w2) : Below B w w2 := h.trans (h'.mono (Nat.le_trans hB h.size))
theorem below_alloc {B : Nat} {w w1 : World} (h : Below B w w1) (hB : B ≤ w.heap.size) (o : Obj) : Below B w (w1.alloc o) := h.alloc (Nat.le_trans hB h.size) o
theorem Blk.to {w1 w' : World} {b : Nat} {t : TypeId} {cs : Array Value} (H : Blk w1 b t cs) (hb : Below w1.heap.size w1 w') : Blk w' b t cs := H.below hb H.lt
theorem blk_all {w1 : World} {b : Nat} {t : TypeId} {cs : Array Value} {U : Type} {g : U → World} (hgu : ∀ u, Below w1.heap.size w1 (g u)) (H : Blk w1 b t cs) (i : Nat) {v : Value} (hv : cs[i]? = some v) : ∀ u, (g u).cell? ⟨b, i, none⟩ = some v :=
  fun u => ((H.to (hgu u)).cell i).trans hv
theorem below_one (w : World) (o : Obj) : Below w.heap.size w (w.alloc o) := (Below.refl w.heap.size w).alloc (Nat.le_refl _) o
theorem below_two (w : World) (o p : Obj) : Below w.heap.size w ((w.alloc o).alloc p) := ((Below.refl w.heap.size w).alloc (Nat.le_refl _) o).alloc (by simp) p
end Go.Proofs.Ytnpdhbagfkilkaa
