/- Worlds that differ at one block; rows under a store elsewhere. -/
import Derived.Test.YtfhanbiifjiklaaGreatDoorSl
set_option linter.unusedVariables false
set_option linter.unusedSimpArgs false
namespace Go.Proofs.YtfhanbiifjiklaaGreatDoor
open Go.RowKit

theorem RowsAt.store {w : World} {size : Nat} {A : Option Addr} {n c : Nat} {ls : List (List Value)} (h : RowsAt w size (.slice A n c) ls) {p : Addr} (hp : ∀ a, A = some a → a.block ≠ p.block) (u : Value) : RowsAt (w.setCell p u) size (.slice A n c) ls := by
  obtain ⟨A', c', h1, h2, h3, h4⟩ := h
  have e := h1
  injection e with e1 e2 e3
  subst e1
  refine ⟨A, c', h1, h2, h3, fun k x hx => ?_⟩
  obtain ⟨a, ha, hl, hc⟩ := h4 k x hx
  refine ⟨a, ha, by simpa [World.setCell] using hl, fun j v hv => ?_⟩
  rw [World.cell?_setCell_other _ _ _ _ (fun h => hp a ha (by rw [h, block_of_add, block_of_add]))]
  exact hc j v hv
/-- all is as it was but for the blocks p and q -/
structure Two (p q : Nat) (w w' : World) : Prop where
  os : w'.os = w.os
  tape : w'.tape = w.tape
  output : w'.output = w.output
  size : w.heap.size ≤ w'.heap.size
  block : ∀ k, k < w.heap.size → k ≠ p → k ≠ q → w'.heap[k]? = w.heap[k]?
section
variable {p q : Nat} {a w w' : World}
theorem Two.refl (p q : Nat) (w : World) : Two p q w w := ⟨rfl, rfl, rfl, Nat.le_refl _, fun _ _ _ _ => rfl⟩
theorem Two.trans {b c : World} (h : Two p q a b) (k : Two p q b c) : Two p q a c := ⟨k.os.trans h.os, k.tape.trans h.tape, k.output.trans h.output, Nat.le_trans h.size k.size, fun i hi h1 h2 => (k.block i (Nat.lt_of_lt_of_le hi h.size) h1 h2).trans (h.block i hi h1 h2)⟩
theorem Two.of (h : Below w.heap.size w w') : Two p q w w' := ⟨h.os, h.tape, h.output, h.size, fun k hk _ _ => h.block k hk⟩
theorem Two.to {w2 : World} (h : Two p q w w') (h' : Below w'.heap.size w' w2) : Two p q w w2 := h.trans (Two.of h')
theorem Two.set1 (h : Two p q a w) (i : Nat) (u : Value) : Two p q a (w.setCell ⟨p, i, none⟩ u) := h.trans ⟨rfl, rfl, rfl, by simp [World.setCell], fun k hk h1 _ => Below.heap_setCell _ _ _ _ h1⟩
theorem Two.set2 (h : Two p q a w) (i : Nat) (u : Value) : Two p q a (w.setCell ⟨q, i, none⟩ u) := h.trans ⟨rfl, rfl, rfl, by simp [World.setCell], fun k hk _ h2 => Below.heap_setCell _ _ _ _ h2⟩
theorem Two.drewN (h : Two p q a w) (n : Nat) : Two p q a (w.drewN n) := ⟨h.os, h.tape, h.output, h.size, h.block⟩
theorem Two.blk {g : Nat} {t : TypeId} {cs : Array Value} (H : Blk w g t cs) (hb : Two p q w w') (h1 : g ≠ p) (h2 : g ≠ q) : Blk w' g t cs := (hb.block g H.lt h1 h2).trans H
theorem Two.further (h : Two p q a w) (hb : Below a.heap.size w w') : Two p q a w' := ⟨hb.os.trans h.os, hb.tape.trans h.tape, hb.output.trans h.output, Nat.le_trans h.size hb.size, fun k hk h1 h2 => (hb.block k hk).trans (h.block k hk h1 h2)⟩
theorem Two.below {B : Nat} (h : Two p q w w') (hB : B ≤ w.heap.size) (h1 : B ≤ p) (h2 : B ≤ q) : Below B w w' := ⟨h.os, h.tape, h.output, h.size, fun k hk => h.block k (by omega) (by omega) (by omega)⟩
end
end Go.Proofs.YtfhanbiifjiklaaGreatDoor
