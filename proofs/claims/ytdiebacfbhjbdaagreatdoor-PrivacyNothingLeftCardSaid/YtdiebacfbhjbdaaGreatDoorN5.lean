/- Walks of package privacy: record.valid. -/
import Derived.Test.YtdiebacfbhjbdaaGreatDoorN4
set_option linter.unusedVariables false
set_option linter.unusedSimpArgs false
namespace Go.Proofs.YtdiebacfbhjbdaaGreatDoor
open Go.RowKit

def lnV (l : Ln) : List Value := [.string (bs l.p), .string (bs l.t), .string (bs l.s), .string (bs l.d)]
def LnsAt (w : World) (v : Value) (log : List Ln) : Prop := RowsAt w 4 v (log.map lnV)
theorem LnsAt.to {w w' : World} {v : Value} {log : List Ln} (h : LnsAt w v log) (hb : Below w.heap.size w w') : LnsAt w' v log := RowsAt.to h hb
theorem LnsAt.slice {w : World} {v : Value} {log : List Ln} (h : LnsAt w v log) : ∃ A c, v = .slice A log.length c := by
  obtain ⟨A, c, h1, _⟩ := h
  exact ⟨A, c, by rw [h1, List.length_map]⟩
theorem LnsAt.at_ {w : World} {A : Option Addr} {n c : Nat} {log : List Ln} (h : LnsAt w (.slice A n c) log) {k : Nat} {l : Ln} (hl : log[k]? = some l) : ∃ a, A = some a ∧ a.block < w.heap.size ∧
    w.cell? (a.add (k * 4)) = some (.string (bs l.p)) ∧ w.cell? ⟨(a.add (k * 4)).block, (a.add (k * 4)).off + 1, none⟩ = some (.string (bs l.t)) ∧ w.cell? ⟨(a.add (k * 4)).block, (a.add (k * 4)).off + 2, none⟩ = some (.string (bs l.s)) ∧ w.cell? ⟨(a.add (k * 4)).block, (a.add (k * 4)).off + 3, none⟩ = some (.string (bs l.d)) := by
  obtain ⟨a, c', h1, _, h3, _, h5⟩ := RowsAt.at_ h (k := k) (x := lnV l) (by rw [List.getElem?_map, hl]; rfl)
  injection h1 with e1
  refine ⟨a, e1, h3, ?_, h5 1 _ rfl, h5 2 _ rfl, h5 3 _ rfl⟩
  have := h5 0 _ rfl
  rwa [show (a.add (k * 4)).add 0 = a.add (k * 4) by rw [add_of_add, Nat.add_zero]] at this
end Go.Proofs.YtdiebacfbhjbdaaGreatDoor
