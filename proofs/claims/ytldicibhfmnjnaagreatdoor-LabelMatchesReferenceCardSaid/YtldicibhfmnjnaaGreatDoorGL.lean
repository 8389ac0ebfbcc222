/- A label that came in. -/
import Derived.Test.YtldicibhfmnjnaaGreatDoorG
import Derived.Test.YtldicibhfmnjnaaGreatDoorOpen
import Derived.ChangeArms
set_option linter.unusedVariables false
set_option linter.unusedSimpArgs false
namespace Go.Proofs.YtldicibhfmnjnaaGreatDoor
open Go.RowKit Go.ChangeShapes Go.WideShapes Go.Deep

theorem CameC.bool {H : Type} {enc : TypeId × Value → H} {P : Program} {w : World} {t : TypeId} {cs : List Value} (ht : P.underlying t = some .bool) (h : CameC enc P w t cs) : ∃ b, cs = [.bool b] := by
  obtain ⟨n, d, p, h, _⟩ := h
  obtain ⟨b, h1, _⟩ := DataW.trod_bool ht h
  exact ⟨b, h1⟩
theorem came_lab {H : Type} {enc : TypeId × Value → H} {w : World} {cs : List Value} (h : CameC enc Tryz.prog w 23 cs) :
    ∃ (d : List UInt8) (o z k : Int) (b : Bool), cs = [.string (bs d), .int .i64 o, .int .i64 z, .int .i64 k, .bool b] ∧ d.length ≤ 140737488355328 := by
  obtain ⟨h1, h2⟩ := h.fields Tryz.underlying23 (by kernel_rfl) (by kernel_rfl)
  obtain ⟨v0, e0, c0⟩ := h2 0 _ rfl
  obtain ⟨v1, e1, c1⟩ := h2 1 _ rfl
  obtain ⟨v2, e2, c2⟩ := h2 2 _ rfl
  obtain ⟨v3, e3, c3⟩ := h2 3 _ rfl
  obtain ⟨v4, e4, c4⟩ := h2 4 _ rfl
  obtain ⟨s0, g0, l0⟩ := c0.string Tryz.underlying9
  obtain ⟨x1, g1, _⟩ := c1.int Tryz.underlying3
  obtain ⟨x2, g2, _⟩ := c2.int Tryz.underlying3
  obtain ⟨x3, g3, _⟩ := c3.int Tryz.underlying3
  obtain ⟨x4, g4⟩ := c4.bool Tryz.underlying4
  simp only [List.cons.injEq, and_true] at g0 g1 g2 g3 g4
  subst g0 g1 g2 g3 g4
  have h1' : cs.length = 5 := h1
  match cs, h1' with
  | [y0, y1, y2, y3, y4], _ =>
    simp only [List.getElem?_cons_zero, List.getElem?_cons_succ, Option.some.injEq] at e0 e1 e2 e3 e4
    refine ⟨s0.data.toList, x1, x2, x3, x4, by rw [e0, e1, e2, e3, e4]; rfl, ?_⟩
    have := reachB l0
    have h3 := Lib.size_eq s0
    omega
end Go.Proofs.YtldicibhfmnjnaaGreatDoor
