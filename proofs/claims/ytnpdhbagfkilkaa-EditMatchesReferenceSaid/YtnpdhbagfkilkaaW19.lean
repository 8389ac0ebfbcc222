/- What came in: weights. -/
import Derived.Test.YtnpdhbagfkilkaaOpen
import Derived.Test.YtnpdhbagfkilkaaW3
set_option linter.unusedVariables false
set_option linter.unusedSimpArgs false
namespace Go.Proofs.Ytnpdhbagfkilkaa
open Go.RowKit Go.ChangeShapes Go.WideShapes Go.Deep

section
variable {H : Type} {enc : TypeId × Value → H} {w : World} {cs : List Value}
theorem nearCells_len (l : List (Int × Int × Int)) : (nearCells l).length = l.length * 3 := by
  induction l with
  | nil => rfl
  | cons a l ih => simp only [nearCells, List.flatMap_cons, List.length_append, List.length_cons, List.length_nil] at ih ⊢; omega
theorem came_int3 (h : CameC enc Try.prog w 63 cs) : ∃ a b c : Int, cs = [.int .i64 a, .int .i64 b, .int .i64 c] := by
  obtain ⟨h1, h2⟩ := h.fields Try.underlying63 (by kernel_rfl) (by kernel_rfl)
  obtain ⟨v0, e0, c0⟩ := h2 0 _ rfl
  obtain ⟨v1, e1, c1⟩ := h2 1 _ rfl
  obtain ⟨v2, e2, c2⟩ := h2 2 _ rfl
  obtain ⟨a, ea, _⟩ := c0.int Try.underlying3
  obtain ⟨b, eb, _⟩ := c1.int Try.underlying3
  obtain ⟨c, ec, _⟩ := c2.int Try.underlying3
  simp at ea eb ec
  subst ea eb ec
  have h1' : cs.length = 3 := h1
  match cs, h1' with
  | [x, y, z], _ =>
    simp at e0 e1 e2
    exact ⟨a, b, c, by rw [e0, e1, e2]⟩

theorem came_near (h : CameC enc Try.prog w 22 cs) : ∃ (A : Option Addr) (n c : Nat) (l : List (Int × Int × Int)), cs = [.slice A n c] ∧ Near w w.heap.size A n l ∧ c * 24 ≤ reachBytes ∧ n ≤ c := by
  rcases h.slice Try.underlying22 with rfl | ⟨a, n, c, rfl, hl, hb, _, hi⟩
  · exact ⟨none, 0, 0, [], rfl, ⟨rfl, Reads.none_⟩, by omega, Nat.le_refl _⟩
  · have e3 : Try.prog.cellsOf 63 = 3 := by kernel_rfl
    have eb : Try.prog.bytesOf 63 = 24 := by kernel_rfl
    rw [e3] at hi
    rw [eb] at hb
    have hz : ∀ i, ∃ z : Int × Int × Int, i < n → w.cell? (a.add (i * 3)) = some (.int .i64 z.1) ∧ w.cell? (a.add (i * 3 + 1)) = some (.int .i64 z.2.1) ∧ w.cell? (a.add (i * 3 + 2)) = some (.int .i64 z.2.2) := fun i => by
      by_cases h : i < n
      · obtain ⟨cs', hl', hat, hcm⟩ := hi i h
        obtain ⟨x, y, z, rfl⟩ := came_int3 hcm
        exact ⟨(x, y, z), fun _ => ⟨hat 0 (by omega), hat 1 (by omega), hat 2 (by omega)⟩⟩
      · exact ⟨(0, 0, 0), fun h' => absurd h' h⟩
    obtain ⟨g, hg⟩ := Classical.axiomOfChoice hz
    have hll : ((List.range n).map g).length = n := by simp
    refine ⟨some a, n, c, (List.range n).map g, rfl, ⟨hll, ?_, fun h0 => ⟨a, rfl, ?_, fun j u hu => ?_⟩⟩, hb, hl⟩
    · rw [nearCells_len, hll]
    · have := World.block_lt_of_cell? w _ (hg 0 h0).1
      rwa [block_of_add] at this
    · have hj : j / 3 < n := by
        have h1 := (List.getElem?_eq_some_iff.1 hu).1
        have h2 : (nearCells ((List.range n).map g)).length = n * 3 := by rw [nearCells_len, hll]
        omega
      obtain ⟨q1, q2, q3⟩ := nearCells_get ((List.range n).map g) (j / 3) (by rw [hll]; exact hj)
      obtain ⟨p1, p2, p3⟩ := hg (j / 3) hj
      simp only [List.getElem_map, List.getElem_range] at q1 q2 q3
      have h3 : j = j / 3 * 3 ∨ j = j / 3 * 3 + 1 ∨ j = j / 3 * 3 + 2 := by omega
      rcases h3 with h3 | h3 | h3
      · rw [← h3] at q1 p1; rw [hu] at q1; rw [q1, p1]
      · rw [← h3] at q2 p2; rw [hu] at q2; rw [q2, p2]
      · rw [← h3] at q3 p3; rw [hu] at q3; rw [q3, p3]

theorem came_wts (h : CameC enc Try.prog w 24 cs) : ∃ (W : Wt) (A : Option Addr) (n c : Nat), cs = [.int .i64 W.ins, .int .i64 W.del, .int .i64 W.chg, .int .i64 W.swp, .slice A n c] ∧ Near w w.heap.size A n W.near ∧ n ≤ 140737488355328 ∧ n ≤ c := by
  obtain ⟨h1, h2⟩ := h.fields Try.underlying24 (by kernel_rfl) (by kernel_rfl)
  obtain ⟨v0, e0, c0⟩ := h2 0 _ rfl
  obtain ⟨v1, e1, c1⟩ := h2 1 _ rfl
  obtain ⟨v2, e2, c2⟩ := h2 2 _ rfl
  obtain ⟨v3, e3, c3⟩ := h2 3 _ rfl
  obtain ⟨v4, e4, c4⟩ := h2 4 _ rfl
  obtain ⟨x0, g0, w0⟩ := c0.int Try.underlying3
  obtain ⟨x1, g1, _⟩ := c1.int Try.underlying3
  obtain ⟨x2, g2, _⟩ := c2.int Try.underlying3
  obtain ⟨x3, g3, _⟩ := c3.int Try.underlying3
  obtain ⟨A, n, c, l, g4, hN, hc, hn⟩ := came_near c4
  simp only [List.cons.injEq, and_true] at g0 g1 g2 g3 g4
  subst g0 g1 g2 g3 g4
  have h1' : cs.length = 5 := h1
  match cs, h1' with
  | [y0, y1, y2, y3, y4], _ =>
    simp at e0 e1 e2 e3 e4
    refine ⟨⟨x0, x1, x2, x3, l⟩, A, n, c, by rw [e0, e1, e2, e3, e4], hN, by unfold reachBytes at hc; omega, hn⟩
end
end Go.Proofs.Ytnpdhbagfkilkaa
