/- Logs, lines and orders that came in. -/
import Derived.Test.YtdiebacfbhjbdaaGreatDoorG
import Derived.Test.YtdiebacfbhjbdaaGreatDoorCr
import Derived.Test.YtdiebacfbhjbdaaGreatDoorO1
set_option linter.unusedVariables false
set_option linter.unusedSimpArgs false
namespace Go.Proofs.YtdiebacfbhjbdaaGreatDoor
open Go.RowKit Go.ChangeShapes Go.WideShapes Go.Deep

theorem len_of {s : ByteArray} (h : s.size ≤ reachBytes) : s.data.toList.length ≤ 140737488355328 := by
  have := reachC h
  have h3 := Lib.size_eq s
  omega
theorem came_line {H : Type} {enc : TypeId × Value → H} {w : World} {cs : List Value} (h : CameC enc Tryz.prog w 32 cs) : ∃ l : Ln, cs = lnV l ∧ l.fit := by
  obtain ⟨h1, h2⟩ := h.fields Tryz.underlying32 (by kernel_rfl) (by kernel_rfl)
  obtain ⟨v0, e0, c0⟩ := h2 0 _ rfl
  obtain ⟨v1, e1, c1⟩ := h2 1 _ rfl
  obtain ⟨v2, e2, c2⟩ := h2 2 _ rfl
  obtain ⟨v3, e3, c3⟩ := h2 3 _ rfl
  obtain ⟨s0, g0, l0⟩ := c0.string Tryz.underlying9
  obtain ⟨s1, g1, l1⟩ := c1.string Tryz.underlying9
  obtain ⟨s2, g2, l2⟩ := c2.string Tryz.underlying9
  obtain ⟨s3, g3, l3⟩ := c3.string Tryz.underlying9
  simp only [List.cons.injEq, and_true] at g0 g1 g2 g3
  subst g0 g1 g2 g3
  have h1' : cs.length = 4 := h1
  match cs, h1' with
  | [y0, y1, y2, y3], _ =>
    simp only [List.getElem?_cons_zero, List.getElem?_cons_succ, Option.some.injEq] at e0 e1 e2 e3
    exact ⟨⟨s0.data.toList, s1.data.toList, s2.data.toList, s3.data.toList⟩, by rw [e0, e1, e2, e3]; rfl, ⟨len_of l0, len_of l1, len_of l2, len_of l3⟩⟩
theorem came_lines {H : Type} {enc : TypeId × Value → H} {w : World} {cs : List Value} (h : CameC enc Tryz.prog w 22 cs) :
    ∃ (v : Value) (log : List Ln), cs = [v] ∧ LnsAt w v log ∧ (∀ l ∈ log, l.fit) ∧ log.length ≤ 8796093022208 := by
  rcases h.slice Tryz.underlying22 with rfl | ⟨a, n, c, rfl, hn, hb, _, hi⟩
  · exact ⟨_, [], rfl, RowsAt.nil _ _, by simp, by simp⟩
  · have h1 : Tryz.prog.cellsOf 32 = 4 := by kernel_rfl
    have h2 : Tryz.prog.bytesOf 32 = 64 := by kernel_rfl
    rw [h1] at hi
    rw [h2] at hb
    obtain ⟨ls, e, hq, hr⟩ := rows_came (w := w) (a := a) (c := c) (size := 4) lnV (fun x => x.fit) (fun _ => rfl) (by decide) hn fun i hi' => by
      obtain ⟨cs', hl, hat, hcm⟩ := hi i hi'
      obtain ⟨l, rfl, hf⟩ := came_line hcm
      refine ⟨l, hf, fun j u hu => ?_⟩
      rw [hat j (by rcases Nat.lt_or_ge j 4 with h | h; exact h; rw [List.getElem?_eq_none (by simpa [lnV] using h)] at hu; cases hu)]
      exact hu
    refine ⟨_, ls, rfl, e ▸ hr, hq, ?_⟩
    have := reachC hb
    omega
theorem lines_shape {H : Type} {enc : TypeId × Value → H} {w : World} {v : Value} (h : CameC enc Tryz.prog w 22 [v]) : v = .slice none 0 0 ∨ ∃ a n c, v = .slice (some a) n c := by
  rcases h.slice Tryz.underlying22 with h | ⟨a, n, c, h, _⟩
  · left; simpa using h
  · right; exact ⟨a, n, c, by simpa using h⟩
set_option maxRecDepth 100000 in
theorem came_order {H : Type} {enc : TypeId × Value → H} {w : World} {cs : List Value} (h : CameC enc Tryz.prog w 53 cs) : ∃ l : Od, cs = odV l := by
  obtain ⟨h1, h2⟩ := h.struct Tryz.underlying53
  have h1' : cs.length = 6 := h1.trans (by kernel_rfl)
  have k1 : Tryz.prog.cellsOf 9 = 1 := by kernel_rfl
  have k2 : Tryz.prog.cellsOf 51 = 2 := by kernel_rfl
  match cs, h1' with
  | [y0, y1, y2, y3, y4, y5], _ =>
    have c0 : CameC enc Tryz.prog w 9 (([y0, y1, y2, y3, y4, y5].drop 0).take (Tryz.prog.cellsOf 9)) := h2 0 _ rfl
    have c1 : CameC enc Tryz.prog w 9 (([y0, y1, y2, y3, y4, y5].drop 1).take (Tryz.prog.cellsOf 9)) := h2 1 _ rfl
    have c2 : CameC enc Tryz.prog w 9 (([y0, y1, y2, y3, y4, y5].drop 2).take (Tryz.prog.cellsOf 9)) := h2 2 _ rfl
    have c3 : CameC enc Tryz.prog w 9 (([y0, y1, y2, y3, y4, y5].drop 3).take (Tryz.prog.cellsOf 9)) := h2 3 _ rfl
    have c4 : CameC enc Tryz.prog w 51 (([y0, y1, y2, y3, y4, y5].drop 4).take (Tryz.prog.cellsOf 51)) := h2 4 _ rfl
    rw [k1] at c0 c1 c2 c3
    rw [k2] at c4
    obtain ⟨s0, g0, _⟩ := c0.string Tryz.underlying9
    obtain ⟨s1, g1, _⟩ := c1.string Tryz.underlying9
    obtain ⟨s2, g2, _⟩ := c2.string Tryz.underlying9
    obtain ⟨s3, g3, _⟩ := c3.string Tryz.underlying9
    obtain ⟨_, p2⟩ := c4.fields Tryz.underlying51 (by kernel_rfl) (by kernel_rfl)
    obtain ⟨v4, e4, c4⟩ := p2 0 _ rfl
    obtain ⟨v5, e5, c5⟩ := p2 1 _ rfl
    obtain ⟨x4, g4, _⟩ := c4.int Tryz.underlying3
    obtain ⟨x5, g5, _⟩ := c5.int Tryz.underlying3
    simp at g0 g1 g2 g3 g4 g5 e4 e5
    subst g0 g1 g2 g3 g4 g5 e4 e5
    exact ⟨⟨s0.data.toList, s1.data.toList, s2.data.toList, s3.data.toList, x4, x5⟩, rfl⟩
theorem came_orders {H : Type} {enc : TypeId × Value → H} {w : World} {cs : List Value} (h : CameC enc Tryz.prog w 46 cs) :
    ∃ (v : Value) (l : List Od), cs = [v] ∧ OdsAt w v l ∧ l.length ≤ 8796093022208 := by
  rcases h.slice Tryz.underlying46 with rfl | ⟨a, n, c, rfl, hn, hb, _, hi⟩
  · exact ⟨_, [], rfl, RowsAt.nil _ _, by simp⟩
  · have h1 : Tryz.prog.cellsOf 53 = 6 := by kernel_rfl
    have h2 : Tryz.prog.bytesOf 53 = 80 := by kernel_rfl
    rw [h1] at hi
    rw [h2] at hb
    obtain ⟨ls, e, hq, hr⟩ := rows_came (w := w) (a := a) (c := c) (size := 6) odV (fun x => True) (fun _ => rfl) (by decide) hn fun i hi' => by
      obtain ⟨cs', hl, hat, hcm⟩ := hi i hi'
      obtain ⟨l, rfl⟩ := came_order hcm
      refine ⟨l, trivial, fun j u hu => ?_⟩
      rw [hat j (by rcases Nat.lt_or_ge j 6 with h | h; exact h; rw [List.getElem?_eq_none (by simpa [odV] using h)] at hu; cases hu)]
      exact hu
    refine ⟨_, ls, rfl, e ▸ hr, ?_⟩
    have := reachC hb
    omega
end Go.Proofs.YtdiebacfbhjbdaaGreatDoor
