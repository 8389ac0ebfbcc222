/- Pages and lists of texts that came in. -/
import Derived.Test.YtfhanbiifjiklaaGreatDoorG
import Derived.Test.YtfhanbiifjiklaaGreatDoorCr
import Derived.Test.YtfhanbiifjiklaaGreatDoorF0
set_option linter.unusedVariables false
set_option linter.unusedSimpArgs false
namespace Go.Proofs.YtfhanbiifjiklaaGreatDoor
open Go.RowKit Go.ChangeShapes Go.WideShapes Go.Deep

theorem len_of {s : ByteArray} (h : s.size ≤ reachBytes) : s.data.toList.length ≤ 140737488355328 := by
  have := reachC h
  have h3 := Lib.size_eq s
  omega
/-- a row of single cells that came in -/
theorem cells_came {α : Type} {w : World} {a : Addr} {n : Nat} (R : Value → α → Prop) (h : ∀ i, i < n → ∃ v x, w.cell? (a.add i) = some v ∧ R v x) :
    ∃ ls : List α, ls.length = n ∧ ∀ (i : Nat) x, ls[i]? = some x → ∃ v, w.cell? (a.add i) = some v ∧ R v x := by
  induction n with
  | zero => exact ⟨[], rfl, by simp⟩
  | succ m ih =>
    obtain ⟨ls, h1, h2⟩ := ih (fun i hi => h i (by omega))
    obtain ⟨v, x, hc, hr⟩ := h m (by omega)
    refine ⟨ls ++ [x], by simp [h1], fun i y hy => ?_⟩
    rcases Nat.lt_or_ge i ls.length with hi | hi
    · rw [List.getElem?_append_left hi] at hy
      exact h2 i y hy
    · rw [List.getElem?_append_right hi] at hy
      have hz : i - ls.length = 0 := by
        rcases Nat.eq_zero_or_pos (i - ls.length) with hz | hz
        · exact hz
        · rw [List.getElem?_eq_none (by simp only [List.length_cons, List.length_nil]; omega)] at hy; cases hy
      rw [hz] at hy
      simp at hy
      subst hy
      obtain rfl : i = m := by omega
      exact ⟨v, hc, hr⟩
theorem came_paths {H : Type} {enc : TypeId × Value → H} {w : World} {cs : List Value} (h : CameC enc Tryz.prog w 23 cs) :
    ∃ (v : Value) (ps : List (List (List UInt8))), cs = [v] ∧ PathsAt w v ps ∧ ps.length ≤ 8796093022208 ∧ (∀ q ∈ ps, q.length ≤ 8796093022208) ∧ ∀ q ∈ ps, ∀ x ∈ q, x.length ≤ 140737488355328 := by
  rcases h.slice Tryz.underlying23 with rfl | ⟨a, n, c, rfl, hn, hb, _, hi⟩
  · exact ⟨_, [], rfl, PathsAt.nil w, by simp, by simp, by simp⟩
  · have h1 : Tryz.prog.cellsOf 22 = 1 := by kernel_rfl
    have h2 : Tryz.prog.bytesOf 22 = 24 := by kernel_rfl
    rw [h1] at hi
    rw [h2] at hb
    obtain ⟨ps, e, hr⟩ := cells_came (w := w) (a := a) (n := n) (fun v (q : List (List UInt8)) => TextsAt w v q ∧ (∀ x ∈ q, x.length ≤ 140737488355328) ∧ q.length ≤ 8796093022208) fun i hi' => by
      obtain ⟨cs', hl, hat, hcm⟩ := hi i hi'
      obtain ⟨v, q, rfl, hq, hx, hql⟩ := came_texts hcm
      have := hat 0 (by decide)
      rw [Nat.mul_one, Nat.add_zero] at this
      exact ⟨v, q, this, hq, hx, hql⟩
    refine ⟨_, ps, rfl, ⟨some a, c, by rw [e], by omega, fun k q hq => ?_⟩, ?_, fun q hq => ?_, fun q hq => ?_⟩
    · obtain ⟨v, hc, ht, _⟩ := hr k q hq
      refine ⟨a, v, rfl, ?_, hc, ht⟩
      have := World.block_lt_of_cell? w _ hc
      rwa [block_of_add] at this
    · have := reachC hb
      omega
    · obtain ⟨k, hk, rfl⟩ := List.getElem_of_mem hq
      obtain ⟨v, _, _, _, h⟩ := hr k _ (List.getElem?_eq_getElem hk)
      exact h
    · obtain ⟨k, hk, rfl⟩ := List.getElem_of_mem hq
      obtain ⟨v, _, _, h, _⟩ := hr k _ (List.getElem?_eq_getElem hk)
      exact h
theorem came_page {H : Type} {enc : TypeId × Value → H} {w : World} {cs : List Value} (h : CameC enc Tryz.prog w 25 cs) :
    ∃ (p : Pg) (vi vp : Value), cs = [.int .i64 p.fr, .int .i64 p.size, .string (bs p.root), vi, vp] ∧ TextsAt w vi p.items ∧ PathsAt w vp p.paths ∧ p.wide ∧ (-9223372036854775808 ≤ p.fr ∧ p.fr ≤ 9223372036854775807) ∧ (-9223372036854775808 ≤ p.size ∧ p.size ≤ 9223372036854775807) := by
  obtain ⟨h1, h2⟩ := h.fields Tryz.underlying25 (by kernel_rfl) (by kernel_rfl)
  obtain ⟨v0, e0, c0⟩ := h2 0 _ rfl
  obtain ⟨v1, e1, c1⟩ := h2 1 _ rfl
  obtain ⟨v2, e2, c2⟩ := h2 2 _ rfl
  obtain ⟨v3, e3, c3⟩ := h2 3 _ rfl
  obtain ⟨v4, e4, c4⟩ := h2 4 _ rfl
  obtain ⟨x0, g0, f0⟩ := c0.int Tryz.underlying3
  obtain ⟨x1, g1, f1⟩ := c1.int Tryz.underlying3
  obtain ⟨s2, g2, l2⟩ := c2.string Tryz.underlying9
  obtain ⟨v3', it, g3, ht, hx, hl⟩ := came_texts c3
  obtain ⟨v4', ps, g4, hp, hpl, hql, hqx⟩ := came_paths c4
  simp only [List.cons.injEq, and_true] at g0 g1 g2 g3 g4
  subst g0 g1 g2 g3 g4
  have h1' : cs.length = 5 := h1
  match cs, h1' with
  | [y0, y1, y2, y3, y4], _ =>
    simp only [List.getElem?_cons_zero, List.getElem?_cons_succ, Option.some.injEq] at e0 e1 e2 e3 e4
    have b0 : -9223372036854775808 ≤ x0 ∧ x0 ≤ 9223372036854775807 := by simpa [Lit.wf, IntKind.min, IntKind.max, IntKind.signed, IntKind.bits] using f0
    have b1 : -9223372036854775808 ≤ x1 ∧ x1 ≤ 9223372036854775807 := by simpa [Lit.wf, IntKind.min, IntKind.max, IntKind.signed, IntKind.bits] using f1
    exact ⟨⟨x0, x1, s2.data.toList, it, ps⟩, v3, v4, by rw [e0, e1, e2, e3, e4]; rfl, ht, hp, ⟨hl, hx, hpl, hql, hqx, len_of l2⟩, b0, b1⟩
theorem came_u8s {H : Type} {enc : TypeId × Value → H} {w : World} {cs : List Value} (h : CameC enc Tryz.prog w 37 cs) :
    ∃ (v : Value) (zs : List Nat), cs = [v] ∧ U8sAt w v zs ∧ zs.length ≤ 140737488355328 ∧ ∀ z ∈ zs, z ≤ 255 := by
  rcases h.slice Tryz.underlying37 with rfl | ⟨a, n, c, rfl, hn, hb, _, hi⟩
  · exact ⟨_, [], rfl, RowsAt.nil _ _, by simp, by simp⟩
  · have h1 : Tryz.prog.cellsOf 5 = 1 := by kernel_rfl
    have h2 : Tryz.prog.bytesOf 5 = 1 := by kernel_rfl
    rw [h1] at hi
    rw [h2] at hb
    obtain ⟨ls, e, hq, hr⟩ := rows_came (w := w) (a := a) (c := c) (size := 1) (fun z : Nat => [Value.int .u8 (z : Int)]) (fun z => z ≤ 255) (fun _ => rfl) (by decide) hn fun i hi' => by
      obtain ⟨cs', hl, hat, hcm⟩ := hi i hi'
      obtain ⟨x, rfl, hw⟩ := hcm.int Tryz.underlying5
      obtain ⟨b0, b1⟩ : 0 ≤ x ∧ x ≤ 255 := by simpa [Lit.wf, IntKind.min, IntKind.max, IntKind.signed, IntKind.bits] using hw
      refine ⟨x.toNat, by omega, fun j u hu => ?_⟩
      have hj : j = 0 := by
        rcases Nat.eq_zero_or_pos j with hz | hz
        · exact hz
        · rw [List.getElem?_eq_none (by simp only [List.length_cons, List.length_nil]; omega)] at hu; cases hu
      subst hj
      rw [hat 0 (by decide), ← hu, Int.toNat_of_nonneg b0]
    refine ⟨_, ls, rfl, e ▸ hr, ?_, hq⟩
    have := reachC hb
    omega
end Go.Proofs.YtfhanbiifjiklaaGreatDoor
