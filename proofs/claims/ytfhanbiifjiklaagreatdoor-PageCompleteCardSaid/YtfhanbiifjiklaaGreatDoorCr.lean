/- Slices of records and of texts that came in. -/
import Derived.Test.YtfhanbiifjiklaaGreatDoorOpen
import Derived.Test.YtfhanbiifjiklaaGreatDoorSl
set_option linter.unusedVariables false
set_option linter.unusedSimpArgs false
namespace Go.Proofs.YtfhanbiifjiklaaGreatDoor
open Go.RowKit Go.ChangeShapes Go.WideShapes Go.Deep

theorem reachC {n : Nat} (h : n ≤ reachBytes) : n ≤ 140737488351232 := by unfold reachBytes at h; omega
theorem rows_came {α : Type} {w : World} {a : Addr} {n c size : Nat} (enc : α → List Value) (Q : α → Prop) (hs : ∀ x, (enc x).length = size) (h0 : 0 < size) (hc : n ≤ c)
    (h : ∀ i, i < n → ∃ x : α, Q x ∧ ∀ j u, (enc x)[j]? = some u → w.cell? (a.add (i * size + j)) = some u) : ∃ ls : List α, ls.length = n ∧ (∀ x ∈ ls, Q x) ∧ RowsAt w size (.slice (some a) n c) (ls.map enc) := by
  have hex : ∀ m, m ≤ n → ∃ ls : List α, ls.length = m ∧ (∀ x ∈ ls, Q x) ∧ ∀ (i : Nat) x, ls[i]? = some x → ∀ j u, (enc x)[j]? = some u → w.cell? (a.add (i * size + j)) = some u := by
    intro m
    induction m with
    | zero => exact fun _ => ⟨[], rfl, by simp, by simp⟩
    | succ m ih =>
      intro hm
      obtain ⟨ls, h1, h2, h3⟩ := ih (by omega)
      obtain ⟨x, hq, hx⟩ := h m (by omega)
      refine ⟨ls ++ [x], by simp [h1], fun y hy => ?_, fun i y hy j u hu => ?_⟩
      · rcases List.mem_append.1 hy with hy | hy
        · exact h2 y hy
        · rw [List.mem_singleton.1 hy]; exact hq
      · rcases Nat.lt_or_ge i ls.length with hi | hi
        · rw [List.getElem?_append_left hi] at hy
          exact h3 i y hy j u hu
        · rw [List.getElem?_append_right hi] at hy
          have hz : i - ls.length = 0 := by
            rcases Nat.eq_zero_or_pos (i - ls.length) with hz | hz
            · exact hz
            · rw [List.getElem?_eq_none (by simp only [List.length_cons, List.length_nil]; omega)] at hy; cases hy
          rw [hz] at hy
          simp at hy
          subst hy
          obtain rfl : i = m := by omega
          exact hx j u hu
  obtain ⟨ls, h1, h2, h3⟩ := hex n (Nat.le_refl _)
  refine ⟨ls, h1, h2, some a, c, by rw [List.length_map, h1], by rw [List.length_map]; omega, fun x hx => ?_, fun k x hx => ?_⟩
  · obtain ⟨y, _, rfl⟩ := List.mem_map.1 hx
    exact hs y
  · rw [List.getElem?_map, Option.map_eq_some_iff] at hx
    obtain ⟨y, hy, rfl⟩ := hx
    have hk := h3 k y hy
    refine ⟨a, rfl, ?_, fun j u hu => by rw [add_of_add]; exact hk j u hu⟩
    have hl : 0 < (enc y).length := by rw [hs]; exact h0
    have := World.block_lt_of_cell? w _ (hk 0 _ (List.getElem?_eq_getElem hl))
    rwa [block_of_add] at this
theorem came_texts {H : Type} {enc : TypeId × Value → H} {w : World} {cs : List Value} (h : CameC enc Tryz.prog w 22 cs) :
    ∃ (v : Value) (ls : List (List UInt8)), cs = [v] ∧ TextsAt w v ls ∧ (∀ x ∈ ls, x.length ≤ 140737488355328) ∧ ls.length ≤ 8796093022208 := by
  rcases h.slice Tryz.underlying22 with rfl | ⟨a, n, c, rfl, hn, hb, _, hi⟩
  · exact ⟨_, [], rfl, RowsAt.nil _ _, by simp, by simp⟩
  · have h1 : Tryz.prog.cellsOf 9 = 1 := by kernel_rfl
    have h2 : Tryz.prog.bytesOf 9 = 16 := by kernel_rfl
    rw [h1] at hi
    rw [h2] at hb
    obtain ⟨ls, e, hq, hr⟩ := rows_came (w := w) (a := a) (c := c) (size := 1) strV (fun x => x.length ≤ 140737488355328) (fun _ => rfl) (by decide) hn fun i hi' => by
      obtain ⟨cs', hl, hat, hcm⟩ := hi i hi'
      obtain ⟨s, rfl, hs⟩ := hcm.string Tryz.underlying9
      refine ⟨s.data.toList, ?_, fun j u hu => ?_⟩
      · have := reachC hs
        have h3 := Lib.size_eq s
        omega
      · have hj : j = 0 := by
          rcases Nat.eq_zero_or_pos j with hz | hz
          · exact hz
          · rw [List.getElem?_eq_none (by simp only [strV, List.length_cons, List.length_nil]; omega)] at hu; cases hu
        subst hj
        rw [hat 0 (by decide)]
        exact hu
    refine ⟨_, ls, rfl, e ▸ hr, hq, ?_⟩
    have := reachC hb
    omega
end Go.Proofs.YtfhanbiifjiklaaGreatDoor
