/- A client: Accept at every page. -/
import Derived.Test.YtfhanbiifjiklaaGreatDoorC6
set_option linter.unusedVariables false
set_option linter.unusedSimpArgs false
namespace Go.Proofs.YtfhanbiifjiklaaGreatDoor
open Go.RowKit Go.Shelf

theorem Accept_any (b : Nat) (root : List UInt8) (size : Int) (its : List (List UInt8)) (hil : its.length ≤ 1000000) (v : Value) (p : Pg) (hp : p.fit) (vi vp : Value) (w : World) (hg : Glob w) (hcl : CliAt b root size its v w) (hvi : TextsAt w vi p.items) (hvp : PathsAt w vp p.paths) (hvb : vi.ownBlock ≠ some b) (hvr : ∀ g, v.ownBlock = some g → vi.ownBlock ≠ some g) :
    Calls Tryz.prog 24 #[cliP b, .agg (p.cs vi vp)] w (AcceptR b root size (accE p root size its) (accV p root size its) v w) := by
  cases hf : formedB p with
  | false =>
    have h1 : accE p root size its = 1 := by unfold accE; rw [hf]; rfl
    have h2 : accV p root size its = its := by unfold accV; rw [h1]; rfl
    rw [h1, h2]
    exact Accept_no b root size its v p hp hf vi vp w hcl hvi hvp
  | true =>
    have h17 : heldB p root size = false → accE p root size its = 17 ∧ accV p root size its = its := fun h => by
      have h1 : accE p root size its = 17 := by unfold accE; rw [hf, h]; rfl
      exact ⟨h1, by unfold accV; rw [h1]; rfl⟩
    by_cases hr : p.root = root
    · by_cases hs : p.size = size
      · by_cases hfa : p.fr ≤ p.size - p.items.length
        · refine (Accept_main b root size its hil v p hp hf ⟨hr, hs, hfa⟩ vi vp w hg hcl hvi hvp hvb hvr).mono ?_
          have hsb : sameB p root size = true := by unfold sameB; rw [decide_eq_true hr, decide_eq_true hs, decide_eq_true hfa]; rfl
          rintro e w' ⟨k, he, (⟨(⟨ha, rfl⟩ | ⟨ha, hlt, rfl⟩), hR⟩ | ⟨⟨ha, hle, rfl⟩, hR⟩)⟩
          · obtain ⟨h1, h2⟩ := h17 (by unfold heldB; rw [hsb, ha]; rfl)
            rw [h1, h2]; exact hR
          · have h1 : accE p root size its = 13 := by unfold accE heldB; rw [hf, hsb, ha]; simp [hlt]
            have h2 : accV p root size its = its := by unfold accV; rw [h1]; rfl
            rw [h1, h2]; exact hR
          · have h1 : accE p root size its = 0 := by unfold accE heldB; rw [hf, hsb, ha]; simp; omega
            have h2 : accV p root size its = its ++ p.items.drop (its.length - p.fr.toNat) := by unfold accV; rw [h1]; rfl
            rw [h1, h2]; exact hR
        · obtain ⟨h1, h2⟩ := h17 (by unfold heldB sameB; rw [decide_eq_false hfa]; simp)
          rw [h1, h2]
          exact Accept_far b root size its v p hp hf ⟨hr, hs, hfa⟩ vi vp w hcl hvi hvp
      · obtain ⟨h1, h2⟩ := h17 (by unfold heldB sameB; rw [decide_eq_false hs]; simp)
        rw [h1, h2]
        exact Accept_size b root size its v p hp hf ⟨hr, hs⟩ vi vp w hcl hvi hvp
    · obtain ⟨h1, h2⟩ := h17 (by unfold heldB sameB; rw [decide_eq_false hr]; simp)
      rw [h1, h2]
      exact Accept_root b root size its v p hp hf hr vi vp w hcl hvi hvp
end Go.Proofs.YtfhanbiifjiklaaGreatDoor
