/- Walks of package privacy: erased; lines compared. -/
import Derived.Test.YtdiebacfbhjbdaaGreatDoorN2
set_option linter.unusedVariables false
set_option linter.unusedSimpArgs false
namespace Go.Proofs.YtdiebacfbhjbdaaGreatDoor
open Go.RowKit

theorem lnv_yes (l : Ln) (w : World) : (binOp .eql 32 (.agg #[.string (bs l.p), .string (bs l.t), .string (bs l.s), .string (bs l.d)]) (.agg #[.string (bs l.p), .string (bs l.t), .string (bs l.s), .string (bs l.d)])).run Tryz.prog w = .ok (.bool true) w := by
  rw [run_eql_struct]
  go_simp
theorem lnv_no {l m : Ln} (h : l ≠ m) (w : World) : (binOp .eql 32 (.agg #[.string (bs l.p), .string (bs l.t), .string (bs l.s), .string (bs l.d)]) (.agg #[.string (bs m.p), .string (bs m.t), .string (bs m.s), .string (bs m.d)])).run Tryz.prog w = .ok (.bool false) w := by
  rw [run_eql_struct]
  go_simp
  intro h1 h2 h3 h4
  rw [bs_toList, bs_toList] at h1 h2 h3 h4
  exact h ((Ln.eq_iff l m).2 ⟨h1, h2, h3, h4⟩)
set_option maxHeartbeats 2000000 in
theorem erased_any (l : Ln) (w : World) : Calls Tryz.prog 39 #[.agg (lnC l)] w fun e w' => e = .returned (.agg (lnC (er l))) ∧ Below w.heap.size w w' := by
  unfold lnC
  have HB := hide (below_two w (.cells #[.string (bs l.p), .string (bs l.t), .string (bs l.s), .string (bs l.d)] 32) (.cells #[.string ⟨#[]⟩, .string ⟨#[]⟩, .string ⟨#[]⟩, .string ⟨#[]⟩] 32))
  go_enter Tryz.func39, Tryz.ntmps39
  go_wp2_with fail
  have hb : Blk ((w.alloc (.cells #[.string (bs l.p), .string (bs l.t), .string (bs l.s), .string (bs l.d)] 32)).alloc (.cells #[.string ⟨#[]⟩, .string ⟨#[]⟩, .string ⟨#[]⟩, .string (bs l.d)] 32)) (w.heap.size + 1) 32 #[.string ⟨#[]⟩, .string ⟨#[]⟩, .string ⟨#[]⟩, .string (bs l.d)] := by
    have := Blk.new (w.alloc (.cells #[.string (bs l.p), .string (bs l.t), .string (bs l.s), .string (bs l.d)] 32)) 32 #[.string ⟨#[]⟩, .string ⟨#[]⟩, .string ⟨#[]⟩, .string (bs l.d)]
    show Blk _ _ _ _
    simpa using this
  refine bodyPost_ret (results_cell_blk rfl _ _ (w.heap.size + 1) 32 _ _ rfl hb Tryz.underlying32 rfl (by kernel_rfl)) rfl ⟨rfl, ?_⟩
  exact below_two w _ _
end Go.Proofs.YtdiebacfbhjbdaaGreatDoor
