/- Walks of package privacy: proper. -/
import Derived.Test.YtdiebacfbhjbdaaGreatDoorN6
set_option linter.unusedVariables false
set_option linter.unusedSimpArgs false
namespace Go.Proofs.YtdiebacfbhjbdaaGreatDoor
open Go.RowKit

theorem ent_rvalid : ∀ args w, (callFunc 36 args).run Tryz.prog w = .ok (.enter 36 args) w := enters_fn Tryz.func36 (by kernel_rfl) rfl
def rvalidF : Value := .func (.func 36) #[] #[]
set_option maxHeartbeats 2000000 in
theorem proper_any (v : Value) (log : List Ln) (hf : ∀ l ∈ log, l.fit) (hl : log.length ≤ 1000000000) (q : List UInt8) (hq : q.length ≤ 140737488355328) (w : World) (hv : LnsAt w v log) (hg : Glob w) :
    Calls Tryz.prog 35 #[.func (.func 36) #[] #[], v, .string (bs q)] w fun e w' => e = .returned (.bool (validG log && isNm q)) ∧ Below w.heap.size w w' := by
  have CV := rvalid_any log hf hl v w hv hg
  have CN := fun w => named_any q hq w
  have hE := ent_rvalid
  cases hvg : validG log with
  | false =>
    rw [hvg] at CV
    clear hv hg hvg
    go_enter Tryz.func35, Tryz.ntmps35
    go_wp2_with ((with_reducible refine CV.mono ?_); rintro e w' ⟨rfl, hb⟩)
    go_ret
    exact ⟨ret_bool (by simp), by assumption⟩
  | true =>
    rw [hvg] at CV
    clear hv hg hvg
    go_enter Tryz.func35, Tryz.ntmps35
    go_wp2_with (first | ((with_reducible refine CV.mono ?_); rintro e w1 ⟨rfl, hb⟩) | ((with_reducible refine (CN _).mono ?_); rintro e w2 ⟨rfl, hb2⟩))
    go_ret
    exact ⟨ret_bool (by simp), below_to (by assumption) (Nat.le_refl _) (by assumption)⟩
end Go.Proofs.YtdiebacfbhjbdaaGreatDoor
