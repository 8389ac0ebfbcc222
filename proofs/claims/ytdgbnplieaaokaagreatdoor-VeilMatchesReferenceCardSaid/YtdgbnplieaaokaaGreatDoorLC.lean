/- Small facts for the laws' walks. -/
import Derived.Test.YtdgbnplieaaokaaGreatDoorV8
set_option linter.unusedVariables false
set_option linter.unusedSimpArgs false
namespace Go.Proofs.YtdgbnplieaaokaaGreatDoor
open Go.RowKit

theorem pt_neq (x y : Int) (w : World) : (binOp .neq 23 (.agg #[.int .i64 x, .int .i64 y]) (.agg #[.int .i64 x, .int .i64 y])).run Tryz.prog w = .ok (.bool false) w := by
  rw [run_neq_struct]
  go_simp
theorem pt_eql (x y : Int) (w : World) : (binOp .eql 23 (.agg #[.int .i64 x, .int .i64 y]) (.agg #[.int .i64 x, .int .i64 y])).run Tryz.prog w = .ok (.bool true) w := by
  rw [run_eql_struct]
  go_simp
theorem pt_eql_dec (x y u v : Int) (w : World) : (binOp .eql 23 (.agg #[.int .i64 x, .int .i64 y]) (.agg #[.int .i64 u, .int .i64 v])).run Tryz.prog w = .ok (.bool (decide (x = u ∧ y = v))) w := by
  rw [run_eql_struct]
  by_cases h1 : x = u
  · by_cases h2 : y = v
    · subst h1 h2; go_simp
    · have : (y == v) = false := by simpa using h2
      subst h1; go_simp; (try simp [h2])
  · have : (x == u) = false := by simpa using h1
    go_simp; (try simp [h1])
theorem pt_neq_dec (x y u v : Int) (w : World) : (binOp .neq 23 (.agg #[.int .i64 x, .int .i64 y]) (.agg #[.int .i64 u, .int .i64 v])).run Tryz.prog w = .ok (.bool (!decide (x = u ∧ y = v))) w := by
  rw [run_neq_struct]
  by_cases h1 : x = u
  · by_cases h2 : y = v
    · subst h1 h2; go_simp
    · have : (y == v) = false := by simpa using h2
      subst h1; go_simp; (try simp [h2])
  · have : (x == u) = false := by simpa using h1
    go_simp; (try simp [h1])
theorem short3 {a b c : List UInt8} (h : shortP [a, b, c] = true) : a.length ≤ 300 ∧ b.length ≤ 300 ∧ c.length ≤ 300 := by simpa [shortP] using h
theorem open_lock_key {key salt : List UInt8} {x y : Int} (h : canL salt x y = true) : openX key (lockP key salt x y) = x ∧ openY key (lockP key salt x y) = y ∧ openE key (lockP key salt x y) = 0 := by
  obtain ⟨a, b, c⟩ := lock_open (key := key) h
  unfold openX openY openE
  rw [a]
  exact ⟨b, c, rfl⟩
theorem lockE_can {salt : List UInt8} {x y : Int} (h : canL salt x y = true) : lockE salt x y = 0 := by unfold lockE; rw [h]; rfl
theorem lock_not {key salt : List UInt8} {x y : Int} (h : canL salt x y = false) : lockE salt x y = 1 ∧ lockP key salt x y = [] := by unfold lockE lockP; rw [h]; simp
theorem lock_len {key salt : List UInt8} {x y : Int} (h : canL salt x y = true) : (lockP key salt x y).length = 42 := (lock_parts h).2.2.2
theorem open_good {key t : List UInt8} (h : goodV key t = true) : openX key t = xV key t ∧ openY key t = yV key t ∧ openE key t = 0 := by unfold openX openY openE; rw [h]; exact ⟨rfl, rfl, rfl⟩
theorem open_bad {key t : List UInt8} (h : goodV key t = false) : openX key t = 0 ∧ openY key t = 0 ∧ openE key t = if isV t then 15 else 1 := by unfold openX openY openE; rw [h]; exact ⟨rfl, rfl, rfl⟩
theorem good_len {key t : List UInt8} (h : goodV key t = true) : t.length = 42 ∧ onP (xV key t) (yV key t) = true := by
  unfold goodV at h
  simp only [Bool.and_eq_true] at h
  exact ⟨((isV_iff t).1 h.1).1, h.2.2⟩
end Go.Proofs.YtdgbnplieaaokaaGreatDoor
