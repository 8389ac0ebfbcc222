/- A client: New, Next, Items. -/
import Derived.Test.YtfhanbiifjiklaaGreatDoorC2
set_option linter.unusedVariables false
set_option linter.unusedSimpArgs false
namespace Go.Proofs.YtfhanbiifjiklaaGreatDoor
open Go.RowKit

/-- a client in memory: its block b, its items in a row of its own -/
structure CliAt (b : Nat) (root : List UInt8) (size : Int) (its : List (List UInt8)) (v : Value) (W : World) : Prop where
  blk : Blk W b 94 #[.string (bs root), .int .i64 size, v]
  own : W.ownsRow (b + 1) 9 1 v its.length (flatS its)
theorem CliAt.to {b : Nat} {root : List UInt8} {size : Int} {its : List (List UInt8)} {v : Value} {W W' : World} (h : CliAt b root size its v W) (hb : Below W.heap.size W W') : CliAt b root size its v W' := ⟨h.blk.to hb, ownsRow_to h.own hb⟩
theorem CliAt.texts {b : Nat} {root : List UInt8} {size : Int} {its : List (List UInt8)} {v : Value} {W : World} (h : CliAt b root size its v W) : TextsAt W v its := TextsAt.of_own h.own
theorem CliAt.lt {b : Nat} {root : List UInt8} {size : Int} {its : List (List UInt8)} {v : Value} {W : World} (h : CliAt b root size its v W) : ∀ g, v.ownBlock = some g → b + 1 ≤ g ∧ g < W.heap.size := World.ownsRow.lt h.own
def cliP (b : Nat) : Value := .pointer (some ⟨b, 0, none⟩)
def emptyR : List UInt8 := listD [emptyT]
def newB (root : List UInt8) (size : Int) : Bool := isD root && (decide (0 ≤ size) && (decide (size ≤ 10000) && !(decide (size = 0) && !decide (root = emptyR))))
def NewR (root : List UInt8) (size : Int) (w : World) (e : Ending) (w' : World) : Prop :=
  (if newB root size then ∃ b, e = .returned (.tuple #[cliP b, .int .i64 0]) ∧ w.heap.size ≤ b ∧ CliAt b root size [] (.slice none 0 0) w' else e = .returned (.tuple #[.pointer none, .int .i64 1])) ∧ Below w.heap.size w w'
set_option maxRecDepth 100000 in
set_option maxHeartbeats 2000000 in
theorem New_any (root : List UInt8) (hr : root.length ≤ 100000) (size : Int) (w : World) (hg : Glob w) :
    Calls Tryz.prog 21 #[.string (bs root), .int .i64 size] w (NewR root size w) := by
  have CR : Calls Tryz.prog 45 #[.slice none 0 0] w fun e w' => e = .returned (.tuple #[.string (bs emptyR), .int .i64 0]) ∧ Below w.heap.size w w' := by
    have := tRoot_any [] (by simp) (by simp) (.slice none 0 0) w (TextsAt.nil w) hg
    exact this
  have CI := fun w' : World => Is_any root (by omega) w'
  have HE := emptyR.length
  unfold NewR
  have hnb : newB root size = !(!isD root || (decide (size < 0) || (decide (10000 < size) || (decide (size = 0) && !decide (root = emptyR))))) := by
    unfold newB
    generalize isD root = x
    generalize decide (root = emptyR) = y
    rw [show decide (0 ≤ size) = !decide (size < 0) by rw [← decide_not]; exact decide_eq_decide.2 (by omega), show decide (size ≤ 10000) = !decide (10000 < size) by rw [← decide_not]; exact decide_eq_decide.2 (by omega)]
    cases x <;> cases y <;> simp
  rw [hnb]
  clear hnb HE hg
  have h0 : (size == 0) = decide (size = 0) := rfl
  obtain ⟨b0, c0⟩ : ∃ b, isD root = !b := ⟨!isD root, by simp⟩
  rw [c0] at CI
  rw [c0, Bool.not_not]
  clear c0
  generalize c1 : decide (size < 0) = b1 at *
  generalize c2 : decide (10000 < size) = b2 at *
  generalize c3 : decide (size = 0) = b3 at *
  obtain ⟨b4, c4⟩ : ∃ b, ((bs root).toList == (bs emptyR).toList) = !b := ⟨!((bs root).toList == (bs emptyR).toList), by simp⟩
  have c5 : (!decide (root = emptyR)) = b4 := by
    rw [bs_toList, bs_toList] at c4
    rw [← Bool.not_not b4, ← c4]
    congr 1
    rw [Bool.eq_iff_iff]; simp
  rw [c5]
  generalize emptyR = ER at *
  clear c5
  cases b0
  cases b1
  cases b2
  cases b3
  rotate_left
  cases b4
  all_goals (try simp only [Bool.not_false, Bool.not_true] at CI c4)
  all_goals
    go_enter Tryz.func21, Tryz.ntmps21
    go_wp2_with fail
    refine CR.mono ?_
    rintro e w2 ⟨rfl, hb2⟩
    have HB := hide hb2
    clear hb2 CR
    go_wp2_with ((with_reducible refine (CI _).mono ?_); rintro e w3 ⟨rfl, hb3⟩; have HB3 := hide hb3; clear hb3)
    go_ret2
    first
      | exact ⟨rfl, below_to HB.out (Nat.le_refl _) HB3.out⟩
      | exact ⟨⟨w3.heap.size, rfl, Nat.le_trans HB.out.size HB3.out.size, Blk.new _ _ _, World.ownsRow_nil _ _ _ _⟩, below_alloc (below_to HB.out (Nat.le_refl _) HB3.out) (Nat.le_refl _) _⟩
def ItemsR (its : List (List UInt8)) (w : World) (e : Ending) (w' : World) : Prop := ∃ v', e = .returned v' ∧ OwnT w' w.heap.size v' its ∧ Below w.heap.size w w'
set_option maxRecDepth 100000 in
set_option maxHeartbeats 1000000 in
theorem Items_any (b : Nat) (root : List UInt8) (size : Int) (its : List (List UInt8)) (hl : its.length ≤ 1000000000) (v : Value) (w : World) (h : CliAt b root size its v w) :
    Calls Tryz.prog 26 #[cliP b] w (ItemsR its w) := by
  have CC := Clone_any its hl v w h.texts
  unfold CloneR at CC
  obtain ⟨A, c, rfl⟩ := own_sl4 h.own
  have x2 := (h.blk.cell 2).trans (show _ = some (Value.slice A its.length c) from rfl)
  unfold cliP
  clear h
  go_enter Tryz.func26, Tryz.ntmps26
  go_wp2_with fail
  refine CC.mono ?_
  rintro e w2 ⟨v', rfl, ho, hb⟩
  go_wp2_with fail
  go_ret
  exact ⟨v', rfl, ho, hb⟩
set_option maxRecDepth 100000 in
set_option maxHeartbeats 1000000 in
theorem Next_any (b : Nat) (root : List UInt8) (size : Int) (its : List (List UInt8)) (hl : its.length ≤ 1000000000) (v : Value) (w : World) (h : CliAt b root size its v w) :
    Calls Tryz.prog 23 #[cliP b] w fun e w' => e = .returned (.int .i64 (its.length : Int)) ∧ Below w.heap.size w w' := by
  have CI := Items_any b root size its hl v w h
  unfold ItemsR at CI
  clear h
  go_enter Tryz.func23, Tryz.ntmps23
  go_wp2_with fail
  refine CI.mono ?_
  rintro e w2 ⟨v', rfl, ho, hb⟩
  obtain ⟨A, c, rfl⟩ := own_sl4 ho
  go_wp2_with fail
  go_ret
  exact ⟨rfl, hb⟩
set_option maxHeartbeats 1000000 in
theorem Items_none (w : World) : Calls Tryz.prog 26 #[.pointer none] w fun e w' => e = .returned (.slice none 0 0) ∧ w' = w := by
  go_enter Tryz.func26, Tryz.ntmps26
  go_wp2_with fail
  go_ret
  exact ⟨rfl, rfl⟩
end Go.Proofs.YtfhanbiifjiklaaGreatDoor
