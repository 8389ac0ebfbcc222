/- Walks of package number: parts, place, letter, Valid, Odd. -/
import Derived.Test.YtabphhclnboknaaDoorLaws
import Derived.Test.YtabphhclnboknaaDoorN3
set_option linter.unusedVariables false
set_option linter.unusedSimpArgs false
namespace Go.Proofs.YtabphhclnboknaaDoor
open Go.RowKit

def pairCells (l : List (Int × Int)) : List Value := l.flatMap fun p => [.int .i64 p.1, .int .i64 p.2]
def partsA : Array Value := (pairCells partL).toArray
def zero56 : Array Value := (List.replicate 56 (Value.int .i64 0)).toArray
theorem partsA_one : ∀ v ∈ partsA.toList, v.oneCell' = true := by decide +kernel
theorem splice_all {old cs : Array Value} (h : old.size = cs.size) : splice old 0 cs = cs := by
  unfold splice
  have e : old.toList.drop (0 + cs.size) = [] := List.drop_eq_nil_of_le (by simp [h])
  rw [e]; simp

set_option maxHeartbeats 2000000 in
set_option maxRecDepth 100000 in
theorem parts_any (w : World) : Calls Tryd.prog 48 #[] w fun e w' => e = .returned (.agg partsA) ∧ Below w.heap.size w w' := by
  go_enter Tryd.func48, Tryd.ntmps48
  go_wp2_with ((with_reducible show wpList _ _ _ (Oper.mk _ (Op.store 66 (.tmp 0) (.tmp 29)) _ _ _ _ :: _) _ _); refine wpList_store_part rfl 66 (.tmp 0) (.tmp 29) rfl w.heap.size 0 partsA rfl rfl 66 _ (Blk.new _ _ _) (by kernel_rfl) (Nat.le_of_eq (by kernel_rfl)) partsA_one ?_; intro w1 ho hb; rw [splice_all (by kernel_rfl)] at hb; have HB := hide hb; have HO := hide (Only.below (B := w.heap.size) ((Below.refl _ w).alloc (Nat.le_refl _) _) ho (by simp) (Nat.le_refl _)); clear ho hb)
  exact bodyPost_ret (results_cell_blk rfl _ _ w.heap.size 66 _ _ rfl HB.out Tryd.underlying66 rfl (by kernel_rfl)) rfl ⟨rfl, HO.out⟩
end Go.Proofs.YtabphhclnboknaaDoor
