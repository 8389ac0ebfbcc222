/- Walks of package label: symbols, open, text. -/
import Derived.Test.YtldicibhfmnjnaaGreatDoorC1
import Derived.Test.YtldicibhfmnjnaaGreatDoorBs
import Derived.Test.YtldicibhfmnjnaaGreatDoorLaws
import Derived.Test.YtldicibhfmnjnaaGreatDoorBu
import Derived.Test.YtldicibhfmnjnaaGreatDoorShelf
import Derived.Great.Walk
set_option linter.unusedVariables false
set_option linter.unusedSimpArgs false
namespace Go.Proofs.YtldicibhfmnjnaaGreatDoor
open Go.RowKit

theorem symbols_any (w : World) : Calls Tryz.prog 24 #[] w fun e w' => e = .returned (.string (bs symT)) ∧ w = w' := by
  go_enter Tryz.func24, Tryz.ntmps24
  go_wp2_with fail
  go_ret
  exact ⟨rfl, rfl⟩
/-! the table -/
def tabC (k : Nat) : Array Value := ((List.range 256).map fun c => Value.int .i64 (if c < k then symV (UInt8.ofNat c) else 0)).toArray
def labT : Array Value := tabC 256
theorem tabC_size (k : Nat) : (tabC k).size = 256 := by simp [tabC]
theorem tabC_at (k c : Nat) (h : c < 256) : (tabC k)[c]? = some (.int .i64 (if c < k then symV (UInt8.ofNat c) else 0)) := by
  unfold tabC
  simp [h]
theorem tabC_succ (k : Nat) (h : k < 256) : (tabC k).setIfInBounds k (.int .i64 (symV (UInt8.ofNat k))) = tabC (k + 1) := by
  apply Array.ext_getElem?
  intro i
  rcases Nat.lt_or_ge i 256 with hi | hi
  · rw [tabC_at (k + 1) i hi]
    rcases Nat.decEq i k with hik | hik
    · rw [Array.getElem?_setIfInBounds_ne (Ne.symm hik), tabC_at k i hi]
      have : (i < k + 1) ↔ (i < k) := by omega
      simp [this]
    · subst hik
      rw [Array.getElem?_setIfInBounds_self_of_lt (by rw [tabC_size]; exact h)]
      simp
  · rw [Array.getElem?_eq_none (by simp [tabC_size]; exact hi), Array.getElem?_eq_none (by simp [tabC_size]; exact hi)]
theorem labT_at (c : UInt8) : labT[c.toNat]? = some (.int .i64 (symV c)) := by
  have h := c.toNat_lt
  unfold labT
  rw [tabC_at 256 c.toNat h, if_pos h, UInt8.ofNat_toNat]
theorem symV_index : ∀ k : Nat, k < 256 → Lib.indexByte symT (UInt8.ofNat k) = symV (UInt8.ofNat k) := by decide +kernel
theorem labT_one : ∀ v ∈ labT.toList, v.oneCell' = true := by
  intro v hv
  unfold labT tabC at hv
  simp only [List.mem_map] at hv
  obtain ⟨c, _, rfl⟩ := hv
  rfl
theorem splice_all {old cs : Array Value} (h : cs.size = old.size) : splice old 0 cs = cs := by
  unfold splice
  rw [Nat.zero_add, List.take_zero, List.nil_append, h]
  rw [show old.size = old.toList.length from rfl, List.drop_length, List.append_nil]
def OpI (w1 wr : World) (b0 b1 : Nat) (i : Value) : Prop := ∃ k : Nat, k ≤ 256 ∧ i = .int .i64 (k : Int) ∧ Blk wr b1 83 (tabC k) ∧ Blk wr b0 83 (tabC 0) ∧ Below w1.heap.size w1 wr
set_option maxRecDepth 100000 in
set_option maxHeartbeats 4000000 in
theorem open_any (w : World) : Calls Tryz.prog 57 #[] w fun e w' => e = .returned (.agg labT) ∧ Below w.heap.size w w' := by
  have H0 := hide ((Blk.new w 83 (tabC 0)).alloc (.cells (tabC 0) 83))
  have H1 : Hid (Blk ((w.alloc (.cells (tabC 0) 83)).alloc (.cells (tabC 0) 83)) (w.heap.size + 1) 83 (tabC 0)) := by have := Blk.new (w.alloc (.cells (tabC 0) 83)) 83 (tabC 0); show Blk _ _ _ _; simpa using this
  have HB := hide (below_two w (.cells (tabC 0) 83) (.cells (tabC 0) 83))
  go_enter Tryz.func57, Tryz.ntmps57
  go_wp2_with fail
  rw [show Tryz.zeroCells83 = tabC 0 by kernel_rfl]
  generalize hw1 : (w.alloc (.cells (tabC 0) 83)).alloc (.cells (tabC 0) 83) = w1 at *
  clear hw1
  obtain ⟨b1, hb1⟩ : ∃ b1, Hid (w.heap.size + 1 = b1) := ⟨_, rfl⟩
  rw [hb1.out] at H1 ⊢
  obtain ⟨b0, hb0⟩ : ∃ b0, Hid (w.heap.size = b0) := ⟨_, rfl⟩
  rw [hb0.out] at H0 HB ⊢
  go_loopw [2, 3] (fun _ i wr => OpI w wr b0 b1 i) (fun _ i _ => 256 - (intOf i).toNat)
  case atStart => exact ⟨0, by omega, rfl, H1.out, H0.out, by rw [hb0.out]; exact HB.out⟩
  case round =>
    obtain ⟨k, hk, rfl, hB1, hB0, hB⟩ := hrel
    have HB1 := hide hB1
    have HB0 := hide hB0
    have HBB := hide hB
    clear hB1 hB0 hB
    by_cases hlt : k < 256
    · have e1 : decide ((k : Int) < 256) = true := by simp; omega
      have ck := (HB1.out.cell k).trans (tabC_at k k hlt)
      have cf := HB1.out.frozen k
      have CX := fun w => (Tryz.strings_IndexByte (bs symT) (k : Int) w)
      have hv : Lib.indexByte (bs symT).data.toList ((k : Int).toNat.toUInt8) = symV (UInt8.ofNat k) := by rw [bs_list]; exact symV_index k hlt
      rw [hv] at CX
      clear hv
      go_wp2_with (first | ((with_reducible refine (symbols_any _).mono ?_); rintro e w' ⟨rfl, rfl⟩) | ((with_reducible refine (CX _).mono ?_); rintro e w' ⟨rfl, rfl⟩))
      refine ⟨⟨k + 1, by omega, by go_num, ?_, HB0.out.far (p := ⟨b1, k, none⟩) (by have h0 := hb0.out; have h1 := hb1.out; show b0 ≠ b1; omega) _, HBB.out.setCell (by have h1 := hb1.out; show _ ≤ b1; omega) _⟩, ?_⟩
      · have := HB1.out.set_ k (.int .i64 (symV (UInt8.ofNat k)))
        rw [tabC_succ k hlt] at this
        exact this
      · simp [intOf]; omega
    · obtain rfl : k = 256 := by omega
      have e1 : decide (((256 : Nat) : Int) < 256) = false := by decide
      have hi : (Tryz.prog.info? 83).map (·.size) = some labT.size := by rw [show labT.size = 256 from tabC_size 256]; kernel_rfl
      have hB1 : Blk wr b1 83 labT := HB1.out
      have hs0 : 0 + labT.size ≤ (tabC 0).size := by rw [show labT.size = 256 from tabC_size 256, tabC_size]; decide
      go_wp2_with (first | ((with_reducible show wpList _ _ _ (Oper.mk _ (Op.load 83 _) _ _ _ _ :: _) _ _); refine wpList_load_all rfl 83 (.tmp 1) rfl b1 rfl 83 labT _ hB1 Tryz.underlying83 rfl hi ?_) | ((with_reducible show wpList _ _ _ (Oper.mk _ (Op.store 83 _ _) _ _ _ _ :: _) _ _); refine wpList_store_part rfl 83 (.tmp 0) (.tmp 13) rfl b0 0 labT rfl rfl 83 (tabC 0) HB0.out hi hs0 labT_one ?_; intro w2 ho hb2))
      rw [splice_all (by rw [show labT.size = 256 from tabC_size 256, tabC_size])] at hb2
      refine bodyPost_ret (results_cell_blk rfl _ _ b0 83 labT _ rfl hb2 Tryz.underlying83 rfl hi) rfl ⟨rfl, ?_⟩
      exact Only.below HBB.out ho HBB.out.size (by have h0 := hb0.out; omega)
end Go.Proofs.YtldicibhfmnjnaaGreatDoor
