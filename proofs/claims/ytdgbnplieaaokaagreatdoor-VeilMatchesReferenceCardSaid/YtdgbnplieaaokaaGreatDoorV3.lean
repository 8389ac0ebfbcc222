/- Walks of package veil: cut, the steps, Is. -/
import Derived.Test.YtdgbnplieaaokaaGreatDoorV2
set_option linter.unusedVariables false
set_option linter.unusedSimpArgs false
namespace Go.Proofs.YtdgbnplieaaokaaGreatDoor
open Go.RowKit

theorem splice_all {old cs : Array Value} (h : old.size = cs.size) : splice old 0 cs = cs := by
  unfold splice
  have e : old.toList.drop (0 + cs.size) = [] := List.drop_eq_nil_of_le (by simp [h])
  rw [e]; simp
def partsC (t : List UInt8) : Array Value := #[.string (bs (saltV t)), .string (bs (hidV t)), .string (bs (markV t))]
theorem bs_take (l : List UInt8) (k : Nat) (h : k ≤ l.length) : (bs l).extract 0 k = bs (l.take k) := by rw [bs_cut]; simp
set_option maxHeartbeats 2000000 in
theorem cut_any (t : List UInt8) (ht : t.length = 42) (w : World) : Calls Tryz.prog 24 #[.string (bs t)] w fun e w' => e = .returned (.agg (partsC t)) ∧ Below w.heap.size w w' := by
  have hsz : (bs t).size = 42 := by rw [bs_size, ht]
  have e1 : (bs t).extract 0 16 = bs (saltV t) := by rw [bs_cut]; rfl
  have e2 : (bs t).extract 16 26 = bs (hidV t) := by rw [bs_cut]; rfl
  have e3 : (bs t).extract 26 42 = bs (markV t) := by rw [bs_cut, List.take_of_length_le (by simp; omega)]; rfl
  have HZ := hide (Blk.new w 45 #[.string ⟨#[]⟩, .string ⟨#[]⟩, .string ⟨#[]⟩])
  have HB := hide (below_one w (.cells #[.string ⟨#[]⟩, .string ⟨#[]⟩, .string ⟨#[]⟩] 45))
  have HS : Hid (w.heap.size ≤ (w.alloc (.cells #[.string ⟨#[]⟩, .string ⟨#[]⟩, .string ⟨#[]⟩] 45)).heap.size) := by show _ ≤ _; simp
  clear ht
  go_enter Tryz.func24, Tryz.ntmps24
  go_wp2_with fail
  generalize w.alloc (.cells #[.string ⟨#[]⟩, .string ⟨#[]⟩, .string ⟨#[]⟩] 45) = w1 at *
  obtain ⟨B, HBe⟩ : ∃ B, Hid (w.heap.size = B) := ⟨_, rfl⟩
  rw [HBe.out] at HZ HS ⊢
  obtain ⟨U, hU, g, u0, rfl, hgu, hi⟩ := cls w1
  have z0 := fun u => (HZ.out.to (hgu u)).cell 0
  have z1 := fun u => (HZ.out.to (hgu u)).cell 1
  have z2 := fun u => (HZ.out.to (hgu u)).cell 2
  refine wp_region_class_tail g 7 (by kernel_rfl) (by kernel_rfl) (hi _ (hgu _).drew) ?_
  simp only [List.take_succ_cons, List.take_zero, List.drop_succ_cons, List.drop_zero]
  repeat (go_big_quiet_step (fail))
  refine wpQuiet_nil ?_
  intro w4 hw4
  obtain ⟨u, rfl⟩ := hw4
  refine wpList_store_part rfl 45 (.tmp 2) (.tmp 9) rfl B 0 (partsC t) rfl rfl 45 _ (HZ.out.to (hgu u)) (by kernel_rfl) (by show 0 + 3 ≤ 3; omega) (by intro v hv; simp [partsC] at hv; rcases hv with rfl | rfl | rfl <;> rfl) ?_
  intro w5 ho hb
  rw [splice_all (old := #[.string ⟨#[]⟩, .string ⟨#[]⟩, .string ⟨#[]⟩]) (cs := partsC t) rfl] at hb
  have HB5 := hide (Only.below (below_to HB.out (Nat.le_refl _) (hgu u)) ho (Nat.le_trans (Nat.le_trans (Nat.le_of_eq HBe.out) HS.out) (hgu u).size) (Nat.le_of_eq HBe.out))
  go_wp2_with fail
  exact bodyPost_ret (results_cell_blk rfl _ _ B 45 _ _ rfl hb Tryz.underlying45 rfl (by kernel_rfl)) rfl ⟨rfl, HB5.out⟩
def stepV (F : FuncId) : Value := .agg #[.func (.func F) #[] #[]]
set_option maxHeartbeats 2000000 in
theorem forwards_any (w : World) : Calls Tryz.prog 15 #[] w fun e w' => e = .returned (stepV 34) ∧ Below w.heap.size w w' := by
  go_enter Tryz.func15, Tryz.ntmps15
  go_wp2_with fail
  refine bodyPost_ret (results_cell_blk rfl _ _ w.heap.size 38 _ _ rfl (Blk.new w _ _) Tryz.underlying38 rfl (by kernel_rfl)) rfl ⟨rfl, below_one w _⟩
set_option maxHeartbeats 2000000 in
theorem backwards_any (w : World) : Calls Tryz.prog 25 #[] w fun e w' => e = .returned (stepV 41) ∧ Below w.heap.size w w' := by
  go_enter Tryz.func25, Tryz.ntmps25
  go_wp2_with fail
  refine bodyPost_ret (results_cell_blk rfl _ _ w.heap.size 38 _ _ rfl (Blk.new w _ _) Tryz.underlying38 rfl (by kernel_rfl)) rfl ⟨rfl, below_one w _⟩
theorem fwd_any (d m : Nat) (hd : d < 10) (hm : m < 16) (w : World) : Calls Tryz.prog 34 #[.int .i64 (d : Int), .int .i64 (m : Int)] w fun e w' => e = .returned (.int .i64 ((fwdD d m : Nat) : Int)) ∧ w = w' := by
  go_enter Tryz.func34, Tryz.ntmps34
  go_wp2_with fail
  go_ret
  exact ⟨ret_int (by unfold fwdD; omega), rfl⟩
theorem bwd_any (d m : Nat) (hd : d < 10) (hm : m < 16) (w : World) : Calls Tryz.prog 41 #[.int .i64 (d : Int), .int .i64 (m : Int)] w fun e w' => e = .returned (.int .i64 ((bwdD d m : Nat) : Int)) ∧ w = w' := by
  go_enter Tryz.func41, Tryz.ntmps41
  go_wp2_with fail
  go_ret
  exact ⟨ret_int (by unfold bwdD; omega), rfl⟩
def dgSet : List UInt8 := [48, 49, 50, 51, 52, 53, 54, 55, 56, 57]
theorem dgSet_nat : ∀ k : Nat, k < 256 → dgSet.contains (UInt8.ofNat k) = isDg (UInt8.ofNat k) := by decide +kernel
theorem dgSet_iff (c : UInt8) : c ∈ dgSet ↔ isDg c = true := by
  have := dgSet_nat c.toNat c.toNat_lt
  rw [UInt8.ofNat_toNat] at this
  rw [← this]; simp
theorem dgSet_ascii : ∀ c ∈ dgSet, c.toNat < 128 := by decide
theorem isV_parts (t : List UInt8) (h : t.length = 42) : isV t = (isD (saltV t) && (isD (markV t) && (hidV t).all isDg)) := by
  unfold isV saltV markV hidV; simp [h]
set_option maxHeartbeats 4000000 in
theorem vIs_any (t : List UInt8) (ht : t.length ≤ 9223372036854775807) (w : World) : Calls Tryz.prog 10 #[.string (bs t)] w fun e w' => e = .returned (.bool (isV t)) ∧ Below w.heap.size w w' := by
  have hsz : (bs t).size = t.length := bs_size t
  by_cases h42 : t.length = 42
  · have HV := hide (isV_parts t h42)
    have H42 := hide h42
    have h2 : (((t.length : Nat) : Int) != 42) = false := by simp; omega
    have h3 : (hidV t).length = 10 := by unfold hidV; simp; omega
    have h4 : (saltV t).length = 16 := by unfold saltV; simp; omega
    have h5 : (markV t).length = 16 := by unfold markV; simp; omega
    have HH := hide h3
    clear h42 h3
    go_enter Tryz.func10, Tryz.ntmps10
    go_wp2_with fail
    refine (cut_any t H42.out _).mono ?_
    rintro e w1 ⟨rfl, hb⟩
    have HB1 := hide hb
    clear hb ht hsz
    unfold partsC
    have C1 := fun w => Is_any (saltV t) (by omega) w
    have C2 := fun w => Is_any (markV t) (by omega) w
    obtain ⟨X, HX⟩ : ∃ X, Hid (Lib.trimS (hidV t) dgSet = X) := ⟨_, rfl⟩
    have HD : Hid ((hidV t).all isDg = X.isEmpty) := by
      show _ = _
      rw [Bool.eq_iff_iff, List.isEmpty_iff, ← HX.out, trimS_nil, List.all_eq_true]
      exact ⟨fun h c hc => (dgSet_iff c).2 (h c hc), fun h c hc => (dgSet_iff c).1 (h c hc)⟩
    have C3 := fun w => Tryz.strings_Trim_laid (bs (hidV t)) (bs dgSet) w (by rw [bs_size, HH.out]; decide) (by rw [bs_size]; decide) (fun j b h => dgSet_ascii b (by rw [bs_list] at h; exact List.mem_of_getElem? h))
    rw [bs_list, bs_list, HX.out, show bs dgSet = ⟨#[48, 49, 50, 51, 52, 53, 54, 55, 56, 57]⟩ from rfl] at C3
    rw [HD.out] at HV
    clear h4 h5 HD
    have e1 : (ByteArray.mk X.toArray).toList = X := bs_toList X
    generalize isD (saltV t) = p at *
    generalize isD (markV t) = q at *
    obtain ⟨S1, hS1⟩ : ∃ S, bs (saltV t) = S := ⟨_, rfl⟩
    obtain ⟨S2, hS2⟩ : ∃ S, bs (hidV t) = S := ⟨_, rfl⟩
    obtain ⟨S3, hS3⟩ : ∃ S, bs (markV t) = S := ⟨_, rfl⟩
    rw [hS1] at C1
    rw [hS3] at C2
    rw [hS2] at C3
    rw [hS1, hS2, hS3]
    clear hS1 hS2 hS3
    go_wp2_with fail
    have HB2 := hide (below_alloc HB1.out (Nat.le_refl _) (.cells #[.string S1, .string S2, .string S3] 45))
    have HP2 := hide (Blk.new w1 45 #[.string S1, .string S2, .string S3])
    clear HB1
    generalize w1.alloc (.cells #[.string S1, .string S2, .string S3] 45) = w2 at *
    generalize w1.heap.size = B at *
    obtain ⟨U, hU, g, u0, rfl, hgu, hi⟩ := cls w2
    have z0 := blk_all hgu HP2.out 0 rfl
    have z1 := blk_all hgu HP2.out 1 rfl
    have z2 := blk_all hgu HP2.out 2 rfl
    have D1 := cls_call hgu hi (fun w _ => C1 w)
    have D2 := cls_call hgu hi (fun w _ => C2 w)
    have D3 := cls_call hgu hi (fun w _ => C3 w)
    clear C1 C2 C3
    cases hX : X.isEmpty <;> cases p <;> cases q
    all_goals
      go_wp2_with (first | ((with_reducible refine (D1 _).mono ?_); rintro e w' ⟨rfl, u, rfl⟩) | ((with_reducible refine (D2 _).mono ?_); rintro e w' ⟨rfl, u, rfl⟩) | ((with_reducible refine (D3 _).mono ?_); rintro e w' ⟨rfl, u, rfl⟩))
      go_ret
      exact ⟨ret_bool (by rw [HV.out]; (try rw [hX]); rfl), below_to HB2.out (Nat.le_refl _) (hgu _)⟩
  · have h2 : (((t.length : Nat) : Int) != 42) = true := by simp; omega
    have HV : Hid (isV t = false) := by show _ = _; rw [← Bool.not_eq_true, isV_iff]; exact fun h => h42 h.1
    clear h42
    go_enter Tryz.func10, Tryz.ntmps10
    go_wp2_with fail
    go_ret
    exact ⟨ret_bool HV.out.symm, Below.refl _ _⟩
end Go.Proofs.YtdgbnplieaaokaaGreatDoor
