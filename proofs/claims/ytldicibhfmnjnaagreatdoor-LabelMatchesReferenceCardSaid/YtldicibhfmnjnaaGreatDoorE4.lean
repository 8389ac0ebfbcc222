/- Walk of chapter 46: LabelWrong. -/
import Derived.Test.YtldicibhfmnjnaaGreatDoorE2
set_option linter.unusedVariables false
set_option linter.unusedSimpArgs false
namespace Go.Proofs.YtldicibhfmnjnaaGreatDoor
open Go.RowKit
theorem symT_w (k : Nat) (h : k < 37) : ∃ d, symT[k]? = some d ∧ isSym d = true :=
  ⟨symT[k]'(by have : symT.length = 37 := by decide
               omega), List.getElem?_eq_getElem _, by
    have : ∀ j (hj : j < symT.length), isSym (symT[j]'hj) = true := by decide +kernel
    exact this k _⟩
theorem u8_beq {a b : UInt8} (h : a ≠ b) : ((a.toNat : Int) == (b.toNat : Int)) = false := by
  rw [beq_eq_false_iff_ne]
  intro h'
  exact h (UInt8.toNat_inj.1 (by omega))
theorem u8_bne {a b : UInt8} (h : a ≠ b) : ((a.toNat : Int) != (b.toNat : Int)) = true := by
  rw [bne_iff_ne]
  intro h'
  exact h (UInt8.toNat_inj.1 (by omega))
set_option maxRecDepth 100000 in
set_option maxHeartbeats 4000000 in
theorem wrong_any (p : List UInt8) (hp : p.length ≤ 1099511627776) (a b c : Nat) (ha : a < 256) (hb : b < 256) (hc : c < 256) (w : World) (hg : Glob w) : Calls Tryz.prog 6 #[.string (bs p), .int .u8 (a : Int), .int .u8 (b : Int), .int .u8 (c : Int)] w fun e w' => e = .returned (.bool true) ∧ Below w.heap.size w w' := by
  have CH := head_any w hg
  have hz : (bs p).size = p.length := bs_size p
  have hbe : (bs []).toList.isEmpty = true := by rw [bs_toList]; rfl
  have CW := fun w => Write_any p hp w
  cases hcan : canW p with
  | false =>
    rw [(write_no hcan).1, (write_no hcan).2] at CW
    clear hcan
    go_enter Tryz.func6, Tryz.ntmps6
    go_wp2_with fail
    refine CH.mono ?_
    rintro e w0 ⟨rfl, hb⟩
    have HB0 := hide hb
    clear hb CH hg
    go_wp2_with fail
    refine (CW _).mono ?_
    rintro e w1 ⟨rfl, hb⟩
    have HB1 := hide (below_to HB0.out (Nat.le_refl _) hb)
    clear hb CW HB0
    go_wp2_with fail
    go_ret
    exact ⟨rfl, HB1.out⟩
  | true =>
    rw [(write_ok hcan).1, (write_ok hcan).2] at CW
    have hn : p.length ≤ 34 := by have hc := hcan; unfold canW at hc; simp at hc; omega
    have hzs : (bs (prt p)).size = p.length + 2 := by rw [bs_size, prt_len]
    have HCAN := hide hcan
    clear hcan
    go_enter Tryz.func6, Tryz.ntmps6
    go_wp2_with fail
    refine CH.mono ?_
    rintro e w0 ⟨rfl, hb⟩
    have HB0 := hide hb
    clear hb CH hg
    go_wp2_with fail
    refine (CW _).mono ?_
    rintro e w1 ⟨rfl, hb⟩
    have HB1 := hide (below_to HB0.out (Nat.le_refl _) hb)
    clear hb CW HB0
    go_wp2_with fail
    go_quiet (fail)
    obtain ⟨i, hi⟩ : ∃ i, a % (p.length + 2) = i := ⟨_, rfl⟩
    obtain ⟨j, hj⟩ : ∃ j, b % (p.length + 2) = j := ⟨_, rfl⟩
    have il : i < (prt p).length := by rw [prt_len, ← hi]; exact Nat.mod_lt _ (by omega)
    have jl : j < (prt p).length := by rw [prt_len, ← hj]; exact Nat.mod_lt _ (by omega)
    have hi' : (a : Int) % ((p.length : Int) + 2) = (i : Int) := by rw [← hi, Int.natCast_emod]; rfl
    have hj' : (b : Int) % ((p.length : Int) + 2) = (j : Int) := by rw [← hj, Int.natCast_emod]; rfl
    rw [hi', hj']
    have pl : (prt p).length ≤ 36 := by rw [prt_len]; omega
    clear hi hj hi' hj' hzs
    obtain ⟨k, hk⟩ : ∃ k, c % 37 = k := ⟨_, rfl⟩
    have hk' : (c : Int) % 37 = (k : Int) := by rw [← hk, Int.natCast_emod]; rfl
    have kl : k < 37 := by omega
    obtain ⟨d, hd, hds⟩ := symT_w k kl
    have cs : ∀ w, (Instr.index 9 (.string ⟨#[48, 49, 50, 51, 52, 53, 54, 55, 56, 57, 97, 98, 99, 100, 101, 102, 103, 104, 105, 106, 107, 108, 109, 110, 111, 112, 113, 114, 115, 116, 117, 118, 119, 120, 121, 122, 45]⟩) (.int .i64 (k : Int))).run Tryz.prog w = .ok (.int .u8 (d.toNat : Int)) w := index_bs symT k d hd
    obtain ⟨x, hx⟩ : ∃ x, (prt p)[i]? = some x := ⟨_, List.getElem?_eq_getElem il⟩
    obtain ⟨y, hy⟩ : ∃ y, (prt p)[j]? = some y := ⟨_, List.getElem?_eq_getElem jl⟩
    have cx := index_bs (prt p) i x hx
    have cy := index_bs (prt p) j y hy
    have HX := hide hx
    have HY := hide hy
    have HDS := hide hds
    clear hx hy hds hd hk
    have W1 : ∀ w, Calls Tryz.prog 20 #[.string (bs (prt p)), .int .i64 (i : Int), .int .u8 (d.toNat : Int)] w fun e w' => e = .returned (.string (bs ((prt p).set i d))) ∧ Below w.heap.size w w' := fun w => with_any (prt p) i d il (by omega) w
    have W2 : ∀ w, Calls Tryz.prog 20 #[.string (bs (prt p)), .int .i64 (i : Int), .int .u8 (y.toNat : Int)] w fun e w' => e = .returned (.string (bs ((prt p).set i y))) ∧ Below w.heap.size w w' := fun w => with_any (prt p) i y il (by omega) w
    have W3 : ∀ w, Calls Tryz.prog 20 #[.string (bs ((prt p).set i y)), .int .i64 (j : Int), .int .u8 (x.toNat : Int)] w fun e w' => e = .returned (.string (bs (((prt p).set i y).set j x))) ∧ Below w.heap.size w w' := fun w => with_any ((prt p).set i y) j x (by simpa using jl) (by simp; omega) w
    have R1 := fun w => Read_any ((prt p).set i d) (by simp; omega) w
    have R2 := fun w => Read_any (((prt p).set i y).set j x) (by simp; omega) w
    have HD : Hid (d ≠ x → readE ((prt p).set i d) = 20 ∧ readP ((prt p).set i d) = []) := fun h => wr_ne HCAN.out i il HDS.out (by rw [HX.out]; intro h'; exact h (Option.some.inj h').symm)
    have HE : Hid (d = x → readE ((prt p).set i d) = 0 ∧ readP ((prt p).set i d) = p) := fun h => by subst h; rw [set_same HX.out]; exact read_prt HCAN.out
    have HF : Hid (x ≠ y → readE (((prt p).set i y).set j x) = 20 ∧ readP (((prt p).set i y).set j x) = []) := fun h => ex_ne HCAN.out i j HX.out HY.out h
    have HG : Hid (x = y → readE (((prt p).set i y).set j x) = 0 ∧ readP (((prt p).set i y).set j x) = p) := fun h => by subst h; rw [ex_eq i j HX.out HY.out]; exact read_prt HCAN.out
    clear il jl pl hn hz kl HX HY HDS HCAN
    generalize readE (((prt p).set i y).set j x) = E2 at *
    generalize readP (((prt p).set i y).set j x) = P2 at *
    generalize readE ((prt p).set i d) = E1 at *
    generalize readP ((prt p).set i d) = P1 at *
    generalize bs (((prt p).set i y).set j x) = S3 at *
    generalize bs ((prt p).set i y) = S2 at *
    generalize bs ((prt p).set i d) = S1 at *
    generalize bs (prt p) = S0 at *
    have HB2 : Hid (Below w.heap.size w (w1.drewN nq)) := below_drewN HB1.out nq
    clear HB1
    generalize w1.drewN nq = w2 at *
    obtain ⟨U, hU, g, u0, rfl, hgu, hi⟩ := cls w2
    have C1 := cls_call hgu hi (fun w _ => W1 w)
    have C2 := cls_call hgu hi (fun w _ => W2 w)
    have C3 := cls_call hgu hi (fun w _ => W3 w)
    have D1 := cls_call hgu hi (fun w _ => R1 w)
    have D2 := cls_call hgu hi (fun w _ => R2 w)
    have HGU := hide hgu
    clear W1 W2 W3 R1 R2
    by_cases h1 : d = x
    · obtain ⟨rfl, rfl⟩ := HE.out h1
      subst h1
      clear HD HE
      by_cases h2 : d = y
      · obtain ⟨rfl, rfl⟩ := HG.out h2
        subst h2
        clear HF HG
        go_wp2_with fail
        go_wp2_with (first | ((with_reducible refine (C1 _).mono ?_); rintro e w' ⟨rfl, u, rfl⟩) | ((with_reducible refine (D1 _).mono ?_); rintro e w' ⟨rfl, u, rfl⟩))
        refine wp_region_class g (by kernel_rfl) (by kernel_rfl) (hi _ (HGU.out _).drew) ?_
        repeat (go_big_quiet_step (first | with_reducible exact C2 _ | with_reducible exact C3 _ | with_reducible exact D2 _))
        refine wpQuiet_nil ?_
        intro w4 hw4
        obtain ⟨u, rfl⟩ := hw4
        go_wp2_with fail
        refine wp_region_class g (by kernel_rfl) (by kernel_rfl) (hi _ (HGU.out _).drew) ?_
        repeat (go_big_quiet_step (fail))
        refine wpQuiet_nil ?_
        intro w5 hw5
        obtain ⟨u, rfl⟩ := hw5
        go_wp2_with fail
        go_ret
        exact ⟨rfl, below_to HB2.out (Nat.le_refl _) (HGU.out _)⟩
      · obtain ⟨rfl, rfl⟩ := HF.out h2
        have e3 := u8_beq h2
        have e4 := u8_bne h2
        clear h2
        clear HF HG
        go_wp2_with fail
        go_wp2_with (first | ((with_reducible refine (C1 _).mono ?_); rintro e w' ⟨rfl, u, rfl⟩) | ((with_reducible refine (D1 _).mono ?_); rintro e w' ⟨rfl, u, rfl⟩))
        refine wp_region_class g (by kernel_rfl) (by kernel_rfl) (hi _ (HGU.out _).drew) ?_
        repeat (go_big_quiet_step (first | with_reducible exact C2 _ | with_reducible exact C3 _ | with_reducible exact D2 _))
        refine wpQuiet_nil ?_
        intro w4 hw4
        obtain ⟨u, rfl⟩ := hw4
        go_wp2_with fail
        refine wp_region_class g (by kernel_rfl) (by kernel_rfl) (hi _ (HGU.out _).drew) ?_
        repeat (go_big_quiet_step (fail))
        refine wpQuiet_nil ?_
        intro w5 hw5
        obtain ⟨u, rfl⟩ := hw5
        go_wp2_with fail
        go_ret
        exact ⟨rfl, below_to HB2.out (Nat.le_refl _) (HGU.out _)⟩
    · obtain ⟨rfl, rfl⟩ := HD.out h1
      have e1 := u8_beq h1
      have e2 := u8_bne h1
      clear h1
      clear HD HE
      by_cases h2 : x = y
      · obtain ⟨rfl, rfl⟩ := HG.out h2
        subst h2
        clear HF HG
        go_wp2_with fail
        go_wp2_with (first | ((with_reducible refine (C1 _).mono ?_); rintro e w' ⟨rfl, u, rfl⟩) | ((with_reducible refine (D1 _).mono ?_); rintro e w' ⟨rfl, u, rfl⟩))
        refine wp_region_class g (by kernel_rfl) (by kernel_rfl) (hi _ (HGU.out _).drew) ?_
        repeat (go_big_quiet_step (first | with_reducible exact C2 _ | with_reducible exact C3 _ | with_reducible exact D2 _))
        refine wpQuiet_nil ?_
        intro w4 hw4
        obtain ⟨u, rfl⟩ := hw4
        go_wp2_with fail
        refine wp_region_class g (by kernel_rfl) (by kernel_rfl) (hi _ (HGU.out _).drew) ?_
        repeat (go_big_quiet_step (fail))
        refine wpQuiet_nil ?_
        intro w5 hw5
        obtain ⟨u, rfl⟩ := hw5
        go_wp2_with fail
        go_ret
        exact ⟨rfl, below_to HB2.out (Nat.le_refl _) (HGU.out _)⟩
      · obtain ⟨rfl, rfl⟩ := HF.out h2
        have e3 := u8_beq h2
        have e4 := u8_bne h2
        clear h2
        clear HF HG
        go_wp2_with fail
        go_wp2_with (first | ((with_reducible refine (C1 _).mono ?_); rintro e w' ⟨rfl, u, rfl⟩) | ((with_reducible refine (D1 _).mono ?_); rintro e w' ⟨rfl, u, rfl⟩))
        refine wp_region_class g (by kernel_rfl) (by kernel_rfl) (hi _ (HGU.out _).drew) ?_
        repeat (go_big_quiet_step (first | with_reducible exact C2 _ | with_reducible exact C3 _ | with_reducible exact D2 _))
        refine wpQuiet_nil ?_
        intro w4 hw4
        obtain ⟨u, rfl⟩ := hw4
        go_wp2_with fail
        refine wp_region_class g (by kernel_rfl) (by kernel_rfl) (hi _ (HGU.out _).drew) ?_
        repeat (go_big_quiet_step (fail))
        refine wpQuiet_nil ?_
        intro w5 hw5
        obtain ⟨u, rfl⟩ := hw5
        go_wp2_with fail
        go_ret
        exact ⟨rfl, below_to HB2.out (Nat.le_refl _) (HGU.out _)⟩
end Go.Proofs.YtldicibhfmnjnaaGreatDoor
