/- Walks of the reference of layer 49: Lock. -/
import Derived.Test.YtdgbnplieaaokaaGreatDoorH2
set_option linter.unusedVariables false
set_option linter.unusedSimpArgs false
namespace Go.Proofs.YtdgbnplieaaokaaGreatDoor
open Go.RowKit

theorem ret_seH {a b : ByteArray} {x y : Int} (h : a = b) (h' : x = y) : Ending.returned (.tuple #[.string a, .int .i64 x]) = .returned (.tuple #[.string b, .int .i64 y]) := by rw [h, h']
set_option maxRecDepth 100000 in
set_option maxHeartbeats 1000000 in
theorem rLock_any (key salt : List UInt8) (x y : Int) (hk : key.length ≤ 1000000000) (hs : salt.length ≤ 1000000000) (w : World) :
    Calls Tryz.prog 7 #[.string (bs key), .string (bs salt), .agg #[.int .i64 x, .int .i64 y]] w fun e w' => e = .returned (.tuple #[.string (bs (lockP key salt x y)), .int .i64 (lockE salt x y)]) ∧ Below w.heap.size w w' := by
  have HP := hide (Blk.new w 23 #[.int .i64 x, .int .i64 y])
  have HB := hide (below_one w (.cells #[.int .i64 x, .int .i64 y] 23))
  have HK := hide hk
  have HS := hide hs
  clear hk hs
  go_enter Tryz.func7, Tryz.ntmps7
  go_wp2_with fail
  generalize w.alloc (.cells #[.int .i64 x, .int .i64 y] 23) = w1 at *
  obtain ⟨X, HXe⟩ : ∃ X, Hid (w.heap.size = X) := ⟨_, rfl⟩
  rw [HXe.out] at HP ⊢
  obtain ⟨U, hU, g, u0, rfl, hgu, hi⟩ := cls w1
  have z0 := blk_all hgu HP.out 0 rfl
  have z1 := blk_all hgu HP.out 1 rfl
  have CI := cls_call hgu hi (fun w _ => (rIs_any salt (by have := HS.out; omega) w).mono fun e w' h => ⟨h.1, by rw [h.2]; exact Below.refl _ _⟩)
  have CO := cls_call hgu hi (fun w _ => rOn_any x y w)
  cases h1 : isD salt
  · have HV : Hid (lockP key salt x y = [] ∧ lockE salt x y = 1) := by show _ ∧ _; unfold lockP lockE canL; rw [h1]; simp
    rw [h1] at CI
    clear h1
    go_wp2_with (first | ((with_reducible refine (CI _).mono ?_); rintro e w' ⟨rfl, u, rfl⟩) | ((with_reducible refine (CO _).mono ?_); rintro e w' ⟨rfl, u, rfl⟩))
    go_ret2
    exact ⟨ret_seH (by rw [HV.out.1]; rfl) HV.out.2.symm, below_to HB.out (Nat.le_refl _) (hgu _)⟩
  cases h2 : onP x y
  · have HV : Hid (lockP key salt x y = [] ∧ lockE salt x y = 1) := by show _ ∧ _; unfold lockP lockE canL; rw [h1, h2]; simp
    rw [h1] at CI
    rw [h2] at CO
    clear h1 h2
    go_wp2_with (first | ((with_reducible refine (CI _).mono ?_); rintro e w' ⟨rfl, u, rfl⟩) | ((with_reducible refine (CO _).mono ?_); rintro e w' ⟨rfl, u, rfl⟩))
    go_ret2
    exact ⟨ret_seH (by rw [HV.out.1]; rfl) HV.out.2.symm, below_to HB.out (Nat.le_refl _) (hgu _)⟩
  have HV : Hid (lockP key salt x y = salt ++ hidP key salt x y ++ markP key salt (hidP key salt x y) ∧ lockE salt x y = 0) := by show _ ∧ _; unfold lockP lockE canL; rw [h1, h2]; simp
  have hsl := ((isD_iff _).1 h1).1
  obtain ⟨o1, o2, o3, o4⟩ := (onP_iff x y).1 h2
  obtain ⟨t1, t2⟩ := ten_dg h2
  obtain ⟨f1, f2, f3, f4⟩ := ten h2
  have hh := (hidP_spec key salt h2).1
  have CX := cls_call hgu hi (fun w hb => (rFive_any x.toNat f3 w).mono fun e w' h => ⟨h.1, by rw [h.2]; exact Below.refl _ _⟩)
  have CY := cls_call hgu hi (fun w hb => (rFive_any y.toNat f4 w).mono fun e w' h => ⟨h.1, by rw [h.2]; exact Below.refl _ _⟩)
  have CA := cls_call hgu hi (fun w hb => movedF_any key salt (fiveP x ++ fiveP y) HK.out HS.out t2 t1 w)
  rw [← f1, show ((x.toNat : Nat) : Int) = x by omega] at CX
  rw [← f2, show ((y.toNat : Nat) : Int) = y by omega] at CY
  rw [← bs_app, show applyP fwdD (maskP key salt) (fiveP x ++ fiveP y) = hidP key salt x y from rfl] at CA
  rw [h1] at CI
  rw [h2] at CO
  have s1 : (bs (fiveP x)).size ≤ 10 := by rw [bs_size, f1, dec5_len]; decide
  have s2 : (bs (fiveP y)).size ≤ 10 := by rw [bs_size, f2, dec5_len]; decide
  have s3 : (bs salt).size = 16 := by rw [bs_size, hsl]
  have s4 : (bs (hidP key salt x y)).size = 10 := by rw [bs_size, hh]
  have s5 : (bs (markP key salt (hidP key salt x y))).size = 16 := by rw [bs_size]; exact listD_len _
  have hj := join_len [markT, key, salt, hidP key salt x y] (fun x hx => by
    simp only [List.mem_cons, List.not_mem_nil, or_false] at hx
    rcases hx with rfl | rfl | rfl | rfl
    · decide
    · have := HK.out; omega
    · have := HS.out; omega
    · omega)
  have HJ : Hid ((joinD [markT, key, salt, hidP key salt x y]).length ≤ 140737488355328) := by
    show _ ≤ _
    refine Nat.le_trans hj ?_
    simp only [List.map_cons, List.map_nil, List.sum_cons, List.sum_nil, List.length_cons, List.length_nil]
    rw [show markT.length = 4 from rfl]
    have := HK.out; have := HS.out; omega
  have HL : Hid (lenS [markT, key, salt, hidP key salt x y] ≤ 100000000000) := by
    show _ ≤ _
    simp only [lenS, List.map_cons, List.map_nil, List.sum_cons, List.sum_nil]
    rw [show markT.length = 4 from rfl]
    have := HK.out; have := HS.out; omega
  have HMV : Hid (listD [markT, key, salt, hidP key salt x y] = markP key salt (hidP key salt x y)) := rfl
  clear h1 h2 hsl t1 t2 hh o1 o2 o3 o4 f1 f2 f3 f4 hj
  generalize markP key salt (hidP key salt x y) = mk at *
  generalize hidP key salt x y = hd at *
  generalize fiveP x = fx at *
  generalize fiveP y = fy at *
  have HGU := hide hgu
  have HHI := hide hi
  clear hgu hi
  go_wp2_with (first | ((with_reducible refine (CI _).mono ?_); rintro e w' ⟨rfl, u, rfl⟩) | ((with_reducible refine (CO _).mono ?_); rintro e w' ⟨rfl, u, rfl⟩))
  refine wp_region_class g (by kernel_rfl) (by kernel_rfl) (HHI.out _ (HGU.out _).drew) ?_
  repeat (go_big_quiet_step (first | with_reducible exact CX _ | with_reducible exact CY _ | with_reducible exact CA _))
  refine wpQuiet_nil ?_
  intro w5 hw5
  obtain ⟨u, rfl⟩ := hw5
  clear z0 z1
  go_wp2_with fail
  have HR := hide (rows_newS (g u) 9 [markT, key, salt, hd] #[.string ⟨#[109, 97, 114, 107]⟩, .string (bs key), .string (bs salt), .string (bs hd)] rfl 4 rfl)
  have HB6 := hide (below_alloc (below_to HB.out (Nat.le_refl _) (HGU.out u)) (Nat.le_refl _) (.cells #[.string ⟨#[109, 97, 114, 107]⟩, .string (bs key), .string (bs salt), .string (bs hd)] 9))
  have CL := rList_any [markT, key, salt, hd] (by show 4 ≤ _; decide) HL.out HJ.out (.slice (some ⟨(g u).heap.size, 0, none⟩) 4 4) _ HR.out
  rw [HMV.out] at CL
  clear CI CO CX CY CA
  refine CL.mono ?_
  rintro e w7 ⟨rfl, hb⟩
  have HB7 := hide (below_to HB6.out (Nat.le_refl _) hb)
  clear hb CL HB6 HR
  go_wp2_with fail
  go_ret2
  exact ⟨ret_seH (by rw [HV.out.1, ← bs_app, ← bs_app]) HV.out.2.symm, HB7.out⟩
end Go.Proofs.YtdgbnplieaaokaaGreatDoor
