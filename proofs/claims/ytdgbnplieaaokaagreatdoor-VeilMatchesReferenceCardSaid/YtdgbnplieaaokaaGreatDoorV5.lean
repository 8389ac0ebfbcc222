/- Walks of package veil: Lock. -/
import Derived.Test.YtdgbnplieaaokaaGreatDoorV4
set_option linter.unusedVariables false
set_option linter.unusedSimpArgs false
namespace Go.Proofs.YtdgbnplieaaokaaGreatDoor
open Go.RowKit

theorem enters_fn {P : Program} {F : FuncId} {fn : Func} {c : Code} (hf : P.funcs[F]? = some fn) (hn : (fn.name == "runtime.NumGoroutine") = false) (hb : fn.body = some c) (args : Array Value) (w : World) : (callFunc F args).run P w = .ok (.enter F args) w := by
  have hn' : ¬ fn.name = "runtime.NumGoroutine" := by simpa using hn
  simp [callFunc, hf, hb, hn', mark]
theorem enters_fwd : ∀ args w, (callFunc 34 args).run Tryz.prog w = .ok (.enter 34 args) w := enters_fn Tryz.func34 (by kernel_rfl) rfl
theorem enters_bwd : ∀ args w, (callFunc 41 args).run Tryz.prog w = .ok (.enter 41 args) w := enters_fn Tryz.func41 (by kernel_rfl) rfl
theorem ret_se {a b : ByteArray} {x y : Int} (h : a = b) (h' : x = y) : Ending.returned (.tuple #[.string a, .int .i64 x]) = .returned (.tuple #[.string b, .int .i64 y]) := by rw [h, h']
set_option maxHeartbeats 4000000 in
theorem Lock_any (key salt : List UInt8) (x y : Int) (hk : key.length ≤ 140737488351232) (hs : salt.length ≤ 140737488351232) (w : World) (hg : Glob w) :
    Calls Tryz.prog 6 #[.string (bs key), .string (bs salt), pval x y] w fun e w' => e = .returned (.tuple #[.string (bs (lockP key salt x y)), .int .i64 (lockE salt x y)]) ∧ Below w.heap.size w w' := by
  have HP := hide (Blk.new w 23 #[.int .i64 x, .int .i64 y])
  have HB := hide (below_one w (.cells #[.int .i64 x, .int .i64 y] 23))
  have HG := hide (hg.alloc (.cells #[.int .i64 x, .int .i64 y] 23))
  have HK := hide hk
  have HS := hide hs
  clear hg hk hs
  go_enter Tryz.func6, Tryz.ntmps6
  unfold pval
  go_wp2_with fail
  generalize w.alloc (.cells #[.int .i64 x, .int .i64 y] 23) = w1 at *
  obtain ⟨X, HXe⟩ : ∃ X, Hid (w.heap.size = X) := ⟨_, rfl⟩
  rw [HXe.out] at HP ⊢
  obtain ⟨U, hU, g, u0, rfl, hgu, hi⟩ := cls w1
  have z0 := blk_all hgu HP.out 0 rfl
  have z1 := blk_all hgu HP.out 1 rfl
  have CI := cls_call hgu hi (fun w _ => Is_any salt (by have := HS.out; omega) w)
  have CO := cls_call hgu hi (fun w _ => On_any x y w)
  unfold pval at CO
  cases h1 : isD salt
  · have HV : Hid (lockP key salt x y = [] ∧ lockE salt x y = 1) := by show _ ∧ _; unfold lockP lockE canL; rw [h1]; simp
    rw [h1] at CI
    clear h1
    go_wp2_with (first | ((with_reducible refine (CI _).mono ?_); rintro e w' ⟨rfl, u, rfl⟩) | ((with_reducible refine (CO _).mono ?_); rintro e w' ⟨rfl, u, rfl⟩))
    go_ret2
    exact ⟨ret_se (by rw [HV.out.1]; rfl) HV.out.2.symm, below_to HB.out (Nat.le_refl _) (hgu _)⟩
  cases h2 : onP x y
  · have HV : Hid (lockP key salt x y = [] ∧ lockE salt x y = 1) := by show _ ∧ _; unfold lockP lockE canL; rw [h1, h2]; simp
    rw [h1] at CI
    rw [h2] at CO
    clear h1 h2
    go_wp2_with (first | ((with_reducible refine (CI _).mono ?_); rintro e w' ⟨rfl, u, rfl⟩) | ((with_reducible refine (CO _).mono ?_); rintro e w' ⟨rfl, u, rfl⟩))
    go_ret2
    exact ⟨ret_se (by rw [HV.out.1]; rfl) HV.out.2.symm, below_to HB.out (Nat.le_refl _) (hgu _)⟩
  have HV : Hid (lockP key salt x y = salt ++ hidP key salt x y ++ markP key salt (hidP key salt x y) ∧ lockE salt x y = 0) := by show _ ∧ _; unfold lockP lockE canL; rw [h1, h2]; simp
  have hsl := ((isD_iff _).1 h1).1
  obtain ⟨o1, o2, o3, o4⟩ := (onP_iff x y).1 h2
  obtain ⟨t1, t2⟩ := ten_dg h2
  have hh := (hidP_spec key salt h2).1
  have CF := cls_call hgu hi (fun w _ => forwards_any w)
  have CX := cls_call hgu hi (fun w hb => five_any x o1 o2 w (HG.out.to hb))
  have CY := cls_call hgu hi (fun w hb => five_any y o3 o4 w (HG.out.to hb))
  have CA := cls_call hgu hi (fun w hb => apply_any 34 enters_fwd fwdD fwd_lt (fun d m hd hm w => fwd_any d m hd hm w) key salt (fiveP x ++ fiveP y) (by have := HK.out; omega) t1 (by omega) w (HG.out.to hb))
  have CM := cls_call hgu hi (fun w hb => mark_any key salt (hidP key salt x y) (by have := HK.out; omega) w (HG.out.to hb))
  rw [← bs_app, show applyP fwdD (maskP key salt) (fiveP x ++ fiveP y) = hidP key salt x y from rfl] at CA
  rw [h1] at CI
  rw [h2] at CO
  unfold stepV at CF CA
  have s1 : (bs (fiveP x)).size ≤ 10 := by rw [bs_size]; have := congrArg List.length (rfl : fiveP x ++ fiveP y = _); rw [List.length_append] at t2; omega
  have s2 : (bs (fiveP y)).size ≤ 10 := by rw [bs_size]; rw [List.length_append] at t2; omega
  have s3 : (bs salt).size = 16 := by rw [bs_size, hsl]
  have s4 : (bs (hidP key salt x y)).size = 10 := by rw [bs_size, hh]
  have s5 : (bs (markP key salt (hidP key salt x y))).size = 16 := by rw [bs_size]; exact listD_len _
  clear h1 h2 hsl t1 t2 hh o1 o2 o3 o4
  generalize markP key salt (hidP key salt x y) = mk at *
  generalize hidP key salt x y = hd at *
  generalize fiveP x = fx at *
  generalize fiveP y = fy at *
  go_wp2_with (first | ((with_reducible refine (CI _).mono ?_); rintro e w' ⟨rfl, u, rfl⟩) | ((with_reducible refine (CO _).mono ?_); rintro e w' ⟨rfl, u, rfl⟩))
  refine wp_region_class g (by kernel_rfl) (by kernel_rfl) (hi _ (hgu _).drew) ?_
  repeat (go_big_quiet_step (first | with_reducible exact CF _ | with_reducible exact CX _ | with_reducible exact CY _ | with_reducible exact CA _))
  refine wpQuiet_nil ?_
  intro w4 hw4
  obtain ⟨u, rfl⟩ := hw4
  go_wp2_with ((with_reducible refine (CM _).mono ?_); rintro e w' ⟨rfl, u, rfl⟩)
  go_ret2
  exact ⟨ret_se (by rw [HV.out.1, ← bs_app, ← bs_app]) HV.out.2.symm, below_to HB.out (Nat.le_refl _) (hgu _)⟩
end Go.Proofs.YtdgbnplieaaokaaGreatDoor
