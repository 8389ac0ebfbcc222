/- Walks of package privacy: Valid. -/
import Derived.Test.YtdiebacfbhjbdaaGreatDoorN3
set_option linter.unusedVariables false
set_option linter.unusedSimpArgs false
namespace Go.Proofs.YtdiebacfbhjbdaaGreatDoor
open Go.RowKit

structure Ln.fit (l : Ln) : Prop where
  p : l.p.length ≤ 140737488355328
  t : l.t.length ≤ 140737488355328
  s : l.s.length ≤ 140737488355328
  d : l.d.length ≤ 140737488355328
set_option maxRecDepth 100000 in
set_option maxHeartbeats 4000000 in
theorem Valid_any (l : Ln) (hf : l.fit) (w : World) (hg : Glob w) : Calls Tryz.prog 15 #[.agg (lnC l)] w fun e w' => e = .returned (.bool (validL l)) ∧ Below w.heap.size w w' := by
  have HB := hide (below_one w (.cells #[.string (bs l.p), .string (bs l.t), .string (bs l.s), .string (bs l.d)] 32))
  have HG := hide (hg.alloc (.cells #[.string (bs l.p), .string (bs l.t), .string (bs l.s), .string (bs l.d)] 32))
  have HR := hide (Blk.new w 32 #[.string (bs l.p), .string (bs l.t), .string (bs l.s), .string (bs l.d)])
  have CE := fun w => erased_any l w
  unfold lnC at CE ⊢
  clear hg
  go_enter Tryz.func15, Tryz.ntmps15
  go_wp2_with fail
  generalize w.alloc (.cells #[.string (bs l.p), .string (bs l.t), .string (bs l.s), .string (bs l.d)] 32) = w1 at *
  obtain ⟨b1, hb1⟩ : ∃ b, Hid (w.heap.size = b) := ⟨_, rfl⟩
  rw [hb1.out] at HR ⊢
  obtain ⟨U, hU, g, u0, rfl, hgu, hi⟩ := cls w1
  have CEg := cls_call hgu hi (fun w _ => CE w)
  have r0 := blk_all hgu HR.out 0 rfl
  have r1 := blk_all hgu HR.out 1 rfl
  have r2 := blk_all hgu HR.out 2 rfl
  have r3 := blk_all hgu HR.out 3 rfl
  have lu : ∀ u, b1 < (g u).heap.size := fun u => (HR.out.to (hgu u)).lt
  have nu : ∀ u, b1 ≠ (g u).heap.size := fun u => Nat.ne_of_lt (lu u)
  have HGU := hide hgu
  have HHI := hide hi
  have CI := cls_call hgu hi (fun w _ => Is_any l.d (by have := hf.d; omega) w)
  have CM := cls_call hgu hi (fun w hb => Make_any l.p l.t l.s hf.p hf.t hf.s w (HG.out.to hb))
  by_cases he : l = er l
  · have HV : Hid (validL l = isD l.d) := by show _ = _; unfold validL; rw [if_pos he]
    have q := lnv_yes l
    rw [← he] at CEg
    clear he hgu hi CM
    refine wp_region_class g (by kernel_rfl) (by kernel_rfl) (HHI.out _ (HGU.out _).drew) ?_
    repeat (go_big_quiet_step (with_reducible exact CEg _))
    refine wpQuiet_nil ?_
    intro w5 hw5
    obtain ⟨u, rfl⟩ := hw5
    go_wp2_with ((with_reducible refine (CI _).mono ?_); rintro e w' ⟨rfl, uz, rfl⟩)
    go_ret
    exact ⟨ret_bool (by rw [HV.out]), below_to HB.out (Nat.le_refl _) (HGU.out _)⟩
  · have q := lnv_no he
    have HV0 : Hid (validL l = (canM l.p l.t l.s && decide (mkL l.p l.t l.s = l))) := by show _ = _; unfold validL; rw [if_neg he]
    unfold lnC at CM
    cases hc : canM l.p l.t l.s with
    | false =>
      have eV : makeV l.p l.t l.s = noL := by unfold makeV; rw [hc]; rfl
      have eE : makeE l.p l.t l.s = 1 := by unfold makeE; rw [hc]; rfl
      rw [eV, eE] at CM
      have HV : Hid (validL l = false) := by show _ = _; rw [HV0.out, hc]; rfl
      clear eV eE hc HV0 he hgu hi CI
      refine wp_region_class g (by kernel_rfl) (by kernel_rfl) (HHI.out _ (HGU.out _).drew) ?_
      repeat (go_big_quiet_step (with_reducible exact CEg _))
      refine wpQuiet_nil ?_
      intro w5 hw5
      obtain ⟨u, rfl⟩ := hw5
      go_wp2_with ((with_reducible refine (CM _).mono ?_); rintro e w' ⟨rfl, uz, rfl⟩)
      go_ret
      exact ⟨ret_bool (by rw [HV.out]), below_alloc (below_to HB.out (Nat.le_refl _) (HGU.out _)) (Nat.le_refl _) _⟩
    | true =>
      have eV : makeV l.p l.t l.s = mkL l.p l.t l.s := by unfold makeV; rw [hc]; rfl
      have eE : makeE l.p l.t l.s = 0 := by unfold makeE; rw [hc]; rfl
      rw [eV, eE] at CM
      by_cases hm : mkL l.p l.t l.s = l
      · have HV : Hid (validL l = true) := by show _ = _; rw [HV0.out, hc, decide_eq_true hm]; rfl
        rw [hm] at CM
        have q2 := lnv_yes l
        clear eV eE hc HV0 he hgu hi CI hm
        refine wp_region_class g (by kernel_rfl) (by kernel_rfl) (HHI.out _ (HGU.out _).drew) ?_
        repeat (go_big_quiet_step (with_reducible exact CEg _))
        refine wpQuiet_nil ?_
        intro w5 hw5
        obtain ⟨u, rfl⟩ := hw5
        go_wp2_with ((with_reducible refine (CM _).mono ?_); rintro e w' ⟨rfl, uz, rfl⟩)
        go_ret
        exact ⟨ret_bool (by rw [HV.out]), below_alloc (below_to HB.out (Nat.le_refl _) (HGU.out _)) (Nat.le_refl _) _⟩
      · have HV : Hid (validL l = false) := by show _ = _; rw [HV0.out, hc, decide_eq_false hm]; rfl
        have q2 := lnv_no hm
        clear eV eE hc HV0 he hgu hi CI hm
        generalize mkL l.p l.t l.s = m at *
        refine wp_region_class g (by kernel_rfl) (by kernel_rfl) (HHI.out _ (HGU.out _).drew) ?_
        repeat (go_big_quiet_step (with_reducible exact CEg _))
        refine wpQuiet_nil ?_
        intro w5 hw5
        obtain ⟨u, rfl⟩ := hw5
        go_wp2_with ((with_reducible refine (CM _).mono ?_); rintro e w' ⟨rfl, uz, rfl⟩)
        go_ret
        exact ⟨ret_bool (by rw [HV.out]), below_alloc (below_to HB.out (Nat.le_refl _) (HGU.out _)) (Nat.le_refl _) _⟩
end Go.Proofs.YtdiebacfbhjbdaaGreatDoor
