/- Walks of the reference of layer 49: Open. -/
import Derived.Test.YtdgbnplieaaokaaGreatDoorH3
import Derived.Test.YtdgbnplieaaokaaGreatDoorV6
import Derived.Test.YtdgbnplieaaokaaGreatDoorLoose
set_option linter.unusedVariables false
set_option linter.unusedSimpArgs false
namespace Go.Proofs.YtdgbnplieaaokaaGreatDoor
open Go.RowKit

set_option maxRecDepth 100000 in
set_option maxHeartbeats 2000000 in
theorem rOpen_any (key t : List UInt8) (hk : key.length ≤ 1000000000) (ht : t.length ≤ 1000000000) (w : World) :
    Calls Tryz.prog 9 #[.string (bs key), .string (bs t)] w fun e w' => e = .returned (.tuple #[pval (openX key t) (openY key t), .int .i64 (openE key t)]) ∧ Below w.heap.size w w' := by
  have HR := hide (Blk.new w 23 #[.int .i64 0, .int .i64 0])
  have HB := hide (below_one w (.cells #[.int .i64 0, .int .i64 0] 23))
  have HK := hide hk
  have HT := hide ht
  clear hk ht
  go_enter Tryz.func9, Tryz.ntmps9
  go_wp2_with fail
  generalize w.alloc (.cells #[.int .i64 0, .int .i64 0] 23) = w1 at *
  obtain ⟨X, HXe⟩ : ∃ X, Hid (w.heap.size = X) := ⟨_, rfl⟩
  rw [HXe.out] at HR ⊢
  refine (rVIs_any t (by have := HT.out; omega) _).mono ?_
  rintro e w2 ⟨rfl, rfl⟩
  have r0 := HR.out.cell 0
  have r1 := HR.out.cell 1
  have q0 := HR.out.frozen 0
  have q1 := HR.out.frozen 1
  cases h1 : isV t
  · have HV : Hid (openX key t = 0 ∧ openY key t = 0 ∧ openE key t = 1) := by show _ ∧ _ ∧ _; unfold openX openY openE goodV; rw [h1]; simp
    clear h1
    go_wp2_with fail
    have hbk : Blk ((w2.setCell ⟨X, 0, none⟩ (.int .i64 0)).setCell ⟨X, 1, none⟩ (.int .i64 0)) X 23 (ptC 0 0) := (HR.out.set_ 0 (.int .i64 0)).set_ 1 (.int .i64 0)
    exact bodyPost_ret (results_cell_tmp (p := 4) (u := 5) rfl _ _ X 23 _ _ rfl hbk Tryz.underlying23 rfl (by kernel_rfl)) rfl ⟨ret_pe HV.out.1.symm HV.out.2.1.symm HV.out.2.2.symm, (HB.out.setCell (p := ⟨X, 0, none⟩) (Nat.le_of_eq HXe.out) _).setCell (p := ⟨X, 1, none⟩) (Nat.le_of_eq HXe.out) _⟩
  obtain ⟨v1, v2, v3, v4⟩ := (isV_iff t).1 h1
  have hsl : (saltV t).length = 16 := by unfold saltV; simp; omega
  have hhl : (hidV t).length = 10 := by unfold hidV; simp; omega
  have hsv : (shownV key t).length = 10 := by unfold shownV; rw [applyP_len _ _ _ (by rw [hhl, maskP_len]; decide), hhl]
  have hsd : dgs (shownV key t) := applyP_dg bwd_lt _ _
  have HO := hide (own_good key t h1)
  have HI := hide h1
  have hsz : (bs t).size = 42 := by rw [bs_size, v1]
  have e1 : (bs t).extract 0 16 = bs (saltV t) := by rw [bs_cut]; rfl
  have e2 : (bs t).extract 16 26 = bs (hidV t) := by rw [bs_cut]; rfl
  obtain ⟨U, hU, g, u0, rfl, hgu, hi⟩ := cls w2
  have CA := cls_call hgu hi (fun w hb => movedB_any key (saltV t) (hidV t) HK.out (by omega) hhl v4 w)
  rw [show applyP bwdD (maskP key (saltV t)) (hidV t) = shownV key t from rfl] at CA
  have HHl := hide hhl
  have HSl := hide hsl
  have HSv := hide hsv
  have HSd := hide hsd
  have HGU := hide hgu
  have HHI := hide hi
  clear h1 v1 v2 v3 v4 hsl hhl hsv hsd r0 r1 q0 q1 hgu hi
  go_wp2_with fail
  refine wp_region_class g (by kernel_rfl) (by kernel_rfl) (HHI.out _ (HGU.out _).drew) ?_
  repeat (go_big_quiet_step (with_reducible exact CA _))
  refine wpQuiet_nil ?_
  intro w5 hw5
  obtain ⟨u, rfl⟩ := hw5
  have hss : (bs (shownV key t)).size = 10 := by rw [bs_size, HSv.out]
  have x1 : (bs (shownV key t)).extract 0 5 = bs ((shownV key t).take 5) := by rw [bs_cut]; rfl
  have x2 : (bs (shownV key t)).extract 5 10 = bs ((shownV key t).drop 5) := by rw [bs_cut, List.take_of_length_le (by have := HSv.out; simp; omega)]
  have C1 := fun w => (rNumber_any ((shownV key t).take 5) (by rw [List.length_take, HSv.out]; rfl) (fun c hc => HSd.out c (List.mem_of_mem_take hc)) w).mono fun e w' h => (⟨h.1, by rw [h.2]; exact Below.refl _ _⟩ : e = .returned (.int .i64 (numP ((shownV key t).take 5) : Int)) ∧ Below w.heap.size w w')
  have C2 := fun w => (rNumber_any ((shownV key t).drop 5) (by rw [List.length_drop, HSv.out]) (fun c hc => HSd.out c (List.mem_of_mem_drop hc)) w).mono fun e w' h => (⟨h.1, by rw [h.2]; exact Below.refl _ _⟩ : e = .returned (.int .i64 (numP ((shownV key t).drop 5) : Int)) ∧ Below w.heap.size w w')
  rw [show numP ((shownV key t).take 5) = xV key t from rfl] at C1
  rw [show numP ((shownV key t).drop 5) = yV key t from rfl] at C2
  clear CA
  go_wp2_with fail
  apply wp_region_looseG g (V := [some _, some _, some _, some _, some _, some _, some _, none, none]) (Fs := [(7, Box2 (g u0).heap.size 23 7), (8, BoxIs (g u0).heap.size 23 7 #[.int .i64 (xV key t : Int), .int .i64 (yV key t : Int)])]) (Rel := fun i w w' => if i = 8 then BoxRel (g u0).heap.size 23 w w' else Below w.heap.size w w')
  case hm => kernel_rfl
  case hB => kernel_rfl
  case hCw => exact HHI.out _ (HGU.out _).drew
  case hC =>
    rintro i uq w' hr
    by_cases hi8 : i = 8
    · exact HHI.out _ ((HGU.out uq).trans (by simpa [hi8] using hr : BoxRel (g u0).heap.size 23 _ _).1)
    exact HHI.out _ (below_to (HGU.out uq) (Nat.le_refl _) (by simpa [hi8] using hr))
  case hst =>
    refine keeps_cons (fun i a a' w w' hne hwt hs hr h => h.keep (hs 7 (by kernel_rfl)) (by by_cases e8 : i = 8; (left; simpa [e8] using hr); right; simpa [e8] using hr)) ?_
    refine keeps_cons (fun i a a' w w' hne hwt hs hr h => h.keep (hs 7 (by kernel_rfl)) (by simpa [hne] using hr)) ?_
    exact keeps_nil
  case hop =>
    refine ⟨?_, ?_, ?_, ?_, ?_, ?_, ?_, ?_, ?_, trivial⟩
    · intro a uq K hS hd hK
      have s6 := hS.at 6 (by kernel_rfl) rfl
      rw [if_pos (want_free rfl)]
      go_simp
      exact hK _ _ (Below.refl _ _) (vok rfl) (facts_cons (fun h => absurd h (by decide)) (facts_cons (fun h => absurd h (by decide)) facts_nil))
    · intro a uq K hS hd hK
      have s20 := (waits_on hd 0 (by kernel_rfl)).at (d := 20) rfl rfl rfl
      rw [if_pos (want_free rfl)]
      go_simp
      exact hK _ _ (Below.refl _ _) (vok rfl) (facts_cons (fun h => absurd h (by decide)) (facts_cons (fun h => absurd h (by decide)) facts_nil))
    · intro a uq K hS hd hK
      have s21 := (waits_on hd 1 (by kernel_rfl)).at (d := 21) rfl rfl rfl
      rw [if_pos (want_free rfl)]
      go_simp
      with_reducible refine (C1 (g uq)).mono ?_
      rintro e w' ⟨rfl, hb⟩
      exact hK _ _ hb (vok rfl) (facts_cons (fun h => absurd h (by decide)) (facts_cons (fun h => absurd h (by decide)) facts_nil))
    · intro a uq K hS hd hK
      have s6 := hS.at 6 (by kernel_rfl) rfl
      rw [if_pos (want_free rfl)]
      go_simp
      exact hK _ _ (Below.refl _ _) (vok rfl) (facts_cons (fun h => absurd h (by decide)) (facts_cons (fun h => absurd h (by decide)) facts_nil))
    · intro a uq K hS hd hK
      have s23 := (waits_on hd 3 (by kernel_rfl)).at (d := 23) rfl rfl rfl
      rw [if_pos (want_free rfl)]
      go_simp
      exact hK _ _ (Below.refl _ _) (vok rfl) (facts_cons (fun h => absurd h (by decide)) (facts_cons (fun h => absurd h (by decide)) facts_nil))
    · intro a uq K hS hd hK
      have s24 := (waits_on hd 4 (by kernel_rfl)).at (d := 24) rfl rfl rfl
      rw [if_pos (want_free rfl)]
      go_simp
      with_reducible refine (C2 (g uq)).mono ?_
      rintro e w' ⟨rfl, hb⟩
      exact hK _ _ hb (vok rfl) (facts_cons (fun h => absurd h (by decide)) (facts_cons (fun h => absurd h (by decide)) facts_nil))
    · intro a uq K hS hd hK
      have s22 := (waits_on hd 2 (by kernel_rfl)).at (d := 22) rfl rfl rfl
      have s25 := (waits_on hd 5 (by kernel_rfl)).at (d := 25) rfl rfl rfl
      rw [if_pos (want_free rfl)]
      go_simp
      exact hK _ _ (Below.refl _ _) (vok rfl) (facts_cons (fun h => absurd h (by decide)) (facts_cons (fun h => absurd h (by decide)) facts_nil))
    · intro a uq K hS hd hK
      rw [if_pos (want_free rfl)]
      go_simp
      exact hK _ _ (below_one _ _) (vfree rfl) (facts_cons (fun _ => ⟨_, _, _, hS.put_at (by kernel_rfl) _, Nat.le_trans (Below.size (HGU.out uq)) (Nat.le_refl _), Blk.new _ _ _⟩) (facts_cons (fun h => absurd h (by decide)) facts_nil))
    · intro a uq K hS hd hK
      obtain ⟨b7, x7_0, x7_1, s7, l7, r7⟩ := (waits_on hd 7 (by kernel_rfl)).2 _ (List.mem_cons_self ..) rfl
      have s26 := (waits_on hd 6 (by kernel_rfl)).at (d := 26) rfl rfl rfl
      rw [if_pos (want_free rfl)]
      have c0 := r7.cell 0
      have f0 := r7.frozen 0
      have c1 := r7.cell 1
      have f1 := r7.frozen 1
      go_simp
      exact hK undef _ (((BoxRel.refl _ _ _).set_ r7 l7 0 _).set_ (r7.set_ 0 (.int .i64 (xV key t : Int))) l7 1 _) (vfree rfl) (facts_cons (fun h => absurd h (by decide)) (facts_cons (fun _ => ⟨b7, s7, l7, ((r7.set_ 0 (.int .i64 (xV key t : Int))).set_ 1 (.int .i64 (yV key t : Int)))⟩) facts_nil))
  case hfin =>
    intro a uq hS hk
    have s20 := (hk 0 (by decide)).at (d := 20) rfl rfl rfl
    have s21 := (hk 1 (by decide)).at (d := 21) rfl rfl rfl
    have s22 := (hk 2 (by decide)).at (d := 22) rfl rfl rfl
    have s23 := (hk 3 (by decide)).at (d := 23) rfl rfl rfl
    have s24 := (hk 4 (by decide)).at (d := 24) rfl rfl rfl
    have s25 := (hk 5 (by decide)).at (d := 25) rfl rfl rfl
    have s26 := (hk 6 (by decide)).at (d := 26) rfl rfl rfl
    obtain ⟨b7, s7, l7, r7⟩ := (hk 8 (by decide)).2 _ (List.mem_cons_of_mem _ (List.mem_cons_self ..)) rfl
    have hlit := hS.lit _ (by kernel_rfl) (lits_cons s20 (lits_cons s21 (lits_cons s22 (lits_cons s23 (lits_cons s24 (lits_cons s25 (lits_cons s26 (lits_cons s7 lits_nil))))))))
    rw [hlit]
    clear hlit hk hS s20 s21 s22 s23 s24 s25 s26 s7
    simp only [litT, List.setIfInBounds_toArray, List.set_cons_succ, List.set_cons_zero]
    have HB6 := hide (below_to HB.out (Nat.le_refl _) (HGU.out uq))
    have HR6 := hide (HR.out.to (HGU.out uq))
    have HP6 := hide r7
    clear r7 l7 C1 C2 x1 x2 hss
    generalize g uq = w7 at *
    obtain ⟨U7, hU7, g7, u7, rfl, hgu7, hi7⟩ := cls w7
    have p0 := blk_all hgu7 HP6.out 0 rfl
    have p1 := blk_all hgu7 HP6.out 1 rfl
    have CK := cls_call hgu7 hi7 (fun w _ => rLock_any key (saltV t) (xV key t : Int) (yV key t : Int) HK.out (by have := HSl.out; omega) w)
    have HGU7 := hide hgu7
    have HHI7 := hide hi7
    clear hgu7 hi7
    have r0 := fun u => ((HR6.out.to (HGU7.out u)).cell 0).trans rfl
    have r1 := fun u => ((HR6.out.to (HGU7.out u)).cell 1).trans rfl
    have q0 := fun u => (HR6.out.to (HGU7.out u)).frozen 0
    have q1 := fun u => (HR6.out.to (HGU7.out u)).frozen 1
    cases hc : canL (saltV t) (xV key t) (yV key t)
    · have HV : Hid (openX key t = 0 ∧ openY key t = 0 ∧ openE key t = 15) := by show _ ∧ _ ∧ _; unfold openX openY openE; rw [HO.out, hc, HI.out]; simp
      have HE : lockE (saltV t) (xV key t) (yV key t) = 1 := by unfold lockE; rw [hc]; rfl
      rw [HE] at CK
      clear hc HE HO
      go_wp2_with fail
      refine wp_region_class g7 (by kernel_rfl) (by kernel_rfl) (HHI7.out _ (HGU7.out _).drew) ?_
      repeat (go_big_quiet_step (first | with_reducible exact CK _))
      refine wpQuiet_nil ?_
      intro w8 hw8
      obtain ⟨u, rfl⟩ := hw8
      go_wp2_with fail
      have hbk : Blk (((g7 u).setCell ⟨X, 0, none⟩ (.int .i64 0)).setCell ⟨X, 1, none⟩ (.int .i64 0)) X 23 (ptC 0 0) := ((HR6.out.to (HGU7.out u)).set_ 0 (.int .i64 0)).set_ 1 (.int .i64 0)
      exact bodyPost_ret (results_cell_tmp (p := 4) (u := 5) rfl _ _ X 23 _ _ rfl hbk Tryz.underlying23 rfl (by kernel_rfl)) rfl ⟨ret_pe HV.out.1.symm HV.out.2.1.symm HV.out.2.2.symm, ((below_to HB6.out (Nat.le_refl _) (HGU7.out u)).setCell (p := ⟨X, 0, none⟩) (Nat.le_of_eq HXe.out) _).setCell (p := ⟨X, 1, none⟩) (Nat.le_of_eq HXe.out) _⟩
    · have HE : lockE (saltV t) (xV key t) (yV key t) = 0 := by unfold lockE; rw [hc]; rfl
      rw [HE] at CK
      by_cases hl : lockP key (saltV t) (xV key t) (yV key t) = t
      · have HV : Hid (openX key t = xV key t ∧ openY key t = yV key t ∧ openE key t = 0) := by show _ ∧ _ ∧ _; unfold openX openY openE; rw [HO.out, hc, hl]; simp
        rw [hl] at CK
        clear hc hl HE HO
        go_wp2_with fail
        refine wp_region_class g7 (by kernel_rfl) (by kernel_rfl) (HHI7.out _ (HGU7.out _).drew) ?_
        repeat (go_big_quiet_step (first | with_reducible exact CK _))
        refine wpQuiet_nil ?_
        intro w8 hw8
        obtain ⟨u, rfl⟩ := hw8
        go_wp2_with fail
        have hbk : Blk (((g7 u).setCell ⟨X, 0, none⟩ (.int .i64 (xV key t : Int))).setCell ⟨X, 1, none⟩ (.int .i64 (yV key t : Int))) X 23 (ptC (xV key t) (yV key t)) := ((HR6.out.to (HGU7.out u)).set_ 0 (.int .i64 (xV key t : Int))).set_ 1 (.int .i64 (yV key t : Int))
        exact bodyPost_ret (results_cell_tmp (p := 4) (u := 5) rfl _ _ X 23 _ _ rfl hbk Tryz.underlying23 rfl (by kernel_rfl)) rfl ⟨ret_pe HV.out.1.symm HV.out.2.1.symm HV.out.2.2.symm, ((below_to HB6.out (Nat.le_refl _) (HGU7.out u)).setCell (p := ⟨X, 0, none⟩) (Nat.le_of_eq HXe.out) _).setCell (p := ⟨X, 1, none⟩) (Nat.le_of_eq HXe.out) _⟩
      · have HV : Hid (openX key t = 0 ∧ openY key t = 0 ∧ openE key t = 15) := by show _ ∧ _ ∧ _; unfold openX openY openE; rw [HO.out, hc, decide_eq_false hl, HI.out]; simp
        have hne : (!((bs (lockP key (saltV t) (xV key t) (yV key t))).toList == (bs t).toList)) = true := by rw [bs_toList, bs_toList]; simpa using hl
        have hne' : ((bs (lockP key (saltV t) (xV key t) (yV key t))).toList == (bs t).toList) = false := by simpa using hne
        clear hc hl HE HO
        go_wp2_with fail
        refine wp_region_class g7 (by kernel_rfl) (by kernel_rfl) (HHI7.out _ (HGU7.out _).drew) ?_
        repeat (go_big_quiet_step (first | with_reducible exact CK _))
        refine wpQuiet_nil ?_
        intro w8 hw8
        obtain ⟨u, rfl⟩ := hw8
        go_wp2_with fail
        have hbk : Blk (((g7 u).setCell ⟨X, 0, none⟩ (.int .i64 0)).setCell ⟨X, 1, none⟩ (.int .i64 0)) X 23 (ptC 0 0) := ((HR6.out.to (HGU7.out u)).set_ 0 (.int .i64 0)).set_ 1 (.int .i64 0)
        exact bodyPost_ret (results_cell_tmp (p := 4) (u := 5) rfl _ _ X 23 _ _ rfl hbk Tryz.underlying23 rfl (by kernel_rfl)) rfl ⟨ret_pe HV.out.1.symm HV.out.2.1.symm HV.out.2.2.symm, ((below_to HB6.out (Nat.le_refl _) (HGU7.out u)).setCell (p := ⟨X, 0, none⟩) (Nat.le_of_eq HXe.out) _).setCell (p := ⟨X, 1, none⟩) (Nat.le_of_eq HXe.out) _⟩
end Go.Proofs.YtdgbnplieaaokaaGreatDoor
