/- Walks of package veil: Open. -/
import Derived.Test.YtdgbnplieaaokaaGreatDoorV5
set_option linter.unusedVariables false
set_option linter.unusedSimpArgs false
namespace Go.Proofs.YtdgbnplieaaokaaGreatDoor
open Go.RowKit

theorem results_cell_tmp {P : Program} {fn : Func} {p u : Tmp} {ty : TypeId} (h : fn.results = #[.cell p ty, .tmp u]) (tmps : Array Value) (w : World) (g : Nat) (t : TypeId) (cs : Array Value) (d : TypeDesc)
    (hp : tmps.getD p undef = .pointer (some ⟨g, 0, none⟩)) (hg : Blk w g t cs) (hu : P.underlying ty = some d) (hd : (match d with | .struct _ | .array _ _ => true | _ => false) = true) (hi : (P.info? ty).map (·.size) = some cs.size) :
    (results fn tmps).run P w = .ok (.tuple #[.agg cs, tmps.getD u undef]) w := by
  have hp' : tmps[p]?.getD undef = .pointer (some ⟨g, 0, none⟩) := by simpa using hp
  simp [results, h, hp', asAddr, run_loadVar_row w g t ty cs (0, 0) d hg hu hd hi]
theorem Atoi_dg (l : List UInt8) (hd : dgs l) (hn : l ≠ []) (hl : l.length ≤ 17) (w : World) : Calls Tryz.prog 26 #[.string (bs l)] w fun e w' => e = .returned (.tuple #[.int .i64 (numP l : Int), .nilIface]) ∧ Below w.heap.size w w' := by
  refine (Tryz.strconv_Atoi_ok (bs l) (by rw [bs_size]; omega) (numP l : Int) (by rw [bs_list]; exact atoi_num hd hn hl) w).mono ?_
  rintro e w' ⟨rfl, hw⟩
  refine ⟨rfl, ?_⟩
  rcases hw with rfl | ⟨t, rfl⟩
  · exact Below.refl _ _
  · exact Lib.bytesWorld_below _ _ _
def ptC (x y : Int) : Array Value := #[.int .i64 x, .int .i64 y]
theorem ret_pe {a b a' b' x x' : Int} (h1 : a = a') (h2 : b = b') (h3 : x = x') : Ending.returned (.tuple #[.agg (ptC a b), .int .i64 x]) = .returned (.tuple #[pval a' b', .int .i64 x']) := by rw [h1, h2, h3]; rfl
theorem neq_parts (s h m m' : ByteArray) (w : World) : (binOp .neq 45 (.agg #[.string s, .string h, .string m]) (.agg #[.string s, .string h, .string m'])).run Tryz.prog w = .ok (.bool (!(m.toList == m'.toList))) w := by
  rw [run_neq_struct]
  go_simp
  by_cases h : m.toList = m'.toList
  · rw [if_pos h]; simp [h]
  · rw [if_neg h]
    have : (m.toList == m'.toList) = false := by simpa using h
    rw [this]; rfl
set_option maxHeartbeats 8000000 in
theorem Open_any (key t : List UInt8) (hk : key.length ≤ 140737488351232) (ht : t.length ≤ 140737488351232) (w : World) (hg : Glob w) :
    Calls Tryz.prog 8 #[.string (bs key), .string (bs t)] w fun e w' => e = .returned (.tuple #[pval (openX key t) (openY key t), .int .i64 (openE key t)]) ∧ Below w.heap.size w w' := by
  have HR := hide (Blk.new w 23 #[.int .i64 0, .int .i64 0])
  have HB := hide (below_one w (.cells #[.int .i64 0, .int .i64 0] 23))
  have HG := hide (hg.alloc (.cells #[.int .i64 0, .int .i64 0] 23))
  have HK := hide hk
  have HT := hide ht
  clear hg hk ht
  go_enter Tryz.func8, Tryz.ntmps8
  go_wp2_with fail
  generalize w.alloc (.cells #[.int .i64 0, .int .i64 0] 23) = w1 at *
  obtain ⟨X, HXe⟩ : ∃ X, Hid (w.heap.size = X) := ⟨_, rfl⟩
  rw [HXe.out] at HR ⊢
  refine (vIs_any t (by have := HT.out; omega) _).mono ?_
  rintro e w2 ⟨rfl, hb⟩
  have HB2 := hide (below_to HB.out (Nat.le_refl _) hb)
  have HR2 := hide (HR.out.to hb)
  have HG2 := hide (HG.out.to hb)
  clear hb HB HR HG
  have r0 := HR2.out.cell 0
  have r1 := HR2.out.cell 1
  have q0 := HR2.out.frozen 0
  have q1 := HR2.out.frozen 1
  cases h1 : isV t
  · have HV : Hid (openX key t = 0 ∧ openY key t = 0 ∧ openE key t = 1) := by show _ ∧ _ ∧ _; unfold openX openY openE goodV; rw [h1]; simp
    clear h1
    go_wp2_with fail
    have hbk : Blk ((w2.setCell ⟨X, 0, none⟩ (.int .i64 0)).setCell ⟨X, 1, none⟩ (.int .i64 0)) X 23 (ptC 0 0) := (HR2.out.set_ 0 (.int .i64 0)).set_ 1 (.int .i64 0)
    exact bodyPost_ret (results_cell_tmp (p := 4) (u := 5) rfl _ _ X 23 _ _ rfl hbk Tryz.underlying23 rfl (by kernel_rfl)) rfl ⟨ret_pe HV.out.1.symm HV.out.2.1.symm HV.out.2.2.symm, (HB2.out.setCell (p := ⟨X, 0, none⟩) (Nat.le_of_eq HXe.out) _).setCell (p := ⟨X, 1, none⟩) (Nat.le_of_eq HXe.out) _⟩
  obtain ⟨v1, v2, v3, v4⟩ := (isV_iff t).1 h1
  have hsl : (saltV t).length = 16 := by unfold saltV; simp; omega
  have hhl : (hidV t).length = 10 := by unfold hidV; simp; omega
  have hsv : (shownV key t).length = 10 := by unfold shownV; rw [applyP_len _ _ _ (by rw [hhl, maskP_len]; decide), hhl]
  have hsd : dgs (shownV key t) := applyP_dg bwd_lt _ _
  have HI := hide h1
  have H42 := hide v1
  have HHd := hide (show dgs (hidV t) from v4)
  have HSl := hide hsl
  have HHl := hide hhl
  have HSv := hide hsv
  have HSd := hide hsd
  clear h1 v1 v2 v3 v4 hsl hhl hsv hsd
  go_wp2_with fail
  refine (cut_any t H42.out _).mono ?_
  rintro e w3 ⟨rfl, hb⟩
  have HB3 := hide (below_to HB2.out (Nat.le_refl _) hb)
  have HR3 := hide (HR2.out.to hb)
  have HG3 := hide (HG2.out.to hb)
  clear hb HB2 HR2 HG2 r0 r1 q0 q1
  unfold partsC
  go_wp2_with fail
  have HB4 := hide (below_alloc HB3.out (Nat.le_refl _) (.cells #[.string (bs (saltV t)), .string (bs (hidV t)), .string (bs (markV t))] 45))
  have HR4 := hide (HR3.out.alloc (.cells #[.string (bs (saltV t)), .string (bs (hidV t)), .string (bs (markV t))] 45))
  have HG4 := hide (HG3.out.alloc (.cells #[.string (bs (saltV t)), .string (bs (hidV t)), .string (bs (markV t))] 45))
  have HP4 := hide (Blk.new w3 45 #[.string (bs (saltV t)), .string (bs (hidV t)), .string (bs (markV t))])
  clear HB3 HR3 HG3
  generalize w3.alloc (.cells #[.string (bs (saltV t)), .string (bs (hidV t)), .string (bs (markV t))] 45) = w4 at *
  generalize w3.heap.size = Y at *
  obtain ⟨U, hU, g, u0, rfl, hgu, hi⟩ := cls w4
  have z0 := blk_all hgu HP4.out 0 rfl
  have z1 := blk_all hgu HP4.out 1 rfl
  have z2 := blk_all hgu HP4.out 2 rfl
  have CM := cls_call hgu hi (fun w hb => mark_any key (saltV t) (hidV t) (by have := HK.out; have := HSl.out; have := HHl.out; omega) w (HG4.out.to hb))
  have CB := cls_call hgu hi (fun w _ => backwards_any w)
  have CA := cls_call hgu hi (fun w hb => apply_any 41 enters_bwd bwdD bwd_lt (fun d m hd hm w => bwd_any d m hd hm w) key (saltV t) (hidV t) (by have := HK.out; have := HSl.out; omega) HHd.out (by have := HHl.out; omega) w (HG4.out.to hb))
  rw [show applyP bwdD (maskP key (saltV t)) (hidV t) = shownV key t from rfl] at CA
  unfold stepV at CA CB
  by_cases hm : ¬ markV t = markP key (saltV t) (hidV t)
  · have HV : Hid (openX key t = 0 ∧ openY key t = 0 ∧ openE key t = 15) := by show _ ∧ _ ∧ _; unfold openX openY openE goodV; rw [HI.out]; simp [hm]
    have hne : (!((bs (markV t)).toList == (bs (markP key (saltV t) (hidV t))).toList)) = true := by rw [bs_toList, bs_toList]; simpa using hm
    have hq := neq_parts (bs (saltV t)) (bs (hidV t)) (bs (markV t)) (bs (markP key (saltV t) (hidV t)))
    rw [hne] at hq
    clear hne hm CB CA
    have r0 := blk_all hgu HR4.out 0 rfl
    have r1 := blk_all hgu HR4.out 1 rfl
    have q0 := fun u => (HR4.out.to (hgu u)).frozen 0
    have q1 := fun u => (HR4.out.to (hgu u)).frozen 1
    refine wp_region_class g (by kernel_rfl) (by kernel_rfl) (hi _ (hgu _).drew) ?_
    repeat (go_big_quiet_step (first | with_reducible exact CM _))
    refine wpQuiet_nil ?_
    intro w5 hw5
    obtain ⟨u, rfl⟩ := hw5
    go_wp2_with fail
    have hbk : Blk (((g u).setCell ⟨X, 0, none⟩ (.int .i64 0)).setCell ⟨X, 1, none⟩ (.int .i64 0)) X 23 (ptC 0 0) := ((HR4.out.to (hgu u)).set_ 0 (.int .i64 0)).set_ 1 (.int .i64 0)
    exact bodyPost_ret (results_cell_tmp (p := 4) (u := 5) rfl _ _ X 23 _ _ rfl hbk Tryz.underlying23 rfl (by kernel_rfl)) rfl ⟨ret_pe HV.out.1.symm HV.out.2.1.symm HV.out.2.2.symm, ((below_to HB4.out (Nat.le_refl _) (hgu u)).setCell (p := ⟨X, 0, none⟩) (Nat.le_of_eq HXe.out) _).setCell (p := ⟨X, 1, none⟩) (Nat.le_of_eq HXe.out) _⟩
  · have hm : markV t = markP key (saltV t) (hidV t) := Decidable.byContradiction hm
    have HM := hide hm
    have hq := neq_parts (bs (saltV t)) (bs (hidV t)) (bs (markV t)) (bs (markP key (saltV t) (hidV t)))
    rw [show (!((bs (markV t)).toList == (bs (markP key (saltV t) (hidV t))).toList)) = false by rw [hm]; simp] at hq
    clear hm
    refine wp_region_class g (by kernel_rfl) (by kernel_rfl) (hi _ (hgu _).drew) ?_
    repeat (go_big_quiet_step (first | with_reducible exact CM _))
    refine wpQuiet_nil ?_
    intro w5 hw5
    obtain ⟨u, rfl⟩ := hw5
    go_wp2_with fail
    refine wp_region_class g (by kernel_rfl) (by kernel_rfl) (hi _ (hgu _).drew) ?_
    repeat (go_big_quiet_step (first | with_reducible exact CB _ | with_reducible exact CA _))
    refine wpQuiet_nil ?_
    intro w5 hw5
    obtain ⟨u, rfl⟩ := hw5
    have hss : (bs (shownV key t)).size = 10 := by rw [bs_size, HSv.out]
    have x1 : (bs (shownV key t)).extract 0 5 = bs ((shownV key t).take 5) := by rw [bs_cut]; rfl
    have x2 : (bs (shownV key t)).extract 5 10 = bs ((shownV key t).drop 5) := by rw [bs_cut, List.take_of_length_le (by have := HSv.out; simp; omega)]
    clear z0 z1 z2 hq CM CA CB
    go_wp2_with fail
    have HB6 := hide (below_alloc (below_to HB4.out (Nat.le_refl _) (hgu u)) (Nat.le_refl _) (.cells #[.int .i64 0, .int .i64 0] 23))
    have HR6 := hide ((HR4.out.to (hgu u)).alloc (.cells #[.int .i64 0, .int .i64 0] 23))
    have HG6 := hide ((HG4.out.to (hgu u)).alloc (.cells #[.int .i64 0, .int .i64 0] 23))
    have HZ6 := hide (Blk.new (g u) 23 #[.int .i64 0, .int .i64 0])
    have HXZ : Hid (X < (g u).heap.size) := (HR4.out.to (hgu u)).lt
    have HGZ : Hid (Tryz.prog.globals.size ≤ (g u).heap.size) := (HG4.out.to (hgu u)).top
    generalize (g u).alloc (.cells #[.int .i64 0, .int .i64 0] 23) = w6 at *
    generalize (g u).heap.size = Z at *
    clear HR4 HG4 HB4 HP4 hgu hi
    have HA1 := hide (show dgs ((shownV key t).take 5) ∧ (shownV key t).take 5 ≠ [] ∧ ((shownV key t).take 5).length ≤ 17 from ⟨fun c hc => HSd.out c (List.mem_of_mem_take hc), fun e => by have h1 := congrArg List.length e; have h2 := HSv.out; simp only [List.length_take, List.length_drop, List.length_nil] at h1; omega, by simp; omega⟩)
    have HA2 := hide (show dgs ((shownV key t).drop 5) ∧ (shownV key t).drop 5 ≠ [] ∧ ((shownV key t).drop 5).length ≤ 17 from ⟨fun c hc => HSd.out c (List.mem_of_mem_drop hc), fun e => by have h1 := congrArg List.length e; have h2 := HSv.out; simp only [List.length_take, List.length_drop, List.length_nil] at h1; omega, by have := HSv.out; simp; omega⟩)
    refine (Atoi_dg _ HA1.out.1 HA1.out.2.1 HA1.out.2.2 _).mono ?_
    rw [show numP ((shownV key t).take 5) = xV key t from rfl]
    rintro e w7 ⟨rfl, hb⟩
    have HB7 := hide (below_to HB6.out (Nat.le_refl _) hb)
    have HR7 := hide (HR6.out.to hb)
    have HG7 := hide (HG6.out.to hb)
    have HZ7 := hide (HZ6.out.to hb)
    clear hb HB6 HR6 HG6 HZ6
    have c0 := HZ7.out.cell 0
    have f0 := HZ7.out.frozen 0
    go_wp2_with fail
    have HB8 := hide (HB7.out.setCell (p := ⟨Z, 0, none⟩) (by have := HXZ.out; have := HXe.out; show _ ≤ Z; omega) (.int .i64 (xV key t : Int)))
    have HR8 := hide (HR7.out.far (p := ⟨Z, 0, none⟩) (Nat.ne_of_lt HXZ.out) (.int .i64 (xV key t : Int)))
    have HZ8 := hide (HZ7.out.set_ 0 (.int .i64 (xV key t : Int)))
    have HG8 := hide (HG7.out.belowB (B := Z) ((Below.refl Z w7).setCell (p := ⟨Z, 0, none⟩) (Nat.le_refl _) (.int .i64 (xV key t : Int))) HGZ.out)
    clear c0 f0 HB7 HR7 HG7 HZ7
    generalize w7.setCell ⟨Z, 0, none⟩ (.int .i64 (xV key t : Int)) = w8 at *
    refine (Atoi_dg _ HA2.out.1 HA2.out.2.1 HA2.out.2.2 _).mono ?_
    rw [show numP ((shownV key t).drop 5) = yV key t from rfl]
    rintro e w9 ⟨rfl, hb⟩
    have HB9 := hide (below_to HB8.out (Nat.le_refl _) hb)
    have HR9 := hide (HR8.out.to hb)
    have HG9 := hide (HG8.out.to hb)
    have HZ9 := hide (HZ8.out.to hb)
    clear hb HB8 HR8 HG8 HZ8
    have c0 : w9.cell? ⟨Z, 0, none⟩ = some (.int .i64 (xV key t : Int)) := HZ9.out.cell 0
    have c1 : w9.cell? ⟨Z, 1, none⟩ = some (.int .i64 0) := HZ9.out.cell 1
    have f1 := HZ9.out.frozen 1
    go_wp2_with fail
    have HB10 := hide (HB9.out.setCell (p := ⟨Z, 1, none⟩) (by have := HXZ.out; have := HXe.out; show _ ≤ Z; omega) (.int .i64 (yV key t : Int)))
    have HR10 := hide (HR9.out.far (p := ⟨Z, 1, none⟩) (Nat.ne_of_lt HXZ.out) (.int .i64 (yV key t : Int)))
    have HZ10 : Hid (Blk (w9.setCell ⟨Z, 1, none⟩ (.int .i64 (yV key t : Int))) Z 23 (ptC (xV key t) (yV key t))) := HZ9.out.set_ 1 (.int .i64 (yV key t : Int))
    clear c0 c1 f1 HB9 HR9 HG9 HZ9
    generalize w9.setCell ⟨Z, 1, none⟩ (.int .i64 (yV key t : Int)) = w10 at *
    refine (On_any (xV key t) (yV key t) _).mono ?_
    rintro e w11 ⟨rfl, hb⟩
    have HB11 := hide (below_to HB10.out (Nat.le_refl _) hb)
    have HR11 := hide (HR10.out.to hb)
    have HZ11 := hide (HZ10.out.to hb)
    clear hb HB10 HR10 HZ10
    have c0 : w11.cell? ⟨Z, 0, none⟩ = some (.int .i64 (xV key t : Int)) := HZ11.out.cell 0
    have c1 : w11.cell? ⟨Z, 1, none⟩ = some (.int .i64 (yV key t : Int)) := HZ11.out.cell 1
    have r0 := HR11.out.cell 0
    have r1 := HR11.out.cell 1
    have q0 := HR11.out.frozen 0
    have q1 := HR11.out.frozen 1
    cases ho : onP (xV key t) (yV key t)
    · have HV : Hid (openX key t = 0 ∧ openY key t = 0 ∧ openE key t = 15) := by show _ ∧ _ ∧ _; unfold openX openY openE goodV; rw [HI.out, ho]; simp
      clear ho
      go_wp2_with fail
      have hbk : Blk ((w11.setCell ⟨X, 0, none⟩ (.int .i64 0)).setCell ⟨X, 1, none⟩ (.int .i64 0)) X 23 (ptC 0 0) := (HR11.out.set_ 0 (.int .i64 0)).set_ 1 (.int .i64 0)
      exact bodyPost_ret (results_cell_tmp (p := 4) (u := 5) rfl _ _ X 23 _ _ rfl hbk Tryz.underlying23 rfl (by kernel_rfl)) rfl ⟨ret_pe HV.out.1.symm HV.out.2.1.symm HV.out.2.2.symm, (HB11.out.setCell (p := ⟨X, 0, none⟩) (Nat.le_of_eq HXe.out) _).setCell (p := ⟨X, 1, none⟩) (Nat.le_of_eq HXe.out) _⟩
    · have HV : Hid (openX key t = xV key t ∧ openY key t = yV key t ∧ openE key t = 0) := by
        have hgd : goodV key t = true := by unfold goodV; rw [HI.out, ho, decide_eq_true HM.out]; rfl
        show _ ∧ _ ∧ _; unfold openX openY openE; rw [hgd]; simp
      clear ho
      go_wp2_with fail
      have hbk : Blk ((w11.setCell ⟨X, 0, none⟩ (.int .i64 (xV key t : Int))).setCell ⟨X, 1, none⟩ (.int .i64 (yV key t : Int))) X 23 (ptC (xV key t) (yV key t)) := (HR11.out.set_ 0 (.int .i64 (xV key t : Int))).set_ 1 (.int .i64 (yV key t : Int))
      exact bodyPost_ret (results_cell_tmp (p := 4) (u := 5) rfl _ _ X 23 _ _ rfl hbk Tryz.underlying23 rfl (by kernel_rfl)) rfl ⟨ret_pe HV.out.1.symm HV.out.2.1.symm HV.out.2.2.symm, (HB11.out.setCell (p := ⟨X, 0, none⟩) (Nat.le_of_eq HXe.out) _).setCell (p := ⟨X, 1, none⟩) (Nat.le_of_eq HXe.out) _⟩
end Go.Proofs.YtdgbnplieaaokaaGreatDoor
