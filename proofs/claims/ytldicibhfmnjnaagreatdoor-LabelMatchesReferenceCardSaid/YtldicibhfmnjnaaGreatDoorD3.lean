/- Walk of package label: Unpack at the example of the chapter. -/
import Derived.Test.YtldicibhfmnjnaaGreatDoorD2
set_option linter.unusedVariables false
set_option linter.unusedSimpArgs false
namespace Go.Proofs.YtldicibhfmnjnaaGreatDoor
open Go.RowKit

theorem wp_built {P : Program} {o : Oper} {a : Act} {w : World} {K : Act → World → Prop} {Q : Exit → Act → World → Prop} (t : TypeId) (parts : Array (Nat × Operand)) (cells : Array Value) (ho : o.op = .build t parts)
    (hf : P.built t (parts.map fun (i, x) => (i, a.eval x)).toList = some cells) (h : K (a.put o.dst (.agg cells)) w) : o.wp P a w K Q :=
  wp_build t parts ho (by rw [hf]; rfl) (by rw [hf]; exact h)
def exT : List UInt8 := [48, 48, 51, 49, 50, 48, 48, 48, 48, 48, 48, 100, 49]
theorem ex_pack : packP [100, 49] 3 (-1) 12 false = exT := by decide +kernel
theorem ex_good : goodL [100, 49] 3 (-1) 12 = true := by decide +kernel
set_option maxHeartbeats 2000000 in
theorem number_ex (a b : Nat) (v : Int) (hab : a ≤ b) (hb : b ≤ 13) (hv : Lib.atoiAll ((exT.drop a).take (b - a)) = .ok v) (bx t : Nat) (w : World) (hx : Blk w bx t #[.string (bs exT)]) :
    Calls Tryz.prog 28 #[.int .i64 (a : Int), .int .i64 (b : Int), .pointer (some ⟨bx, 0, none⟩)] w fun e w' => e = .returned (.int .i64 v) ∧ Below w.heap.size w w' := by
  have c0 := hx.cell 0
  have hsz : (bs exT).size = 13 := rfl
  have he : (bs exT).extract a b = bs ((exT.drop a).take (b - a)) := bs_cut exT a b
  have CA := fun w => Tryz.strconv_Atoi_ok (bs ((exT.drop a).take (b - a))) (by rw [bs_size]; simp; omega) v (by rw [bs_list]; exact hv) w
  clear hv hx
  generalize bs ((exT.drop a).take (b - a)) = S at *
  generalize bs exT = X at *
  go_enter Tryz.func28, Tryz.ntmps28
  go_wp2_with fail
  refine (CA _).mono ?_
  rintro e w' ⟨rfl, hw⟩
  have HB : Hid (Below w.heap.size w w') := by
    rcases hw with rfl | ⟨t, rfl⟩
    · exact Below.refl _ _
    · exact Lib.bytesWorld_below _ _ _
  clear hw CA
  go_wp2_with fail
  go_ret
  exact ⟨rfl, HB.out⟩
set_option maxRecDepth 100000 in
set_option maxHeartbeats 8000000 in
theorem Unpack_ex (w : World) (hg : Glob w) : Calls Tryz.prog 14 #[.string (bs exT)] w fun e w' => e = .returned (.tuple #[lval [100, 49] 3 (-1) 12 false, .int .i64 0]) ∧ Below w.heap.size w w' := by
  have CP := fun w hg => Pack_good [100, 49] 3 (-1) 12 false ex_good w hg
  rw [ex_pack] at CP
  unfold lval at CP
  have hsz : (bs exT).size = 13 := rfl
  have hd : (bs exT).extract 11 13 = bs [100, 49] := by rw [bs_cut]; rfl
  have hi0 := fun w => index_bs exT 0 48 rfl w
  have htl : (bs exT).toList = exT := bs_toList _
  generalize hX : bs exT = X at *
  have HXX := hide hX
  clear hX
  have HB := hide (below_two w (.cells #[.string X] 9) (.cells #[.string ⟨#[]⟩, .int .i64 0, .int .i64 0, .int .i64 0, .bool false] 23))
  have HG := hide ((hg.alloc (.cells #[.string X] 9)).alloc (.cells #[.string ⟨#[]⟩, .int .i64 0, .int .i64 0, .int .i64 0, .bool false] 23))
  clear hg
  have HX : Hid (Blk ((w.alloc (.cells #[.string X] 9)).alloc (.cells #[.string ⟨#[]⟩, .int .i64 0, .int .i64 0, .int .i64 0, .bool false] 23)) w.heap.size 9 #[.string X]) := (Blk.new w _ _).alloc _
  have HR : Hid (Blk ((w.alloc (.cells #[.string X] 9)).alloc (.cells #[.string ⟨#[]⟩, .int .i64 0, .int .i64 0, .int .i64 0, .bool false] 23)) (w.heap.size + 1) 23 #[.string ⟨#[]⟩, .int .i64 0, .int .i64 0, .int .i64 0, .bool false]) := by have := Blk.new (w.alloc (.cells #[.string X] 9)) 23 #[.string ⟨#[]⟩, .int .i64 0, .int .i64 0, .int .i64 0, .bool false]; show Blk _ _ _ _; simpa using this
  go_enter Tryz.func14, Tryz.ntmps14
  go_wp2_with fail
  generalize (w.alloc (.cells #[.string X] 9)).alloc (.cells #[.string ⟨#[]⟩, .int .i64 0, .int .i64 0, .int .i64 0, .bool false] 23) = w1 at *
  obtain ⟨br, hbr⟩ : ∃ b, Hid (w.heap.size + 1 = b) := ⟨_, rfl⟩
  rw [hbr.out] at HR ⊢
  obtain ⟨bx, hbx⟩ : ∃ b, Hid (w.heap.size = b) := ⟨_, rfl⟩
  rw [hbx.out] at HX ⊢
  obtain ⟨U, hU, g, u0, rfl, hgu, hi'⟩ := cls w1
  have x0 := blk_all hgu HX.out 0 rfl
  have N1 : ∀ u, Calls Tryz.prog 28 #[.int .i64 1, .int .i64 3, .pointer (some ⟨bx, 0, none⟩)] (g u) fun e w' => e = .returned (.int .i64 3) ∧ Below (g u).heap.size (g u) w' := fun u => by
    have := number_ex 1 3 3 (by omega) (by omega) (by decide +kernel) bx 9 (g u) (by rw [HXX.out]; exact HX.out.to (hgu u))
    exact this
  have N2 : ∀ u, Calls Tryz.prog 28 #[.int .i64 3, .int .i64 5, .pointer (some ⟨bx, 0, none⟩)] (g u) fun e w' => e = .returned (.int .i64 12) ∧ Below (g u).heap.size (g u) w' := fun u => by
    have := number_ex 3 5 12 (by omega) (by omega) (by decide +kernel) bx 9 (g u) (by rw [HXX.out]; exact HX.out.to (hgu u))
    exact this
  have N3 : ∀ u, Calls Tryz.prog 28 #[.int .i64 5, .int .i64 11, .pointer (some ⟨bx, 0, none⟩)] (g u) fun e w' => e = .returned (.int .i64 0) ∧ Below (g u).heap.size (g u) w' := fun u => by
    have := number_ex 5 11 0 (by omega) (by omega) (by decide +kernel) bx 9 (g u) (by rw [HXX.out]; exact HX.out.to (hgu u))
    exact this
  have hi1 : ∀ w, (Instr.index 9 (.string X) (.int .i64 0)).run Tryz.prog w = .ok (.int .u8 48) w := fun w => hi0 w
  clear hi0
  have hwm : IntKind.i64.wrap (-1) = -1 := by decide +kernel
  apply wp_region_looseG g (V := [some _, some _, some _, some _, some _, some _, some _, some _, some _, some _, some _, some _, some _, none, none]) (Fs := [(13, Box5 (g u0).heap.size 23 5), (14, BoxIs (g u0).heap.size 23 5 #[.string (bs [100, 49]), .int .i64 3, .int .i64 (-1), .int .i64 12, .bool false])]) (Rel := fun i w w' => if i = 14 then BoxRel (g u0).heap.size 23 w w' else Below w.heap.size w w')
  case hm => kernel_rfl
  case hB => kernel_rfl
  case hCw => exact hi' _ (Below.refl _ _).drew
  case hC =>
    rintro i uq w' hr
    by_cases hi14 : i = 14
    · exact hi' _ ((hgu uq).trans (by simpa [hi14] using hr : BoxRel (g u0).heap.size 23 _ _).1)
    exact hi' _ (below_to (hgu uq) (Nat.le_refl _) (by simpa [hi14] using hr))
  case hst =>
    refine keeps_cons (fun i a a' w w' hne hwt hs hr h => h.keep (hs 5 (by kernel_rfl)) (by by_cases e14 : i = 14; (left; simpa [e14] using hr); right; simpa [e14] using hr)) ?_
    refine keeps_cons (fun i a a' w w' hne hwt hs hr h => h.keep (hs 5 (by kernel_rfl)) (by simpa [hne] using hr)) ?_
    exact keeps_nil
  case hop =>
    refine ⟨?_, ?_, ?_, ?_, ?_, ?_, ?_, ?_, ?_, ?_, ?_, ?_, ?_, ?_, ?_, trivial⟩
    · intro a uq K hS hd hK
      have s1 := hS.at 1 (by kernel_rfl) rfl
      rw [if_pos (want_free rfl)]
      go_simp
      exact hK _ _ (Below.refl _ _) (vok rfl) (facts_cons (fun h => absurd h (by decide)) (facts_cons (fun h => absurd h (by decide)) facts_nil))
    · intro a uq K hS hd hK
      have s13 := (waits_on hd 0 (by kernel_rfl)).at (d := 13) rfl rfl rfl
      rw [if_pos (want_free rfl)]
      go_simp
      exact hK _ _ (Below.refl _ _) (vok rfl) (facts_cons (fun h => absurd h (by decide)) (facts_cons (fun h => absurd h (by decide)) facts_nil))
    · intro a uq K hS hd hK
      have s4 := hS.at 4 (by kernel_rfl) rfl
      rw [if_pos (want_free rfl)]
      go_simp
      exact hK _ _ (Below.refl _ _) (vok rfl) (facts_cons (fun h => absurd h (by decide)) (facts_cons (fun h => absurd h (by decide)) facts_nil))
    · intro a uq K hS hd hK
      have s15 := (waits_on hd 2 (by kernel_rfl)).at (d := 15) rfl rfl rfl
      rw [if_pos (want_free rfl)]
      go_simp
      with_reducible refine (N1 uq).mono ?_
      rintro e w' ⟨rfl, hb⟩
      exact hK _ _ hb (vok rfl) (facts_cons (fun h => absurd h (by decide)) (facts_cons (fun h => absurd h (by decide)) facts_nil))
    · intro a uq K hS hd hK
      have s4 := hS.at 4 (by kernel_rfl) rfl
      rw [if_pos (want_free rfl)]
      go_simp
      exact hK _ _ (Below.refl _ _) (vok rfl) (facts_cons (fun h => absurd h (by decide)) (facts_cons (fun h => absurd h (by decide)) facts_nil))
    · intro a uq K hS hd hK
      have s17 := (waits_on hd 4 (by kernel_rfl)).at (d := 17) rfl rfl rfl
      rw [if_pos (want_free rfl)]
      go_simp
      with_reducible refine (N2 uq).mono ?_
      rintro e w' ⟨rfl, hb⟩
      exact hK _ _ hb (vok rfl) (facts_cons (fun h => absurd h (by decide)) (facts_cons (fun h => absurd h (by decide)) facts_nil))
    · intro a uq K hS hd hK
      have s4 := hS.at 4 (by kernel_rfl) rfl
      rw [if_pos (want_free rfl)]
      go_simp
      exact hK _ _ (Below.refl _ _) (vok rfl) (facts_cons (fun h => absurd h (by decide)) (facts_cons (fun h => absurd h (by decide)) facts_nil))
    · intro a uq K hS hd hK
      have s19 := (waits_on hd 6 (by kernel_rfl)).at (d := 19) rfl rfl rfl
      rw [if_pos (want_free rfl)]
      go_simp
      with_reducible refine (N3 uq).mono ?_
      rintro e w' ⟨rfl, hb⟩
      exact hK _ _ hb (vok rfl) (facts_cons (fun h => absurd h (by decide)) (facts_cons (fun h => absurd h (by decide)) facts_nil))
    · intro a uq K hS hd hK
      have s20 := (waits_on hd 7 (by kernel_rfl)).at (d := 20) rfl rfl rfl
      rw [if_pos (want_free rfl)]
      go_simp
      exact hK _ _ (Below.refl _ _) (vok rfl) (facts_cons (fun h => absurd h (by decide)) (facts_cons (fun h => absurd h (by decide)) facts_nil))
    · intro a uq K hS hd hK
      have s1 := hS.at 1 (by kernel_rfl) rfl
      rw [if_pos (want_free rfl)]
      go_simp
      exact hK _ _ (Below.refl _ _) (vok rfl) (facts_cons (fun h => absurd h (by decide)) (facts_cons (fun h => absurd h (by decide)) facts_nil))
    · intro a uq K hS hd hK
      have s22 := (waits_on hd 9 (by kernel_rfl)).at (d := 22) rfl rfl rfl
      rw [if_pos (want_free rfl)]
      go_simp
      exact hK _ _ (Below.refl _ _) (vok rfl) (facts_cons (fun h => absurd h (by decide)) (facts_cons (fun h => absurd h (by decide)) facts_nil))
    · intro a uq K hS hd hK
      have s23 := (waits_on hd 10 (by kernel_rfl)).at (d := 23) rfl rfl rfl
      rw [if_pos (want_free rfl)]
      go_simp
      exact hK _ _ (Below.refl _ _) (vok rfl) (facts_cons (fun h => absurd h (by decide)) (facts_cons (fun h => absurd h (by decide)) facts_nil))
    · intro a uq K hS hd hK
      have s14 := (waits_on hd 1 (by kernel_rfl)).at (d := 14) rfl rfl rfl
      have s16 := (waits_on hd 3 (by kernel_rfl)).at (d := 16) rfl rfl rfl
      have s18 := (waits_on hd 5 (by kernel_rfl)).at (d := 18) rfl rfl rfl
      have s21 := (waits_on hd 8 (by kernel_rfl)).at (d := 21) rfl rfl rfl
      have s24 := (waits_on hd 11 (by kernel_rfl)).at (d := 24) rfl rfl rfl
      rw [if_pos (want_free rfl)]
      refine wp_built 23 _ #[.string (bs [100, 49]), .int .i64 3, .int .i64 (-1), .int .i64 12, .bool false] rfl ?_ (hK _ _ (Below.refl _ _) (vok rfl) (facts_cons (fun h => absurd h (by decide)) (facts_cons (fun h => absurd h (by decide)) facts_nil)))
      simp only [List.map_toArray, List.map_cons, List.map_nil]
      rw [evt s14, evt s16, evt s18, evt s21, evt s24]
      kernel_rfl
    · intro a uq K hS hd hK
      rw [if_pos (want_free rfl)]
      go_simp
      exact hK _ _ (below_one _ _) (vfree rfl) (facts_cons (fun _ => ⟨_, _, _, _, _, _, hS.put_at (by kernel_rfl) _, Nat.le_trans (Below.size (hgu uq)) (Nat.le_refl _), Blk.new _ _ _⟩) (facts_cons (fun h => absurd h (by decide)) facts_nil))
    · intro a uq K hS hd hK
      obtain ⟨b5, x5_0, x5_1, x5_2, x5_3, x5_4, s5, l5, r5⟩ := (waits_on hd 13 (by kernel_rfl)).2 _ (List.mem_cons_self ..) rfl
      have s25 := (waits_on hd 12 (by kernel_rfl)).at (d := 25) rfl rfl rfl
      rw [if_pos (want_free rfl)]
      have c0 := r5.cell 0
      have f0 := r5.frozen 0
      have c1 := r5.cell 1
      have f1 := r5.frozen 1
      have c2 := r5.cell 2
      have f2 := r5.frozen 2
      have c3 := r5.cell 3
      have f3 := r5.frozen 3
      have c4 := r5.cell 4
      have f4 := r5.frozen 4
      go_simp
      exact hK undef _ ((((((BoxRel.refl _ _ _).set_ r5 l5 0 _).set_ (r5.set_ 0 (.string (bs [100, 49]))) l5 1 _).set_ ((r5.set_ 0 (.string (bs [100, 49]))).set_ 1 (.int .i64 3)) l5 2 _).set_ (((r5.set_ 0 (.string (bs [100, 49]))).set_ 1 (.int .i64 3)).set_ 2 (.int .i64 (-1))) l5 3 _).set_ ((((r5.set_ 0 (.string (bs [100, 49]))).set_ 1 (.int .i64 3)).set_ 2 (.int .i64 (-1))).set_ 3 (.int .i64 12)) l5 4 _) (vfree rfl) (facts_cons (fun h => absurd h (by decide)) (facts_cons (fun _ => ⟨b5, s5, l5, (((((r5.set_ 0 (.string (bs [100, 49]))).set_ 1 (.int .i64 3)).set_ 2 (.int .i64 (-1))).set_ 3 (.int .i64 12)).set_ 4 (.bool false))⟩) facts_nil))
  case hfin =>
    intro a uq hS hk
    have s13 := (hk 0 (by decide)).at (d := 13) rfl rfl rfl
    have s14 := (hk 1 (by decide)).at (d := 14) rfl rfl rfl
    have s15 := (hk 2 (by decide)).at (d := 15) rfl rfl rfl
    have s16 := (hk 3 (by decide)).at (d := 16) rfl rfl rfl
    have s17 := (hk 4 (by decide)).at (d := 17) rfl rfl rfl
    have s18 := (hk 5 (by decide)).at (d := 18) rfl rfl rfl
    have s19 := (hk 6 (by decide)).at (d := 19) rfl rfl rfl
    have s20 := (hk 7 (by decide)).at (d := 20) rfl rfl rfl
    have s21 := (hk 8 (by decide)).at (d := 21) rfl rfl rfl
    have s22 := (hk 9 (by decide)).at (d := 22) rfl rfl rfl
    have s23 := (hk 10 (by decide)).at (d := 23) rfl rfl rfl
    have s24 := (hk 11 (by decide)).at (d := 24) rfl rfl rfl
    have s25 := (hk 12 (by decide)).at (d := 25) rfl rfl rfl
    obtain ⟨b5, s5, l5, r5⟩ := (hk 14 (by decide)).2 _ (List.mem_cons_of_mem _ (List.mem_cons_self ..)) rfl
    have hlit := hS.lit _ (by kernel_rfl) (lits_cons s13 (lits_cons s14 (lits_cons s15 (lits_cons s16 (lits_cons s17 (lits_cons s18 (lits_cons s19 (lits_cons s20 (lits_cons s21 (lits_cons s22 (lits_cons s23 (lits_cons s24 (lits_cons s25 (lits_cons s5 lits_nil))))))))))))))
    rw [hlit]
    clear hlit hk hS s13 s14 s15 s16 s17 s18 s19 s20 s21 s22 s23 s24 s25 s5
    simp only [litT, List.setIfInBounds_toArray, List.set_cons_succ, List.set_cons_zero]
    have HB2 := hide (below_to HB.out (Nat.le_refl _) (hgu uq))
    have HG2 := hide (HG.out.to (hgu uq))
    have HX2 := hide (HX.out.to (hgu uq))
    have HR2 := hide (HR.out.to (hgu uq))
    have HL2 := hide r5
    clear r5 HB HG HX HR N1 N2 N3 x0 hi1
    generalize g uq = w2 at *
    clear hgu hi' l5
    obtain ⟨U2, hU2, g2, u2, rfl, hgu2, hi2⟩ := cls w2
    have x0 := blk_all hgu2 HX2.out 0 rfl
    have y0 := blk_all hgu2 HL2.out 0 rfl
    have y1 := blk_all hgu2 HL2.out 1 rfl
    have y2 := blk_all hgu2 HL2.out 2 rfl
    have y3 := blk_all hgu2 HL2.out 3 rfl
    have y4 := blk_all hgu2 HL2.out 4 rfl
    have r0 := blk_all hgu2 HR2.out 0 rfl
    have r1 := blk_all hgu2 HR2.out 1 rfl
    have r2 := blk_all hgu2 HR2.out 2 rfl
    have r3 := blk_all hgu2 HR2.out 3 rfl
    have r4 := blk_all hgu2 HR2.out 4 rfl
    have rf : ∀ u i, (g2 u).frozen? ⟨br, i, none⟩ = false := fun u i => (HR2.out.to (hgu2 u)).frozen i
    have C2 := cls_call hgu2 hi2 (fun w hb => CP w (HG2.out.to hb))
    have HGU := hide hgu2
    clear hgu2 hi2
    go_wp2_with ((with_reducible refine (C2 _).mono ?_); rintro e w' ⟨rfl, u, rfl⟩)
    have hbk := (((((HR2.out.to (HGU.out u)).set_ 0 (.string (bs [100, 49]))).set_ 1 (.int .i64 3)).set_ 2 (.int .i64 (-1))).set_ 3 (.int .i64 12)).set_ 4 (.bool false)
    have hle : w.heap.size ≤ br := by have := hbr.out; omega
    refine bodyPost_ret (results_c1 (p := 2) (u := 3) rfl _ _ br 23 _ _ rfl hbk Tryz.underlying23 rfl (by kernel_rfl)) rfl ⟨rfl, ?_⟩
    exact (((((below_to HB2.out (Nat.le_refl _) (HGU.out u)).setCell (p := ⟨br, 0, none⟩) hle _).setCell (p := ⟨br, 1, none⟩) hle _).setCell (p := ⟨br, 2, none⟩) hle _).setCell (p := ⟨br, 3, none⟩) hle _).setCell (p := ⟨br, 4, none⟩) hle _
end Go.Proofs.YtldicibhfmnjnaaGreatDoor
