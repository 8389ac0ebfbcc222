/- Several texts as one, in build order. -/
import Derived.Test.YtdcafoekbnacnaaGreatDoorME
/- Chapter 24: the walk of FormatWrites. -/
set_option linter.unusedVariables false
set_option linter.unusedSimpArgs false
namespace Go.Proofs.YtdcafoekbnacnaaGreatDoor
open Go.RowKit Go.Shelf
attribute [local go_sem] Oper.semAt_some

set_option maxRecDepth 100000 in
set_option maxHeartbeats 4000000 in
theorem writes_law (s : Sch) (hl0 : s.ps.length ≤ 8796093022208) (hc0 : s.c.length ≤ 140737488355328) (v : Value) (t : List UInt8) (ht0 : t.length ≤ 140737488355328) (w : World) (hP : PartsAt w v s.ps) (hg : Glob4 w) :
    Calls Tryz.prog 12 #[.agg #[.string (bs s.c), v], .string (bs t)] w fun e w' => e = .returned (.bool true) ∧ Below w.heap.size w w' := by
  have HP0 := hide hP
  have HG0 := hide hg
  have HGo := hide hg
  obtain ⟨A, c, rfl, hc⟩ := hP.slice
  clear hP hg
  have hsz := bs_size t
  go_enter Tryz.func12, Tryz.ntmps12
  go_wp2_with fail
  obtain ⟨Xs, B0⟩ := box1 w 24 #[.string (bs s.c), .slice A s.ps.length c]
  have HXs := hide Xs
  have HB := hide B0
  have HP := hide (HP0.out.to B0)
  have HG := hide (HG0.out.to B0)
  clear Xs B0 HP0 HG0
  generalize w.alloc (.cells #[.string (bs s.c), .slice A s.ps.length c] 24) = w1 at *
  refine (head24_any w1 HG.out).mono ?_
  rintro e w2 ⟨rfl, hb⟩
  have zHXs := hide (HXs.out.to hb)
  have zHP := hide (HP.out.to hb)
  have zHG := hide (HG.out.to hb)
  have zHB := hide (below_to HB.out (Nat.le_refl _) hb)
  clear hb HB HXs HP HG
  have HXs := zHXs
  have HP := zHP
  have HG := zHG
  have HB := zHB
  clear zHXs zHP zHG zHB
  obtain ⟨U, hU, g, u0, rfl, hgu, hgi⟩ := cls w2
  have xs_0 := fun u => (((HXs.out.to (hgu u)).cell 0).trans (show _ = some (Value.string (bs s.c)) from rfl))
  have xs_1 := fun u => (((HXs.out.to (hgu u)).cell 1).trans (show _ = some (Value.slice A s.ps.length c) from rfl))
  have CK : ∀ u, Calls Tryz.prog 31 #[.agg #[.string (bs s.c), .slice A s.ps.length c], .agg #[.string ⟨#[]⟩, .string ⟨#[]⟩, .string ⟨#[]⟩, .string ⟨#[]⟩, .string ⟨#[]⟩, .string ⟨#[]⟩, .string ⟨#[]⟩, .string ⟨#[]⟩, .string ⟨#[]⟩], .string (bs t)] (g u) fun e w' => e = .returned (.bool (fewB s && (shortF [[], [], [], [], [], [], [], [], []] && decide (t.length ≤ 800)))) ∧ ∃ u', w' = g u' := fun u => cls_call hgu hgi (fun W hb => few24_any s hl0 (.slice A s.ps.length c) [] [] [] [] [] [] [] [] [] t W (HP.out.to hb)) u
  cases h1 : (fewB s && (shortF [[], [], [], [], [], [], [], [], []] && decide (t.length ≤ 800))) with
  | false =>
    rw [h1] at CK
    clear h1
    go_wp2_with (first | ((with_reducible refine (CK _).mono ?_); rintro e w' ⟨rfl, u, rfl⟩))
    all_goals go_ret
    all_goals exact ⟨rfl, below_to HB.out (Nat.le_refl _) (hgu _)⟩
  | true =>
    rw [h1] at CK
    have hts := (few24_facts h1).2.2
    clear h1
    obtain ⟨g0, g1, g2, g3, g4, g5, g6, g7, g8, hRG⟩ := nine (readF_nine s t)
    have HRG := hide hRG
    obtain ⟨E, hRE⟩ : ∃ x, (readF (validB isNm s) numB s.ps t).2.1 = x := ⟨_, rfl⟩
    have HRE := hide hRE
    obtain ⟨ea, hRA⟩ : ∃ x, (readF (validB isNm s) numB s.ps t).2.2 = x := ⟨_, rfl⟩
    have HRA := hide hRA
    clear hRG hRE hRA
    have CR : ∀ W, Below (g u0).heap.size (g u0) W → Calls Tryz.prog 34 #[.agg #[.string (bs s.c), .slice A s.ps.length c], .string (bs t)] W fun e w' => e = .returned (.tuple #[.agg #[.string (bs g0), .string (bs g1), .string (bs g2), .string (bs g3), .string (bs g4), .string (bs g5), .string (bs g6), .string (bs g7), .string (bs g8)], .int .i64 E, .int .i64 ea]) ∧ Below W.heap.size W w' := fun W hW => by
      have := FRead_any s hl0 hc0 (.slice A s.ps.length c) t (by omega) W (HP.out.to hW) (HG.out.to hW)
      rw [HRG.out, HRE.out, HRA.out] at this
      exact this
    go_wp2_with (first | ((with_reducible refine (CK _).mono ?_); rintro e w' ⟨rfl, u, rfl⟩))
    refine (CR _ (hgu _)).mono ?_
    rintro e w5 ⟨rfl, hb⟩
    have hbb : Below (g u).heap.size (g u) (w5.alloc (.cells #[.string (bs g0), .string (bs g1), .string (bs g2), .string (bs g3), .string (bs g4), .string (bs g5), .string (bs g6), .string (bs g7), .string (bs g8)] 26)) := below_alloc hb (Nat.le_refl _) _
    have HX5 := hide (Blk.new w5 26 #[.string (bs g0), .string (bs g1), .string (bs g2), .string (bs g3), .string (bs g4), .string (bs g5), .string (bs g6), .string (bs g7), .string (bs g8)])
    have HP5 := hide ((HP.out.to (hgu u)).to hbb)
    have HG5 := hide ((HG.out.to (hgu u)).to hbb)
    have HXs5 := hide ((HXs.out.to (hgu u)).to hbb)
    have HB5 := hide (below_to (below_to HB.out (Nat.le_refl _) (hgu u)) (Nat.le_refl _) hbb)
    clear hb hbb CK CR HP HG HXs  HB xs_0 xs_1 
    go_upto_region 5 with fail
    generalize w5.alloc (.cells #[.string (bs g0), .string (bs g1), .string (bs g2), .string (bs g3), .string (bs g4), .string (bs g5), .string (bs g6), .string (bs g7), .string (bs g8)] 26) = w6 at *
    generalize w5.heap.size = bx at *
    clear hgu hgi
    obtain ⟨U6, hU6, k6, u6, rfl, hku, hki⟩ := cls w6
    have xs_0 := fun u => (((HXs5.out.to (hku u)).cell 0).trans (show _ = some (Value.string (bs s.c)) from rfl))
    have xs_1 := fun u => (((HXs5.out.to (hku u)).cell 1).trans (show _ = some (Value.slice A s.ps.length c) from rfl))
    have xx_0 := fun u => (((HX5.out.to (hku u)).cell 0).trans (show _ = some (Value.string (bs g0)) from rfl))
    have xx_1 := fun u => (((HX5.out.to (hku u)).cell 1).trans (show _ = some (Value.string (bs g1)) from rfl))
    have xx_2 := fun u => (((HX5.out.to (hku u)).cell 2).trans (show _ = some (Value.string (bs g2)) from rfl))
    have xx_3 := fun u => (((HX5.out.to (hku u)).cell 3).trans (show _ = some (Value.string (bs g3)) from rfl))
    have xx_4 := fun u => (((HX5.out.to (hku u)).cell 4).trans (show _ = some (Value.string (bs g4)) from rfl))
    have xx_5 := fun u => (((HX5.out.to (hku u)).cell 5).trans (show _ = some (Value.string (bs g5)) from rfl))
    have xx_6 := fun u => (((HX5.out.to (hku u)).cell 6).trans (show _ = some (Value.string (bs g6)) from rfl))
    have xx_7 := fun u => (((HX5.out.to (hku u)).cell 7).trans (show _ = some (Value.string (bs g7)) from rfl))
    have xx_8 := fun u => (((HX5.out.to (hku u)).cell 8).trans (show _ = some (Value.string (bs g8)) from rfl))
    have CV : ∀ u, Calls Tryz.prog 22 #[.agg #[.string (bs s.c), .slice A s.ps.length c]] (k6 u) fun e w' => e = .returned (.bool (validB isNm s)) ∧ ∃ u', w' = k6 u' := fun u => cls_call hku hki (fun W hb => SValid_any s hl0 hc0 (.slice A s.ps.length c) W (HP5.out.to hb)) u
    have EZ : [g0, g1, g2, g3, g4, g5, g6, g7, g8] = zeroF → ∀ w, (binOp .eql 26 (.agg #[.string (bs g0), .string (bs g1), .string (bs g2), .string (bs g3), .string (bs g4), .string (bs g5), .string (bs g6), .string (bs g7), .string (bs g8)]) (.agg #[.string ⟨#[]⟩, .string ⟨#[]⟩, .string ⟨#[]⟩, .string ⟨#[]⟩, .string ⟨#[]⟩, .string ⟨#[]⟩, .string ⟨#[]⟩, .string ⟨#[]⟩, .string ⟨#[]⟩])).run Tryz.prog w = .ok (.bool true) w := fun h w => (fields_eq g0 g1 g2 g3 g4 g5 g6 g7 g8 [] [] [] [] [] [] [] [] [] w).trans (by rw [show decide ([g0, g1, g2, g3, g4, g5, g6, g7, g8] = [[], [], [], [], [], [], [], [], []]) = true from decide_eq_true h])
    cases hv : validB isNm s with
    | false =>
      have h3 := HRG.out
      have h4 := HRE.out
      have h5 := HRA.out
      rw [hv, readF_no] at h3 h4 h5
      have EQ := EZ h3.symm
      have h4 : (1 : Int) = E := h4
      have h5 : (-1 : Int) = ea := h5
      subst h4 h5
      rw [hv] at CV
      clear hv h3 HRG HRE HRA EZ
      go_wp2_with (first | ((with_reducible refine (CV _).mono ?_); rintro e w' ⟨rfl, u, rfl⟩))
      all_goals go_ret
      all_goals exact ⟨rfl, below_to HB5.out (Nat.le_refl _) (hku _)⟩
    | true =>
      rw [hv] at CV HRG HRE HRA
      by_cases hE : E = 0
      · obtain ⟨h3, h4, h5⟩ := readF_ok ((validB_iff isNm s).1 hv) (t := t) (HRE.out.trans hE)
        rw [HRA.out] at h3
        rw [HRG.out] at h4 h5
        have h2 := (fitsB_iff isNm numB s [g0, g1, g2, g3, g4, g5, g6, g7, g8] rfl).2 h4
        have CW : ∀ u, Calls Tryz.prog 32 #[.agg #[.string (bs s.c), .slice A s.ps.length c], .agg #[.string (bs g0), .string (bs g1), .string (bs g2), .string (bs g3), .string (bs g4), .string (bs g5), .string (bs g6), .string (bs g7), .string (bs g8)]] (k6 u) fun e w' => e = .returned (.tuple #[.string (bs t), .int .i64 0]) ∧ ∃ u', w' = k6 u' := fun u => by
          have := cls_call hku hki (fun W hb => FWrite_any s hl0 hc0 (.slice A s.ps.length c) g0 g1 g2 g3 g4 g5 g6 g7 g8 W (HP5.out.to hb) (HG5.out.to hb).g) u
          rw [(fw_yes h2).1, (fw_yes h2).2, h5] at this
          exact this
        have CA : ∀ u, Calls Tryz.prog 24 #[.agg #[.string (bs s.c), .slice A s.ps.length c], .agg #[.string (bs g0), .string (bs g1), .string (bs g2), .string (bs g3), .string (bs g4), .string (bs g5), .string (bs g6), .string (bs g7), .string (bs g8)]] (k6 u) fun e w' => e = .returned (.bool true) ∧ ∃ u', w' = k6 u' := fun u => by
          have := cls_call hku hki (fun W hb => Fits_any s hl0 hc0 (.slice A s.ps.length c) g0 g1 g2 g3 g4 g5 g6 g7 g8 W (HP5.out.to hb) (HG5.out.to hb).g) u
          rw [h2] at this
          exact this
        subst hE h3
        clear h2 h4 h5 hv HRG HRE HRA EZ
        go_wp2_with (first | ((with_reducible refine (CV _).mono ?_); rintro e w' ⟨rfl, u, rfl⟩) | ((with_reducible refine (CW _).mono ?_); rintro e w' ⟨rfl, u, rfl⟩) | ((with_reducible refine (CA _).mono ?_); rintro e w' ⟨rfl, u, rfl⟩))
        all_goals go_ret
        all_goals exact ⟨rfl, below_to HB5.out (Nat.le_refl _) (hku _)⟩
      · obtain ⟨h3, h4, h5, h6⟩ := readF_err (num := numB) (ps := s.ps) (t := t) (by rw [HRE.out]; exact hE)
        rw [HRA.out] at h4 h5 h6
        rw [HRE.out] at h6
        have EQ := EZ (HRG.out.symm.trans h3)
        have f1 : decide ((0 : Int) ≤ ea) = true := decide_eq_true h4
        have f2 : decide (ea ≤ (t.length : Int)) = true := decide_eq_true h5
        clear h3 h4 h5 EZ HRG HRE HRA hv
        rcases h6 with h6 | ⟨h6, h7⟩ | ⟨h6, h7⟩
        · subst h6
          clear hE
          go_wp2_with (first | ((with_reducible refine (CV _).mono ?_); rintro e w' ⟨rfl, u, rfl⟩))
          all_goals go_ret
          all_goals exact ⟨rfl, below_to HB5.out (Nat.le_refl _) (hku _)⟩
        · subst h6
          have f3 : (ea == (t.length : Int)) = true := by rw [h7]; simp
          clear hE h7
          go_wp2_with (first | ((with_reducible refine (CV _).mono ?_); rintro e w' ⟨rfl, u, rfl⟩))
          all_goals go_ret
          all_goals exact ⟨rfl, below_to HB5.out (Nat.le_refl _) (hku _)⟩
        · subst h6
          have f3 : (ea == (t.length : Int)) = false := by rw [beq_eq_false_iff_ne]; exact h7
          clear hE h7
          go_wp2_with (first | ((with_reducible refine (CV _).mono ?_); rintro e w' ⟨rfl, u, rfl⟩))
          all_goals go_ret
          all_goals exact ⟨rfl, below_to HB5.out (Nat.le_refl _) (hku _)⟩
end Go.Proofs.YtdcafoekbnacnaaGreatDoor
