/- Several texts as one, in build order. -/
import Derived.Test.YtdcafoekbnacnaaGreatDoorMD
import Derived.Test.YtdcafoekbnacnaaGreatDoorMA
import Derived.Deep.DeepCutAuto
/- Chapter 23: the walk of SchemeNeeds. -/
set_option linter.unusedVariables false
set_option linter.unusedSimpArgs false
namespace Go.Proofs.YtdcafoekbnacnaaGreatDoor
open Go.RowKit Go.Shelf
attribute [local go_sem] Oper.semAt_some

theorem own_emptyN {w : World} {B : Nat} (hB : B ≤ w.heap.size) : OwnP (w.alloc (.cells #[] 41)) B (.slice (some ⟨w.heap.size, 0, none⟩) 0 0) [] :=
  ⟨rfl, .inr ⟨w.heap.size, 0, #[], rfl, hB, Blk.new _ _ _, Nat.le_refl _, by decide, rfl, rfl⟩⟩
/-- a part of a row of one's own becomes a needed one -/
theorem own_need {w : World} {B g n c : Nat} {ps : List Prt} (k : Nat) (h : OwnP w B (.slice (some ⟨g, 0, none⟩) n c) ps) :
    PartsAt (w.setCell ⟨g, k * 4 + 3, none⟩ (.bool true)) (.slice (some ⟨g, 0, none⟩) ps.length c) (needAt ps k) ∧ n = ps.length ∧ g < w.heap.size ∧ ps.length ≤ c ∧ ∃ T cur, Blk w g T cur := by
  obtain ⟨hl, h⟩ := h
  rcases h with ⟨hv, h0⟩ | ⟨g', cap, cur, hv, hB, hg, hn, _, hsz, ht⟩
  · cases hv
  · injection hv with e1 e2 e3
    injection e1 with e1
    injection e1 with e1 _ _
    subst e1 e3
    have hb : Blk w g 41 cur := hg
    refine ⟨RowsAt.of_blk (hb.set_ (k * 4 + 3) (.bool true)) (by rw [List.length_map, needAt_len]) hn ptV_len (fun i x hx j u hu => ?_), e2, hb.lt, hn, _, _, hb⟩
    rw [List.getElem?_map] at hx
    obtain ⟨p, hp, rfl⟩ := Option.map_eq_some_iff.1 hx
    obtain ⟨q, hq, q1, q2, q3, q4, q5, q6⟩ := needAt_same ps k i p hp
    have old : ∀ v, (ptV q)[j]? = some v → cur[i * 4 + j]? = some v := fun v hv => by
      have h1 := flat_at (ps.map ptV) ptV_len i (ptV q) j v (by rw [List.getElem?_map, hq]; rfl) hv
      rw [← ht, List.getElem?_take] at h1
      split at h1
      · simpa using h1
      · cases h1
    have hj : j < 4 := (List.getElem?_eq_some_iff.1 hu).1
    rw [Array.getElem?_setIfInBounds]
    by_cases hij : k * 4 + 3 = i * 4 + j
    · obtain rfl : k = i := by omega
      obtain rfl : j = 3 := by omega
      have hlt : k * 4 + 3 < cur.size := by
        have := old (.bool q.need) rfl
        rcases Nat.lt_or_ge (k * 4 + 3) cur.size with h | h
        · exact h
        · rw [Array.getElem?_eq_none h] at this; cases this
      rw [if_pos rfl, if_pos hlt, ← hu, ← q5 rfl]; rfl
    · rw [if_neg hij]
      refine old u ?_
      rw [← hu]
      by_cases hki : k = i
      · have h3 : j ≠ 3 := fun h => hij (by rw [hki, h])
        unfold ptV
        rw [q1, q2, q3]
        match j, hj, h3 with
        | 0, _, _ => rfl
        | 1, _, _ => rfl
        | 2, _, _ => rfl
        | 3, _, h => exact absurd rfl h
      · rw [q6 hki]
set_option maxRecDepth 100000 in
set_option maxHeartbeats 4000000 in
theorem needs_law (s : Sch) (hl0 : s.ps.length ≤ 8796093022208) (hc0 : s.c.length ≤ 140737488355328) (v : Value) (f0 f1 f2 f3 f4 f5 f6 f7 f8 : List UInt8) (raw : Nat) (hraw : raw < 256) (w : World) (hP : PartsAt w v s.ps) (hg : Glob w) :
    Calls Tryz.prog 6 #[.agg #[.string (bs s.c), v], .agg #[.string (bs f0), .string (bs f1), .string (bs f2), .string (bs f3), .string (bs f4), .string (bs f5), .string (bs f6), .string (bs f7), .string (bs f8)], .int .u8 (raw : Int)] w fun e w' => e = .returned (.bool true) ∧ Below w.heap.size w w' := by
  have HP0 := hide hP
  have HG0 := hide hg
  have HGo := hide hg
  obtain ⟨A, c, rfl, hc⟩ := hP.slice
  clear hP hg
  go_enter Tryz.func6, Tryz.ntmps6
  go_wp2_with fail
  obtain ⟨Xs, Xf, B0⟩ := box2 w 24 #[.string (bs s.c), .slice A s.ps.length c] 26 #[.string (bs f0), .string (bs f1), .string (bs f2), .string (bs f3), .string (bs f4), .string (bs f5), .string (bs f6), .string (bs f7), .string (bs f8)]
  have HXs := hide Xs
  have HXf := hide Xf
  have HB := hide B0
  have HP := hide (HP0.out.to B0)
  have HG := hide (HG0.out.to B0)
  clear Xs Xf B0 HP0 HG0
  generalize (w.alloc (.cells #[.string (bs s.c), .slice A s.ps.length c] 24)).alloc (.cells #[.string (bs f0), .string (bs f1), .string (bs f2), .string (bs f3), .string (bs f4), .string (bs f5), .string (bs f6), .string (bs f7), .string (bs f8)] 26) = w1 at *
  refine (head_any w1 HG.out).mono ?_
  rintro e w2 ⟨rfl, hb⟩
  have zHXs := hide (HXs.out.to hb)
  have zHXf := hide (HXf.out.to hb)
  have zHP := hide (HP.out.to hb)
  have zHG := hide (HG.out.to hb)
  have zHB := hide (below_to HB.out (Nat.le_refl _) hb)
  clear hb HB HXs HXf HP HG
  have HXs := zHXs
  have HXf := zHXf
  have HP := zHP
  have HG := zHG
  have HB := zHB
  clear zHXs zHXf zHP zHG zHB
  obtain ⟨U, hU, g, u0, rfl, hgu, hgi⟩ := cls w2
  have xs_0 := fun u => (((HXs.out.to (hgu u)).cell 0).trans (show _ = some (Value.string (bs s.c)) from rfl))
  have xs_1 := fun u => (((HXs.out.to (hgu u)).cell 1).trans (show _ = some (Value.slice A s.ps.length c) from rfl))
  have xf_0 := fun u => (((HXf.out.to (hgu u)).cell 0).trans (show _ = some (Value.string (bs f0)) from rfl))
  have xf_1 := fun u => (((HXf.out.to (hgu u)).cell 1).trans (show _ = some (Value.string (bs f1)) from rfl))
  have xf_2 := fun u => (((HXf.out.to (hgu u)).cell 2).trans (show _ = some (Value.string (bs f2)) from rfl))
  have xf_3 := fun u => (((HXf.out.to (hgu u)).cell 3).trans (show _ = some (Value.string (bs f3)) from rfl))
  have xf_4 := fun u => (((HXf.out.to (hgu u)).cell 4).trans (show _ = some (Value.string (bs f4)) from rfl))
  have xf_5 := fun u => (((HXf.out.to (hgu u)).cell 5).trans (show _ = some (Value.string (bs f5)) from rfl))
  have xf_6 := fun u => (((HXf.out.to (hgu u)).cell 6).trans (show _ = some (Value.string (bs f6)) from rfl))
  have xf_7 := fun u => (((HXf.out.to (hgu u)).cell 7).trans (show _ = some (Value.string (bs f7)) from rfl))
  have xf_8 := fun u => (((HXf.out.to (hgu u)).cell 8).trans (show _ = some (Value.string (bs f8)) from rfl))
  have CF : ∀ u, Calls Tryz.prog 16 #[.agg #[.string (bs s.c), .slice A s.ps.length c]] (g u) fun e w' => e = .returned (.bool (fewB s)) ∧ ∃ u', w' = g u' := fun u => cls_call hgu hgi (fun W hb => Few_any s hl0 (.slice A s.ps.length c) W (HP.out.to hb)) u
  have CS : ∀ u, Calls Tryz.prog 17 #[.agg #[.string (bs f0), .string (bs f1), .string (bs f2), .string (bs f3), .string (bs f4), .string (bs f5), .string (bs f6), .string (bs f7), .string (bs f8)]] (g u) fun e w' => e = .returned (.bool (shortF [f0, f1, f2, f3, f4, f5, f6, f7, f8])) ∧ ∃ u', w' = g u' := fun u => cls_call hgu hgi (fun W hb => Short_any f0 f1 f2 f3 f4 f5 f6 f7 f8 W) u
  have CV : ∀ u, Calls Tryz.prog 22 #[.agg #[.string (bs s.c), .slice A s.ps.length c]] (g u) fun e w' => e = .returned (.bool (validB isNm s)) ∧ ∃ u', w' = g u' := fun u => cls_call hgu hgi (fun W hb => SValid_any s hl0 hc0 (.slice A s.ps.length c) W (HP.out.to hb)) u
  cases hCF : fewB s with
  | false =>
    rw [hCF] at CF
    clear hCF
    go_wp2_with (first | ((with_reducible refine (CF _).mono ?_); rintro e w' ⟨rfl, u, rfl⟩) | ((with_reducible refine (CS _).mono ?_); rintro e w' ⟨rfl, u, rfl⟩) | ((with_reducible refine (CV _).mono ?_); rintro e w' ⟨rfl, u, rfl⟩))
    all_goals go_ret
    all_goals exact ⟨rfl, below_to HB.out (Nat.le_refl _) (hgu _)⟩
  | true =>
    rw [hCF] at CF
    have kCF := hide hCF
    clear hCF
    cases hCS : shortF [f0, f1, f2, f3, f4, f5, f6, f7, f8] with
    | false =>
      rw [hCS] at CS
      clear hCS kCF
      go_wp2_with (first | ((with_reducible refine (CF _).mono ?_); rintro e w' ⟨rfl, u, rfl⟩) | ((with_reducible refine (CS _).mono ?_); rintro e w' ⟨rfl, u, rfl⟩) | ((with_reducible refine (CV _).mono ?_); rintro e w' ⟨rfl, u, rfl⟩))
      all_goals go_ret
      all_goals exact ⟨rfl, below_to HB.out (Nat.le_refl _) (hgu _)⟩
    | true =>
      rw [hCS] at CS
      have kCS := hide hCS
      clear hCS
      cases hCV : validB isNm s with
      | false =>
        rw [hCV] at CV
        clear hCV kCF kCS
        go_wp2_with (first | ((with_reducible refine (CF _).mono ?_); rintro e w' ⟨rfl, u, rfl⟩) | ((with_reducible refine (CS _).mono ?_); rintro e w' ⟨rfl, u, rfl⟩) | ((with_reducible refine (CV _).mono ?_); rintro e w' ⟨rfl, u, rfl⟩))
        all_goals go_ret
        all_goals exact ⟨rfl, below_to HB.out (Nat.le_refl _) (hgu _)⟩
      | true =>
        rw [hCV] at CV
        have kCV := hide hCV
        clear hCV
        by_cases h0 : s.ps.length = 0
        · have e1 : ((s.ps.length : Int) == 0) = true := by rw [h0]; rfl
          clear h0
          go_wp2_with (first | ((with_reducible refine (CF _).mono ?_); rintro e w' ⟨rfl, u, rfl⟩) | ((with_reducible refine (CS _).mono ?_); rintro e w' ⟨rfl, u, rfl⟩) | ((with_reducible refine (CV _).mono ?_); rintro e w' ⟨rfl, u, rfl⟩))
          all_goals go_ret
          all_goals exact ⟨rfl, below_to HB.out (Nat.le_refl _) (hgu _)⟩
        have e1 : ((s.ps.length : Int) == 0) = false := by rw [beq_eq_false_iff_ne]; omega
        have hv := (validB_iff isNm s).1 kCV.out
        have h8 := hv.n8
        obtain ⟨k, hk⟩ : ∃ k, raw % s.ps.length = k := ⟨_, rfl⟩
        have hkl : k < s.ps.length := by rw [← hk]; exact Nat.mod_lt _ (by omega)
        have ew : IntKind.i64.wrap (raw : Int) = (raw : Int) := w64 (by omega) (by omega)
        have em : (raw : Int).tmod (s.ps.length : Int) = (k : Int) := by rw [Int.tmod_eq_emod_of_nonneg (by omega), ← hk, Int.natCast_emod]
        obtain ⟨p, hp⟩ : ∃ p, s.ps[k]? = some p := ⟨_, List.getElem?_eq_getElem hkl⟩
        have hpk := (hv.part p (List.mem_of_getElem? hp)).1
        have HV := hide hv
        have HPK := hide hp
        obtain ⟨ad, c', eA, -⟩ := HP.out.at_ hp
        have eA : A = some ad := (Value.slice.inj eA).1
        subst eA
        clear hk hp hv h0
        go_upto_region 5 with (first | ((with_reducible refine (CF _).mono ?_); rintro e w' ⟨rfl, u, rfl⟩) | ((with_reducible refine (CS _).mono ?_); rintro e w' ⟨rfl, u, rfl⟩) | ((with_reducible refine (CV _).mono ?_); rintro e w' ⟨rfl, u, rfl⟩))
        all_goals
          have HP3 := hide (HP.out.to (hgu u))
          have HG3 := hide (HG.out.to (hgu u))
          have HXs3 := hide (HXs.out.to (hgu u))
          have HXf3 := hide (HXf.out.to (hgu u))
          have HB3 := hide (below_to HB.out (Nat.le_refl _) (hgu u))
          revert HP3 HG3 HXs3 HXf3 HB3
          generalize g u = w3
          intro HP3 HG3 HXs3 HXf3 HB3
          clear CF CS CV hgu hgi HP HG HXs HXf HB xs_0 xs_1 xf_0 xf_1 xf_2 xf_3 xf_4 xf_5 xf_6 xf_7 xf_8
          have s0 := HXs3.out.cell 0
          have s1 := HXs3.out.cell 1
          go_upto_region 6 with fail
          have HT4 := hide (Blk.new w3 24 #[.string (bs s.c), .slice (some ad) s.ps.length c])
          have HP4 := hide (HP3.out.to (below_one w3 (.cells #[.string (bs s.c), .slice (some ad) s.ps.length c] 24)))
          have HG4 := hide (HG3.out.to (below_one w3 (.cells #[.string (bs s.c), .slice (some ad) s.ps.length c] 24)))
          have HXs4 := hide (HXs3.out.to (below_one w3 (.cells #[.string (bs s.c), .slice (some ad) s.ps.length c] 24)))
          have HXf4 := hide (HXf3.out.to (below_one w3 (.cells #[.string (bs s.c), .slice (some ad) s.ps.length c] 24)))
          have HB4 := hide (below_alloc HB3.out (Nat.le_refl _) (.cells #[.string (bs s.c), .slice (some ad) s.ps.length c] 24))
          have l9 : w.heap.size < w3.heap.size := HXs3.out.lt
          have l9f : w.heap.size + 1 < w3.heap.size := HXf3.out.lt
          clear s0 s1 HP3 HG3 HXs3 HXf3 HB3
          generalize w3.alloc (.cells #[.string (bs s.c), .slice (some ad) s.ps.length c] 24) = w4 at *
          generalize w3.heap.size = b9 at *
          have s0 := HXs4.out.cell 0
          have s1 := HXs4.out.cell 1
          have ls4 := HXs4.out.lt
          obtain ⟨ad4, c4, e4, -, la4, -⟩ := HP4.out.at_ HPK.out
          have e9 := Option.some.inj (Value.slice.inj e4).1
          clear e4
          subst e9
          have ls9 := HT4.out.lt
          have n4 : w.heap.size ≠ w4.heap.size := by omega
          go_wp2_with (at_builtin; go_loud (refine wpList_append_parts rfl (.tmp 39) (.tmp 41) rfl w4.heap.size _ rfl (own_emptyN (Nat.le_refl _)) _ s.ps rfl (HP4.out.to (below_one w4 (.cells #[] 41))) (by omega) (by omega) (by simp) ?_))
          intro g5 c5 w5 hO5 hg5 hb5 hgr5
          have hb : Below w4.heap.size w4 w5 := (below_one w4 _).trans hb5
          have X5 := hide (HXs4.out.to hb)
          have F5 := hide (HXf4.out.to hb)
          have K5 := hide (HT4.out.to hb)
          have P5 := hide (HP4.out.to hb)
          have B5 := hide (below_to HB4.out (Nat.le_refl _) hb)
          have o5 : w4.heap.size ≤ g5 := hg5
          have d9 : g5 ≠ b9 := by omega
          have O6 : Hid (OwnP (w5.setCell ⟨b9, 1, none⟩ (.slice (some ⟨g5, 0, none⟩) s.ps.length c5)) w4.heap.size (.slice (some ⟨g5, 0, none⟩) s.ps.length c5) s.ps) := ownsRow_set hO5 (fun e => d9 (Option.some.inj e))
          have P6 := hide (P5.out.setSmall K5.out (show 2 ≤ 3 by decide) 1 (.slice (some ⟨g5, 0, none⟩) s.ps.length c5))
          have X6 := hide (X5.out.far (p := ⟨b9, 1, none⟩) (by show w.heap.size ≠ b9; omega) (.slice (some ⟨g5, 0, none⟩) s.ps.length c5))
          have F6 := hide (F5.out.far (p := ⟨b9, 1, none⟩) (by show w.heap.size + 1 ≠ b9; omega) (.slice (some ⟨g5, 0, none⟩) s.ps.length c5))
          have K6 := hide (K5.out.set_ 1 (.slice (some ⟨g5, 0, none⟩) s.ps.length c5))
          have B6 := hide (B5.out.setCell (p := ⟨b9, 1, none⟩) (by show w.heap.size ≤ b9; omega) (.slice (some ⟨g5, 0, none⟩) s.ps.length c5))
          have y1 := K5.out.cell 1
          have f1 := K5.out.frozen 1
          clear X5 F5 K5 P5 B5 hO5 hb hb5 hgr5 s0 s1 HXs4 HXf4 HT4 HP4 HG4 HB4
          go_upto_region 7 with fail
          generalize w5.setCell ⟨b9, 1, none⟩ (.slice (some ⟨g5, 0, none⟩) s.ps.length c5) = w6 at *
          clear y1 f1
          have kk : w6.cell? ⟨b9, 1, none⟩ = some (.slice (some ⟨g5, 0, none⟩) s.ps.length c5) := K6.out.cell 1
          obtain ⟨N7, _, lg, _, T7, cur, hblk⟩ := own_need k O6.out
          obtain ⟨a7, c7, e7, _, _, q0, q1, q2, q3⟩ := O6.out.parts.at_ HPK.out
          injection e7 with e7 _ e8
          injection e7 with e7
          subst e7 e8
          have fz := hblk.frozen (k * 4 + 3)
          have ea : (⟨g5, 0, none⟩ : Addr).add (k * 4) = ⟨g5, k * 4, none⟩ := by
            unfold Addr.add
            split
            · rename_i h0; simp [h0]
            · simp
          rw [ea] at q3
          clear q0 q1 q2 ea
          have N7 := hide N7
          have X7 := hide (X6.out.far (p := ⟨g5, k * 4 + 3, none⟩) (by show w.heap.size ≠ g5; omega) (.bool true))
          have F7 := hide (F6.out.far (p := ⟨g5, k * 4 + 3, none⟩) (by show w.heap.size + 1 ≠ g5; omega) (.bool true))
          have K7 := hide (K6.out.far (p := ⟨g5, k * 4 + 3, none⟩) (by show b9 ≠ g5; omega) (.bool true))
          have P7 : Hid (PartsAt (w6.setCell ⟨g5, k * 4 + 3, none⟩ (.bool true)) (.slice (some ad) s.ps.length c) s.ps) := RowsAt.store P6.out (fun a ha => by cases ha; show ad.block ≠ g5; omega) (.bool true)
          have B7 := hide (B6.out.setCell (p := ⟨g5, k * 4 + 3, none⟩) (by show w.heap.size ≤ g5; omega) (.bool true))
          go_upto_region 8 with fail
          clear kk q3 fz hblk X6 F6 K6 O6 P6 B6
          generalize w6.setCell ⟨g5, k * 4 + 3, none⟩ (.bool true) = w7 at *
          have G7 := hide (HGo.out.to B7.out)
          obtain ⟨j, hj, hj9⟩ : ∃ j : Nat, p.k = (j : Int) ∧ j < 9 := ⟨p.k.toNat, by omega, by omega⟩
          obtain ⟨a7, c7, e7, _, lad, q0, _, _, _⟩ := P7.out.at_ HPK.out
          injection e7 with e7 _ e8
          injection e7 with e7
          subst e7 e8
          have x1 : w7.cell? ⟨w.heap.size, 1, none⟩ = some (.slice (some ad) s.ps.length c) := X7.out.cell 1
          have HN := hide ((fits_need (num := numB) (f := [f0, f1, f2, f3, f4, f5, f6, f7, f8]) HV.out HPK.out))
          have HVN := hide (valid_need HV.out k)
          rw [hj] at q0 HN
          have HN : Hid (Fits isNm numB ⟨s.c, needAt s.ps k⟩ [f0, f1, f2, f3, f4, f5, f6, f7, f8] ↔ Fits isNm numB s [f0, f1, f2, f3, f4, f5, f6, f7, f8] ∧ ([f0, f1, f2, f3, f4, f5, f6, f7, f8]).getD j [] ≠ []) := by have := HN.out; rw [show valF [f0, f1, f2, f3, f4, f5, f6, f7, f8] (j : Int) = ([f0, f1, f2, f3, f4, f5, f6, f7, f8]).getD j [] from val_nat [f0, f1, f2, f3, f4, f5, f6, f7, f8] j] at this; exact this
          have ck : ∀ W, Below w7.heap.size w7 W → W.cell? ⟨w.heap.size + 1, j, none⟩ = some (.string (bs (([f0, f1, f2, f3, f4, f5, f6, f7, f8]).getD j []))) := fun W hW => ((F7.out.to hW).cell j).trans (fields_at f0 f1 f2 f3 f4 f5 f6 f7 f8 j hj9)
          have t1 : decide ((j : Int) < 1) = false := decide_eq_false (by omega)
          have t2 : decide ((9 : Int) ≤ (j : Int)) = false := decide_eq_false (by omega)
          have hj0 : (j : Int) < 9 := by omega
          obtain ⟨U7, hU7, h, u7, rfl, hhu, hhi⟩ := cls w7
          have CT1 : ∀ u, Calls Tryz.prog 22 #[.agg #[.string (bs s.c), .slice (some ⟨g5, 0, none⟩) s.ps.length c5]] (h u) fun e w' => e = .returned (.bool true) ∧ ∃ u', w' = h u' := fun u => by
            have := cls_call hhu hhi (fun W hb => SValid_any ⟨s.c, needAt s.ps k⟩ (by show (needAt s.ps k).length ≤ _; rw [needAt_len]; omega) hc0 (.slice (some ⟨g5, 0, none⟩) s.ps.length c5) W (N7.out.to hb)) u
            rw [(validB_iff isNm _).2 HVN.out] at this
            exact this
          have CT2 : ∀ u, Calls Tryz.prog 24 #[.agg #[.string (bs s.c), .slice (some ⟨g5, 0, none⟩) s.ps.length c5], .agg #[.string (bs f0), .string (bs f1), .string (bs f2), .string (bs f3), .string (bs f4), .string (bs f5), .string (bs f6), .string (bs f7), .string (bs f8)]] (h u) fun e w' => e = .returned (.bool (fitsB isNm numB ⟨s.c, needAt s.ps k⟩ [f0, f1, f2, f3, f4, f5, f6, f7, f8])) ∧ ∃ u', w' = h u' := fun u =>
            cls_call hhu hhi (fun W hb => Fits_any ⟨s.c, needAt s.ps k⟩ (by show (needAt s.ps k).length ≤ _; rw [needAt_len]; omega) hc0 (.slice (some ⟨g5, 0, none⟩) s.ps.length c5) f0 f1 f2 f3 f4 f5 f6 f7 f8 W (N7.out.to hb) (G7.out.to hb)) u
          have CT3 : ∀ u, Calls Tryz.prog 24 #[.agg #[.string (bs s.c), .slice (some ad) s.ps.length c], .agg #[.string (bs f0), .string (bs f1), .string (bs f2), .string (bs f3), .string (bs f4), .string (bs f5), .string (bs f6), .string (bs f7), .string (bs f8)]] (h u) fun e w' => e = .returned (.bool (fitsB isNm numB s [f0, f1, f2, f3, f4, f5, f6, f7, f8])) ∧ ∃ u', w' = h u' := fun u =>
            cls_call hhu hhi (fun W hb => Fits_any s (by omega) hc0 (.slice (some ad) s.ps.length c) f0 f1 f2 f3 f4 f5 f6 f7 f8 W (P7.out.to hb) (G7.out.to hb)) u
          have ck' := fun u => ck (h u) (hhu u)
          have xs_0 := fun u => (((X7.out.to (hhu u)).cell 0).trans (show _ = some (Value.string (bs s.c)) from rfl))
          have xs_1 := fun u => (((X7.out.to (hhu u)).cell 1).trans (show _ = some (Value.slice (some ad) s.ps.length c) from rfl))
          have xt_0 := fun u => (((K7.out.to (hhu u)).cell 0).trans (show _ = some (Value.string (bs s.c)) from rfl))
          have xt_1 := fun u => (((K7.out.to (hhu u)).cell 1).trans (show _ = some (Value.slice (some ⟨g5, 0, none⟩) s.ps.length c5) from rfl))
          have xf_0 := fun u => (((F7.out.to (hhu u)).cell 0).trans (show _ = some (Value.string (bs f0)) from rfl))
          have xf_1 := fun u => (((F7.out.to (hhu u)).cell 1).trans (show _ = some (Value.string (bs f1)) from rfl))
          have xf_2 := fun u => (((F7.out.to (hhu u)).cell 2).trans (show _ = some (Value.string (bs f2)) from rfl))
          have xf_3 := fun u => (((F7.out.to (hhu u)).cell 3).trans (show _ = some (Value.string (bs f3)) from rfl))
          have xf_4 := fun u => (((F7.out.to (hhu u)).cell 4).trans (show _ = some (Value.string (bs f4)) from rfl))
          have xf_5 := fun u => (((F7.out.to (hhu u)).cell 5).trans (show _ = some (Value.string (bs f5)) from rfl))
          have xf_6 := fun u => (((F7.out.to (hhu u)).cell 6).trans (show _ = some (Value.string (bs f6)) from rfl))
          have xf_7 := fun u => (((F7.out.to (hhu u)).cell 7).trans (show _ = some (Value.string (bs f7)) from rfl))
          have xf_8 := fun u => (((F7.out.to (hhu u)).cell 8).trans (show _ = some (Value.string (bs f8)) from rfl))
          obtain ⟨x, hx⟩ : ∃ x, ([f0, f1, f2, f3, f4, f5, f6, f7, f8]).getD j [] = x := ⟨_, rfl⟩
          rw [hx] at HN
          simp only [hx] at ck'
          clear hx ck
          have HD : Hid (fitsB isNm numB ⟨s.c, needAt s.ps k⟩ [f0, f1, f2, f3, f4, f5, f6, f7, f8] = (fitsB isNm numB s [f0, f1, f2, f3, f4, f5, f6, f7, f8] && !decide (x = []))) := by
            show _ = _
            rw [Bool.eq_iff_iff, fitsB_iff _ _ _ _ rfl, HN.out, Bool.and_eq_true, fitsB_iff _ _ _ _ rfl]; simp
          rw [HD.out] at CT2
          clear HD HN HVN hj N7 P7 G7 F7 K7 X7
          generalize fitsB isNm numB s [f0, f1, f2, f3, f4, f5, f6, f7, f8] = d at *
          cases d with
          | false =>
            simp only [Bool.false_and] at CT2
            go_wp2_with fail
            refine wp_region_class h (by kernel_rfl) (by kernel_rfl) (hhi _ (hhu _).drew) ?_
            repeat (go_big_quiet_step (first | with_reducible exact CT1 _ | with_reducible exact CT2 _ | with_reducible exact CT3 _))
            refine wpQuiet_nil ?_
            intro w8 hw8
            obtain ⟨u, rfl⟩ := hw8
            go_wp2_with fail
            all_goals go_ret
            all_goals exact ⟨rfl, below_to B7.out (Nat.le_refl _) (hhu _)⟩
          | true =>
            cases x with
            | nil =>
              have em0 : (bs ([] : List UInt8)).toList.isEmpty = true := by rw [bs_toList]; rfl
              simp only [Bool.true_and, decide_true, Bool.not_true] at CT2
              go_wp2_with fail
              refine wp_region_class h (by kernel_rfl) (by kernel_rfl) (hhi _ (hhu _).drew) ?_
              repeat (go_big_quiet_step (first | with_reducible exact CT1 _ | with_reducible exact CT2 _ | with_reducible exact CT3 _))
              refine wpQuiet_nil ?_
              intro w8 hw8
              obtain ⟨u, rfl⟩ := hw8
              go_wp2_with fail
              all_goals go_ret
              all_goals exact ⟨rfl, below_to B7.out (Nat.le_refl _) (hhu _)⟩
            | cons x0 x =>
              have em0 : (bs (x0 :: x)).toList.isEmpty = false := by rw [bs_toList]; rfl
              rw [show decide (x0 :: x = []) = false from rfl] at CT2
              simp only [Bool.true_and, Bool.not_false] at CT2
              go_wp2_with fail
              refine wp_region_class h (by kernel_rfl) (by kernel_rfl) (hhi _ (hhu _).drew) ?_
              repeat (go_big_quiet_step (first | with_reducible exact CT1 _ | with_reducible exact CT2 _ | with_reducible exact CT3 _))
              refine wpQuiet_nil ?_
              intro w8 hw8
              obtain ⟨u, rfl⟩ := hw8
              go_wp2_with fail
              all_goals go_ret
              all_goals exact ⟨rfl, below_to B7.out (Nat.le_refl _) (hhu _)⟩
end Go.Proofs.YtdcafoekbnacnaaGreatDoor
