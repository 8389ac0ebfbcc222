/- Several texts as one, in build order. -/
import Derived.Test.YtdcafoekbnacnaaGreatDoorMD
import Derived.Deep.DeepCutAuto
/- Chapter 23: the walk of SchemeTexts. -/
set_option linter.unusedVariables false
set_option linter.unusedSimpArgs false
namespace Go.Proofs.YtdcafoekbnacnaaGreatDoor
open Go.RowKit Go.Shelf
attribute [local go_sem] Oper.semAt_some

theorem text_ok {s : Sch} (h : validB isNm s = true) : textV s = textS s ∧ textE s = 0 := by unfold textV textE; rw [h]; exact ⟨rfl, rfl⟩
theorem text_no {s : Sch} (h : validB isNm s = false) : textV s = [] ∧ textE s = 1 := by unfold textV textE; rw [h]; exact ⟨rfl, rfl⟩
theorem few_len {s : Sch} (h : fewB s = true) : s.ps.length ≤ 8796093022208 := Nat.le_trans (few_facts h).1 (by decide)
set_option maxRecDepth 100000 in
set_option maxHeartbeats 8000000 in
theorem texts_law (a b : Sch) (hla : a.ps.length ≤ 8796093022208) (hca : a.c.length ≤ 140737488355328) (hlb : b.ps.length ≤ 8796093022208) (hcb : b.c.length ≤ 140737488355328) (va vb : Value) (t : List UInt8) (ht0 : t.length ≤ 140737488355328) (w : World) (hP : PartsAt w va a.ps) (hQ : PartsAt w vb b.ps) (hg : Glob w) :
    Calls Tryz.prog 8 #[.agg #[.string (bs a.c), va], .agg #[.string (bs b.c), vb], .string (bs t)] w fun e w' => e = .returned (.bool true) ∧ Below w.heap.size w w' := by
  have HP0 := hide hP
  have HQ0 := hide hQ
  have HG0 := hide hg
  obtain ⟨A, ca, rfl, _⟩ := hP.slice
  obtain ⟨B, cb, rfl, _⟩ := hQ.slice
  clear hP hQ hg
  have hsz := bs_size t
  go_enter Tryz.func8, Tryz.ntmps8
  go_wp2_with fail
  obtain ⟨Xa, Xb, B0⟩ := box2 w 24 #[.string (bs a.c), .slice A a.ps.length ca] 24 #[.string (bs b.c), .slice B b.ps.length cb]
  have HXa := hide Xa
  have HXb := hide Xb
  have HB := hide B0
  have HP := hide (HP0.out.to B0)
  have HQ := hide (HQ0.out.to B0)
  have HG := hide (HG0.out.to B0)
  clear Xa Xb B0 HP0 HQ0 HG0
  generalize (w.alloc (.cells #[.string (bs a.c), .slice A a.ps.length ca] 24)).alloc (.cells #[.string (bs b.c), .slice B b.ps.length cb] 24) = w1 at *
  refine (head_any w1 HG.out).mono ?_
  rintro e w2 ⟨rfl, hb⟩
  have zHXa := hide (HXa.out.to hb)
  have zHXb := hide (HXb.out.to hb)
  have zHP := hide (HP.out.to hb)
  have zHQ := hide (HQ.out.to hb)
  have zHG := hide (HG.out.to hb)
  have zHB := hide (below_to HB.out (Nat.le_refl _) hb)
  clear hb HB HXa HXb HP HQ HG
  have HXa := zHXa
  have HXb := zHXb
  have HP := zHP
  have HQ := zHQ
  have HG := zHG
  have HB := zHB
  clear zHXa zHXb zHP zHQ zHG zHB
  obtain ⟨U, hU, g, u0, rfl, hgu, hgi⟩ := cls w2
  have xa_0 := fun u => (((HXa.out.to (hgu u)).cell 0).trans (show _ = some (Value.string (bs a.c)) from rfl))
  have xa_1 := fun u => (((HXa.out.to (hgu u)).cell 1).trans (show _ = some (Value.slice A a.ps.length ca) from rfl))
  have xb_0 := fun u => (((HXb.out.to (hgu u)).cell 0).trans (show _ = some (Value.string (bs b.c)) from rfl))
  have xb_1 := fun u => (((HXb.out.to (hgu u)).cell 1).trans (show _ = some (Value.slice B b.ps.length cb) from rfl))
  have CFA : ∀ u, Calls Tryz.prog 16 #[.agg #[.string (bs a.c), .slice A a.ps.length ca]] (g u) fun e w' => e = .returned (.bool (fewB a)) ∧ ∃ u', w' = g u' := fun u => cls_call hgu hgi (fun W hb => Few_any a hla (.slice A a.ps.length ca) W (HP.out.to hb)) u
  have CFB : ∀ u, Calls Tryz.prog 16 #[.agg #[.string (bs b.c), .slice B b.ps.length cb]] (g u) fun e w' => e = .returned (.bool (fewB b)) ∧ ∃ u', w' = g u' := fun u => cls_call hgu hgi (fun W hb => Few_any b hlb (.slice B b.ps.length cb) W (HQ.out.to hb)) u
  have CTA : ∀ u, Calls Tryz.prog 18 #[.agg #[.string (bs a.c), .slice A a.ps.length ca]] (g u) fun e w' => e = .returned (.tuple #[.string (bs (textV a)), .int .i64 (textE a)]) ∧ ∃ u', w' = g u' := fun u => cls_call hgu hgi (fun W hb => SText_any a hla hca (.slice A a.ps.length ca) W (HP.out.to hb)) u
  have CTB : ∀ u, Calls Tryz.prog 18 #[.agg #[.string (bs b.c), .slice B b.ps.length cb]] (g u) fun e w' => e = .returned (.tuple #[.string (bs (textV b)), .int .i64 (textE b)]) ∧ ∃ u', w' = g u' := fun u => cls_call hgu hgi (fun W hb => SText_any b hlb hcb (.slice B b.ps.length cb) W (HQ.out.to hb)) u
  have CVA : ∀ u, Calls Tryz.prog 22 #[.agg #[.string (bs a.c), .slice A a.ps.length ca]] (g u) fun e w' => e = .returned (.bool (validB isNm a)) ∧ ∃ u', w' = g u' := fun u => cls_call hgu hgi (fun W hb => SValid_any a hla hca (.slice A a.ps.length ca) W (HP.out.to hb)) u
  cases hCFA : fewB a with
  | false =>
    rw [hCFA] at CFA
    clear hCFA
    go_wp2_with (first | ((with_reducible refine (CFA _).mono ?_); rintro e w' ⟨rfl, u, rfl⟩) | ((with_reducible refine (CFB _).mono ?_); rintro e w' ⟨rfl, u, rfl⟩))
    all_goals go_ret
    all_goals exact ⟨rfl, below_to HB.out (Nat.le_refl _) (hgu _)⟩
  | true =>
    rw [hCFA] at CFA
    have kCFA := hide hCFA
    clear hCFA
    cases hCFB : fewB b with
    | false =>
      rw [hCFB] at CFB
      clear hCFB kCFA
      go_wp2_with (first | ((with_reducible refine (CFA _).mono ?_); rintro e w' ⟨rfl, u, rfl⟩) | ((with_reducible refine (CFB _).mono ?_); rintro e w' ⟨rfl, u, rfl⟩))
      all_goals go_ret
      all_goals exact ⟨rfl, below_to HB.out (Nat.le_refl _) (hgu _)⟩
    | true =>
      rw [hCFB] at CFB
      have kCFB := hide hCFB
      clear hCFB
      by_cases hlong : 1000 < t.length
      · have e1 : decide ((1000 : Int) < (t.length : Int)) = true := decide_eq_true (by omega)
        clear hlong
        go_wp2_with (first | ((with_reducible refine (CFA _).mono ?_); rintro e w' ⟨rfl, u, rfl⟩) | ((with_reducible refine (CFB _).mono ?_); rintro e w' ⟨rfl, u, rfl⟩))
        all_goals go_ret
        all_goals exact ⟨rfl, below_to HB.out (Nat.le_refl _) (hgu _)⟩
      have e1 : decide ((1000 : Int) < (t.length : Int)) = false := decide_eq_false (by omega)
      have CT := fun W => SParse_any t (by omega) W
      unfold SParseR at CT
      have HSM := hide (parse_small t)
      have HOK : Hid ((parseS isNm t).2.1 = 0 → Valid isNm (parseS isNm t).1 ∧ (parseS isNm t).2.2 = 0) := schParse_ok
      have HNO : Hid ((parseS isNm t).2.1 ≠ 0 → (parseS isNm t).1 = zSch ∧ (parseS isNm t).2.2 ≤ t.length) := parse_err
      generalize (parseS isNm t).1 = X at *
      generalize (parseS isNm t).2.1 = E at *
      generalize (parseS isNm t).2.2 = a1 at *
      clear hlong
      cases hVA : validB isNm a with
      | true =>
        have hva := (validB_iff isNm a).1 hVA
        rw [(text_ok hVA).1, (text_ok hVA).2] at CTA
        rw [hVA] at CVA
        have CPA := fun W => SParse_any (textS a) (Nat.le_trans (text_len hva) (by decide)) W
        unfold SParseR at CPA
        simp only [schParse_text hva] at CPA
        cases hVB : validB isNm b with
        | true =>
          obtain ⟨htb, hfb⟩ := text_ok hVB
          obtain ⟨d, hd2⟩ : ∃ d, sameB a b = d := ⟨_, rfl⟩
          have hd1 : ((bs (textS a)).toList == (bs (textS b)).toList) = d := by
            rw [← hd2, bs_toList, bs_toList]
            by_cases e : a = b
            · rw [(sameB_iff a b).2 e, e]; simp
            · rw [sameB_no e, beq_eq_false_iff_ne]
              exact fun h => e (schText_inj hva ((validB_iff isNm b).1 hVB) h)
          clear hva hVA hVB
          rw [htb, hfb] at CTB
          go_wp2_with (first | ((with_reducible refine (CFA _).mono ?_); rintro e w' ⟨rfl, u, rfl⟩) | ((with_reducible refine (CFB _).mono ?_); rintro e w' ⟨rfl, u, rfl⟩) | ((with_reducible refine (CTA _).mono ?_); rintro e w' ⟨rfl, u, rfl⟩) | ((with_reducible refine (CTB _).mono ?_); rintro e w' ⟨rfl, u, rfl⟩) | ((with_reducible refine (CVA _).mono ?_); rintro e w' ⟨rfl, u, rfl⟩))
          refine (CPA (g u)).mono ?_
          rintro e w7 ⟨vx, rfl, hX, hb⟩
          obtain ⟨A7, c7, rfl, _⟩ := hX.slice
          have hbb : Below (g u).heap.size (g u) (w7.alloc (.cells #[.string (bs a.c), .slice A7 a.ps.length c7] 24)) := below_alloc hb (Nat.le_refl _) _
          have HX7 := hide (hX.to (below_one w7 (.cells #[.string (bs a.c), .slice A7 a.ps.length c7] 24)))
          have HY7 := hide (Blk.new w7 24 #[.string (bs a.c), .slice A7 a.ps.length c7])
          have HP7 := hide ((HP.out.to (hgu u)).to hbb)
          have HQ7 := hide ((HQ.out.to (hgu u)).to hbb)
          have HXa7 := hide ((HXa.out.to (hgu u)).to hbb)
          have HXb7 := hide ((HXb.out.to (hgu u)).to hbb)
          have HB7 := hide (below_to (below_to HB.out (Nat.le_refl _) (hgu u)) (Nat.le_refl _) hbb)
          clear hX hb hbb xa_0 xa_1 xb_0 xb_1 CFA CFB CTA CTB CVA CPA HP HQ HXa HXb HB
          go_upto_region 10 with fail
          generalize w7.alloc (.cells #[.string (bs a.c), .slice A7 a.ps.length c7] 24) = w77 at *
          generalize hn7 : w7.heap.size = n7 at *
          clear hn7 hgu hgi
          obtain ⟨V, hV, k, v0, rfl, hku, hki⟩ := cls w77
          have xa_0 := fun u => (((HXa7.out.to (hku u)).cell 0).trans (show _ = some (Value.string (bs a.c)) from rfl))
          have xa_1 := fun u => (((HXa7.out.to (hku u)).cell 1).trans (show _ = some (Value.slice A a.ps.length ca) from rfl))
          have xb_0 := fun u => (((HXb7.out.to (hku u)).cell 0).trans (show _ = some (Value.string (bs b.c)) from rfl))
          have xb_1 := fun u => (((HXb7.out.to (hku u)).cell 1).trans (show _ = some (Value.slice B b.ps.length cb) from rfl))
          have xx_0 := fun u => (((HY7.out.to (hku u)).cell 0).trans (show _ = some (Value.string (bs a.c)) from rfl))
          have xx_1 := fun u => (((HY7.out.to (hku u)).cell 1).trans (show _ = some (Value.slice A7 a.ps.length c7) from rfl))
          have CS1 : ∀ u, Calls Tryz.prog 26 #[.agg #[.string (bs a.c), .slice A7 a.ps.length c7], .agg #[.string (bs a.c), .slice A a.ps.length ca]] (k u) fun e w' => e = .returned (.bool true) ∧ ∃ u', w' = k u' := fun u => by
            have := cls_call hku hki (fun W hb => Same_any a a hla hla (.slice A7 a.ps.length c7) (.slice A a.ps.length ca) W (HX7.out.to hb) (HP7.out.to hb)) u
            rw [(sameB_iff a a).2 rfl] at this
            exact this
          have CS3 : ∀ u, Calls Tryz.prog 26 #[.agg #[.string (bs a.c), .slice A a.ps.length ca], .agg #[.string (bs b.c), .slice B b.ps.length cb]] (k u) fun e w' => e = .returned (.bool d) ∧ ∃ u', w' = k u' := fun u => by
            have := cls_call hku hki (fun W hb => Same_any a b hla hlb (.slice A a.ps.length ca) (.slice B b.ps.length cb) W (HP7.out.to hb) (HQ7.out.to hb)) u
            rw [hd2] at this
            exact this
          have hdd : (d == d) = true := by simp
          have hdn : (d != d) = false := by simp
          clear hd2
          go_wp2_with (first | ((with_reducible refine (CS1 _).mono ?_); rintro e w' ⟨rfl, u, rfl⟩) | ((with_reducible refine (CS3 _).mono ?_); rintro e w' ⟨rfl, u, rfl⟩))
          all_goals
            refine (CT (k u)).mono ?_
            rintro e w8 ⟨vx, rfl, hX, hb⟩
            obtain ⟨A8, c8, rfl, _⟩ := hX.slice
            have HX := hide (hX.to (below_one w8 (.cells #[.string (bs X.c), .slice A8 X.ps.length c8] 24)))
            have HY := hide (Blk.new w8 24 #[.string (bs X.c), .slice A8 X.ps.length c8])
            have HB8 := hide (below_to (below_to HB7.out (Nat.le_refl _) (hku u)) (Nat.le_refl _) (below_alloc hb (Nat.le_refl _) (.cells #[.string (bs X.c), .slice A8 X.ps.length c8] 24)))
            clear hX hb CT
            go_upto_region 13 with fail
            generalize w8.alloc (.cells #[.string (bs X.c), .slice A8 X.ps.length c8] 24) = w9 at *
            by_cases hE : E = 0
            · obtain ⟨hv, ha⟩ := HOK.out hE
              subst hE ha
              have hvb := (validB_iff isNm X).2 hv
              have CX : ∀ W, Below w9.heap.size w9 W → Calls Tryz.prog 18 #[.agg #[.string (bs X.c), .slice A8 X.ps.length c8]] W fun e w' => e = .returned (.tuple #[.string (bs (textS X)), .int .i64 0]) ∧ Below W.heap.size W w' := fun W hW => by
                have := SText_any X (Nat.le_trans HSM.out.1 (by decide)) (Nat.le_trans HSM.out.2 (by decide)) (.slice A8 X.ps.length c8) W (HX.out.to hW)
                rw [(text_ok hvb).1, (text_ok hvb).2] at this
                exact this
              have CQ := fun W => SParse_any (textS X) (Nat.le_trans (text_len hv) (by decide)) W
              unfold SParseR at CQ
              simp only [schParse_text hv] at CQ
              have x0 : w9.cell? ⟨w8.heap.size, 0, none⟩ = some (.string (bs X.c)) := HY.out.cell 0
              have x1 : w9.cell? ⟨w8.heap.size, 1, none⟩ = some (.slice A8 X.ps.length c8) := HY.out.cell 1
              clear hv
              go_wp2_with fail
              refine (CX _ (Below.refl _ _)).mono ?_
              rintro e w10 ⟨rfl, hb⟩
              have HB10 := hide (below_to HB8.out (Nat.le_refl _) hb)
              have HX10 := hide (HX.out.to hb)
              have HY10 := hide (HY.out.to hb)
              clear x0 x1 hb CX HX HY HB8
              go_wp2_with fail
              refine (CQ w10).mono ?_
              rintro e w11 ⟨vy, rfl, hY, hb⟩
              obtain ⟨A9, c9, rfl, _⟩ := hY.slice
              have hbb : Below w10.heap.size w10 (w11.alloc (.cells #[.string (bs X.c), .slice A9 X.ps.length c9] 24)) := below_alloc hb (Nat.le_refl _) _
              have HZ := hide (hY.to (below_one w11 (.cells #[.string (bs X.c), .slice A9 X.ps.length c9] 24)))
              have HV := hide (Blk.new w11 24 #[.string (bs X.c), .slice A9 X.ps.length c9])
              have HX11 := hide (HX10.out.to hbb)
              have HY11 := hide (HY10.out.to hbb)
              have HB11 := hide (below_to HB10.out (Nat.le_refl _) hbb)
              clear hY hb CQ HX10 HY10 HB10 hbb
              go_upto_region 17 with fail
              generalize w11.alloc (.cells #[.string (bs X.c), .slice A9 X.ps.length c9] 24) = w12 at *
              obtain ⟨U2, hU2, h, u2, rfl, hhu, hhi⟩ := cls w12
              have y0 := fun u => (((HY11.out.to (hhu u)).cell 0).trans (show _ = some (Value.string (bs X.c)) from rfl))
              have y1 := fun u => (((HY11.out.to (hhu u)).cell 1).trans (show _ = some (Value.slice A8 X.ps.length c8) from rfl))
              have v0 := fun u => (((HV.out.to (hhu u)).cell 0).trans (show _ = some (Value.string (bs X.c)) from rfl))
              have v1 := fun u => (((HV.out.to (hhu u)).cell 1).trans (show _ = some (Value.slice A9 X.ps.length c9) from rfl))
              have CV2 : ∀ u, Calls Tryz.prog 22 #[.agg #[.string (bs X.c), .slice A8 X.ps.length c8]] (h u) fun e w' => e = .returned (.bool true) ∧ ∃ u', w' = h u' := fun u => by
                have := cls_call hhu hhi (fun W hb => SValid_any X (Nat.le_trans HSM.out.1 (by decide)) (Nat.le_trans HSM.out.2 (by decide)) (.slice A8 X.ps.length c8) W (HX11.out.to hb)) u
                rw [hvb] at this
                exact this
              have CS2 : ∀ u, Calls Tryz.prog 26 #[.agg #[.string (bs X.c), .slice A8 X.ps.length c8], .agg #[.string (bs X.c), .slice A9 X.ps.length c9]] (h u) fun e w' => e = .returned (.bool true) ∧ ∃ u', w' = h u' := fun u => by
                have := cls_call hhu hhi (fun W hb => Same_any X X (Nat.le_trans HSM.out.1 (by decide)) (Nat.le_trans HSM.out.1 (by decide)) (.slice A8 X.ps.length c8) (.slice A9 X.ps.length c9) W (HX11.out.to hb) (HZ.out.to hb)) u
                rw [(sameB_iff X X).2 rfl] at this
                exact this
              clear hvb
              go_wp2_with (first | ((with_reducible refine (CV2 _).mono ?_); rintro e w' ⟨rfl, u, rfl⟩) | ((with_reducible refine (CS2 _).mono ?_); rintro e w' ⟨rfl, u, rfl⟩))
              all_goals go_ret
              all_goals exact ⟨rfl, below_to HB11.out (Nat.le_refl _) (hhu _)⟩
            · have e2 : (E != 0) = true := by rw [bne_iff_ne]; exact hE
              obtain ⟨hz, ha⟩ := HNO.out hE
              subst hz
              have x0 : w9.cell? ⟨w8.heap.size, 0, none⟩ = some (.string ⟨#[]⟩) := HY.out.cell 0
              have x1 : w9.cell? ⟨w8.heap.size, 1, none⟩ = some (.slice A8 0 c8) := HY.out.cell 1
              have e3 : decide (a1 ≤ (t.length : Int)) = true := decide_eq_true ha
              clear hE ha
              go_wp2_with fail
              go_ret
              exact ⟨rfl, HB8.out⟩
        | false =>
          obtain ⟨htb, hfb⟩ := text_no hVB
          clear hva hVA hVB
          rw [htb, hfb] at CTB
          go_wp2_with (first | ((with_reducible refine (CFA _).mono ?_); rintro e w' ⟨rfl, u, rfl⟩) | ((with_reducible refine (CFB _).mono ?_); rintro e w' ⟨rfl, u, rfl⟩) | ((with_reducible refine (CTA _).mono ?_); rintro e w' ⟨rfl, u, rfl⟩) | ((with_reducible refine (CTB _).mono ?_); rintro e w' ⟨rfl, u, rfl⟩) | ((with_reducible refine (CVA _).mono ?_); rintro e w' ⟨rfl, u, rfl⟩))
          refine (CPA (g u)).mono ?_
          rintro e w7 ⟨vx, rfl, hX, hb⟩
          obtain ⟨A7, c7, rfl, _⟩ := hX.slice
          have hbb : Below (g u).heap.size (g u) (w7.alloc (.cells #[.string (bs a.c), .slice A7 a.ps.length c7] 24)) := below_alloc hb (Nat.le_refl _) _
          have HX7 := hide (hX.to (below_one w7 (.cells #[.string (bs a.c), .slice A7 a.ps.length c7] 24)))
          have HY7 := hide (Blk.new w7 24 #[.string (bs a.c), .slice A7 a.ps.length c7])
          have HP7 := hide ((HP.out.to (hgu u)).to hbb)
          have HQ7 := hide ((HQ.out.to (hgu u)).to hbb)
          have HXa7 := hide ((HXa.out.to (hgu u)).to hbb)
          have HXb7 := hide ((HXb.out.to (hgu u)).to hbb)
          have HB7 := hide (below_to (below_to HB.out (Nat.le_refl _) (hgu u)) (Nat.le_refl _) hbb)
          clear hX hb hbb xa_0 xa_1 xb_0 xb_1 CFA CFB CTA CTB CVA CPA HP HQ HXa HXb HB
          go_upto_region 10 with fail
          generalize w7.alloc (.cells #[.string (bs a.c), .slice A7 a.ps.length c7] 24) = w77 at *
          generalize hn7 : w7.heap.size = n7 at *
          clear hn7 hgu hgi
          obtain ⟨V, hV, k, v0, rfl, hku, hki⟩ := cls w77
          have xa_0 := fun u => (((HXa7.out.to (hku u)).cell 0).trans (show _ = some (Value.string (bs a.c)) from rfl))
          have xa_1 := fun u => (((HXa7.out.to (hku u)).cell 1).trans (show _ = some (Value.slice A a.ps.length ca) from rfl))
          have xb_0 := fun u => (((HXb7.out.to (hku u)).cell 0).trans (show _ = some (Value.string (bs b.c)) from rfl))
          have xb_1 := fun u => (((HXb7.out.to (hku u)).cell 1).trans (show _ = some (Value.slice B b.ps.length cb) from rfl))
          have xx_0 := fun u => (((HY7.out.to (hku u)).cell 0).trans (show _ = some (Value.string (bs a.c)) from rfl))
          have xx_1 := fun u => (((HY7.out.to (hku u)).cell 1).trans (show _ = some (Value.slice A7 a.ps.length c7) from rfl))
          have CS1 : ∀ u, Calls Tryz.prog 26 #[.agg #[.string (bs a.c), .slice A7 a.ps.length c7], .agg #[.string (bs a.c), .slice A a.ps.length ca]] (k u) fun e w' => e = .returned (.bool true) ∧ ∃ u', w' = k u' := fun u => by
            have := cls_call hku hki (fun W hb => Same_any a a hla hla (.slice A7 a.ps.length c7) (.slice A a.ps.length ca) W (HX7.out.to hb) (HP7.out.to hb)) u
            rw [(sameB_iff a a).2 rfl] at this
            exact this
          go_wp2_with (first | ((with_reducible refine (CS1 _).mono ?_); rintro e w' ⟨rfl, u, rfl⟩))
          refine (CT (k u)).mono ?_
          rintro e w8 ⟨vx, rfl, hX, hb⟩
          obtain ⟨A8, c8, rfl, _⟩ := hX.slice
          have HX := hide (hX.to (below_one w8 (.cells #[.string (bs X.c), .slice A8 X.ps.length c8] 24)))
          have HY := hide (Blk.new w8 24 #[.string (bs X.c), .slice A8 X.ps.length c8])
          have HB8 := hide (below_to (below_to HB7.out (Nat.le_refl _) (hku u)) (Nat.le_refl _) (below_alloc hb (Nat.le_refl _) (.cells #[.string (bs X.c), .slice A8 X.ps.length c8] 24)))
          clear hX hb CT
          go_upto_region 13 with fail
          generalize w8.alloc (.cells #[.string (bs X.c), .slice A8 X.ps.length c8] 24) = w9 at *
          by_cases hE : E = 0
          · obtain ⟨hv, ha⟩ := HOK.out hE
            subst hE ha
            have hvb := (validB_iff isNm X).2 hv
            have CX : ∀ W, Below w9.heap.size w9 W → Calls Tryz.prog 18 #[.agg #[.string (bs X.c), .slice A8 X.ps.length c8]] W fun e w' => e = .returned (.tuple #[.string (bs (textS X)), .int .i64 0]) ∧ Below W.heap.size W w' := fun W hW => by
              have := SText_any X (Nat.le_trans HSM.out.1 (by decide)) (Nat.le_trans HSM.out.2 (by decide)) (.slice A8 X.ps.length c8) W (HX.out.to hW)
              rw [(text_ok hvb).1, (text_ok hvb).2] at this
              exact this
            have CQ := fun W => SParse_any (textS X) (Nat.le_trans (text_len hv) (by decide)) W
            unfold SParseR at CQ
            simp only [schParse_text hv] at CQ
            have x0 : w9.cell? ⟨w8.heap.size, 0, none⟩ = some (.string (bs X.c)) := HY.out.cell 0
            have x1 : w9.cell? ⟨w8.heap.size, 1, none⟩ = some (.slice A8 X.ps.length c8) := HY.out.cell 1
            clear hv
            go_wp2_with fail
            refine (CX _ (Below.refl _ _)).mono ?_
            rintro e w10 ⟨rfl, hb⟩
            have HB10 := hide (below_to HB8.out (Nat.le_refl _) hb)
            have HX10 := hide (HX.out.to hb)
            have HY10 := hide (HY.out.to hb)
            clear x0 x1 hb CX HX HY HB8
            go_wp2_with fail
            refine (CQ w10).mono ?_
            rintro e w11 ⟨vy, rfl, hY, hb⟩
            obtain ⟨A9, c9, rfl, _⟩ := hY.slice
            have hbb : Below w10.heap.size w10 (w11.alloc (.cells #[.string (bs X.c), .slice A9 X.ps.length c9] 24)) := below_alloc hb (Nat.le_refl _) _
            have HZ := hide (hY.to (below_one w11 (.cells #[.string (bs X.c), .slice A9 X.ps.length c9] 24)))
            have HV := hide (Blk.new w11 24 #[.string (bs X.c), .slice A9 X.ps.length c9])
            have HX11 := hide (HX10.out.to hbb)
            have HY11 := hide (HY10.out.to hbb)
            have HB11 := hide (below_to HB10.out (Nat.le_refl _) hbb)
            clear hY hb CQ HX10 HY10 HB10 hbb
            go_upto_region 17 with fail
            generalize w11.alloc (.cells #[.string (bs X.c), .slice A9 X.ps.length c9] 24) = w12 at *
            obtain ⟨U2, hU2, h, u2, rfl, hhu, hhi⟩ := cls w12
            have y0 := fun u => (((HY11.out.to (hhu u)).cell 0).trans (show _ = some (Value.string (bs X.c)) from rfl))
            have y1 := fun u => (((HY11.out.to (hhu u)).cell 1).trans (show _ = some (Value.slice A8 X.ps.length c8) from rfl))
            have v0 := fun u => (((HV.out.to (hhu u)).cell 0).trans (show _ = some (Value.string (bs X.c)) from rfl))
            have v1 := fun u => (((HV.out.to (hhu u)).cell 1).trans (show _ = some (Value.slice A9 X.ps.length c9) from rfl))
            have CV2 : ∀ u, Calls Tryz.prog 22 #[.agg #[.string (bs X.c), .slice A8 X.ps.length c8]] (h u) fun e w' => e = .returned (.bool true) ∧ ∃ u', w' = h u' := fun u => by
              have := cls_call hhu hhi (fun W hb => SValid_any X (Nat.le_trans HSM.out.1 (by decide)) (Nat.le_trans HSM.out.2 (by decide)) (.slice A8 X.ps.length c8) W (HX11.out.to hb)) u
              rw [hvb] at this
              exact this
            have CS2 : ∀ u, Calls Tryz.prog 26 #[.agg #[.string (bs X.c), .slice A8 X.ps.length c8], .agg #[.string (bs X.c), .slice A9 X.ps.length c9]] (h u) fun e w' => e = .returned (.bool true) ∧ ∃ u', w' = h u' := fun u => by
              have := cls_call hhu hhi (fun W hb => Same_any X X (Nat.le_trans HSM.out.1 (by decide)) (Nat.le_trans HSM.out.1 (by decide)) (.slice A8 X.ps.length c8) (.slice A9 X.ps.length c9) W (HX11.out.to hb) (HZ.out.to hb)) u
              rw [(sameB_iff X X).2 rfl] at this
              exact this
            clear hvb
            go_wp2_with (first | ((with_reducible refine (CV2 _).mono ?_); rintro e w' ⟨rfl, u, rfl⟩) | ((with_reducible refine (CS2 _).mono ?_); rintro e w' ⟨rfl, u, rfl⟩))
            all_goals go_ret
            all_goals exact ⟨rfl, below_to HB11.out (Nat.le_refl _) (hhu _)⟩
          · have e2 : (E != 0) = true := by rw [bne_iff_ne]; exact hE
            obtain ⟨hz, ha⟩ := HNO.out hE
            subst hz
            have x0 : w9.cell? ⟨w8.heap.size, 0, none⟩ = some (.string ⟨#[]⟩) := HY.out.cell 0
            have x1 : w9.cell? ⟨w8.heap.size, 1, none⟩ = some (.slice A8 0 c8) := HY.out.cell 1
            have e3 : decide (a1 ≤ (t.length : Int)) = true := decide_eq_true ha
            clear hE ha
            go_wp2_with fail
            go_ret
            exact ⟨rfl, HB8.out⟩
      | false =>
        rw [(text_no hVA).1, (text_no hVA).2] at CTA
        rw [hVA] at CVA
        obtain ⟨tb, htb⟩ : ∃ x, textV b = x := ⟨_, rfl⟩
        obtain ⟨fb, hfb⟩ : ∃ x, textE b = x := ⟨_, rfl⟩
        rw [htb, hfb] at CTB
        clear hVA htb hfb
        have hem : (bs ([] : List UInt8)).toList.isEmpty = true := by rw [bs_toList]; rfl
        go_wp2_with (first | ((with_reducible refine (CFA _).mono ?_); rintro e w' ⟨rfl, u, rfl⟩) | ((with_reducible refine (CFB _).mono ?_); rintro e w' ⟨rfl, u, rfl⟩) | ((with_reducible refine (CTA _).mono ?_); rintro e w' ⟨rfl, u, rfl⟩) | ((with_reducible refine (CTB _).mono ?_); rintro e w' ⟨rfl, u, rfl⟩) | ((with_reducible refine (CVA _).mono ?_); rintro e w' ⟨rfl, u, rfl⟩))
        refine (CT (g u)).mono ?_
        rintro e w8 ⟨vx, rfl, hX, hb⟩
        obtain ⟨A8, c8, rfl, _⟩ := hX.slice
        have HX := hide (hX.to (below_one w8 (.cells #[.string (bs X.c), .slice A8 X.ps.length c8] 24)))
        have HY := hide (Blk.new w8 24 #[.string (bs X.c), .slice A8 X.ps.length c8])
        have HB8 := hide (below_to (below_to HB.out (Nat.le_refl _) (hgu u)) (Nat.le_refl _) (below_alloc hb (Nat.le_refl _) (.cells #[.string (bs X.c), .slice A8 X.ps.length c8] 24)))
        clear hX hb CT
        go_upto_region 13 with fail
        generalize w8.alloc (.cells #[.string (bs X.c), .slice A8 X.ps.length c8] 24) = w9 at *
        by_cases hE : E = 0
        · obtain ⟨hv, ha⟩ := HOK.out hE
          subst hE ha
          have hvb := (validB_iff isNm X).2 hv
          have CX : ∀ W, Below w9.heap.size w9 W → Calls Tryz.prog 18 #[.agg #[.string (bs X.c), .slice A8 X.ps.length c8]] W fun e w' => e = .returned (.tuple #[.string (bs (textS X)), .int .i64 0]) ∧ Below W.heap.size W w' := fun W hW => by
            have := SText_any X (Nat.le_trans HSM.out.1 (by decide)) (Nat.le_trans HSM.out.2 (by decide)) (.slice A8 X.ps.length c8) W (HX.out.to hW)
            rw [(text_ok hvb).1, (text_ok hvb).2] at this
            exact this
          have CQ := fun W => SParse_any (textS X) (Nat.le_trans (text_len hv) (by decide)) W
          unfold SParseR at CQ
          simp only [schParse_text hv] at CQ
          have x0 : w9.cell? ⟨w8.heap.size, 0, none⟩ = some (.string (bs X.c)) := HY.out.cell 0
          have x1 : w9.cell? ⟨w8.heap.size, 1, none⟩ = some (.slice A8 X.ps.length c8) := HY.out.cell 1
          clear hv
          go_wp2_with fail
          refine (CX _ (Below.refl _ _)).mono ?_
          rintro e w10 ⟨rfl, hb⟩
          have HB10 := hide (below_to HB8.out (Nat.le_refl _) hb)
          have HX10 := hide (HX.out.to hb)
          have HY10 := hide (HY.out.to hb)
          clear x0 x1 hb CX HX HY HB8
          go_wp2_with fail
          refine (CQ w10).mono ?_
          rintro e w11 ⟨vy, rfl, hY, hb⟩
          obtain ⟨A9, c9, rfl, _⟩ := hY.slice
          have hbb : Below w10.heap.size w10 (w11.alloc (.cells #[.string (bs X.c), .slice A9 X.ps.length c9] 24)) := below_alloc hb (Nat.le_refl _) _
          have HZ := hide (hY.to (below_one w11 (.cells #[.string (bs X.c), .slice A9 X.ps.length c9] 24)))
          have HV := hide (Blk.new w11 24 #[.string (bs X.c), .slice A9 X.ps.length c9])
          have HX11 := hide (HX10.out.to hbb)
          have HY11 := hide (HY10.out.to hbb)
          have HB11 := hide (below_to HB10.out (Nat.le_refl _) hbb)
          clear hY hb CQ HX10 HY10 HB10 hbb
          go_upto_region 17 with fail
          generalize w11.alloc (.cells #[.string (bs X.c), .slice A9 X.ps.length c9] 24) = w12 at *
          obtain ⟨U2, hU2, h, u2, rfl, hhu, hhi⟩ := cls w12
          have y0 := fun u => (((HY11.out.to (hhu u)).cell 0).trans (show _ = some (Value.string (bs X.c)) from rfl))
          have y1 := fun u => (((HY11.out.to (hhu u)).cell 1).trans (show _ = some (Value.slice A8 X.ps.length c8) from rfl))
          have v0 := fun u => (((HV.out.to (hhu u)).cell 0).trans (show _ = some (Value.string (bs X.c)) from rfl))
          have v1 := fun u => (((HV.out.to (hhu u)).cell 1).trans (show _ = some (Value.slice A9 X.ps.length c9) from rfl))
          have CV2 : ∀ u, Calls Tryz.prog 22 #[.agg #[.string (bs X.c), .slice A8 X.ps.length c8]] (h u) fun e w' => e = .returned (.bool true) ∧ ∃ u', w' = h u' := fun u => by
            have := cls_call hhu hhi (fun W hb => SValid_any X (Nat.le_trans HSM.out.1 (by decide)) (Nat.le_trans HSM.out.2 (by decide)) (.slice A8 X.ps.length c8) W (HX11.out.to hb)) u
            rw [hvb] at this
            exact this
          have CS2 : ∀ u, Calls Tryz.prog 26 #[.agg #[.string (bs X.c), .slice A8 X.ps.length c8], .agg #[.string (bs X.c), .slice A9 X.ps.length c9]] (h u) fun e w' => e = .returned (.bool true) ∧ ∃ u', w' = h u' := fun u => by
            have := cls_call hhu hhi (fun W hb => Same_any X X (Nat.le_trans HSM.out.1 (by decide)) (Nat.le_trans HSM.out.1 (by decide)) (.slice A8 X.ps.length c8) (.slice A9 X.ps.length c9) W (HX11.out.to hb) (HZ.out.to hb)) u
            rw [(sameB_iff X X).2 rfl] at this
            exact this
          clear hvb
          go_wp2_with (first | ((with_reducible refine (CV2 _).mono ?_); rintro e w' ⟨rfl, u, rfl⟩) | ((with_reducible refine (CS2 _).mono ?_); rintro e w' ⟨rfl, u, rfl⟩))
          all_goals go_ret
          all_goals exact ⟨rfl, below_to HB11.out (Nat.le_refl _) (hhu _)⟩
        · have e2 : (E != 0) = true := by rw [bne_iff_ne]; exact hE
          obtain ⟨hz, ha⟩ := HNO.out hE
          subst hz
          have x0 : w9.cell? ⟨w8.heap.size, 0, none⟩ = some (.string ⟨#[]⟩) := HY.out.cell 0
          have x1 : w9.cell? ⟨w8.heap.size, 1, none⟩ = some (.slice A8 0 c8) := HY.out.cell 1
          have e3 : decide (a1 ≤ (t.length : Int)) = true := decide_eq_true ha
          clear hE ha
          go_wp2_with fail
          go_ret
          exact ⟨rfl, HB8.out⟩
end Go.Proofs.YtdcafoekbnacnaaGreatDoor
