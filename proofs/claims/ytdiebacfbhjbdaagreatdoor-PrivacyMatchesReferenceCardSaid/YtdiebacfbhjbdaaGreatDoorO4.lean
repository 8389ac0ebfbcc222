/- Walks of the statements: PrivacySameLog. -/
import Derived.Test.YtdiebacfbhjbdaaGreatDoorO3
set_option linter.unusedVariables false
set_option linter.unusedSimpArgs false
namespace Go.Proofs.YtdiebacfbhjbdaaGreatDoor
open Go.RowKit

set_option maxRecDepth 100000 in
set_option maxHeartbeats 1000000 in
theorem samelog_law (log : List Ln) (hl0 : log.length ≤ 8796093022208) (p : List UInt8) (v : Value) (w : World) (hv : LnsAt w v log) (hg : Glob w) :
    Calls Tryz.prog 3 #[v, .string (bs p)] w fun e w' => e = .returned (.bool true) ∧ Below w.heap.size w w' := by
  have HB0 := hide (Below.refl w.heap.size w)
  have HS0 := hide hv
  have HG := hide hg
  clear hv hg
  go_enter Tryz.func3, Tryz.ntmps3
  go_wp2_with fail
  have C1 := head_any w HG.out
  refine C1.mono ?_
  rintro e w1 ⟨rfl, hb⟩
  have HB1 := hide (below_to HB0.out (Nat.le_refl _) hb)
  have HS1 := hide (HS0.out.to hb)
  clear hb C1 HB0 HS0
  go_wp2_with fail
  have HB2 := hide (below_alloc HB1.out (Nat.le_refl _) (.cells #[.string (bs p)] 9))
  have HS2 := hide (HS1.out.to (below_one w1 (.cells #[.string (bs p)] 9)))
  clear HB1 HS1
  cases hfew : shT [p] && fewG log with
  | false =>
    have CF : Calls Tryz.prog 12 #[v, .slice (some ⟨w1.heap.size, 0, none⟩) 1 1] (w1.alloc (.cells #[.string (bs p)] 9)) fun e w' => e = .returned (.bool (shT [p] && fewG log)) ∧ Below (w1.alloc (.cells #[.string (bs p)] 9)).heap.size (w1.alloc (.cells #[.string (bs p)] 9)) w' := few_any log (Nat.le_trans hl0 (by decide)) [p] (by simp) v _ _ HS2.out (rows_new w1 1 9 ([p].map strV) (by simp [strV]) _ rfl 1 rfl)
    rw [hfew] at CF
    clear hfew hl0
    have C3 := CF
    refine C3.mono ?_
    rintro e w3 ⟨rfl, hb⟩
    have HB3 := hide (below_to HB2.out (Nat.le_refl _) hb)
    have HS3 := hide (HS2.out.to hb)
    clear hb C3 HB2 HS2
    go_wp2_with fail
    go_ret
    exact ⟨rfl, HB3.out⟩
  | true =>
    have CF : Calls Tryz.prog 12 #[v, .slice (some ⟨w1.heap.size, 0, none⟩) 1 1] (w1.alloc (.cells #[.string (bs p)] 9)) fun e w' => e = .returned (.bool (shT [p] && fewG log)) ∧ Below (w1.alloc (.cells #[.string (bs p)] 9)).heap.size (w1.alloc (.cells #[.string (bs p)] 9)) w' := few_any log (Nat.le_trans hl0 (by decide)) [p] (by simp) v _ _ HS2.out (rows_new w1 1 9 ([p].map strV) (by simp [strV]) _ rfl 1 rfl)
    rw [hfew] at CF
    simp only [Bool.and_eq_true] at hfew
    obtain ⟨hl, hf0, hd0⟩ := few_facts hfew.2
    have lp := sh_facts hfew.1 p (by simp)
    have HF := hide hf0
    have HD := hide hd0
    clear hfew hl0 hf0 hd0
    have C3 := CF
    refine C3.mono ?_
    rintro e w3 ⟨rfl, hb⟩
    have HB3 := hide (below_to HB2.out (Nat.le_refl _) hb)
    have HS3 := hide (HS2.out.to hb)
    clear hb C3 HB2 HS2
    go_wp2_with fail
    have CE := Erase_any log HF.out (by omega) p lp v w3 HS3.out (HG.out.to HB3.out)
    unfold EraseR at CE
    have C4 := CE
    refine C4.mono ?_
    rintro e w4 ⟨v1, rfl, hHE, hb⟩
    have HB4 := hide (below_to HB3.out (Nat.le_refl _) hb)
    have HS4 := hide (HS3.out.to hb)
    have HE4 := hide hHE
    clear hb C4 HB3 HS3 hHE
    go_wp2_with fail
    have CR := Root_any log HF.out HD.out (by omega) v w4 HS4.out (HG.out.to HB4.out)
    cases hok : okA log p with
    | false =>
      have HK : Hid (okA log p = false) := hok
      generalize (if validG log = true then totalT (leavesP log) else []) = R at CR
      generalize errE (validG log) = e8 at CR
      clear hok
      have C5 := CR
      refine C5.mono ?_
      rintro e w5 ⟨rfl, hb⟩
      have HB5 := hide (below_to HB4.out (Nat.le_refl _) hb)
      have HS5 := hide (HS4.out.to hb)
      have HE5 := hide (HE4.out.to hb)
      clear hb C5 HB4 HS4 HE4
      have hE := HE5.out
      unfold eraseV at hE
      rw [HK.out] at hE
      obtain ⟨A1, c1, rfl⟩ := hE.slice
      rw [show hitsV log p = 0 by unfold hitsV; rw [HK.out]; rfl]
      clear hE
      go_wp2_with fail
      go_ret
      exact ⟨rfl, HB5.out⟩
    | true =>
      have HK := hide hok
      clear hok
      have HVG : Hid (validG log = true) := by have := HK.out; unfold okA at this; simp only [Bool.and_eq_true] at this; exact this.1
      have HNM : Hid (isNm p = true) := by have := HK.out; unfold okA at this; simp only [Bool.and_eq_true] at this; exact this.2
      obtain ⟨R, HR⟩ : ∃ R, Hid (totalT (leavesP log) = R) := ⟨_, rfl⟩
      obtain ⟨le, HLE⟩ : ∃ l, Hid (eraseP log p = l) := ⟨_, rfl⟩
      rw [HVG.out, if_pos rfl, HR.out] at CR
      have C5 := CR
      refine C5.mono ?_
      rintro e w5 ⟨rfl, hb⟩
      have HB5 := hide (below_to HB4.out (Nat.le_refl _) hb)
      have HS5 := hide (HS4.out.to hb)
      have HE5 := hide (HE4.out.to hb)
      clear hb C5 HB4 HS4 HE4
      have HE5_ := HE5.out
      unfold eraseV at HE5_
      rw [HK.out, if_pos rfl, HLE.out] at HE5_
      rw [show hitsV log p = hitsP log p by unfold hitsV; rw [HK.out, if_pos rfl]]
      have HLL : Hid (le.length = log.length) := by show _ = _; rw [← HLE.out]; exact erase_len _ _
      obtain ⟨A1, c1, rfl⟩ := HE5_.slice
      rw [HLL.out] at HE5_
      have HL5 := hide HE5_
      rw [HLL.out]
      clear HE5_ HE5
      have HFL : Hid (∀ l ∈ le, l.fit) := by rw [← HLE.out]; exact fit_erase HF.out p
      have HDL : Hid (∀ l ∈ le, l.d.length ≤ 100000000000) := by rw [← HLE.out]; exact d_erase HD.out p
      have HVL : Hid (validG le = true) := by show _ = _; rw [← HLE.out]; exact valid_erase HVG.out
      have HR2 : Hid (totalT (leavesP le) = R) := by show _ = _; rw [← HLE.out, leaves_erase]; exact HR.out
      obtain ⟨N, HN⟩ : ∃ n, Hid (hitsP log p = n) := ⟨_, rfl⟩
      rw [HN.out]
      have hrr : ((bs R).toList == (bs R).toList) = true := by simp
      go_wp2_with fail
      have C6 := root_yes HFL.out HDL.out (by rw [HLL.out]; omega) HVL.out (.slice A1 log.length c1) w5 HL5.out (HG.out.to HB5.out) HR2.out
      refine C6.mono ?_
      rintro e w6 ⟨rfl, hb⟩
      have HB6 := hide (below_to HB5.out (Nat.le_refl _) hb)
      have HS6 := hide (HS5.out.to hb)
      have HL6 := hide (HL5.out.to hb)
      clear hb C6 HB5 HS5 HL5
      obtain ⟨As, cs, rfl⟩ := HS6.out.slice
      go_wp2_with fail
      go_loopw [13, 14] (fun n i wr => ∃ k : Nat, i = .int .i64 (k : Int) ∧ k ≤ log.length ∧ n = .int .i64 ((hitsP (log.take k) p : Nat) : Int) ∧ Aside (Below w6.heap.size w6 wr)) (fun _ i _ => log.length - (intOf i).toNat)
      case atStart => exact ⟨0, rfl, by omega, rfl, Below.refl _ _⟩
      case round =>
        obtain ⟨k, rfl, hk, rfl, hB⟩ := hrel
        have HBr : Hid (Below w6.heap.size w6 wr) := hB
        clear hB
        by_cases hlt : k < log.length
        · have e1 : decide ((k : Int) < (log.length : Int)) = true := decide_eq_true (by omega)
          obtain ⟨x, hx⟩ : ∃ x, log[k]? = some x := ⟨_, List.getElem?_eq_getElem hlt⟩
          have hy : le[k]? = some (erQ p x) := by
            rw [← HLE.out, erase_at, hx]
            rfl
          have HT := hide (era_take p hx).2
          obtain ⟨a, rfl, ha, c0, c1', c2, c3⟩ := (HS6.out.to HBr.out).at_ hx
          obtain ⟨b, rfl, hb, d0, d1, d2, d3⟩ := (HL6.out.to HBr.out).at_ hy
          have HYF := HFL.out _ (List.mem_of_getElem? hy)
          have HYV : validL (erQ p x) = true := by
            have := HVL.out
            unfold validG at this
            simp only [Bool.and_eq_true, List.all_eq_true] at this
            exact this.1 _ (List.mem_of_getElem? hy)
          have hyd : (erQ p x).d = x.d := by unfold erQ; split <;> rfl
          have HCH := hide (changed_iff HNM.out x)
          have HCX : Hid (erQ p x ≠ x ↔ x.p = p) := HCH.out
          have hcnt : hitsP (log.take k) p ≤ 30 := Nat.le_trans (hits_le _ _) (Nat.le_trans (List.length_take_le _ _) (by omega))
          have i0 : (0 : Int) ≤ (k : Int) := by omega
          have i1 : (k : Int) < (log.length : Int) := by omega
          have bA : (a.add (k * 4)).block < wr.heap.size := by rw [block_of_add]; exact ha
          have bB : (b.add (k * 4)).block < wr.heap.size := by rw [block_of_add]; exact hb
          rw [hyd] at d3
          obtain ⟨U, hU, g, u0, rfl, hgu, hi⟩ := cls wr
          have CV := cls_call hgu hi (fun w hw => Valid_any (erQ p x) HYF w ((HG.out.to HB6.out).to HBr.out |>.to hw))
          rw [HYV] at CV
          unfold lnC at CV
          rw [hyd] at CV
          have C0 : ∀ u, (g u).cell? (a.add (k * 4)) = _ := fun u => ((hgu u).cell bA).trans c0
          have C1 : ∀ u, (g u).cell? ⟨(a.add (k * 4)).block, (a.add (k * 4)).off + 1, none⟩ = _ := fun u => ((hgu u).cell (p := ⟨(a.add (k * 4)).block, (a.add (k * 4)).off + 1, none⟩) bA).trans c1'
          have C2 : ∀ u, (g u).cell? ⟨(a.add (k * 4)).block, (a.add (k * 4)).off + 2, none⟩ = _ := fun u => ((hgu u).cell (p := ⟨(a.add (k * 4)).block, (a.add (k * 4)).off + 2, none⟩) bA).trans c2
          have C3 : ∀ u, (g u).cell? ⟨(a.add (k * 4)).block, (a.add (k * 4)).off + 3, none⟩ = _ := fun u => ((hgu u).cell (p := ⟨(a.add (k * 4)).block, (a.add (k * 4)).off + 3, none⟩) bA).trans c3
          have D0 : ∀ u, (g u).cell? (b.add (k * 4)) = _ := fun u => ((hgu u).cell bB).trans d0
          have D1 : ∀ u, (g u).cell? ⟨(b.add (k * 4)).block, (b.add (k * 4)).off + 1, none⟩ = _ := fun u => ((hgu u).cell (p := ⟨(b.add (k * 4)).block, (b.add (k * 4)).off + 1, none⟩) bB).trans d1
          have D2 : ∀ u, (g u).cell? ⟨(b.add (k * 4)).block, (b.add (k * 4)).off + 2, none⟩ = _ := fun u => ((hgu u).cell (p := ⟨(b.add (k * 4)).block, (b.add (k * 4)).off + 2, none⟩) bB).trans d2
          have D3 : ∀ u, (g u).cell? ⟨(b.add (k * 4)).block, (b.add (k * 4)).off + 3, none⟩ = _ := fun u => ((hgu u).cell (p := ⟨(b.add (k * 4)).block, (b.add (k * 4)).off + 3, none⟩) bB).trans d3
          have HGU := hide hgu
          have HHI := hide hi
          have exd : ((bs x.d).toList == (bs x.d).toList) = true := by simp
          clear hgu hi c0 c1' c2 c3 d0 d1 d2 d3 hx hy HYF HYV bA bB ha hb HCH
          have qy : ∀ h : erQ p x ≠ x, _ := fun h => lnq_yes h
          have qn := lnq_no x
          generalize hm : erQ p x = m at *
          have HM := hide hm
          clear hm
          go_wp2_with fail
          refine wp_region_class g (by kernel_rfl) (by kernel_rfl) (HHI.out _ (HGU.out _).drew) ?_
          repeat (go_big_quiet_step (with_reducible exact CV _))
          refine wpQuiet_nil ?_
          intro w5 hw5
          obtain ⟨u, rfl⟩ := hw5
          by_cases hp : x.p = p
          · have q := qy (HCX.out.2 hp)
            rw [hyd] at q
            rw [show hit p x = 1 by unfold hit; rw [if_pos hp]] at HT
            clear qy qn hp
            go_wp2_with fail
            refine wp_region_class g (by kernel_rfl) (by kernel_rfl) (HHI.out _ (HGU.out _).drew) ?_
            repeat (go_big_quiet_step (fail))
            refine wpQuiet_nil ?_
            intro w6 hw6
            obtain ⟨u', rfl⟩ := hw6
            go_wp2_with fail
            refine ⟨⟨k + 1, by go_num, by omega, by rw [HT.out]; go_num, below_to HBr.out (Nat.le_refl _) (HGU.out _)⟩, ?_⟩
            simp [intOf]; omega
          · have hmx : m = x := Classical.byContradiction fun h => hp (HCX.out.1 h)
            subst hmx
            rw [show hit p m = 0 by unfold hit; rw [if_neg hp]] at HT
            clear qy hp
            go_wp2_with fail
            refine wp_region_class g (by kernel_rfl) (by kernel_rfl) (HHI.out _ (HGU.out _).drew) ?_
            repeat (go_big_quiet_step (fail))
            refine wpQuiet_nil ?_
            intro w6 hw6
            obtain ⟨u', rfl⟩ := hw6
            go_wp2_with fail
            refine ⟨⟨k + 1, by go_num, by omega, by rw [HT.out]; rfl, below_to HBr.out (Nat.le_refl _) (HGU.out _)⟩, ?_⟩
            simp [intOf]; omega
        · obtain rfl : k = log.length := by omega
          have e1 : decide ((log.length : Int) < (log.length : Int)) = false := by simp
          rw [List.take_length, HN.out]
          have enn : ((N : Int) == (N : Int)) = true := by simp
          go_wp2_with fail
          go_ret
          exact ⟨rfl, below_to HB6.out (Nat.le_refl _) HBr.out⟩
end Go.Proofs.YtdiebacfbhjbdaaGreatDoor
