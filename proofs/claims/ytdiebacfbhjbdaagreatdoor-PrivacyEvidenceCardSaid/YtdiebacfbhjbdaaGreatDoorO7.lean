/- Walks of the statements: PrivacyEvidence. -/
import Derived.Test.YtdiebacfbhjbdaaGreatDoorO6
import Derived.Test.YtdiebacfbhjbdaaGreatDoorNX
set_option linter.unusedVariables false
set_option linter.unusedSimpArgs false
namespace Go.Proofs.YtdiebacfbhjbdaaGreatDoor
open Go.RowKit

theorem upG_of {leaf : List UInt8} : ∀ (f n i : Nat) (st : List (List UInt8)) (r : List UInt8) (rest : List (List UInt8)), upF f n i leaf st = some (r, rest) → (∀ d ∈ st, d ≠ []) → upG leaf f n i st false = (r, rest, false)
  | 0, n, i, st, r, rest, h, _ => by simp [upF] at h
  | f + 1, n, i, st, r, rest, h, hd => by
    unfold upF at h
    by_cases h1 : n = 1
    · rw [if_pos h1] at h
      subst h1
      rw [upG_one]
      cases h
      rfl
    · rw [if_neg h1] at h
      match st, h, hd with
      | [], h, _ => simp at h
      | side :: st, h, hd =>
        have hne : side ≠ [] := hd side (by simp)
        have hsh : nextS (side :: st) false = false := by
          unfold nextS
          cases side with
          | nil => exact absurd rfl hne
          | cons _ _ => rfl
        simp only [] at h
        by_cases hi : i < halfN n
        · rw [if_pos hi] at h
          cases hu : upF f (halfN n) i leaf st with
          | none => rw [hu] at h; cases h
          | some v =>
            obtain ⟨r', rest'⟩ := v
            have ih := upG_of f (halfN n) i st r' rest' hu (fun d h => hd d (by simp [h]))
            rw [hu] at h
            simp only [Option.map_some, Option.some.injEq, Prod.mk.injEq] at h
            rw [upG_lt leaf h1 hi, hsh]
            show (nodeD (upG leaf f (halfN n) i st false).1 side, (upG leaf f (halfN n) i st false).2) = _
            rw [ih, ← h.1, ← h.2]
        · rw [if_neg hi] at h
          cases hu : upF f (n - halfN n) (i - halfN n) leaf st with
          | none => rw [hu] at h; cases h
          | some v =>
            obtain ⟨r', rest'⟩ := v
            have ih := upG_of f (n - halfN n) (i - halfN n) st r' rest' hu (fun d h => hd d (by simp [h]))
            rw [hu] at h
            simp only [Option.map_some, Option.some.injEq, Prod.mk.injEq] at h
            rw [upG_ge leaf h1 hi, hsh]
            show (nodeD side (upG leaf f (n - halfN n) (i - halfN n) st false).1, (upG leaf f (n - halfN n) (i - halfN n) st false).2) = _
            rw [ih, ← h.1, ← h.2]
theorem pathF_len : ∀ (f : Nat) (l : List (List UInt8)) (i : Nat), (pathF f l i).length ≤ f
  | 0, l, i => by simp [pathF]
  | f + 1, l, i => by
    unfold pathF
    split
    · simp
    · split
      · rw [List.length_cons]; exact Nat.succ_le_succ (pathF_len f _ _)
      · rw [List.length_cons]; exact Nat.succ_le_succ (pathF_len f _ _)
theorem pathV_isD {L : List (List UInt8)} (h : properT L = true) (k : Nat) : ∀ d ∈ pathV L k, isD d = true := fun d hd => by
  unfold pathV at hd
  exact path_isD L.length L k h d (by simpa using hd)
theorem check_path {L : List (List UInt8)} (hp : properT L = true) (hl : L.length ≤ 1000000) {k : Nat} {x : List UInt8} (hx : L[k]? = some x) : checkV (totalT L) (L.length : Int) (k : Int) x (pathV L k) = true := by
  have hk : k < L.length := (List.getElem?_eq_some_iff.1 hx).1
  have hxd : isD x = true := by unfold properT at hp; exact List.all_eq_true.1 hp x (List.mem_of_getElem? hx)
  have hpp : properT (pathV L k) = true := by unfold properT; rw [List.all_eq_true]; exact pathV_isD hp k
  unfold checkV
  rw [if_pos ⟨by omega, by omega, by omega, hpp, hxd⟩, Int.toNat_natCast, Int.toNat_natCast]
  have hu := up_path L.length L k x [] (Nat.le_refl _) hx
  rw [List.append_nil] at hu
  have hne : ∀ d ∈ pathF L.length L k, d ≠ [] := fun d hd e => by
    have := path_isD L.length L k hp d hd
    rw [e] at this
    exact absurd this (by decide)
  have hg := upG_of L.length L.length k _ _ _ hu hne
  unfold upV
  rw [show (pathV L k).reverse = pathF L.length L k by unfold pathV; rw [List.reverse_reverse], hg]
  simp
set_option maxRecDepth 100000 in
set_option maxHeartbeats 1000000 in
theorem evidence_law (log : List Ln) (hl0 : log.length ≤ 8796093022208) (p : List UInt8) (q : Nat) (hq : q ≤ 255) (v : Value) (w : World) (hv : LnsAt w v log) (hg : Glob w) :
    Calls Tryz.prog 10 #[v, .string (bs p), .int .u8 (q : Int)] w fun e w' => e = .returned (.bool true) ∧ Below w.heap.size w w' := by
  have HB0 := hide (Below.refl w.heap.size w)
  have HS0 := hide hv
  have HG := hide hg
  clear hv hg
  go_enter Tryz.func10, Tryz.ntmps10
  go_wp2_with fail
  have C1 := head_any w HG.out
  refine C1.mono ?_
  rintro e w1 ⟨rfl, hb⟩
  have HB1 := hide (below_to HB0.out (Nat.le_refl _) hb)
  have HS1 := hide (HS0.out.to hb)
  clear hb C1 HB0 HS0
  go_wp2_with fail
  have HB2 := hide (below_alloc HB1.out (Nat.le_refl _) (.cells #[.string (bs p)] 9))
  have HS2 := hide (HS1.out.to (below_one w1 (.cells #[.string (bs p)] 9)))
  clear HB1 HS1
  cases hfew : shT [p] && fewG log with
  | false =>
    have CF : Calls Tryz.prog 12 #[v, .slice (some ⟨w1.heap.size, 0, none⟩) 1 1] (w1.alloc (.cells #[.string (bs p)] 9)) fun e w' => e = .returned (.bool (shT [p] && fewG log)) ∧ Below (w1.alloc (.cells #[.string (bs p)] 9)).heap.size (w1.alloc (.cells #[.string (bs p)] 9)) w' := few_any log (Nat.le_trans hl0 (by decide)) [p] (by simp) v _ _ HS2.out (rows_new w1 1 9 ([p].map strV) (by simp [strV]) _ rfl 1 rfl)
    rw [hfew] at CF
    clear hfew hl0
    have C3 := CF
    refine C3.mono ?_
    rintro e w3 ⟨rfl, hb⟩
    have HB3 := hide (below_to HB2.out (Nat.le_refl _) hb)
    have HS3 := hide (HS2.out.to hb)
    clear hb C3 HB2 HS2
    go_wp2_with fail
    go_ret
    exact ⟨rfl, HB3.out⟩
  | true =>
    have CF : Calls Tryz.prog 12 #[v, .slice (some ⟨w1.heap.size, 0, none⟩) 1 1] (w1.alloc (.cells #[.string (bs p)] 9)) fun e w' => e = .returned (.bool (shT [p] && fewG log)) ∧ Below (w1.alloc (.cells #[.string (bs p)] 9)).heap.size (w1.alloc (.cells #[.string (bs p)] 9)) w' := few_any log (Nat.le_trans hl0 (by decide)) [p] (by simp) v _ _ HS2.out (rows_new w1 1 9 ([p].map strV) (by simp [strV]) _ rfl 1 rfl)
    rw [hfew] at CF
    simp only [Bool.and_eq_true] at hfew
    obtain ⟨hl, hf0, hd0⟩ := few_facts hfew.2
    have lp := sh_facts hfew.1 p (by simp)
    have HF := hide hf0
    have HD := hide hd0
    clear hfew hl0 hf0 hd0
    have C3 := CF
    refine C3.mono ?_
    rintro e w3 ⟨rfl, hb⟩
    have HB3 := hide (below_to HB2.out (Nat.le_refl _) hb)
    have HS3 := hide (HS2.out.to hb)
    clear hb C3 HB2 HS2
    obtain ⟨As, cs, rfl⟩ := HS3.out.slice
    by_cases h0 : log.length = 0
    · have e0 : ((log.length : Int) == 0) = true := by rw [h0]; rfl
      have e1 : (log.length == 0) = true := by rw [h0]; rfl
      rw [h0] at e0 ⊢
      clear h0 e1
      go_wp2_with fail
      go_ret
      exact ⟨rfl, HB3.out⟩
    · have e0 : ((log.length : Int) == 0) = false := by rw [beq_eq_false_iff_ne]; omega
      have hpos : 0 < log.length := by omega
      have hpos' : (0 : Int) < (log.length : Int) := by omega
      clear h0
      go_wp2_with fail
      have CE := Erase_any log HF.out (by omega) p lp (.slice As log.length cs) w3 HS3.out (HG.out.to HB3.out)
      unfold EraseR at CE
      have C4 := CE
      refine C4.mono ?_
      rintro e w4 ⟨v1, rfl, hHE, hb⟩
      have HB4 := hide (below_to HB3.out (Nat.le_refl _) hb)
      have HS4 := hide (HS3.out.to hb)
      have HE4 := hide hHE
      clear hb C4 HB3 HS3 hHE
      cases hok : okA log p with
      | false =>
        clear hok
        go_wp2_with fail
        go_ret
        exact ⟨rfl, HB4.out⟩
      | true =>
        have HK := hide hok
        clear hok
        have HVG : Hid (validG log = true) := by have := HK.out; unfold okA at this; simp only [Bool.and_eq_true] at this; exact this.1
        obtain ⟨R, HR⟩ : ∃ R, Hid (totalT (leavesP log) = R) := ⟨_, rfl⟩
        obtain ⟨le, HLE⟩ : ∃ l, Hid (eraseP log p = l) := ⟨_, rfl⟩
        have HL4 : Hid (LnsAt w4 v1 le) := by
          have h := HE4.out
          unfold eraseV at h
          rw [HK.out, if_pos rfl, HLE.out] at h
          exact h
        clear HE4
        have HLL : Hid (le.length ≤ 30) := by show _ ≤ _; rw [← HLE.out, erase_len]; exact hl
        have HFL : Hid (∀ l ∈ le, l.fit) := by rw [← HLE.out]; exact fit_erase HF.out p
        have HDL : Hid (∀ l ∈ le, l.d.length ≤ 100000000000) := by rw [← HLE.out]; exact d_erase HD.out p
        have HVL : Hid (validG le = true) := by show _ = _; rw [← HLE.out]; exact valid_erase HVG.out
        have HLV : Hid (leavesP le = leavesP log) := by show _ = _; rw [← HLE.out, leaves_erase]
        have HR2 : Hid (totalT (leavesP le) = R) := by show _ = _; rw [HLV.out]; exact HR.out
        obtain ⟨L, HLG⟩ : ∃ L, Hid (leavesP log = L) := ⟨_, rfl⟩
        have hLlen : L.length = log.length := by rw [← HLG.out]; unfold leavesP; rw [List.length_map]
        have HLlen := hide hLlen
        have HLP : Hid (properT L = true) := by show _ = _; rw [← HLG.out]; exact leaves_proper log
        have HLX : Hid (∀ x ∈ L, x.length ≤ 100000000000) := fun x hx => by
          have := HLP.out
          unfold properT at this
          rw [List.all_eq_true] at this
          have := isD_len (this x hx)
          omega
        obtain ⟨K, HKK⟩ : ∃ K, Hid (q % log.length = K) := ⟨_, rfl⟩
        have hKlt : K < log.length := by rw [← HKK.out]; exact Nat.mod_lt _ hpos
        obtain ⟨x, hx⟩ : ∃ x, log[K]? = some x := ⟨_, List.getElem?_eq_getElem hKlt⟩
        have HXV : Hid (validL x = true) := by
          have := HVG.out
          unfold validG at this
          simp only [Bool.and_eq_true, List.all_eq_true] at this
          exact this.1 x (List.mem_of_getElem? hx)
        have HXF : Hid x.fit := HF.out x (List.mem_of_getElem? hx)
        have HXD : Hid (x.d.length ≤ 100000000000) := HD.out x (List.mem_of_getElem? hx)
        have HXL : Hid (L[K]? = some (leafD x.d)) := by show _ = _; rw [← HLG.out]; unfold leavesP; rw [List.getElem?_map, hx]; rfl
        have hXX := hide hx
        clear hLlen hx
        have zk : (q : Int) % (log.length : Int) = (K : Int) := by rw [← HKK.out]; exact (Int.natCast_emod _ _).symm
        go_wp2_with fail
        have C5 := root_yes HFL.out HDL.out (Nat.le_trans HLL.out (by decide)) HVL.out v1 w4 HL4.out (HG.out.to HB4.out) HR2.out
        refine C5.mono ?_
        rintro e w5 ⟨rfl, hb⟩
        have HB5 := hide (below_to HB4.out (Nat.le_refl _) hb)
        have HS5 := hide (HS4.out.to hb)
        have HL5 := hide (HL4.out.to hb)
        clear hb C5 HB4 HS4 HL4
        go_wp2_with fail
        have CL := leaves_any log (by omega) HD.out (.slice As log.length cs) w5 HS5.out (HG.out.to HB5.out)
        unfold LvR at CL
        rw [HLG.out] at CL
        have C6 := CL
        refine C6.mono ?_
        rintro e w6 ⟨va, rfl, hHV, hb⟩
        have HB6 := hide (below_to HB5.out (Nat.le_refl _) hb)
        have HS6 := hide (HS5.out.to hb)
        have HL6 := hide (HL5.out.to hb)
        have HV6 := hide hHV
        clear hb C6 HB5 HS5 HL5 hHV
        go_wp2_with fail
        have CP := Path_any L (by rw [HLlen.out]; omega) HLP.out HLX.out K (by rw [HLlen.out]; exact hKlt) va w6 HV6.out (HG.out.to HB6.out)
        unfold PathR at CP
        have C7 := CP
        refine C7.mono ?_
        rintro e w7 ⟨vb, rfl, hHW, hb⟩
        have HB7 := hide (below_to HB6.out (Nat.le_refl _) hb)
        have HS7 := hide (HS6.out.to hb)
        have HL7 := hide (HL6.out.to hb)
        have HV7 := hide (HV6.out.to hb)
        have HW7 := hide hHW
        clear hb C7 HB6 HS6 HL6 HV6 hHW
        go_wp2_with fail
        have CL := leaves_any le (Nat.le_trans HLL.out (by decide)) HDL.out v1 w7 HL7.out (HG.out.to HB7.out)
        unfold LvR at CL
        rw [HLV.out, HLG.out] at CL
        have C8 := CL
        refine C8.mono ?_
        rintro e w8 ⟨vc, rfl, hHC, hb⟩
        have HB8 := hide (below_to HB7.out (Nat.le_refl _) hb)
        have HS8 := hide (HS7.out.to hb)
        have HL8 := hide (HL7.out.to hb)
        have HV8 := hide (HV7.out.to hb)
        have HW8 := hide (HW7.out.to hb)
        have HC8 := hide hHC
        clear hb C8 HB7 HS7 HL7 HV7 HW7 hHC
        go_wp2_with fail
        have CP := Path_any L (by rw [HLlen.out]; omega) HLP.out HLX.out K (by rw [HLlen.out]; exact hKlt) vc w8 HC8.out (HG.out.to HB8.out)
        unfold PathR at CP
        have C9 := CP
        refine C9.mono ?_
        rintro e w9 ⟨vd, rfl, hHX, hb⟩
        have HB9 := hide (below_to HB8.out (Nat.le_refl _) hb)
        have HS9 := hide (HS8.out.to hb)
        have HL9 := hide (HL8.out.to hb)
        have HV9 := hide (HV8.out.to hb)
        have HW9 := hide (HW8.out.to hb)
        have HC9 := hide (HC8.out.to hb)
        have HX9 := hide hHX
        clear hb C9 HB8 HS8 HL8 HV8 HW8 HC8 hHX
        obtain ⟨a, rfl, ha, c0, c1, c2, c3⟩ := HS9.out.at_ hXX.out
        have i0 : (0 : Int) ≤ (K : Int) := by omega
        have i1 : (K : Int) < (log.length : Int) := by omega
        have HPL : Hid ((pathV L K).length ≤ 1000000000) := by
          have := pathF_len L.length L K
          have h2 := HLlen.out
          show _ ≤ _
          unfold pathV
          rw [List.length_reverse]
          omega
        have HPX : Hid (∀ d ∈ pathV L K, d.length ≤ 100000000000) := fun d hd => by
          have := isD_len (pathV_isD HLP.out K d hd)
          omega
        have HCK : Hid (checkV R (log.length : Int) (K : Int) (leafD x.d) (pathV L K) = true) := by
          show _ = _
          rw [← HR.out, HLG.out, ← HLlen.out]
          exact check_path HLP.out (by rw [HLlen.out]; omega) HXL.out
        generalize pathV L K = P at *
        have HLFl : Hid ((leafD x.d).length ≤ 100000000000) := by
          have := isD_len (leaf_isD x.d)
          show _ ≤ _
          omega
        cases hxp : x.p.isEmpty with
        | true =>
          have ep : (bs x.p).toList.isEmpty = true := by rw [bs_toList]; exact hxp
          clear hxp
          go_wp2_with fail
          have CT := Texts_any P P HPL.out HPL.out vb vd w9 HW9.out HX9.out
          rw [decide_eq_true rfl] at CT
          have C10 := CT
          refine C10.mono ?_
          rintro e w10 ⟨rfl, hb⟩
          have HB10 := hide (below_to HB9.out (Nat.le_refl _) hb)
          have HW10 := hide (HW9.out.to hb)
          have HX10 := hide (HX9.out.to hb)
          clear hb C10 HB9 HW9 HX9
          go_wp2_with fail
          have CL := Leaf_any x.d HXD.out w10 (HG.out.to HB10.out)
          have C11 := CL
          refine C11.mono ?_
          rintro e w11 ⟨rfl, hb⟩
          have HB11 := hide (below_to HB10.out (Nat.le_refl _) hb)
          have HW11 := hide (HW10.out.to hb)
          have HX11 := hide (HX10.out.to hb)
          clear hb C11 HB10 HW10 HX10
          go_wp2_with fail
          have CC := Check_any R (log.length : Int) (K : Int) (leafD x.d) P HLFl.out HPL.out HPX.out vd w11 HX11.out (HG.out.to HB11.out)
          rw [HCK.out] at CC
          have C12 := CC
          refine C12.mono ?_
          rintro e w12 ⟨rfl, hb⟩
          have HB12 := hide (below_to HB11.out (Nat.le_refl _) hb)
          have HW12 := hide (HW11.out.to hb)
          have HX12 := hide (HX11.out.to hb)
          clear hb C12 HB11 HW11 HX11
          go_wp2_with fail
          go_ret
          exact ⟨rfl, HB12.out⟩
        | false =>
          have ep : (bs x.p).toList.isEmpty = false := by rw [bs_toList]; exact hxp
          have HCN : Hid (canM x.p x.t x.s = true ∧ mkL x.p x.t x.s = x) := by
            have h := HXV.out
            unfold validL at h
            by_cases he : x = er x
            · rw [he] at hxp
              exact absurd hxp (by simp [er])
            · rw [if_neg he] at h
              show _ ∧ _
              simpa using h
          have bA : (a.add (K * 4)).block < w9.heap.size := by rw [block_of_add]; exact ha
          clear hxp
          have q1 := lnq_no x
          obtain ⟨U, hU, g, u0, rfl, hgu, hi⟩ := cls w9
          have CM := fun u => make_yes HCN.out.1 HXF.out.s HXF.out.t HXF.out.p (g u) ((HG.out.to HB9.out).to (hgu u)) HCN.out.2
          have C0 : ∀ u, (g u).cell? (a.add (K * 4)) = _ := fun u => ((hgu u).cell bA).trans c0
          have C1 : ∀ u, (g u).cell? ⟨(a.add (K * 4)).block, (a.add (K * 4)).off + 1, none⟩ = _ := fun u => ((hgu u).cell (p := ⟨(a.add (K * 4)).block, (a.add (K * 4)).off + 1, none⟩) bA).trans c1
          have C2 : ∀ u, (g u).cell? ⟨(a.add (K * 4)).block, (a.add (K * 4)).off + 2, none⟩ = _ := fun u => ((hgu u).cell (p := ⟨(a.add (K * 4)).block, (a.add (K * 4)).off + 2, none⟩) bA).trans c2
          have C3 : ∀ u, (g u).cell? ⟨(a.add (K * 4)).block, (a.add (K * 4)).off + 3, none⟩ = _ := fun u => ((hgu u).cell (p := ⟨(a.add (K * 4)).block, (a.add (K * 4)).off + 3, none⟩) bA).trans c3
          have HGU := hide hgu
          have HHI := hide hi
          clear hgu hi c0 c1 c2 c3 bA ha
          go_wp2_with fail
          apply wp_region_looseG g (V := [some _, some _, some _, some _, some _, some _, some _, some _, some _, some _, some _, some _, some _, some _, some _, some _, some _, some _, some _, none, none, some _]) (Fs := [(19, Box4 (g u0).heap.size 32 19), (20, BoxIs (g u0).heap.size 32 19 #[.string (bs x.p), .string (bs x.t), .string (bs x.s), .string (bs x.d)])]) (Rel := fun i w w' => if i = 20 then BoxRel (g u0).heap.size 32 w w' else Below w.heap.size w w')
          case hm => kernel_rfl
          case hB => kernel_rfl
          case hCw => exact HHI.out _ (HGU.out _).drew
          case hC =>
            rintro i uq w' hr
            by_cases hi20 : i = 20
            · exact HHI.out _ ((HGU.out uq).trans (by simpa [hi20] using hr : BoxRel (g u0).heap.size 32 _ _).1)
            exact HHI.out _ (below_to (HGU.out uq) (Nat.le_refl _) (by simpa [hi20] using hr))
          case hst =>
            refine keeps_cons (fun i a a' w w' hne hwt hs hr h => h.keep (hs 19 (by kernel_rfl)) (by by_cases e20 : i = 20; (left; simpa [e20] using hr); right; simpa [e20] using hr)) ?_
            refine keeps_cons (fun i a a' w w' hne hwt hs hr h => h.keep (hs 19 (by kernel_rfl)) (by simpa [hne] using hr)) ?_
            exact keeps_nil
          case hop =>
            refine ⟨?_, ?_, ?_, ?_, ?_, ?_, ?_, ?_, ?_, ?_, ?_, ?_, ?_, ?_, ?_, ?_, ?_, ?_, ?_, ?_, ?_, ?_, trivial⟩
            · intro a uq K hS hd hK
              have s0 := hS.at 0 (by kernel_rfl) rfl
              rw [if_pos (want_free rfl)]
              go_simp
              exact hK _ _ (Below.refl _ _) (vok rfl) (facts_cons (fun h => absurd h (by decide)) (facts_cons (fun h => absurd h (by decide)) facts_nil))
            · intro a uq K hS hd hK
              have s11 := hS.at 11 (by kernel_rfl) rfl
              rw [if_pos (want_free rfl)]
              go_simp
              exact hK _ _ (Below.refl _ _) (vok rfl) (facts_cons (fun h => absurd h (by decide)) (facts_cons (fun h => absurd h (by decide)) facts_nil))
            · intro a uq K hS hd hK
              have s79 := (waits_on hd 0 (by kernel_rfl)).at (d := 79) rfl rfl rfl
              have s80 := (waits_on hd 1 (by kernel_rfl)).at (d := 80) rfl rfl rfl
              rw [if_pos (want_free rfl)]
              go_simp
              exact hK _ _ (Below.refl _ _) (vok rfl) (facts_cons (fun h => absurd h (by decide)) (facts_cons (fun h => absurd h (by decide)) facts_nil))
            · intro a uq K hS hd hK
              have s81 := (waits_on hd 2 (by kernel_rfl)).at (d := 81) rfl rfl rfl
              rw [if_pos (want_free rfl)]
              go_simp
              exact hK _ _ (Below.refl _ _) (vok rfl) (facts_cons (fun h => absurd h (by decide)) (facts_cons (fun h => absurd h (by decide)) facts_nil))
            · intro a uq K hS hd hK
              have s82 := (waits_on hd 3 (by kernel_rfl)).at (d := 82) rfl rfl rfl
              rw [if_pos (want_free rfl)]
              go_simp
              exact hK _ _ (Below.refl _ _) (vok rfl) (facts_cons (fun h => absurd h (by decide)) (facts_cons (fun h => absurd h (by decide)) facts_nil))
            · intro a uq K hS hd hK
              have s0 := hS.at 0 (by kernel_rfl) rfl
              rw [if_pos (want_free rfl)]
              go_simp
              exact hK _ _ (Below.refl _ _) (vok rfl) (facts_cons (fun h => absurd h (by decide)) (facts_cons (fun h => absurd h (by decide)) facts_nil))
            · intro a uq K hS hd hK
              have s11 := hS.at 11 (by kernel_rfl) rfl
              rw [if_pos (want_free rfl)]
              go_simp
              exact hK _ _ (Below.refl _ _) (vok rfl) (facts_cons (fun h => absurd h (by decide)) (facts_cons (fun h => absurd h (by decide)) facts_nil))
            · intro a uq K hS hd hK
              have s84 := (waits_on hd 5 (by kernel_rfl)).at (d := 84) rfl rfl rfl
              have s85 := (waits_on hd 6 (by kernel_rfl)).at (d := 85) rfl rfl rfl
              rw [if_pos (want_free rfl)]
              go_simp
              exact hK _ _ (Below.refl _ _) (vok rfl) (facts_cons (fun h => absurd h (by decide)) (facts_cons (fun h => absurd h (by decide)) facts_nil))
            · intro a uq K hS hd hK
              have s86 := (waits_on hd 7 (by kernel_rfl)).at (d := 86) rfl rfl rfl
              rw [if_pos (want_free rfl)]
              go_simp
              exact hK _ _ (Below.refl _ _) (vok rfl) (facts_cons (fun h => absurd h (by decide)) (facts_cons (fun h => absurd h (by decide)) facts_nil))
            · intro a uq K hS hd hK
              have s87 := (waits_on hd 8 (by kernel_rfl)).at (d := 87) rfl rfl rfl
              rw [if_pos (want_free rfl)]
              go_simp
              exact hK _ _ (Below.refl _ _) (vok rfl) (facts_cons (fun h => absurd h (by decide)) (facts_cons (fun h => absurd h (by decide)) facts_nil))
            · intro a uq K hS hd hK
              have s0 := hS.at 0 (by kernel_rfl) rfl
              rw [if_pos (want_free rfl)]
              go_simp
              exact hK _ _ (Below.refl _ _) (vok rfl) (facts_cons (fun h => absurd h (by decide)) (facts_cons (fun h => absurd h (by decide)) facts_nil))
            · intro a uq K hS hd hK
              have s11 := hS.at 11 (by kernel_rfl) rfl
              rw [if_pos (want_free rfl)]
              go_simp
              exact hK _ _ (Below.refl _ _) (vok rfl) (facts_cons (fun h => absurd h (by decide)) (facts_cons (fun h => absurd h (by decide)) facts_nil))
            · intro a uq K hS hd hK
              have s89 := (waits_on hd 10 (by kernel_rfl)).at (d := 89) rfl rfl rfl
              have s90 := (waits_on hd 11 (by kernel_rfl)).at (d := 90) rfl rfl rfl
              rw [if_pos (want_free rfl)]
              go_simp
              exact hK _ _ (Below.refl _ _) (vok rfl) (facts_cons (fun h => absurd h (by decide)) (facts_cons (fun h => absurd h (by decide)) facts_nil))
            · intro a uq K hS hd hK
              have s91 := (waits_on hd 12 (by kernel_rfl)).at (d := 91) rfl rfl rfl
              rw [if_pos (want_free rfl)]
              go_simp
              exact hK _ _ (Below.refl _ _) (vok rfl) (facts_cons (fun h => absurd h (by decide)) (facts_cons (fun h => absurd h (by decide)) facts_nil))
            · intro a uq K hS hd hK
              have s92 := (waits_on hd 13 (by kernel_rfl)).at (d := 92) rfl rfl rfl
              rw [if_pos (want_free rfl)]
              go_simp
              exact hK _ _ (Below.refl _ _) (vok rfl) (facts_cons (fun h => absurd h (by decide)) (facts_cons (fun h => absurd h (by decide)) facts_nil))
            · intro a uq K hS hd hK
              have s83 := (waits_on hd 4 (by kernel_rfl)).at (d := 83) rfl rfl rfl
              have s88 := (waits_on hd 9 (by kernel_rfl)).at (d := 88) rfl rfl rfl
              have s93 := (waits_on hd 14 (by kernel_rfl)).at (d := 93) rfl rfl rfl
              rw [if_pos (want_free rfl)]
              go_simp
              with_reducible refine (CM uq).mono ?_
              rintro e w' ⟨rfl, hb⟩
              exact hK _ _ hb (vok rfl) (facts_cons (fun h => absurd h (by decide)) (facts_cons (fun h => absurd h (by decide)) facts_nil))
            · intro a uq K hS hd hK
              have s94 := (waits_on hd 15 (by kernel_rfl)).at (d := 94) rfl rfl rfl
              rw [if_pos (want_free rfl)]
              go_simp
              exact hK _ _ (Below.refl _ _) (vok rfl) (facts_cons (fun h => absurd h (by decide)) (facts_cons (fun h => absurd h (by decide)) facts_nil))
            · intro a uq K hS hd hK
              have s78 := (waits_on hd 16 (by kernel_rfl)).at (d := 78) rfl rfl rfl
              rw [if_pos (want_free rfl)]
              go_simp
              exact hK _ _ (Below.refl _ _) (vok rfl) (facts_cons (fun h => absurd h (by decide)) (facts_cons (fun h => absurd h (by decide)) facts_nil))
            · intro a uq K hS hd hK
              have s78 := (waits_on hd 16 (by kernel_rfl)).at (d := 78) rfl rfl rfl
              rw [if_pos (want_free rfl)]
              go_simp
              exact hK _ _ (Below.refl _ _) (vok rfl) (facts_cons (fun h => absurd h (by decide)) (facts_cons (fun h => absurd h (by decide)) facts_nil))
            · intro a uq K hS hd hK
              rw [if_pos (want_free rfl)]
              go_simp
              exact hK _ _ (below_one _ _) (vfree rfl) (facts_cons (fun _ => ⟨_, _, _, _, _, hS.put_at (by kernel_rfl) _, Nat.le_trans (Below.size (HGU.out uq)) (Nat.le_refl _), Blk.new _ _ _⟩) (facts_cons (fun h => absurd h (by decide)) facts_nil))
            · intro a uq K hS hd hK
              obtain ⟨b19, x19_0, x19_1, x19_2, x19_3, s19, l19, r19⟩ := (waits_on hd 19 (by kernel_rfl)).2 _ (List.mem_cons_self ..) rfl
              have s95 := (waits_on hd 17 (by kernel_rfl)).at (d := 95) rfl rfl rfl
              rw [if_pos (want_free rfl)]
              have c0 := r19.cell 0
              have f0 := r19.frozen 0
              have c1 := r19.cell 1
              have f1 := r19.frozen 1
              have c2 := r19.cell 2
              have f2 := r19.frozen 2
              have c3 := r19.cell 3
              have f3 := r19.frozen 3
              go_simp
              exact hK undef _ (((((BoxRel.refl _ _ _).set_ r19 l19 0 _).set_ (r19.set_ 0 (.string (bs x.p))) l19 1 _).set_ ((r19.set_ 0 (.string (bs x.p))).set_ 1 (.string (bs x.t))) l19 2 _).set_ (((r19.set_ 0 (.string (bs x.p))).set_ 1 (.string (bs x.t))).set_ 2 (.string (bs x.s))) l19 3 _) (vfree rfl) (facts_cons (fun h => absurd h (by decide)) (facts_cons (fun _ => ⟨b19, s19, l19, ((((r19.set_ 0 (.string (bs x.p))).set_ 1 (.string (bs x.t))).set_ 2 (.string (bs x.s))).set_ 3 (.string (bs x.d)))⟩) facts_nil))
            · intro a uq K hS hd hK
              have s96 := (waits_on hd 18 (by kernel_rfl)).at (d := 96) rfl rfl rfl
              rw [if_pos (want_free rfl)]
              go_simp
              exact hK _ _ (Below.refl _ _) (vok rfl) (facts_cons (fun h => absurd h (by decide)) (facts_cons (fun h => absurd h (by decide)) facts_nil))
          case hfin =>
            intro a uq hS hk
            have s79 := (hk 0 (by decide)).at (d := 79) rfl rfl rfl
            have s80 := (hk 1 (by decide)).at (d := 80) rfl rfl rfl
            have s81 := (hk 2 (by decide)).at (d := 81) rfl rfl rfl
            have s82 := (hk 3 (by decide)).at (d := 82) rfl rfl rfl
            have s83 := (hk 4 (by decide)).at (d := 83) rfl rfl rfl
            have s84 := (hk 5 (by decide)).at (d := 84) rfl rfl rfl
            have s85 := (hk 6 (by decide)).at (d := 85) rfl rfl rfl
            have s86 := (hk 7 (by decide)).at (d := 86) rfl rfl rfl
            have s87 := (hk 8 (by decide)).at (d := 87) rfl rfl rfl
            have s88 := (hk 9 (by decide)).at (d := 88) rfl rfl rfl
            have s89 := (hk 10 (by decide)).at (d := 89) rfl rfl rfl
            have s90 := (hk 11 (by decide)).at (d := 90) rfl rfl rfl
            have s91 := (hk 12 (by decide)).at (d := 91) rfl rfl rfl
            have s92 := (hk 13 (by decide)).at (d := 92) rfl rfl rfl
            have s93 := (hk 14 (by decide)).at (d := 93) rfl rfl rfl
            have s94 := (hk 15 (by decide)).at (d := 94) rfl rfl rfl
            have s78 := (hk 16 (by decide)).at (d := 78) rfl rfl rfl
            have s95 := (hk 17 (by decide)).at (d := 95) rfl rfl rfl
            have s96 := (hk 18 (by decide)).at (d := 96) rfl rfl rfl
            obtain ⟨b19, s19, l19, r19⟩ := (hk 20 (by decide)).2 _ (List.mem_cons_of_mem _ (List.mem_cons_self ..)) rfl
            have s20 := (hk 21 (by decide)).at (d := 20) rfl rfl rfl
            have hlit := hS.lit _ (by kernel_rfl) (lits_cons s79 (lits_cons s80 (lits_cons s81 (lits_cons s82 (lits_cons s83 (lits_cons s84 (lits_cons s85 (lits_cons s86 (lits_cons s87 (lits_cons s88 (lits_cons s89 (lits_cons s90 (lits_cons s91 (lits_cons s92 (lits_cons s93 (lits_cons s94 (lits_cons s78 (lits_cons s95 (lits_cons s96 (lits_cons s19 (lits_cons s20 lits_nil)))))))))))))))))))))
            rw [hlit]
            clear hlit hk hS s79 s80 s81 s82 s83 s84 s85 s86 s87 s88 s89 s90 s91 s92 s93 s94 s78 s95 s96 s19 s20
            have HB98 := hide (below_to HB9.out (Nat.le_refl _) (HGU.out uq))
            have HW98 := hide (HW9.out.to (HGU.out uq))
            have HX98 := hide (HX9.out.to (HGU.out uq))
            have y0 := (r19.cell 0).trans rfl
            have y1 := (r19.cell 1).trans rfl
            have y2 := (r19.cell 2).trans rfl
            have y3 := (r19.cell 3).trans rfl
            simp only [litT, List.setIfInBounds_toArray, List.set_cons_succ, List.set_cons_zero]
            go_wp2_with fail
            go_quiet (fail)
            have HB99 := hide (below_drewN HB98.out nq)
            have HW99 := hide (RowsAt.to HW98.out (below_drewN (Below.refl _ _) nq))
            have HX99 := hide (RowsAt.to HX98.out (below_drewN (Below.refl _ _) nq))
            clear HB98 HW98 HX98
            go_wp2_with fail
            have CT := Texts_any P P HPL.out HPL.out vb vd _ HW99.out HX99.out
            rw [decide_eq_true rfl] at CT
            have C100 := CT
            refine C100.mono ?_
            rintro e w100 ⟨rfl, hb⟩
            have HB100 := hide (below_to HB99.out (Nat.le_refl _) hb)
            have HW100 := hide (HW99.out.to hb)
            have HX100 := hide (HX99.out.to hb)
            clear hb C100 HB99 HW99 HX99
            go_wp2_with fail
            have CL := Leaf_any x.d HXD.out w100 (HG.out.to HB100.out)
            have C101 := CL
            refine C101.mono ?_
            rintro e w101 ⟨rfl, hb⟩
            have HB101 := hide (below_to HB100.out (Nat.le_refl _) hb)
            have HW101 := hide (HW100.out.to hb)
            have HX101 := hide (HX100.out.to hb)
            clear hb C101 HB100 HW100 HX100
            go_wp2_with fail
            have CC := Check_any R (log.length : Int) (K : Int) (leafD x.d) P HLFl.out HPL.out HPX.out vd w101 HX101.out (HG.out.to HB101.out)
            rw [HCK.out] at CC
            have C102 := CC
            refine C102.mono ?_
            rintro e w102 ⟨rfl, hb⟩
            have HB102 := hide (below_to HB101.out (Nat.le_refl _) hb)
            have HW102 := hide (HW101.out.to hb)
            have HX102 := hide (HX101.out.to hb)
            clear hb C102 HB101 HW101 HX101
            go_wp2_with fail
            go_ret
            exact ⟨rfl, HB102.out⟩
end Go.Proofs.YtdiebacfbhjbdaaGreatDoor
