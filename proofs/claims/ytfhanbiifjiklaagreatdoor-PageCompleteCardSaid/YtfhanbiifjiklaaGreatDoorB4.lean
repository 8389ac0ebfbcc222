/- Parse: the head line. -/
import Derived.Test.YtfhanbiifjiklaaGreatDoorNX
import Derived.Test.YtfhanbiifjiklaaGreatDoorLo2
set_option linter.unusedVariables false
set_option linter.unusedSimpArgs false
namespace Go.Proofs.YtfhanbiifjiklaaGreatDoor
open Go.RowKit Go.Shelf
attribute [local go_sem] Oper.semAt_some


theorem info_str : (Tryz.prog.info? 9).map (fun i => (i.zero, i.size, i.bytes)) = some (some (.string ⟨#[]⟩), 1, 16) := by kernel_rfl
theorem info_sl : (Tryz.prog.info? 22).map (fun i => (i.zero, i.size, i.bytes)) = some (some (.slice none 0 0), 1, 24) := by kernel_rfl

theorem parse_no {t : List UInt8} (h : preP t = none) : parseP t = none := by unfold parseP; rw [h]
set_option maxRecDepth 100000 in
set_option maxHeartbeats 4000000 in
theorem Parse_any (t : List UInt8) (ht : t.length ≤ 100000) (w : World) (hg : Glob w) :
    Calls Tryz.prog 18 #[.string (bs t)] w (ParseR t w) := by
  have hmf : ∀ (fn : Fn) (first cap : Array Value) (w : World), (Instr.makeFunc fn first cap).run Tryz.prog w = .ok (.func fn first cap) w := fun _ _ _ _ => rfl
  have HG := hide hg
  clear hg
  go_enter_defers Tryz.func18, Tryz.ntmps18
  go_wp2_with fail
  have HB := hide (((Below.refl w.heap.size w).alloc (Nat.le_refl _) (.cells noCs 25)).alloc (by simp) (.cells #[.int .i64 0] 29))
  have HPR : Hid (PR w.heap.size (w.heap.size + 1) noCs ((w.alloc (.cells noCs 25)).alloc (.cells #[.int .i64 0] 29))) := ⟨(Blk.new w 25 noCs).alloc _, (by have := Blk.new (w.alloc (.cells noCs 25)) 29 #[.int .i64 0]; rwa [World.size_alloc] at this), rfl, by omega⟩
  unfold noCs at HB HPR
  generalize (w.alloc (.cells #[.int .i64 0, .int .i64 0, .string ⟨#[]⟩, .slice none 0 0, .slice none 0 0] 25)).alloc (.cells #[.int .i64 0] 29) = w1 at *
  have hs1 : w.heap.size + 2 ≤ w1.heap.size := by have := HPR.out.e.lt; omega
  have HG1 := hide (HG.out.belowB HB.out HG.out.top)
  have CC := cut_any t (by omega) w1 HG1.out
  unfold CutR at CC
  have hcl := cut_len t [10]
  have hLl := split_len (Lib.cut t [10]).1 [32]
  have hL1 := split_ne (Lib.cut t [10]).1 [32]
  have HLX : Hid ((lnP t).length ≤ 100002 ∧ (∀ x ∈ lnP t, x.length ≤ 100000) ∧ 1 ≤ (lnP t).length ∧ (reP t).length ≤ 100000) := by
    refine ⟨?_, fun x hx => ?_, hL1, ?_⟩
    · show (Lib.split _ _).length ≤ _; omega
    · have := hLl.2 x hx; omega
    · show (Lib.cut t [10]).2.1.length ≤ _; omega
  clear hcl hLl hL1
  cases hok : okP t with
  | false =>
    rw [hok] at CC
    have HN : Hid (parseP t = none) := parse_no (by unfold preP; rw [hok]; rfl)
    clear hok
    refine CC.mono ?_
    rintro e w2 ⟨⟨pv, rfl⟩, hb⟩
    go_wp2_with fail
    exact parse_odd HN.out w w2 w.heap.size (w.heap.size + 1) (Nat.le_refl _) (Nat.le_succ _) (below_to HB.out (Nat.le_refl _) hb) _ ⟨HPR.out.p.to hb, HPR.out.e.to hb, rfl, HPR.out.ne⟩ _ rfl rfl pv
  | true =>
    rw [hok] at CC
    refine CC.mono ?_
    rintro e w2 ⟨g2, c2, rfl, hg2, htx, hb⟩
    have HB2 := hide (below_to HB.out (Nat.le_refl _) hb)
    have HPR2 : Hid (PR w.heap.size (w.heap.size + 1) noCs w2) := ⟨HPR.out.p.to hb, HPR.out.e.to hb, rfl, HPR.out.ne⟩
    have HG2 := hide (HG1.out.to hb)
    have HTX := hide htx
    clear hb htx HB HPR HG1 CC
    by_cases h5 : (lnP t).length = 5
    · obtain ⟨a0, A, B, R, D, hL⟩ : ∃ a b c d e, lnP t = [a, b, c, d, e] := by
        match lnP t, h5 with
        | [a, b, c, d, e], _ => exact ⟨a, b, c, d, e, rfl⟩
      have hlx := HLX.out.2.1
      rw [hL] at hlx HTX
      have hlA : A.length ≤ 281474976710656 := Nat.le_trans (hlx A (by simp)) (by decide)
      have hlB : B.length ≤ 281474976710656 := Nat.le_trans (hlx B (by simp)) (by decide)
      have hlD : D.length ≤ 281474976710656 := Nat.le_trans (hlx D (by simp)) (by decide)
      have hlR : R.length ≤ 100000 := hlx R (by simp)
      have hlr : (reP t).length ≤ 100000 := HLX.out.2.2.2
      have HNA : numO A = none → parseP t = none := fun h => parse_no (by unfold preP; rw [hok, hL]; simp [h])
      have HNB : numO B = none → parseP t = none := fun h => parse_no (by unfold preP; rw [hok, hL]; simp [h])
      have HND : numO D = none → parseP t = none := fun h => parse_no (by unfold preP; rw [hok, hL]; simp [h])
      have HPP : Hid (∀ f s n, numO A = some f → numO B = some s → numO D = some n → preP t = (loopP (min n 51).toNat ⟨[], [], reP t⟩).map fun st => ⟨f, s, R, st.items, st.paths⟩) := fun f s n h1 h2 h3 => by unfold preP; rw [hok, hL]; simp [h1, h2, h3]
      have hgw : g2 ≠ w.heap.size := by omega
      have hgl : ∀ W, Two w.heap.size w.heap.size w2 W → Glob W := fun W hW => HG.out.belowB (HB2.out.trans (hW.below HB2.out.size (Nat.le_refl _) (Nat.le_refl _))) HG.out.top
      have hcell : ∀ W, Two w.heap.size w.heap.size w2 W → ∀ k x, [a0, A, B, R, D][k]? = some x → W.cell? ⟨g2, k, none⟩ = some (.string (bs x)) := fun W hW k x hx => by
        obtain ⟨ad, e, _, hc⟩ := (HTX.out.two hW (fun e => hgw (Option.some.inj e)) (fun e => hgw (Option.some.inj e))).at_ hx
        obtain rfl := Option.some.inj e
        rwa [show (⟨g2, 0, none⟩ : Addr).add k = ⟨g2, k, none⟩ by unfold Addr.add; split <;> simp_all] at hc
      have hc1 := fun W hW => hcell W hW 1 A rfl
      have hc2 := fun W hW => hcell W hW 2 B rfl
      have hc3 := fun W hW => hcell W hW 3 R rfl
      have hc4 := fun W hW => hcell W hW 4 D rfl
      rw [hL]
      clear h5 hok hlx hL HLX hcell
      go_wp2_with fail
      apply wp_region_lo2 (C := fun W => Two w.heap.size w.heap.size w2 W) (V := [some _, some _, some _, none, some _, some _, some _, none, some _, some _, some _, none, none]) (Fs := [(3, fun a (_ : World) => ∃ n, a.tmps[24]? = some (.int .i64 n) ∧ numO A = some n), (7, fun a (_ : World) => ∃ n, a.tmps[28]? = some (.int .i64 n) ∧ numO B = some n), (11, fun a (_ : World) => ∃ f s, a.tmps[32]? = some (.agg #[.int .i64 f, .int .i64 s, .string (bs R), .slice none 0 0, .slice none 0 0]) ∧ numO A = some f ∧ numO B = some s), (12, fun (_ : Act) W => (∃ f s, numO A = some f ∧ numO B = some s ∧ PR w.heap.size (w.heap.size + 1) #[.int .i64 f, .int .i64 s, .string (bs R), .slice none 0 0, .slice none 0 0] W) ∧ Below w.heap.size w W)]) (Ns := [(3, fun _ W => PR w.heap.size (w.heap.size + 1) noCs W ∧ Below w.heap.size w W), (7, fun _ W => PR w.heap.size (w.heap.size + 1) noCs W ∧ Below w.heap.size w W), (12, fun _ W => PR w.heap.size (w.heap.size + 1) noCs W ∧ Below w.heap.size w W)]) (Rel := fun i x x' => if i = 12 then (fun w_ w' => Two w.heap.size w.heap.size w_ w' ∧ True) x x' else Below x.heap.size x x')
      case hm => kernel_rfl
      case hB => kernel_rfl
      case hCw => exact ((Two.refl w.heap.size w.heap.size w2).drewN 1)
      case hC =>
        intro i w_ w' hw hr
        by_cases e12 : i = 12
        · subst e12
          have hr' : (fun w_ w' => Two w.heap.size w.heap.size w_ w' ∧ True) w_ w' := hr
          exact Two.trans hw hr'.1
        have hr' : Below w_.heap.size w_ w' := by simpa [e12] using hr
        exact Two.to hw hr'
      case hst =>
        refine keeps_cons (fun i a a' w_ w' hne hwt hs hr h => by
          by_cases e12 : i = 12
          · subst e12
            have hr' : (fun w_ w' => Two w.heap.size w.heap.size w_ w' ∧ True) w_ w' := hr
            exact h.imp fun n h => ⟨(hs 24 (by kernel_rfl)).trans h.1, h.2⟩
          have hr' : Below w_.heap.size w_ w' := by simpa [e12] using hr
          exact h.imp fun n h => ⟨(hs 24 (by kernel_rfl)).trans h.1, h.2⟩) ?_
        refine keeps_cons (fun i a a' w_ w' hne hwt hs hr h => by
          by_cases e12 : i = 12
          · subst e12
            have hr' : (fun w_ w' => Two w.heap.size w.heap.size w_ w' ∧ True) w_ w' := hr
            exact h.imp fun n h => ⟨(hs 28 (by kernel_rfl)).trans h.1, h.2⟩
          have hr' : Below w_.heap.size w_ w' := by simpa [e12] using hr
          exact h.imp fun n h => ⟨(hs 28 (by kernel_rfl)).trans h.1, h.2⟩) ?_
        refine keeps_cons (fun i a a' w_ w' hne hwt hs hr h => by
          by_cases e12 : i = 12
          · subst e12
            have hr' : (fun w_ w' => Two w.heap.size w.heap.size w_ w' ∧ True) w_ w' := hr
            obtain ⟨f, s, h1, h2⟩ := h
            exact ⟨f, s, (hs 32 (by kernel_rfl)).trans h1, h2⟩
          have hr' : Below w_.heap.size w_ w' := by simpa [e12] using hr
          obtain ⟨f, s, h1, h2⟩ := h
          exact ⟨f, s, (hs 32 (by kernel_rfl)).trans h1, h2⟩) ?_
        refine keeps_cons (fun i a a' w_ w' hne hwt hs hr h => by
          by_cases e12 : i = 12
          · exact absurd e12 hne
          have hr' : Below w_.heap.size w_ w' := by simpa [e12] using hr
          obtain ⟨⟨f, s, h1, h2, h3⟩, h4⟩ := h
          exact ⟨⟨f, s, h1, h2, h3.p.to hr', h3.e.to hr', rfl, h3.ne⟩, below_to h4 (Nat.le_refl _) hr'⟩) ?_
        exact keeps_nil
      case hN0 => exact pre0_cons (⟨⟨HPR2.out.p, HPR2.out.e, rfl, HPR2.out.ne⟩, HB2.out.drew⟩) (pre0_cons (⟨⟨HPR2.out.p, HPR2.out.e, rfl, HPR2.out.ne⟩, HB2.out.drew⟩) (pre0_cons (⟨⟨HPR2.out.p, HPR2.out.e, rfl, HPR2.out.ne⟩, HB2.out.drew⟩) (pre0_nil)))
      case hNst =>
        refine prek_cons (fun i a a' w_ w' hne hwt hr h hp => by
          by_cases e12 : i = 12
          · subst e12
            exact absurd (hwt.symm.trans (show waitsT .any _ _ 12 3 = true by kernel_rfl)) (by decide)
          have hr' : Below w_.heap.size w_ w' := by simpa [e12] using hr
          exact ⟨⟨h.1.p.to hr', h.1.e.to hr', rfl, h.1.ne⟩, below_to h.2 (Nat.le_refl _) hr'⟩) ?_
        refine prek_cons (fun i a a' w_ w' hne hwt hr h hp => by
          by_cases e12 : i = 12
          · subst e12
            exact absurd (hwt.symm.trans (show waitsT .any _ _ 12 7 = true by kernel_rfl)) (by decide)
          have hr' : Below w_.heap.size w_ w' := by simpa [e12] using hr
          exact ⟨⟨h.1.p.to hr', h.1.e.to hr', rfl, h.1.ne⟩, below_to h.2 (Nat.le_refl _) hr'⟩) ?_
        refine prek_cons (fun i a a' w_ w' hne hwt hr h hp => by
          by_cases e12 : i = 12
          · exact absurd e12 hne
          have hr' : Below w_.heap.size w_ w' := by simpa [e12] using hr
          exact ⟨⟨h.1.p.to hr', h.1.e.to hr', rfl, h.1.ne⟩, below_to h.2 (Nat.le_refl _) hr'⟩) ?_
        exact prek_nil
      case hop =>
        refine ⟨?_, ?_, ?_, ?_, ?_, ?_, ?_, ?_, ?_, ?_, ?_, ?_, ?_, trivial⟩
        · intro a w_ K hw hS hd hN hK
          have s4 := hS.at 4 (by kernel_rfl) rfl
          rw [if_pos (want_free rfl)]
          go_simp
          exact hK _ _ (Below.refl _ _) (vok rfl) (facts_cons (fun h => absurd h (by decide)) (facts_cons (fun h => absurd h (by decide)) (facts_cons (fun h => absurd h (by decide)) (facts_cons (fun h => absurd h (by decide)) facts_nil))))
        · intro a w_ K hw hS hd hN hK
          have s21 := (waits_on hd 0 (by kernel_rfl)).at (d := 21) rfl rfl rfl
          rw [if_pos (want_free rfl)]
          go_simp
          exact hK _ _ (Below.refl _ _) (vok rfl) (facts_cons (fun h => absurd h (by decide)) (facts_cons (fun h => absurd h (by decide)) (facts_cons (fun h => absurd h (by decide)) (facts_cons (fun h => absurd h (by decide)) facts_nil))))
        · intro a w_ K hw hS hd hN hK
          have s22 := (waits_on hd 1 (by kernel_rfl)).at (d := 22) rfl rfl rfl
          rw [if_pos (want_free rfl)]
          have c := hc1 w_ hw
          go_simp
          exact hK _ _ (Below.refl _ _) (vok rfl) (facts_cons (fun h => absurd h (by decide)) (facts_cons (fun h => absurd h (by decide)) (facts_cons (fun h => absurd h (by decide)) (facts_cons (fun h => absurd h (by decide)) facts_nil))))
        · intro a w_ K hw hS hd hN hK
          have s23 := (waits_on hd 2 (by kernel_rfl)).at (d := 23) rfl rfl rfl
          obtain ⟨hPR, hBW⟩ := hN _ (List.mem_cons_self ..) rfl
          rw [if_pos (want_free rfl)]
          go_simp
          refine (number_any A hlA w_ (hgl w_ hw)).mono ?_
          rintro e w' ⟨hn, hb⟩
          unfold NumR at hn
          cases hA : numO A with
          | some n =>
            rw [hA] at hn
            subst hn
            exact hK _ _ hb (vfree rfl) (facts_cons (fun _ => ⟨n, hS.put_at (by kernel_rfl) _, hA⟩) (facts_cons (fun h => absurd h (by decide)) (facts_cons (fun h => absurd h (by decide)) (facts_cons (fun h => absurd h (by decide)) facts_nil))))
          | none =>
            rw [hA] at hn
            obtain ⟨pv, rfl⟩ := hn
            have hno : parseP t = none := HNA hA
            have hd2 := hS.at 2 (by kernel_rfl) rfl
            have hd3 := hS.at 3 (by kernel_rfl) rfl
            show Leaves _ _ a.tmps _ a.defers _ _
            rw [hS.1]
            exact parse_odd hno w w' w.heap.size (w.heap.size + 1) (Nat.le_refl _) (Nat.le_succ _) (below_to hBW (Nat.le_refl _) hb) noCs ⟨hPR.p.to hb, hPR.e.to hb, rfl, hPR.ne⟩ _ hd2 hd3 pv
        · intro a w_ K hw hS hd hN hK
          have s4 := hS.at 4 (by kernel_rfl) rfl
          rw [if_pos (want_free rfl)]
          go_simp
          exact hK _ _ (Below.refl _ _) (vok rfl) (facts_cons (fun h => absurd h (by decide)) (facts_cons (fun h => absurd h (by decide)) (facts_cons (fun h => absurd h (by decide)) (facts_cons (fun h => absurd h (by decide)) facts_nil))))
        · intro a w_ K hw hS hd hN hK
          have s25 := (waits_on hd 4 (by kernel_rfl)).at (d := 25) rfl rfl rfl
          rw [if_pos (want_free rfl)]
          go_simp
          exact hK _ _ (Below.refl _ _) (vok rfl) (facts_cons (fun h => absurd h (by decide)) (facts_cons (fun h => absurd h (by decide)) (facts_cons (fun h => absurd h (by decide)) (facts_cons (fun h => absurd h (by decide)) facts_nil))))
        · intro a w_ K hw hS hd hN hK
          have s26 := (waits_on hd 5 (by kernel_rfl)).at (d := 26) rfl rfl rfl
          rw [if_pos (want_free rfl)]
          have c := hc2 w_ hw
          go_simp
          exact hK _ _ (Below.refl _ _) (vok rfl) (facts_cons (fun h => absurd h (by decide)) (facts_cons (fun h => absurd h (by decide)) (facts_cons (fun h => absurd h (by decide)) (facts_cons (fun h => absurd h (by decide)) facts_nil))))
        · intro a w_ K hw hS hd hN hK
          have s27 := (waits_on hd 6 (by kernel_rfl)).at (d := 27) rfl rfl rfl
          obtain ⟨hPR, hBW⟩ := hN _ (List.mem_cons_of_mem _ (List.mem_cons_self ..)) rfl
          rw [if_pos (want_free rfl)]
          go_simp
          refine (number_any B hlB w_ (hgl w_ hw)).mono ?_
          rintro e w' ⟨hn, hb⟩
          unfold NumR at hn
          cases hB : numO B with
          | some n =>
            rw [hB] at hn
            subst hn
            exact hK _ _ hb (vfree rfl) (facts_cons (fun h => absurd h (by decide)) (facts_cons (fun _ => ⟨n, hS.put_at (by kernel_rfl) _, hB⟩) (facts_cons (fun h => absurd h (by decide)) (facts_cons (fun h => absurd h (by decide)) facts_nil))))
          | none =>
            rw [hB] at hn
            obtain ⟨pv, rfl⟩ := hn
            have hno : parseP t = none := HNB hB
            have hd2 := hS.at 2 (by kernel_rfl) rfl
            have hd3 := hS.at 3 (by kernel_rfl) rfl
            show Leaves _ _ a.tmps _ a.defers _ _
            rw [hS.1]
            exact parse_odd hno w w' w.heap.size (w.heap.size + 1) (Nat.le_refl _) (Nat.le_succ _) (below_to hBW (Nat.le_refl _) hb) noCs ⟨hPR.p.to hb, hPR.e.to hb, rfl, hPR.ne⟩ _ hd2 hd3 pv
        · intro a w_ K hw hS hd hN hK
          have s4 := hS.at 4 (by kernel_rfl) rfl
          rw [if_pos (want_free rfl)]
          go_simp
          exact hK _ _ (Below.refl _ _) (vok rfl) (facts_cons (fun h => absurd h (by decide)) (facts_cons (fun h => absurd h (by decide)) (facts_cons (fun h => absurd h (by decide)) (facts_cons (fun h => absurd h (by decide)) facts_nil))))
        · intro a w_ K hw hS hd hN hK
          have s29 := (waits_on hd 8 (by kernel_rfl)).at (d := 29) rfl rfl rfl
          rw [if_pos (want_free rfl)]
          go_simp
          exact hK _ _ (Below.refl _ _) (vok rfl) (facts_cons (fun h => absurd h (by decide)) (facts_cons (fun h => absurd h (by decide)) (facts_cons (fun h => absurd h (by decide)) (facts_cons (fun h => absurd h (by decide)) facts_nil))))
        · intro a w_ K hw hS hd hN hK
          have s30 := (waits_on hd 9 (by kernel_rfl)).at (d := 30) rfl rfl rfl
          rw [if_pos (want_free rfl)]
          have c := hc3 w_ hw
          go_simp
          exact hK _ _ (Below.refl _ _) (vok rfl) (facts_cons (fun h => absurd h (by decide)) (facts_cons (fun h => absurd h (by decide)) (facts_cons (fun h => absurd h (by decide)) (facts_cons (fun h => absurd h (by decide)) facts_nil))))
        · intro a w_ K hw hS hd hN hK
          obtain ⟨n24, s24, h24⟩ := (waits_on hd 3 (by kernel_rfl)).2 _ (List.mem_cons_self ..) rfl
          obtain ⟨n28, s28, h28⟩ := (waits_on hd 7 (by kernel_rfl)).2 _ (List.mem_cons_of_mem _ (List.mem_cons_self ..)) rfl
          have s31 := (waits_on hd 10 (by kernel_rfl)).at (d := 31) rfl rfl rfl
          rw [if_pos (want_free rfl)]
          go_simp
          exact hK _ _ (Below.refl _ _) (vfree rfl) (facts_cons (fun h => absurd h (by decide)) (facts_cons (fun h => absurd h (by decide)) (facts_cons (fun _ => ⟨n24, n28, hS.put_at (by kernel_rfl) _, h24, h28⟩) (facts_cons (fun h => absurd h (by decide)) facts_nil))))
        · intro a w_ K hw hS hd hN hK
          have s2 := hS.at 2 (by kernel_rfl) rfl
          obtain ⟨n32, m32, s32, h32, k32⟩ := (waits_on hd 11 (by kernel_rfl)).2 _ (List.mem_cons_of_mem _ (List.mem_cons_of_mem _ (List.mem_cons_self ..))) rfl
          obtain ⟨hPR, hBW⟩ := hN _ (List.mem_cons_of_mem _ (List.mem_cons_of_mem _ (List.mem_cons_self ..))) rfl
          rw [if_pos (want_free rfl)]
          have c0 := (hPR.p.cell 0).trans (show _ = some (Value.int .i64 0) from rfl)
          have c1 := (hPR.p.cell 1).trans (show _ = some (Value.int .i64 0) from rfl)
          have c2 := (hPR.p.cell 2).trans (show _ = some (Value.string ⟨#[]⟩) from rfl)
          have c3 := (hPR.p.cell 3).trans (show _ = some (Value.slice none 0 0) from rfl)
          have c4 := (hPR.p.cell 4).trans (show _ = some (Value.slice none 0 0) from rfl)
          have f0 := hPR.p.frozen 0
          have f1 := hPR.p.frozen 1
          have f2 := hPR.p.frozen 2
          have f3 := hPR.p.frozen 3
          have f4 := hPR.p.frozen 4
          go_simp
          exact hK undef _ ⟨(((((Two.refl w.heap.size w.heap.size w_).set1 0 _).set1 1 _).set1 2 _).set1 3 _).set1 4 _, trivial⟩ (vfree rfl) (facts_cons (fun h => absurd h (by decide)) (facts_cons (fun h => absurd h (by decide)) (facts_cons (fun h => absurd h (by decide)) (facts_cons (fun _ => ⟨⟨n32, m32, h32, k32, (((((hPR.p.set_ 0 _).set_ 1 _).set_ 2 _).set_ 3 _).set_ 4 _), (((((hPR.e.far (p := ⟨w.heap.size, 0, none⟩) (Nat.succ_ne_self _) _).far (p := ⟨w.heap.size, 1, none⟩) (Nat.succ_ne_self _) _).far (p := ⟨w.heap.size, 2, none⟩) (Nat.succ_ne_self _) _).far (p := ⟨w.heap.size, 3, none⟩) (Nat.succ_ne_self _) _).far (p := ⟨w.heap.size, 4, none⟩) (Nat.succ_ne_self _) _), rfl, hPR.ne⟩, hBW.trans (Two.below (((((((Two.refl w.heap.size w.heap.size w_).set1 0 _).set1 1 _).set1 2 _).set1 3 _).set1 4 _)) hBW.size (Nat.le_refl _) (Nat.le_refl _))⟩) facts_nil))))
      case hfin =>
        intro a w_ hw hS hk
        have s21 := (hk 0 (by decide)).at (d := 21) rfl rfl rfl
        have s22 := (hk 1 (by decide)).at (d := 22) rfl rfl rfl
        have s23 := (hk 2 (by decide)).at (d := 23) rfl rfl rfl
        obtain ⟨n24, s24, h24⟩ := (hk 3 (by decide)).2 _ (List.mem_cons_self ..) rfl
        have s25 := (hk 4 (by decide)).at (d := 25) rfl rfl rfl
        have s26 := (hk 5 (by decide)).at (d := 26) rfl rfl rfl
        have s27 := (hk 6 (by decide)).at (d := 27) rfl rfl rfl
        obtain ⟨n28, s28, h28⟩ := (hk 7 (by decide)).2 _ (List.mem_cons_of_mem _ (List.mem_cons_self ..)) rfl
        have s29 := (hk 8 (by decide)).at (d := 29) rfl rfl rfl
        have s30 := (hk 9 (by decide)).at (d := 30) rfl rfl rfl
        have s31 := (hk 10 (by decide)).at (d := 31) rfl rfl rfl
        obtain ⟨n32, m32, s32, h32, k32⟩ := (hk 11 (by decide)).2 _ (List.mem_cons_of_mem _ (List.mem_cons_of_mem _ (List.mem_cons_self ..))) rfl
        obtain ⟨⟨fr, sz, hfr, hsz, hPR⟩, hBW⟩ := (hk 12 (by decide)).2 _ (List.mem_cons_of_mem _ (List.mem_cons_of_mem _ (List.mem_cons_of_mem _ (List.mem_cons_self ..)))) rfl
        have hlit := hS.lit _ (by kernel_rfl) (lits_cons s21 (lits_cons s22 (lits_cons s23 (lits_cons s24 (lits_cons s25 (lits_cons s26 (lits_cons s27 (lits_cons s28 (lits_cons s29 (lits_cons s30 (lits_cons s31 (lits_cons s32 lits_nil))))))))))))
        rw [hlit]
        clear hlit hk hS s21 s22 s23 s24 s25 s26 s27 s28 s29 s30 s31 s32
        obtain rfl : n24 = fr := Option.some.inj (h24.symm.trans hfr)
        obtain rfl : n28 = sz := Option.some.inj (h28.symm.trans hsz)
        obtain rfl : n24 = n32 := Option.some.inj (h24.symm.trans h32)
        obtain rfl : n28 = m32 := Option.some.inj (h28.symm.trans k32)
        have HGw := hgl w_ hw
        have hc := hc4 w_ hw
        have CN := number_any D hlD w_ HGw
        have HPRw := hide hPR
        have HBw := hide hBW
        simp only [litT, List.setIfInBounds_toArray, List.set_cons_succ, List.set_cons_zero]
        clear hc1 hc2 hc3 hc4 hgl hfr hsz hPR hBW h32 k32 hw HNA HNB HTX HG2 HPR2 HB2
        go_wp2_with fail
        refine CN.mono ?_
        rintro e w3 ⟨hn, hb⟩
        unfold NumR at hn
        cases hD : numO D with
        | none =>
          rw [hD] at hn
          obtain ⟨pv, rfl⟩ := hn
          have HN := HND hD
          clear hD
          go_wp2_with fail
          exact parse_odd HN w w3 w.heap.size (w.heap.size + 1) (Nat.le_refl _) (Nat.le_succ _) (below_to HBw.out (Nat.le_refl _) hb) _ ⟨HPRw.out.p.to hb, HPRw.out.e.to hb, rfl, HPRw.out.ne⟩ _ rfl rfl pv
        | some n =>
          rw [hD] at hn
          subst hn
          have HP : Hid (preP t = (loopP (min n 51).toNat ⟨[], [], reP t⟩).map fun st => ⟨n24, n28, R, st.items, st.paths⟩) := HPP.out _ _ _ h24 h28 hD
          have hr1 := numO_range h24
          have hr2 := numO_range h28
          have hr3 := numO_range hD
          have HP3 : Hid (PR w.heap.size (w.heap.size + 1) #[.int .i64 n24, .int .i64 n28, .string (bs R), .slice none 0 0, .slice none 0 0] w3) := ⟨HPRw.out.p.to hb, HPRw.out.e.to hb, rfl, HPRw.out.ne⟩
          have HB3 := hide (below_to HBw.out (Nat.le_refl _) hb)
          clear hD h24 h28 HPP HND CN hc HPRw HBw hb HGw
          go_wp2_with fail
          obtain ⟨N, hN⟩ : ∃ N : Nat, min n 51 = (N : Int) := ⟨(min n 51).toNat, by omega⟩
          have hN51 : N ≤ 51 := by omega
          rw [hN] at HP ⊢
          rw [Int.toNat_natCast] at HP
          have HP0 : Hid (PRound w.heap.size (w.heap.size + 1) (w.heap.size + 2) w.heap.size N n24 n28 R ⟨[], [], reP t⟩ w 0 ⟨[], [], reP t⟩ w3) := ⟨rfl, rfl, hlr, by simp, by simp, rfl, ⟨_, _, [], HP3.out, World.ownsRow_nil _ _ _ _, World.ownsRow_nil _ _ _ _, fun j q hq => by simp at hq⟩, HB3.out⟩
          clear hN hr3 HP3 HB3 hlA hlB hlD hgw
          generalize reP t = r0 at *
          go_loopw [5, 38] (fun rest i wr => ∃ (k : Nat) (st : PSt), i = .int .i64 (k : Int) ∧ k ≤ N ∧ rest = .string (bs st.rest) ∧ Aside (PRound w.heap.size (w.heap.size + 1) (w.heap.size + 2) w.heap.size N n24 n28 R ⟨[], [], r0⟩ w k st wr)) (fun _ i _ => N - (intOf i).toNat)
          case atStart => exact ⟨0, ⟨[], [], r0⟩, rfl, Nat.zero_le _, rfl, HP0.out⟩
          case round =>
            obtain ⟨k, st, rfl, hk, rfl, hrd⟩ := hrel
            have HR : Hid (PRound w.heap.size (w.heap.size + 1) (w.heap.size + 2) w.heap.size N n24 n28 R ⟨[], [], r0⟩ w k st wr) := hrd
            clear hrd HP0
            obtain ⟨vi, vp, pvs, hm⟩ := HR.out.mem
            have HM := hide hm
            have hswr : w.heap.size + 2 ≤ wr.heap.size := hm.r.e.lt
            obtain ⟨Ai, ci, rfl⟩ := own_sl4 hm.oi
            obtain ⟨Ap, cp, rfl⟩ := own_sl4 hm.op
            clear hm
            have HGr := hide (HG.out.belowB HR.out.bel HG.out.top)
            by_cases hlt : k < N
            · have e1 : decide ((k : Int) < (N : Int)) = true := decide_eq_true (by omega)
              have CC := cut_any st.rest (by have := HR.out.rl; omega) wr HGr.out
              unfold CutR at CC
              have HOD : Hid (stepP st = none → parseP t = none) := fun h => parse_no (by rw [HP.out, HR.out.lp, show N - k = (N - k - 1) + 1 by omega, loopP_no h]; rfl)
              have HST : Hid (∀ st', stepP st = some st' → PRound w.heap.size (w.heap.size + 1) (w.heap.size + 2) w.heap.size N n24 n28 R ⟨[], [], r0⟩ w k st wr → loopP N ⟨[], [], r0⟩ = loopP (N - (k + 1)) st') := fun st' h hr => by
                rw [hr.lp, show N - k = (N - (k + 1)) + 1 by omega, loopP_yes h]
              cases hok : okP st.rest with
              | false =>
                rw [hok] at CC
                have HN := hide (HOD.out (by unfold stepP; rw [hok]; rfl))
                clear hok HOD HST
                go_wp2_with fail
                refine CC.mono ?_
                rintro e w5 ⟨⟨pv, rfl⟩, hb⟩
                go_wp2_with fail
                exact parse_odd HN.out w w5 w.heap.size (w.heap.size + 1) (Nat.le_refl _) (Nat.le_succ _) (below_to HR.out.bel (Nat.le_refl _) hb) _ (HM.out.to hb).r _ rfl rfl pv
              | true =>
                rw [hok] at CC
                have hcl := cut_len st.rest [10]
                have hLl := split_len (Lib.cut st.rest [10]).1 [32]
                have hL1 := split_ne (Lib.cut st.rest [10]).1 [32]
                have hrr := HR.out.rl
                obtain ⟨l0, q, hL⟩ : ∃ l0 q, lnP st.rest = l0 :: q := by
                  cases h : lnP st.rest with
                  | nil => rw [show Lib.split (Lib.cut st.rest [10]).1 [32] = lnP st.rest from rfl, h] at hL1; simp at hL1
                  | cons a b => exact ⟨a, b, rfl⟩
                have hl0 : l0.length ≤ 100000 := by have := hLl.2 l0 (by rw [show Lib.split (Lib.cut st.rest [10]).1 [32] = lnP st.rest from rfl, hL]; simp); omega
                have hqn : q.length ≤ 100002 := by have := hLl.1; rw [show Lib.split (Lib.cut st.rest [10]).1 [32] = lnP st.rest from rfl, hL, List.length_cons] at this; omega
                have hr1 : (reP st.rest).length ≤ 100000 := by show (Lib.cut st.rest [10]).2.1.length ≤ _; omega
                have HSP : Hid (stepP st = match numO l0 with | none => none | some v => if (reP st.rest).length ≤ v.toNat then none else some ⟨st.items ++ [(reP st.rest).take v.toNat], st.paths ++ [q], (reP st.rest).drop (v.toNat + 1)⟩) := by
                  show _ = _
                  unfold stepP
                  rw [hok, hL]; rfl
                rw [hL] at CC
                clear hcl hLl hL1 hok hL hrr
                generalize reP st.rest = r1 at *
                go_wp2_with fail
                refine CC.mono ?_
                rintro e w5 ⟨g5, c5, rfl, hg5, htx, hb⟩
                have HM5 := hide (HM.out.to hb)
                have HB5 := hide (below_to HR.out.bel (Nat.le_refl _) hb)
                have HG5 := hide (HGr.out.to hb)
                have HT5 := hide htx
                have c0 : w5.cell? ⟨g5, 0, none⟩ = some (.string (bs l0)) := by
                  obtain ⟨ad, e, _, hc⟩ := htx.at_ (k := 0) (x := l0) rfl
                  obtain rfl := Option.some.inj e
                  exact hc
                have hs5 := hb.size
                have CN := number_any l0 (by omega) w5 HG5.out
                have hsz : (bs r1).size = r1.length := bs_size r1
                have hoR : ∀ k, (Value.ownBlock (.slice Ai st.items.length ci)) = some k → k < wr.heap.size := fun k e => (World.ownsRow.lt HM.out.oi k e).2
                have hvp5 : (Value.ownBlock (.slice Ap st.paths.length cp)) ≠ some g5 := fun e => by have := (World.ownsRow.lt HM.out.op g5 e).2; omega
                clear hb htx CC HM HGr
                rw [List.length_cons]
                go_wp2_with fail
                refine CN.mono ?_
                rintro e w6 ⟨hn, hb⟩
                unfold NumR at hn
                have HM6 := hide (HM5.out.to hb)
                have HB6 := hide (below_to HB5.out (Nat.le_refl _) hb)
                have HT6 := hide (HT5.out.to hb)
                have hs6 := hb.size
                clear hb CN HM5 HB5 HT5
                cases hv : numO l0 with
                | none =>
                  rw [hv] at hn
                  obtain ⟨pv, rfl⟩ := hn
                  have HN := hide (HOD.out (by rw [HSP.out, hv]))
                  clear hv HSP HOD HST
                  go_wp2_with fail
                  exact parse_odd HN.out w w6 w.heap.size (w.heap.size + 1) (Nat.le_refl _) (Nat.le_succ _) HB6.out _ HM6.out.r _ rfl rfl pv
                | some v =>
                  rw [hv] at hn
                  subst hn
                  obtain ⟨m, rfl⟩ : ∃ m : Nat, v = m := ⟨v.toNat, by have := numO_range hv; omega⟩
                  have hmr := numO_range hv
                  have HSP2 : Hid (stepP st = if r1.length ≤ m then none else some ⟨st.items ++ [r1.take m], st.paths ++ [q], r1.drop (m + 1)⟩) := by
                    show _ = _
                    rw [HSP.out, hv]; rfl
                  clear HSP hv
                  by_cases hml : r1.length ≤ m
                  · have e2 : decide ((r1.length : Int) ≤ (m : Int)) = true := decide_eq_true (by omega)
                    have HN := hide (HOD.out (by rw [HSP2.out, if_pos hml]))
                    clear HSP2 HOD HST
                    go_wp2_with fail
                    exact parse_odd HN.out w w6 w.heap.size (w.heap.size + 1) (Nat.le_refl _) (Nat.le_succ _) HB6.out _ HM6.out.r _ rfl rfl _
                  · have e2 : decide ((r1.length : Int) ≤ (m : Int)) = false := decide_eq_false (by omega)
                    have HSP3 : Hid (stepP st = some ⟨st.items ++ [r1.take m], st.paths ++ [q], r1.drop (m + 1)⟩) := by
                      show _ = _
                      rw [HSP2.out, if_neg hml]
                    have hmlt : m < r1.length := by omega
                    clear HSP2 HOD hml
                    go_wp2_with fail
                    have hil : st.items.length ≤ 51 := by have := HR.out.ki; omega
                    have hpl : st.paths.length ≤ 51 := by have := HR.out.kp; omega
                    have hwr6 : w.heap.size + 2 ≤ wr.heap.size := hswr
                    have hg56 : g5 < w6.heap.size := by
                      obtain ⟨ad, e, hl, _⟩ := HT6.out.at_ (k := 0) (x := l0) rfl
                      obtain rfl := Option.some.inj e
                      exact hl
                    have hsw6 : w.heap.size + 2 ≤ w6.heap.size := HM6.out.r.e.lt
                    have hoL : ∀ k, (Value.ownBlock (.slice Ai st.items.length ci)) = some k → w.heap.size + 2 ≤ k := fun k e => (World.ownsRow.lt HM6.out.oi k e).1
                    have hoS : ∀ k, (Value.ownBlock (.slice Ai st.items.length ci)) = some k → k < w6.heap.size := fun k e => (World.ownsRow.lt HM6.out.oi k e).2
                    have hoN : ∀ k, k < w.heap.size + 2 → some k ≠ (Value.ownBlock (.slice Ai st.items.length ci)) := fun k hk e => by have := hoL k e.symm; omega
                    apply wp_region_lo2 (C := fun W => Two w.heap.size (rowOr (.slice Ai st.items.length ci) w.heap.size) w6 W) (V := [some _, some _, some _, some _, some _, none, none, some _, none]) (Fs := [(5, fun a W => ∃ b, a.tmps[60]? = some (.slice (some ⟨b, 0, none⟩) 1 1) ∧ Blk W b 9 #[.string ((bs r1).extract 0 m)] ∧ w6.heap.size ≤ b), (6, fun a W => ∃ v', a.tmps[61]? = some v' ∧ World.ownsRow W (w.heap.size + 2) 9 1 v' (st.items.length + 1) ((flatS st.items) ++ [.string ((bs r1).extract 0 m)]) ∧ (v'.ownBlock = Value.ownBlock (.slice Ai st.items.length ci) ∨ ∃ g, v'.ownBlock = some g ∧ w6.heap.size ≤ g)), (8, fun a W => ∃ v', a.tmps[61]? = some v' ∧ PR w.heap.size (w.heap.size + 1) #[.int .i64 n24, .int .i64 n28, .string (bs R), v', .slice Ap st.paths.length cp] W ∧ Below w.heap.size w W)]) (Ns := [(1, fun (_ : Act) W => PR w.heap.size (w.heap.size + 1) #[.int .i64 n24, .int .i64 n28, .string (bs R), .slice Ai st.items.length ci, .slice Ap st.paths.length cp] W), (6, fun (_ : Act) W => World.ownsRow W (w.heap.size + 2) 9 1 (.slice Ai st.items.length ci) st.items.length (flatS st.items) ∧ w6.heap.size ≤ W.heap.size), (8, fun (_ : Act) W => PR w.heap.size (w.heap.size + 1) #[.int .i64 n24, .int .i64 n28, .string (bs R), .slice Ai st.items.length ci, .slice Ap st.paths.length cp] W ∧ Below w.heap.size w W)]) (Rel := fun i x x' => if i = 6 then (fun x x' => World.grownBy x x' (Value.ownBlock (.slice Ai st.items.length ci))) x x' else if i = 8 then (fun x x' => ∃ u, x' = World.setCell x ⟨w.heap.size, 3, none⟩ u) x x' else Below x.heap.size x x')
                    case hm => kernel_rfl
                    case hB => kernel_rfl
                    case hCw => exact ((Two.refl w.heap.size (rowOr (.slice Ai st.items.length ci) w.heap.size) w6).drewN 1)
                    case hC =>
                      intro i w_ w' hw hr
                      by_cases e6 : i = 6
                      · subst e6
                        have hr' : (fun x x' => World.grownBy x x' (Value.ownBlock (.slice Ai st.items.length ci))) w_ w' := hr
                        exact Two.trans hw (Two.grown hr')
                      by_cases e8 : i = 8
                      · subst e8
                        have hr' : (fun x x' => ∃ u, x' = World.setCell x ⟨w.heap.size, 3, none⟩ u) w_ w' := hr
                        obtain ⟨u, rfl⟩ := hr'
                        exact Two.set1 hw _ u
                      have hr' : Below w_.heap.size w_ w' := by simpa [e6, e8] using hr
                      exact Two.to hw hr'
                    case hst =>
                      refine keeps_cons (fun i a a' w_ w' hne hwt hs hr h => by
                        by_cases e6 : i = 6
                        · subst e6
                          have hr' : (fun x x' => World.grownBy x x' (Value.ownBlock (.slice Ai st.items.length ci))) w_ w' := hr
                          obtain ⟨b, h1, h2, h3⟩ := h
                          exact ⟨b, (hs 60 (by kernel_rfl)).trans h1, (hr'.block b h2.lt (fun e => absurd (hoS b e.symm) (by omega))).trans h2, h3⟩
                        by_cases e8 : i = 8
                        · subst e8
                          have hr' : (fun x x' => ∃ u, x' = World.setCell x ⟨w.heap.size, 3, none⟩ u) w_ w' := hr
                          obtain ⟨b, h1, h2, h3⟩ := h
                          obtain ⟨u, rfl⟩ := hr'
                          exact ⟨b, (hs 60 (by kernel_rfl)).trans h1, h2.far (p := ⟨w.heap.size, 3, none⟩) (by show b ≠ w.heap.size; omega) u, h3⟩
                        have hr' : Below w_.heap.size w_ w' := by simpa [e6, e8] using hr
                        obtain ⟨b, h1, h2, h3⟩ := h
                        exact ⟨b, (hs 60 (by kernel_rfl)).trans h1, h2.to hr', h3⟩) ?_
                      refine keeps_cons (fun i a a' w_ w' hne hwt hs hr h => by
                        by_cases e6 : i = 6
                        · exact absurd e6 hne
                        by_cases e8 : i = 8
                        · subst e8
                          have hr' : (fun x x' => ∃ u, x' = World.setCell x ⟨w.heap.size, 3, none⟩ u) w_ w' := hr
                          obtain ⟨b, h1, h2, h3⟩ := h
                          obtain ⟨u, rfl⟩ := hr'
                          exact ⟨b, (hs 61 (by kernel_rfl)).trans h1, ownsRow_set h2 (fun e => by have := (World.ownsRow.lt h2 _ e).1; omega), h3⟩
                        have hr' : Below w_.heap.size w_ w' := by simpa [e6, e8] using hr
                        obtain ⟨b, h1, h2, h3⟩ := h
                        exact ⟨b, (hs 61 (by kernel_rfl)).trans h1, ownsRow_to h2 hr', h3⟩) ?_
                      refine keeps_cons (fun i a a' w_ w' hne hwt hs hr h => by
                        by_cases e6 : i = 6
                        · subst e6
                          exact absurd (hwt.symm.trans (show Region.waitsFor .any _ 8 6 = true by kernel_rfl)) (by decide)
                        by_cases e8 : i = 8
                        · exact absurd e8 hne
                        have hr' : Below w_.heap.size w_ w' := by simpa [e6, e8] using hr
                        obtain ⟨b, h1, h2, h3⟩ := h
                        exact ⟨b, (hs 61 (by kernel_rfl)).trans h1, ⟨h2.p.to hr', h2.e.to hr', rfl, h2.ne⟩, below_to h3 (Nat.le_refl _) hr'⟩) ?_
                      exact keeps_nil
                    case hN0 => exact pre0_cons (⟨HM6.out.r.p, HM6.out.r.e, rfl, HM6.out.r.ne⟩) (pre0_cons (⟨HM6.out.oi, Nat.le_refl _⟩) (pre0_cons (⟨⟨HM6.out.r.p, HM6.out.r.e, rfl, HM6.out.r.ne⟩, HB6.out.drew⟩) (pre0_nil)))
                    case hNst =>
                      refine prek_cons (fun i a a' w_ w' hne hwt hr h hp => by
                        by_cases e6 : i = 6
                        · subst e6
                          exact absurd (hwt.symm.trans (show waitsT .any _ _ 6 1 = true by kernel_rfl)) (by decide)
                        by_cases e8 : i = 8
                        · subst e8
                          exact absurd (hwt.symm.trans (show waitsT .any _ _ 8 1 = true by kernel_rfl)) (by decide)
                        have hr' : Below w_.heap.size w_ w' := by simpa [e6, e8] using hr
                        exact ⟨h.p.to hr', h.e.to hr', rfl, h.ne⟩) ?_
                      refine prek_cons (fun i a a' w_ w' hne hwt hr h hp => by
                        by_cases e6 : i = 6
                        · exact absurd e6 hne
                        by_cases e8 : i = 8
                        · subst e8
                          exact absurd (hwt.symm.trans (show waitsT .any _ _ 8 6 = true by kernel_rfl)) (by decide)
                        have hr' : Below w_.heap.size w_ w' := by simpa [e6, e8] using hr
                        exact ⟨ownsRow_to h.1 hr', Nat.le_trans h.2 hr'.size⟩) ?_
                      refine prek_cons (fun i a a' w_ w' hne hwt hr h hp => by
                        by_cases e6 : i = 6
                        · subst e6
                          have hr' : (fun x x' => World.grownBy x x' (Value.ownBlock (.slice Ai st.items.length ci))) w_ w' := hr
                          exact ⟨⟨(hr'.block w.heap.size h.1.p.lt (hoN _ (by omega))).trans h.1.p, (hr'.block (w.heap.size + 1) h.1.e.lt (hoN _ (by omega))).trans h.1.e, rfl, h.1.ne⟩, h.2.trans (below_grown hr' h.2.size (fun k e => by have := hoL k e; omega))⟩
                        by_cases e8 : i = 8
                        · exact absurd e8 hne
                        have hr' : Below w_.heap.size w_ w' := by simpa [e6, e8] using hr
                        exact ⟨⟨h.1.p.to hr', h.1.e.to hr', rfl, h.1.ne⟩, below_to h.2 (Nat.le_refl _) hr'⟩) ?_
                      exact prek_nil
                    case hop =>
                      refine ⟨?_, ?_, ?_, ?_, ?_, ?_, ?_, ?_, ?_, trivial⟩
                      · intro a w_ K hw hS hd hN hK
                        have s2 := hS.at 2 (by kernel_rfl) rfl
                        rw [if_pos (want_free rfl)]
                        go_simp
                        exact hK _ _ (Below.refl _ _) (vok rfl) (facts_cons (fun h => absurd h (by decide)) (facts_cons (fun h => absurd h (by decide)) (facts_cons (fun h => absurd h (by decide)) facts_nil)))
                      · intro a w_ K hw hS hd hN hK
                        have s55 := (waits_on hd 0 (by kernel_rfl)).at (d := 55) rfl rfl rfl
                        have hBp := hN _ (List.mem_cons_self ..) rfl
                        rw [if_pos (want_free rfl)]
                        have c0 := (hBp.p.cell 3).trans (show _ = some (Value.slice Ai st.items.length ci) from rfl)
                        go_simp
                        exact hK _ _ (Below.refl _ _) (vok rfl) (facts_cons (fun h => absurd h (by decide)) (facts_cons (fun h => absurd h (by decide)) (facts_cons (fun h => absurd h (by decide)) facts_nil)))
                      · intro a w_ K hw hS hd hN hK
                        have s5 := hS.at 5 (by kernel_rfl) rfl
                        rw [if_pos (want_free rfl)]
                        go_simp
                        exact hK _ _ (Below.refl _ _) (vok rfl) (facts_cons (fun h => absurd h (by decide)) (facts_cons (fun h => absurd h (by decide)) (facts_cons (fun h => absurd h (by decide)) facts_nil)))
                      · intro a w_ K hw hS hd hN hK
                        have s7 := hS.at 7 (by kernel_rfl) rfl
                        rw [if_pos (want_free rfl)]
                        go_simp
                        exact hK _ _ (Below.refl _ _) (vok rfl) (facts_cons (fun h => absurd h (by decide)) (facts_cons (fun h => absurd h (by decide)) (facts_cons (fun h => absurd h (by decide)) facts_nil)))
                      · intro a w_ K hw hS hd hN hK
                        have s57 := (waits_on hd 2 (by kernel_rfl)).at (d := 57) rfl rfl rfl
                        have s58 := (waits_on hd 3 (by kernel_rfl)).at (d := 58) rfl rfl rfl
                        rw [if_pos (want_free rfl)]
                        go_simp
                        simp only [if_pos (show m ≤ r1.length by omega), Oper.upon]
                        exact hK _ _ (Below.refl _ _) (vok rfl) (facts_cons (fun h => absurd h (by decide)) (facts_cons (fun h => absurd h (by decide)) (facts_cons (fun h => absurd h (by decide)) facts_nil)))
                      · intro a w_ K hw hS hd hN hK
                        have s59 := (waits_on hd 4 (by kernel_rfl)).at (d := 59) rfl rfl rfl
                        rw [if_pos (want_free rfl)]
                        go_simp
                        exact hK _ _ (below_one _ _) (vfree rfl) (facts_cons (fun _ => ⟨_, hS.put_at (by kernel_rfl) _, Blk.new _ _ _, (Two.size hw)⟩) (facts_cons (fun h => absurd h (by decide)) (facts_cons (fun h => absurd h (by decide)) facts_nil)))
                      · intro a w_ K hw hS hd hN hK
                        have s56 := (waits_on hd 1 (by kernel_rfl)).at (d := 56) rfl rfl rfl
                        obtain ⟨b60, s60, r60, l60⟩ := (waits_on hd 5 (by kernel_rfl)).2 _ (List.mem_cons_self ..) rfl
                        obtain ⟨hOwn, hSz⟩ := hN _ (List.mem_cons_of_mem _ (List.mem_cons_self ..)) rfl
                        rw [if_pos (want_free rfl)]
                        obtain ⟨i0, hi0, hz0, hz1, hz2⟩ := info_parts info_str
                        refine wp_append_keep w_ (.tmp 56) (.tmp 60) 22 rfl (w.heap.size + 2) 9 i0 _ 1 16 Tryz.underlying22 hi0 hz0 hz1 hz2 rfl (by decide) (.slice Ai st.items.length ci) st.items.length _ (eval_at s56) hOwn ⟨b60, 0, none⟩ 1 1 [.string ((bs r1).extract 0 m)] (eval_at s60) rfl (fun j u hj => by
                          cases j with
                          | zero => simp at hj; subst hj; exact r60.cell 0
                          | succ j => simp at hj) (by intro u hu; simp at hu; subst hu; rfl) (by unfold maxLen; omega) (by omega) (by omega) ?_
                        intro v' w' h2 h3 h4 h5
                        exact hK v' w' h3 (vfree rfl) (facts_cons (fun h => absurd h (by decide)) (facts_cons (fun _ => ⟨v', hS.put_at (by kernel_rfl) _, h2, h5.imp id fun ⟨g, e, hg⟩ => ⟨g, e, Nat.le_trans hSz hg⟩⟩) (facts_cons (fun h => absurd h (by decide)) facts_nil)))
                      · intro a w_ K hw hS hd hN hK
                        have s2 := hS.at 2 (by kernel_rfl) rfl
                        rw [if_pos (want_free rfl)]
                        go_simp
                        exact hK _ _ (Below.refl _ _) (vok rfl) (facts_cons (fun h => absurd h (by decide)) (facts_cons (fun h => absurd h (by decide)) (facts_cons (fun h => absurd h (by decide)) facts_nil)))
                      · intro a w_ K hw hS hd hN hK
                        have s62 := (waits_on hd 7 (by kernel_rfl)).at (d := 62) rfl rfl rfl
                        obtain ⟨v61, s61, o61, k61⟩ := (waits_on hd 6 (by kernel_rfl)).2 _ (List.mem_cons_of_mem _ (List.mem_cons_self ..)) rfl
                        obtain ⟨hPR, hBW⟩ := hN _ (List.mem_cons_of_mem _ (List.mem_cons_of_mem _ (List.mem_cons_self ..))) rfl
                        rw [if_pos (want_free rfl)]
                        have c0 := (hPR.p.cell 3).trans (show _ = some (.slice Ai st.items.length ci) from rfl)
                        have f0 := hPR.p.frozen 3
                        obtain ⟨A0, c0', rfl⟩ := own_sl4 o61
                        go_simp
                        exact hK undef _ ⟨_, rfl⟩ (vfree rfl) (facts_cons (fun h => absurd h (by decide)) (facts_cons (fun h => absurd h (by decide)) (facts_cons (fun _ => ⟨_, s61, ⟨hPR.p.set_ 3 _, hPR.e.far (p := ⟨w.heap.size, 3, none⟩) (Nat.succ_ne_self _) _, rfl, hPR.ne⟩, hBW.setCell (p := ⟨w.heap.size, 3, none⟩) (Nat.le_refl _) _⟩) facts_nil)))
                    case hfin =>
                      intro a w7 hw hS hk
                      have s55 := (hk 0 (by decide)).at (d := 55) rfl rfl rfl
                      have s56 := (hk 1 (by decide)).at (d := 56) rfl rfl rfl
                      have s57 := (hk 2 (by decide)).at (d := 57) rfl rfl rfl
                      have s58 := (hk 3 (by decide)).at (d := 58) rfl rfl rfl
                      have s59 := (hk 4 (by decide)).at (d := 59) rfl rfl rfl
                      obtain ⟨b60, s60, r60, l60⟩ := (hk 5 (by decide)).2 _ (List.mem_cons_self ..) rfl
                      obtain ⟨v61, s61, o61, k61⟩ := (hk 6 (by decide)).2 _ (List.mem_cons_of_mem _ (List.mem_cons_self ..)) rfl
                      have s62 := (hk 7 (by decide)).at (d := 62) rfl rfl rfl
                      obtain ⟨z61, zs61, zP, zB⟩ := (hk 8 (by decide)).2 _ (List.mem_cons_of_mem _ (List.mem_cons_of_mem _ (List.mem_cons_self ..))) rfl
                      have hlit := hS.lit _ (by kernel_rfl) (lits_cons s55 (lits_cons s56 (lits_cons s57 (lits_cons s58 (lits_cons s59 (lits_cons s60 (lits_cons s61 (lits_cons s62 lits_nil))))))))
                      rw [hlit]
                      obtain rfl : v61 = z61 := Option.some.inj (s61.symm.trans zs61)
                      clear hlit hk hS s55 s56 s57 s58 s59 s60 s61 s62 zs61 r60 l60
                      have hr1e : (bs r1).extract 0 m = bs (r1.take m) := by rw [bs_cut]; simp
                      rw [hr1e] at o61 ⊢
                      have hT6 := (HT6.out).two hw (fun e => by have : g5 = w.heap.size := Option.some.inj e; omega) (show some g5 ≠ some (rowOr (.slice Ai st.items.length ci) w.heap.size) from rowOr_ne (fun e => by have := hoR g5 e; omega) (by omega))
                      obtain ⟨oe, hoe, hT7⟩ : ∃ oe, (if c5 = 1 then some (⟨g5, 0, none⟩ : Addr) else some ⟨g5, 1, none⟩) = some ⟨g5, oe, none⟩ ∧ TextsAt w7 (.slice (some ⟨g5, oe, none⟩) q.length (c5 - 1)) q := by
                        obtain ⟨A, c, e, hc⟩ := hT6.slice
                        cases e
                        rw [List.length_cons] at hc
                        by_cases h1 : c5 = 1
                        · subst h1
                          have hq0 : q = [] := List.eq_nil_of_length_eq_zero (by omega)
                          subst hq0
                          exact ⟨0, rfl, some ⟨g5, 0, none⟩, 0, rfl, Nat.le_refl _, by simp, fun k p hp => by simp at hp⟩
                        · refine ⟨1, if_neg h1, ?_⟩
                          have h2 := hT6.drop (k := 1) (by simp) (c5 - 1) (by rw [List.length_cons]; omega)
                          rwa [show (⟨g5, 0, none⟩ : Addr).add 1 = ⟨g5, 1, none⟩ by unfold Addr.add; split <;> simp_all, List.length_cons, Nat.add_sub_cancel] at h2
                      clear hT6
                      have hv61 : v61.ownBlock ≠ some g5 := by
                        rcases k61 with h | ⟨k, h, hk⟩
                        · rw [h]; intro e; have := hoR g5 e; omega
                        · rw [h]; intro e; cases e; omega
                      have hM7 := pmem_items (by omega) HM6.out hw zP (r1.take m) o61 k61 r1
                      obtain ⟨A1, c1, rfl⟩ := own_sl4 o61
                      have HM7 := hide hM7
                      have HT7 := hide hT7
                      have HB7 := hide zB
                      have hsw7 : w6.heap.size ≤ w7.heap.size := hw.size
                      have hqL : ∀ k, (Value.ownBlock (.slice Ap st.paths.length cp)) = some k → w.heap.size + 2 ≤ k := fun k e => (World.ownsRow.lt HM7.out.op k e).1
                      have hqS : ∀ k, (Value.ownBlock (.slice Ap st.paths.length cp)) = some k → k < w7.heap.size := fun k e => (World.ownsRow.lt HM7.out.op k e).2
                      have hqN : ∀ k, k < w.heap.size + 2 → some k ≠ (Value.ownBlock (.slice Ap st.paths.length cp)) := fun k hk e => by have := hqL k e.symm; omega
                      clear hw zP zB o61 k61 hM7 hT7 hr1e HM6 HT6 HB6
                      simp only [litT, List.setIfInBounds_toArray, List.set_cons_succ, List.set_cons_zero]
                      go_wp2_with fail
                      apply wp_region_lo2 (C := fun W => Two w.heap.size (rowOr (.slice Ap st.paths.length cp) w.heap.size) w7 W) (V := [some _, some _, some _, some _, none, none, some _, none]) (Fs := [(4, fun a W => ∃ b, a.tmps[67]? = some (.slice (some ⟨b, 0, none⟩) 1 1) ∧ Blk W b 22 #[.slice (some ⟨g5, oe, none⟩) q.length (c5 - 1)] ∧ w7.heap.size ≤ b), (5, fun a W => ∃ v', a.tmps[68]? = some v' ∧ World.ownsRow W (w.heap.size + 2) 22 1 v' (st.paths.length + 1) (pvs ++ [.slice (some ⟨g5, oe, none⟩) q.length (c5 - 1)]) ∧ (v'.ownBlock = Value.ownBlock (.slice Ap st.paths.length cp) ∨ ∃ g, v'.ownBlock = some g ∧ w7.heap.size ≤ g)), (7, fun a W => ∃ v', a.tmps[68]? = some v' ∧ PR w.heap.size (w.heap.size + 1) #[.int .i64 n24, .int .i64 n28, .string (bs R), .slice A1 (st.items.length + 1) c1, v'] W ∧ Below w.heap.size w W)]) (Ns := [(1, fun (_ : Act) W => PR w.heap.size (w.heap.size + 1) #[.int .i64 n24, .int .i64 n28, .string (bs R), .slice A1 (st.items.length + 1) c1, .slice Ap st.paths.length cp] W), (5, fun (_ : Act) W => World.ownsRow W (w.heap.size + 2) 22 1 (.slice Ap st.paths.length cp) st.paths.length pvs ∧ w7.heap.size ≤ W.heap.size), (7, fun (_ : Act) W => PR w.heap.size (w.heap.size + 1) #[.int .i64 n24, .int .i64 n28, .string (bs R), .slice A1 (st.items.length + 1) c1, .slice Ap st.paths.length cp] W ∧ Below w.heap.size w W)]) (Rel := fun i x x' => if i = 5 then (fun x x' => World.grownBy x x' (Value.ownBlock (.slice Ap st.paths.length cp))) x x' else if i = 7 then (fun x x' => ∃ u, x' = World.setCell x ⟨w.heap.size, 4, none⟩ u) x x' else Below x.heap.size x x')
                      case hm => kernel_rfl
                      case hB => kernel_rfl
                      case hCw => exact ((Two.refl w.heap.size (rowOr (.slice Ap st.paths.length cp) w.heap.size) w7).drewN 1)
                      case hC =>
                        intro i w_ w' hw hr
                        by_cases e5 : i = 5
                        · subst e5
                          have hr' : (fun x x' => World.grownBy x x' (Value.ownBlock (.slice Ap st.paths.length cp))) w_ w' := hr
                          exact Two.trans hw (Two.grown hr')
                        by_cases e7 : i = 7
                        · subst e7
                          have hr' : (fun x x' => ∃ u, x' = World.setCell x ⟨w.heap.size, 4, none⟩ u) w_ w' := hr
                          obtain ⟨u, rfl⟩ := hr'
                          exact Two.set1 hw _ u
                        have hr' : Below w_.heap.size w_ w' := by simpa [e5, e7] using hr
                        exact Two.to hw hr'
                      case hst =>
                        refine keeps_cons (fun i a a' w_ w' hne hwt hs hr h => by
                          by_cases e5 : i = 5
                          · subst e5
                            have hr' : (fun x x' => World.grownBy x x' (Value.ownBlock (.slice Ap st.paths.length cp))) w_ w' := hr
                            obtain ⟨b, h1, h2, h3⟩ := h
                            exact ⟨b, (hs 67 (by kernel_rfl)).trans h1, (hr'.block b h2.lt (fun e => absurd (hqS b e.symm) (by omega))).trans h2, h3⟩
                          by_cases e7 : i = 7
                          · subst e7
                            have hr' : (fun x x' => ∃ u, x' = World.setCell x ⟨w.heap.size, 4, none⟩ u) w_ w' := hr
                            obtain ⟨b, h1, h2, h3⟩ := h
                            obtain ⟨u, rfl⟩ := hr'
                            exact ⟨b, (hs 67 (by kernel_rfl)).trans h1, h2.far (p := ⟨w.heap.size, 4, none⟩) (by show b ≠ w.heap.size; omega) u, h3⟩
                          have hr' : Below w_.heap.size w_ w' := by simpa [e5, e7] using hr
                          obtain ⟨b, h1, h2, h3⟩ := h
                          exact ⟨b, (hs 67 (by kernel_rfl)).trans h1, h2.to hr', h3⟩) ?_
                        refine keeps_cons (fun i a a' w_ w' hne hwt hs hr h => by
                          by_cases e5 : i = 5
                          · exact absurd e5 hne
                          by_cases e7 : i = 7
                          · subst e7
                            have hr' : (fun x x' => ∃ u, x' = World.setCell x ⟨w.heap.size, 4, none⟩ u) w_ w' := hr
                            obtain ⟨b, h1, h2, h3⟩ := h
                            obtain ⟨u, rfl⟩ := hr'
                            exact ⟨b, (hs 68 (by kernel_rfl)).trans h1, ownsRow_set h2 (fun e => by have := (World.ownsRow.lt h2 _ e).1; omega), h3⟩
                          have hr' : Below w_.heap.size w_ w' := by simpa [e5, e7] using hr
                          obtain ⟨b, h1, h2, h3⟩ := h
                          exact ⟨b, (hs 68 (by kernel_rfl)).trans h1, ownsRow_to h2 hr', h3⟩) ?_
                        refine keeps_cons (fun i a a' w_ w' hne hwt hs hr h => by
                          by_cases e5 : i = 5
                          · subst e5
                            exact absurd (hwt.symm.trans (show Region.waitsFor .any _ 7 5 = true by kernel_rfl)) (by decide)
                          by_cases e7 : i = 7
                          · exact absurd e7 hne
                          have hr' : Below w_.heap.size w_ w' := by simpa [e5, e7] using hr
                          obtain ⟨b, h1, h2, h3⟩ := h
                          exact ⟨b, (hs 68 (by kernel_rfl)).trans h1, ⟨h2.p.to hr', h2.e.to hr', rfl, h2.ne⟩, below_to h3 (Nat.le_refl _) hr'⟩) ?_
                        exact keeps_nil
                      case hN0 => exact pre0_cons (⟨HM7.out.r.p, HM7.out.r.e, rfl, HM7.out.r.ne⟩) (pre0_cons (⟨HM7.out.op, Nat.le_refl _⟩) (pre0_cons (⟨⟨HM7.out.r.p, HM7.out.r.e, rfl, HM7.out.r.ne⟩, HB7.out.drew⟩) (pre0_nil)))
                      case hNst =>
                        refine prek_cons (fun i a a' w_ w' hne hwt hr h hp => by
                          by_cases e5 : i = 5
                          · subst e5
                            exact absurd (hwt.symm.trans (show waitsT .any _ _ 5 1 = true by kernel_rfl)) (by decide)
                          by_cases e7 : i = 7
                          · subst e7
                            exact absurd (hwt.symm.trans (show waitsT .any _ _ 7 1 = true by kernel_rfl)) (by decide)
                          have hr' : Below w_.heap.size w_ w' := by simpa [e5, e7] using hr
                          exact ⟨h.p.to hr', h.e.to hr', rfl, h.ne⟩) ?_
                        refine prek_cons (fun i a a' w_ w' hne hwt hr h hp => by
                          by_cases e5 : i = 5
                          · exact absurd e5 hne
                          by_cases e7 : i = 7
                          · subst e7
                            exact absurd (hwt.symm.trans (show waitsT .any _ _ 7 5 = true by kernel_rfl)) (by decide)
                          have hr' : Below w_.heap.size w_ w' := by simpa [e5, e7] using hr
                          exact ⟨ownsRow_to h.1 hr', Nat.le_trans h.2 hr'.size⟩) ?_
                        refine prek_cons (fun i a a' w_ w' hne hwt hr h hp => by
                          by_cases e5 : i = 5
                          · subst e5
                            have hr' : (fun x x' => World.grownBy x x' (Value.ownBlock (.slice Ap st.paths.length cp))) w_ w' := hr
                            exact ⟨⟨(hr'.block w.heap.size h.1.p.lt (hqN _ (by omega))).trans h.1.p, (hr'.block (w.heap.size + 1) h.1.e.lt (hqN _ (by omega))).trans h.1.e, rfl, h.1.ne⟩, h.2.trans (below_grown hr' h.2.size (fun k e => by have := hqL k e; omega))⟩
                          by_cases e7 : i = 7
                          · exact absurd e7 hne
                          have hr' : Below w_.heap.size w_ w' := by simpa [e5, e7] using hr
                          exact ⟨⟨h.1.p.to hr', h.1.e.to hr', rfl, h.1.ne⟩, below_to h.2 (Nat.le_refl _) hr'⟩) ?_
                        exact prek_nil
                      case hop =>
                        refine ⟨?_, ?_, ?_, ?_, ?_, ?_, ?_, ?_, trivial⟩
                        · intro a w_ K hw hS hd hN hK
                          have s2 := hS.at 2 (by kernel_rfl) rfl
                          rw [if_pos (want_free rfl)]
                          go_simp
                          exact hK _ _ (Below.refl _ _) (vok rfl) (facts_cons (fun h => absurd h (by decide)) (facts_cons (fun h => absurd h (by decide)) (facts_cons (fun h => absurd h (by decide)) facts_nil)))
                        · intro a w_ K hw hS hd hN hK
                          have s63 := (waits_on hd 0 (by kernel_rfl)).at (d := 63) rfl rfl rfl
                          have hBp := hN _ (List.mem_cons_self ..) rfl
                          rw [if_pos (want_free rfl)]
                          have c0 := (hBp.p.cell 4).trans (show _ = some (Value.slice Ap st.paths.length cp) from rfl)
                          go_simp
                          exact hK _ _ (Below.refl _ _) (vok rfl) (facts_cons (fun h => absurd h (by decide)) (facts_cons (fun h => absurd h (by decide)) (facts_cons (fun h => absurd h (by decide)) facts_nil)))
                        · intro a w_ K hw hS hd hN hK
                          have s6 := hS.at 6 (by kernel_rfl) rfl
                          rw [if_pos (want_free rfl)]
                          go_simp
                          exact hK _ _ (Below.refl _ _) (vok rfl) (facts_cons (fun h => absurd h (by decide)) (facts_cons (fun h => absurd h (by decide)) (facts_cons (fun h => absurd h (by decide)) facts_nil)))
                        · intro a w_ K hw hS hd hN hK
                          have s65 := (waits_on hd 2 (by kernel_rfl)).at (d := 65) rfl rfl rfl
                          rw [if_pos (want_free rfl)]
                          go_simp
                          simp only [if_pos (show (1 : Int) ≤ (q.length : Int) + 1 by omega), hoe, Oper.upon]
                          exact hK _ _ (Below.refl _ _) (vok rfl) (facts_cons (fun h => absurd h (by decide)) (facts_cons (fun h => absurd h (by decide)) (facts_cons (fun h => absurd h (by decide)) facts_nil)))
                        · intro a w_ K hw hS hd hN hK
                          have s66 := (waits_on hd 3 (by kernel_rfl)).at (d := 66) rfl rfl rfl
                          rw [if_pos (want_free rfl)]
                          go_simp
                          exact hK _ _ (below_one _ _) (vfree rfl) (facts_cons (fun _ => ⟨_, hS.put_at (by kernel_rfl) _, Blk.new _ _ _, (Two.size hw)⟩) (facts_cons (fun h => absurd h (by decide)) (facts_cons (fun h => absurd h (by decide)) facts_nil)))
                        · intro a w_ K hw hS hd hN hK
                          have s64 := (waits_on hd 1 (by kernel_rfl)).at (d := 64) rfl rfl rfl
                          obtain ⟨b67, s67, r67, l67⟩ := (waits_on hd 4 (by kernel_rfl)).2 _ (List.mem_cons_self ..) rfl
                          obtain ⟨hOwn, hSz⟩ := hN _ (List.mem_cons_of_mem _ (List.mem_cons_self ..)) rfl
                          rw [if_pos (want_free rfl)]
                          obtain ⟨i0, hi0, hz0, hz1, hz2⟩ := info_parts info_sl
                          refine wp_append_keep w_ (.tmp 64) (.tmp 67) 23 rfl (w.heap.size + 2) 22 i0 _ 1 24 Tryz.underlying23 hi0 hz0 hz1 hz2 rfl (by decide) (.slice Ap st.paths.length cp) st.paths.length _ (eval_at s64) hOwn ⟨b67, 0, none⟩ 1 1 [.slice (some ⟨g5, oe, none⟩) q.length (c5 - 1)] (eval_at s67) rfl (fun j u hj => by
                            cases j with
                            | zero => simp at hj; subst hj; exact r67.cell 0
                            | succ j => simp at hj) (by intro u hu; simp at hu; subst hu; rfl) (by unfold maxLen; omega) (by omega) (by omega) ?_
                          intro v' w' h2 h3 h4 h5
                          exact hK v' w' h3 (vfree rfl) (facts_cons (fun h => absurd h (by decide)) (facts_cons (fun _ => ⟨v', hS.put_at (by kernel_rfl) _, h2, h5.imp id fun ⟨g, e, hg⟩ => ⟨g, e, Nat.le_trans hSz hg⟩⟩) (facts_cons (fun h => absurd h (by decide)) facts_nil)))
                        · intro a w_ K hw hS hd hN hK
                          have s2 := hS.at 2 (by kernel_rfl) rfl
                          rw [if_pos (want_free rfl)]
                          go_simp
                          exact hK _ _ (Below.refl _ _) (vok rfl) (facts_cons (fun h => absurd h (by decide)) (facts_cons (fun h => absurd h (by decide)) (facts_cons (fun h => absurd h (by decide)) facts_nil)))
                        · intro a w_ K hw hS hd hN hK
                          have s69 := (waits_on hd 6 (by kernel_rfl)).at (d := 69) rfl rfl rfl
                          obtain ⟨v68, s68, o68, k68⟩ := (waits_on hd 5 (by kernel_rfl)).2 _ (List.mem_cons_of_mem _ (List.mem_cons_self ..)) rfl
                          obtain ⟨hPR, hBW⟩ := hN _ (List.mem_cons_of_mem _ (List.mem_cons_of_mem _ (List.mem_cons_self ..))) rfl
                          rw [if_pos (want_free rfl)]
                          have c0 := (hPR.p.cell 4).trans (show _ = some (.slice Ap st.paths.length cp) from rfl)
                          have f0 := hPR.p.frozen 4
                          obtain ⟨A0, c0', rfl⟩ := own_sl4 o68
                          go_simp
                          exact hK undef _ ⟨_, rfl⟩ (vfree rfl) (facts_cons (fun h => absurd h (by decide)) (facts_cons (fun h => absurd h (by decide)) (facts_cons (fun _ => ⟨_, s68, ⟨hPR.p.set_ 4 _, hPR.e.far (p := ⟨w.heap.size, 4, none⟩) (Nat.succ_ne_self _) _, rfl, hPR.ne⟩, hBW.setCell (p := ⟨w.heap.size, 4, none⟩) (Nat.le_refl _) _⟩) facts_nil)))
                      case hfin =>
                        intro a w8 hw hS hk
                        have s63 := (hk 0 (by decide)).at (d := 63) rfl rfl rfl
                        have s64 := (hk 1 (by decide)).at (d := 64) rfl rfl rfl
                        have s65 := (hk 2 (by decide)).at (d := 65) rfl rfl rfl
                        have s66 := (hk 3 (by decide)).at (d := 66) rfl rfl rfl
                        obtain ⟨b67, s67, r67, l67⟩ := (hk 4 (by decide)).2 _ (List.mem_cons_self ..) rfl
                        obtain ⟨v68, s68, o68, k68⟩ := (hk 5 (by decide)).2 _ (List.mem_cons_of_mem _ (List.mem_cons_self ..)) rfl
                        have s69 := (hk 6 (by decide)).at (d := 69) rfl rfl rfl
                        obtain ⟨z68, zs68, zP, zB⟩ := (hk 7 (by decide)).2 _ (List.mem_cons_of_mem _ (List.mem_cons_of_mem _ (List.mem_cons_self ..))) rfl
                        have hlit := hS.lit _ (by kernel_rfl) (lits_cons s63 (lits_cons s64 (lits_cons s65 (lits_cons s66 (lits_cons s67 (lits_cons s68 (lits_cons s69 lits_nil)))))))
                        rw [hlit]
                        obtain rfl : v68 = z68 := Option.some.inj (s68.symm.trans zs68)
                        clear hlit hk hS s63 s64 s65 s66 s67 s68 s69 zs68 r67 l67
                        obtain ⟨A2, c2', rfl⟩ := own_sl4 o68
                        have HM8 : Hid (PMem w.heap.size (w.heap.size + 1) (w.heap.size + 2) n24 n28 R ⟨st.items ++ [r1.take m], st.paths ++ [q], r1.drop (m + 1)⟩ (.slice A1 (st.items.length + 1) c1) (.slice A2 (st.paths.length + 1) c2') (pvs ++ [.slice (some ⟨g5, oe, none⟩) q.length (c5 - 1)]) w8) :=
                          pmem_paths (st := ⟨st.items ++ [r1.take m], st.paths, r1⟩) (by omega) HM7.out hw _ zP o68 k68 q HT7.out ⟨g5, rfl, by omega, by omega, hv61, hvp5⟩ _
                        have HB8 := hide zB
                        clear hw zP zB o68 k68
                        simp only [litT, List.setIfInBounds_toArray, List.set_cons_succ, List.set_cons_zero]
                        have em : decide (m + 1 ≤ r1.length) = true := decide_eq_true (by omega)
                        go_wp2_with fail
                        refine ⟨⟨k + 1, ⟨st.items ++ [r1.take m], st.paths ++ [q], r1.drop (m + 1)⟩, by go_num, by omega, by rw [bs_drop], ?_⟩, by simp [intOf]; omega⟩
                        obtain ⟨z1, z2, z3, z4, z5⟩ := step_sizes HSP3.out HR.out.rl HR.out.li HR.out.lq
                        exact ⟨by rw [z1, HR.out.ki], by rw [z2, HR.out.kp], z3, z4, z5, HST.out _ HSP3.out HR.out, ⟨_, _, _, HM8.out⟩, HB8.out⟩
            · obtain rfl : k = N := by omega
              have e1 : decide ((k : Int) < (k : Int)) = false := by simp
              have HPk : Hid (preP t = some ⟨n24, n28, R, st.items, st.paths⟩) := by
                show _ = _
                rw [HP.out, HR.out.lp, Nat.sub_self]; rfl
              have hki := HR.out.ki
              have hkp := HR.out.kp
              have hfit : Pg.fit ⟨n24, n28, R, st.items, st.paths⟩ := ⟨by show st.items.length ≤ _; omega, HR.out.li, by show st.paths.length ≤ _; omega, fun q hq => (HR.out.lq q hq).1, fun q hq => (HR.out.lq q hq).2, hlR, by show _ ≤ n24 ∧ n24 ≤ _; omega, by show _ ≤ n28 ∧ n28 ≤ _; omega⟩
              have CT := Text_any ⟨n24, n28, R, st.items, st.paths⟩ hfit (.slice Ai st.items.length ci) (.slice Ap st.paths.length cp) wr HGr.out (TextsAt.of_own HM.out.oi) (pmem_paths_at HM.out)
              unfold Pg.cs at CT
              have x0 := (HM.out.r.p.cell 0).trans (show _ = some (Value.int .i64 n24) from rfl)
              have x1 := (HM.out.r.p.cell 1).trans (show _ = some (Value.int .i64 n28) from rfl)
              have x2 := (HM.out.r.p.cell 2).trans (show _ = some (Value.string (bs R)) from rfl)
              have x3 := (HM.out.r.p.cell 3).trans (show _ = some (Value.slice Ai st.items.length ci) from rfl)
              have x4 := (HM.out.r.p.cell 4).trans (show _ = some (Value.slice Ap st.paths.length cp) from rfl)
              have HBr := hide HR.out.bel
              clear hki hkp hfit HR HP hlt hk
              obtain ⟨T, HT⟩ : ∃ T, Hid (textV ⟨n24, n28, R, st.items, st.paths⟩ = T) := ⟨_, rfl⟩
              cases hfo : formedB ⟨n24, n28, R, st.items, st.paths⟩ with
              | false =>
                have HN : Hid (parseP t = none) := by show _ = _; unfold parseP; rw [HPk.out]; simp [hfo]
                rw [HT.out, show textE ⟨n24, n28, R, st.items, st.paths⟩ = 1 by unfold textE; rw [hfo]; rfl] at CT
                clear hfo
                go_wp2_with fail
                refine CT.mono ?_
                rintro e w5 ⟨rfl, hb⟩
                go_wp2_with fail
                exact parse_odd HN.out w w5 w.heap.size (w.heap.size + 1) (Nat.le_refl _) (Nat.le_succ _) (below_to HBr.out (Nat.le_refl _) hb) _ (HM.out.to hb).r _ rfl rfl _
              | true =>
                have hTT : T = textPg ⟨n24, n28, R, st.items, st.paths⟩ := by rw [← HT.out]; unfold textV; rw [hfo]; rfl
                rw [HT.out, show textE ⟨n24, n28, R, st.items, st.paths⟩ = 0 by unfold textE; rw [hfo]; rfl] at CT
                by_cases hTt : T = t
                · have HN : Hid (parseP t = some ⟨n24, n28, R, st.items, st.paths⟩) := by show _ = _; unfold parseP; rw [HPk.out]; simp [hfo, ← hTT, hTt]
                  have e2 : ((bs T).toList == (bs t).toList) = true := by rw [beq_iff_eq, hTt]
                  clear hfo hTT hTt HT
                  go_wp2_with fail
                  refine CT.mono ?_
                  rintro e w5 ⟨rfl, hb⟩
                  have HM5 := hide (HM.out.to hb)
                  have HB5 := hide (below_to HBr.out (Nat.le_refl _) hb)
                  clear hb CT HM HBr x0 x1 x2 x3 x4
                  have x0 := (HM5.out.r.p.cell 0).trans (show _ = some (Value.int .i64 n24) from rfl)
                  have x1 := (HM5.out.r.p.cell 1).trans (show _ = some (Value.int .i64 n28) from rfl)
                  have x2 := (HM5.out.r.p.cell 2).trans (show _ = some (Value.string (bs R)) from rfl)
                  have x3 := (HM5.out.r.p.cell 3).trans (show _ = some (Value.slice Ai st.items.length ci) from rfl)
                  have x4 := (HM5.out.r.p.cell 4).trans (show _ = some (Value.slice Ap st.paths.length cp) from rfl)
                  have x5 := (HM5.out.r.e.cell 0).trans (show _ = some (Value.int .i64 0) from rfl)
                  have f0 := HM5.out.r.p.frozen 0
                  have f1 := HM5.out.r.p.frozen 1
                  have f2 := HM5.out.r.p.frozen 2
                  have f3 := HM5.out.r.p.frozen 3
                  have f4 := HM5.out.r.p.frozen 4
                  have f5 := HM5.out.r.e.frozen 0
                  go_wp2_with fail
                  have hT := ((((((Two.refl w.heap.size (w.heap.size + 1) w5).set1 0 (.int .i64 n24)).set1 1 (.int .i64 n28)).set1 2 (.string (bs R))).set1 3 (.slice Ai st.items.length ci)).set1 4 (.slice Ap st.paths.length cp)).set2 0 (.int .i64 0)
                  have hP := pmem_res (by omega) (by omega) HM5.out hT ⟨(((((HM5.out.r.p.set_ 0 (.int .i64 n24)).set_ 1 (.int .i64 n28)).set_ 2 (.string (bs R))).set_ 3 (.slice Ai st.items.length ci)).set_ 4 (.slice Ap st.paths.length cp)).far (p := ⟨w.heap.size + 1, 0, none⟩) (Nat.ne_of_lt (Nat.lt_succ_self _)) _,
                    (((((HM5.out.r.e.far (p := ⟨w.heap.size, 0, none⟩) (Nat.succ_ne_self _) _).far (p := ⟨w.heap.size, 1, none⟩) (Nat.succ_ne_self _) _).far (p := ⟨w.heap.size, 2, none⟩) (Nat.succ_ne_self _) _).far (p := ⟨w.heap.size, 3, none⟩) (Nat.succ_ne_self _) _).far (p := ⟨w.heap.size, 4, none⟩) (Nat.succ_ne_self _) _).set_ 0 _, rfl, HM5.out.r.ne⟩
                  exact parse_end HN.out w _ w.heap.size (w.heap.size + 1) (HB5.out.trans (hT.below HB5.out.size (Nat.le_refl _) (Nat.le_succ _))) _ _ hP.r (TextsAt.of_own hP.oi) (pmem_paths_at hP) _ rfl rfl
                · have HN : Hid (parseP t = none) := by show _ = _; unfold parseP; rw [HPk.out]; simp [← hTT, hTt]
                  have e2 : ((bs T).toList == (bs t).toList) = false := by rw [beq_eq_false_iff_ne, bs_toList, bs_toList]; exact hTt
                  clear hfo hTT hTt HT
                  go_wp2_with fail
                  refine CT.mono ?_
                  rintro e w5 ⟨rfl, hb⟩
                  go_wp2_with fail
                  exact parse_odd HN.out w w5 w.heap.size (w.heap.size + 1) (Nat.le_refl _) (Nat.le_succ _) (below_to HBr.out (Nat.le_refl _) hb) _ (HM.out.to hb).r _ rfl rfl _
    · have HN : Hid (parseP t = none) := parse_no (by unfold preP; rw [decide_eq_false h5, Bool.and_false]; rfl)
      have e5 : (((lnP t).length : Int) != 5) = true := by rw [bne_iff_ne]; omega
      clear h5 hok
      go_wp2_with fail
      exact parse_odd HN.out w w2 w.heap.size (w.heap.size + 1) (Nat.le_refl _) (Nat.le_succ _) HB2.out _ ⟨HPR2.out.p, HPR2.out.e, rfl, HPR2.out.ne⟩ _ rfl rfl _
end Go.Proofs.YtfhanbiifjiklaaGreatDoor
