/- Several texts as one, in build order. -/
import Derived.Test.YtnjlefggkfagmaaGreatDoorMB
import Derived.Laws.MakeOwn
import Derived.Test.YtnjlefggkfagmaaGreatDoorMA
/- Parse: the head line. -/
set_option linter.unusedVariables false
set_option linter.unusedSimpArgs false
namespace Go.Proofs.YtnjlefggkfagmaaGreatDoor
open Go.RowKit Go.Shelf
attribute [local go_sem] Oper.semAt_some


theorem info_str : (Tryz.prog.info? 9).map (fun i => (i.zero, i.size, i.bytes)) = some (some (.string ⟨#[]⟩), 1, 16) := by kernel_rfl
theorem info_sl : (Tryz.prog.info? 22).map (fun i => (i.zero, i.size, i.bytes)) = some (some (.slice none 0 0), 1, 24) := by kernel_rfl

theorem parse_no {t : List UInt8} (h : preP t = none) : parseP t = none := by unfold parseP; rw [h]
set_option maxRecDepth 100000 in
set_option maxHeartbeats 4000000 in
theorem Parse_any (t : List UInt8) (ht : t.length ≤ 100000) (w : World) (hg : Glob w) :
    Calls Tryz.prog 26 #[.string (bs t)] w (ParseR t w) := by
  have hmf : ∀ (fn : Fn) (first cap : Array Value) (w : World), (Instr.makeFunc fn first cap).run Tryz.prog w = .ok (.func fn first cap) w := fun _ _ _ _ => rfl
  have HG := hide hg
  clear hg
  go_enter_defers Tryz.func26, Tryz.ntmps26
  go_wp2_with fail
  have HB := hide (((Below.refl w.heap.size w).alloc (Nat.le_refl _) (.cells noCs 38)).alloc (by simp) (.cells #[.int .i64 0] 39))
  have HPR : Hid (PR w.heap.size (w.heap.size + 1) noCs ((w.alloc (.cells noCs 38)).alloc (.cells #[.int .i64 0] 39))) := ⟨(Blk.new w 38 noCs).alloc _, (by have := Blk.new (w.alloc (.cells noCs 38)) 39 #[.int .i64 0]; rwa [World.size_alloc] at this), rfl, by omega⟩
  unfold noCs at HB HPR
  generalize (w.alloc (.cells #[.int .i64 0, .int .i64 0, .string ⟨#[]⟩, .slice none 0 0, .slice none 0 0] 38)).alloc (.cells #[.int .i64 0] 39) = w1 at *
  have hs1 : w.heap.size + 2 ≤ w1.heap.size := by have := HPR.out.e.lt; omega
  have HG1 := hide (HG.out.belowB HB.out HG.out.top)
  have CC := cut_any t (by omega) w1 HG1.out
  unfold CutR at CC
  have hcl := cut_len t [10]
  have hLl := split_len (Lib.cut t [10]).1 [32]
  have hL1 := split_ne (Lib.cut t [10]).1 [32]
  have HLX : Hid ((lnP t).length ≤ 100002 ∧ (∀ x ∈ lnP t, x.length ≤ 100000) ∧ 1 ≤ (lnP t).length ∧ (reP t).length ≤ 100000) := by
    refine ⟨?_, fun x hx => ?_, hL1, ?_⟩
    · show (Lib.split _ _).length ≤ _; omega
    · have := hLl.2 x hx; omega
    · show (Lib.cut t [10]).2.1.length ≤ _; omega
  clear hcl hLl hL1
  cases hok : okP t with
  | false =>
    rw [hok] at CC
    have HN : Hid (parseP t = none) := parse_no (by unfold preP; rw [hok]; rfl)
    clear hok
    refine CC.mono ?_
    rintro e w2 ⟨⟨pv, rfl⟩, hb⟩
    go_wp2_with fail
    exact parse_odd HN.out w w2 w.heap.size (w.heap.size + 1) (Nat.le_refl _) (Nat.le_succ _) (below_to HB.out (Nat.le_refl _) hb) _ ⟨HPR.out.p.to hb, HPR.out.e.to hb, rfl, HPR.out.ne⟩ _ rfl rfl pv
  | true =>
    rw [hok] at CC
    refine CC.mono ?_
    rintro e w2 ⟨g2, c2, rfl, hg2, htx, hb⟩
    have HB2 := hide (below_to HB.out (Nat.le_refl _) hb)
    have HPR2 : Hid (PR w.heap.size (w.heap.size + 1) noCs w2) := ⟨HPR.out.p.to hb, HPR.out.e.to hb, rfl, HPR.out.ne⟩
    have HG2 := hide (HG1.out.to hb)
    have HTX := hide htx
    clear hb htx HB HPR HG1 CC
    by_cases h5 : (lnP t).length = 5
    · obtain ⟨a0, A, B, R, D, hL⟩ : ∃ a b c d e, lnP t = [a, b, c, d, e] := by
        match lnP t, h5 with
        | [a, b, c, d, e], _ => exact ⟨a, b, c, d, e, rfl⟩
      have hlx := HLX.out.2.1
      rw [hL] at hlx HTX
      have hlA : A.length ≤ 281474976710656 := Nat.le_trans (hlx A (by simp)) (by decide)
      have hlB : B.length ≤ 281474976710656 := Nat.le_trans (hlx B (by simp)) (by decide)
      have hlD : D.length ≤ 281474976710656 := Nat.le_trans (hlx D (by simp)) (by decide)
      have hlR : R.length ≤ 100000 := hlx R (by simp)
      have hlr : (reP t).length ≤ 100000 := HLX.out.2.2.2
      have HNA : numO A = none → parseP t = none := fun h => parse_no (by unfold preP; rw [hok, hL]; simp [h])
      have HNB : numO B = none → parseP t = none := fun h => parse_no (by unfold preP; rw [hok, hL]; simp [h])
      have HND : numO D = none → parseP t = none := fun h => parse_no (by unfold preP; rw [hok, hL]; simp [h])
      have HPP : Hid (∀ f s n, numO A = some f → numO B = some s → numO D = some n → preP t = (loopP (min n 51).toNat ⟨[], [], reP t⟩).map fun st => ⟨f, s, R, st.items, st.paths⟩) := fun f s n h1 h2 h3 => by unfold preP; rw [hok, hL]; simp [h1, h2, h3]
      have hgw : g2 ≠ w.heap.size := by omega
      have hgl : ∀ W, Two w.heap.size w.heap.size w2 W → Glob W := fun W hW => HG.out.belowB (HB2.out.trans (hW.below HB2.out.size (Nat.le_refl _) (Nat.le_refl _))) HG.out.top
      have hcell : ∀ W, Two w.heap.size w.heap.size w2 W → ∀ k x, [a0, A, B, R, D][k]? = some x → W.cell? ⟨g2, k, none⟩ = some (.string (bs x)) := fun W hW k x hx => by
        obtain ⟨ad, e, _, hc⟩ := (HTX.out.two hW (fun e => hgw (Option.some.inj e)) (fun e => hgw (Option.some.inj e))).at_ hx
        obtain rfl := Option.some.inj e
        rwa [show (⟨g2, 0, none⟩ : Addr).add k = ⟨g2, k, none⟩ by unfold Addr.add; split <;> simp_all] at hc
      have hc1 := fun W hW => hcell W hW 1 A rfl
      have hc2 := fun W hW => hcell W hW 2 B rfl
      have hc3 := fun W hW => hcell W hW 3 R rfl
      have hc4 := fun W hW => hcell W hW 4 D rfl
      rw [hL]
      clear h5 hok hlx hL HLX hcell
      go_wp2_with fail
      apply wp_region_lo2 (C := fun W => Two w.heap.size w.heap.size w2 W) (V := [some _, some _, some _, none, some _, some _, some _, none, some _, some _, some _, none, none]) (Fs := [(3, fun a (_ : World) => ∃ n, a.tmps[24]? = some (.int .i64 n) ∧ numO A = some n), (7, fun a (_ : World) => ∃ n, a.tmps[28]? = some (.int .i64 n) ∧ numO B = some n), (11, fun a (_ : World) => ∃ f s, a.tmps[32]? = some (.agg #[.int .i64 f, .int .i64 s, .string (bs R), .slice none 0 0, .slice none 0 0]) ∧ numO A = some f ∧ numO B = some s), (12, fun (_ : Act) W => (∃ f s, numO A = some f ∧ numO B = some s ∧ PR w.heap.size (w.heap.size + 1) #[.int .i64 f, .int .i64 s, .string (bs R), .slice none 0 0, .slice none 0 0] W) ∧ Below w.heap.size w W)]) (Ns := [(3, fun _ W => PR w.heap.size (w.heap.size + 1) noCs W ∧ Below w.heap.size w W), (7, fun _ W => PR w.heap.size (w.heap.size + 1) noCs W ∧ Below w.heap.size w W), (12, fun _ W => PR w.heap.size (w.heap.size + 1) noCs W ∧ Below w.heap.size w W)]) (Rel := fun i x x' => if i = 12 then (fun w_ w' => Two w.heap.size w.heap.size w_ w' ∧ True) x x' else Below x.heap.size x x')
      case hm => kernel_rfl
      case hB => kernel_rfl
      case hCw => exact ((Two.refl w.heap.size w.heap.size w2).drewN 1)
      case hC =>
        intro i w_ w' hw hr
        by_cases e12 : i = 12
        · subst e12
          have hr' : (fun w_ w' => Two w.heap.size w.heap.size w_ w' ∧ True) w_ w' := hr
          exact Two.trans hw hr'.1
        have hr' : Below w_.heap.size w_ w' := by simpa [e12] using hr
        exact Two.to hw hr'
      case hst =>
        refine keeps_cons (fun i a a' w_ w' hne hwt hs hr h => by
          by_cases e12 : i = 12
          · subst e12
            have hr' : (fun w_ w' => Two w.heap.size w.heap.size w_ w' ∧ True) w_ w' := hr
            exact h.imp fun n h => ⟨(hs 24 (by kernel_rfl)).trans h.1, h.2⟩
          have hr' : Below w_.heap.size w_ w' := by simpa [e12] using hr
          exact h.imp fun n h => ⟨(hs 24 (by kernel_rfl)).trans h.1, h.2⟩) ?_
        refine keeps_cons (fun i a a' w_ w' hne hwt hs hr h => by
          by_cases e12 : i = 12
          · subst e12
            have hr' : (fun w_ w' => Two w.heap.size w.heap.size w_ w' ∧ True) w_ w' := hr
            exact h.imp fun n h => ⟨(hs 28 (by kernel_rfl)).trans h.1, h.2⟩
          have hr' : Below w_.heap.size w_ w' := by simpa [e12] using hr
          exact h.imp fun n h => ⟨(hs 28 (by kernel_rfl)).trans h.1, h.2⟩) ?_
        refine keeps_cons (fun i a a' w_ w' hne hwt hs hr h => by
          by_cases e12 : i = 12
          · subst e12
            have hr' : (fun w_ w' => Two w.heap.size w.heap.size w_ w' ∧ True) w_ w' := hr
            obtain ⟨f, s, h1, h2⟩ := h
            exact ⟨f, s, (hs 32 (by kernel_rfl)).trans h1, h2⟩
          have hr' : Below w_.heap.size w_ w' := by simpa [e12] using hr
          obtain ⟨f, s, h1, h2⟩ := h
          exact ⟨f, s, (hs 32 (by kernel_rfl)).trans h1, h2⟩) ?_
        refine keeps_cons (fun i a a' w_ w' hne hwt hs hr h => by
          by_cases e12 : i = 12
          · exact absurd e12 hne
          have hr' : Below w_.heap.size w_ w' := by simpa [e12] using hr
          obtain ⟨⟨f, s, h1, h2, h3⟩, h4⟩ := h
          exact ⟨⟨f, s, h1, h2, h3.p.to hr', h3.e.to hr', rfl, h3.ne⟩, below_to h4 (Nat.le_refl _) hr'⟩) ?_
        exact keeps_nil
      case hN0 => exact pre0_cons (⟨⟨HPR2.out.p, HPR2.out.e, rfl, HPR2.out.ne⟩, HB2.out.drew⟩) (pre0_cons (⟨⟨HPR2.out.p, HPR2.out.e, rfl, HPR2.out.ne⟩, HB2.out.drew⟩) (pre0_cons (⟨⟨HPR2.out.p, HPR2.out.e, rfl, HPR2.out.ne⟩, HB2.out.drew⟩) (pre0_nil)))
      case hNst =>
        refine prek_cons (fun i a a' w_ w' hne hwt hr h hp => by
          by_cases e12 : i = 12
          · subst e12
            exact absurd (hwt.symm.trans (show waitsT .any _ _ 12 3 = true by kernel_rfl)) (by decide)
          have hr' : Below w_.heap.size w_ w' := by simpa [e12] using hr
          exact ⟨⟨h.1.p.to hr', h.1.e.to hr', rfl, h.1.ne⟩, below_to h.2 (Nat.le_refl _) hr'⟩) ?_
        refine prek_cons (fun i a a' w_ w' hne hwt hr h hp => by
          by_cases e12 : i = 12
          · subst e12
            exact absurd (hwt.symm.trans (show waitsT .any _ _ 12 7 = true by kernel_rfl)) (by decide)
          have hr' : Below w_.heap.size w_ w' := by simpa [e12] using hr
          exact ⟨⟨h.1.p.to hr', h.1.e.to hr', rfl, h.1.ne⟩, below_to h.2 (Nat.le_refl _) hr'⟩) ?_
        refine prek_cons (fun i a a' w_ w' hne hwt hr h hp => by
          by_cases e12 : i = 12
          · exact absurd e12 hne
          have hr' : Below w_.heap.size w_ w' := by simpa [e12] using hr
          exact ⟨⟨h.1.p.to hr', h.1.e.to hr', rfl, h.1.ne⟩, below_to h.2 (Nat.le_refl _) hr'⟩) ?_
        exact prek_nil
      case hop =>
        refine ⟨?_, ?_, ?_, ?_, ?_, ?_, ?_, ?_, ?_, ?_, ?_, ?_, ?_, trivial⟩
        · intro a w_ K hw hS hd hN hK
          have s4 := hS.at 4 (by kernel_rfl) rfl
          rw [if_pos (want_free rfl)]
          go_simp
          exact hK _ _ (Below.refl _ _) (vok rfl) (facts_cons (fun h => absurd h (by decide)) (facts_cons (fun h => absurd h (by decide)) (facts_cons (fun h => absurd h (by decide)) (facts_cons (fun h => absurd h (by decide)) facts_nil))))
        · intro a w_ K hw hS hd hN hK
          have s21 := (waits_on hd 0 (by kernel_rfl)).at (d := 21) rfl rfl rfl
          rw [if_pos (want_free rfl)]
          go_simp
          exact hK _ _ (Below.refl _ _) (vok rfl) (facts_cons (fun h => absurd h (by decide)) (facts_cons (fun h => absurd h (by decide)) (facts_cons (fun h => absurd h (by decide)) (facts_cons (fun h => absurd h (by decide)) facts_nil))))
        · intro a w_ K hw hS hd hN hK
          have s22 := (waits_on hd 1 (by kernel_rfl)).at (d := 22) rfl rfl rfl
          rw [if_pos (want_free rfl)]
          have c := hc1 w_ hw
          go_simp
          exact hK _ _ (Below.refl _ _) (vok rfl) (facts_cons (fun h => absurd h (by decide)) (facts_cons (fun h => absurd h (by decide)) (facts_cons (fun h => absurd h (by decide)) (facts_cons (fun h => absurd h (by decide)) facts_nil))))
        · intro a w_ K hw hS hd hN hK
          have s23 := (waits_on hd 2 (by kernel_rfl)).at (d := 23) rfl rfl rfl
          obtain ⟨hPR, hBW⟩ := hN _ (List.mem_cons_self ..) rfl
          rw [if_pos (want_free rfl)]
          go_simp
          refine (number_any A hlA w_ (hgl w_ hw)).mono ?_
          rintro e w' ⟨hn, hb⟩
          unfold NumR at hn
          cases hA : numO A with
          | some n =>
            rw [hA] at hn
            subst hn
            exact hK _ _ hb (vfree rfl) (facts_cons (fun _ => ⟨n, hS.put_at (by kernel_rfl) _, hA⟩) (facts_cons (fun h => absurd h (by decide)) (facts_cons (fun h => absurd h (by decide)) (facts_cons (fun h => absurd h (by decide)) facts_nil))))
          | none =>
            rw [hA] at hn
            obtain ⟨pv, rfl⟩ := hn
            have hno : parseP t = none := HNA hA
            have hd2 := hS.at 2 (by kernel_rfl) rfl
            have hd3 := hS.at 3 (by kernel_rfl) rfl
            show Leaves _ _ a.tmps _ a.defers _ _
            rw [hS.1]
            exact parse_odd hno w w' w.heap.size (w.heap.size + 1) (Nat.le_refl _) (Nat.le_succ _) (below_to hBW (Nat.le_refl _) hb) noCs ⟨hPR.p.to hb, hPR.e.to hb, rfl, hPR.ne⟩ _ hd2 hd3 pv
        · intro a w_ K hw hS hd hN hK
          have s4 := hS.at 4 (by kernel_rfl) rfl
          rw [if_pos (want_free rfl)]
          go_simp
          exact hK _ _ (Below.refl _ _) (vok rfl) (facts_cons (fun h => absurd h (by decide)) (facts_cons (fun h => absurd h (by decide)) (facts_cons (fun h => absurd h (by decide)) (facts_cons (fun h => absurd h (by decide)) facts_nil))))
        · intro a w_ K hw hS hd hN hK
          have s25 := (waits_on hd 4 (by kernel_rfl)).at (d := 25) rfl rfl rfl
          rw [if_pos (want_free rfl)]
          go_simp
          exact hK _ _ (Below.refl _ _) (vok rfl) (facts_cons (fun h => absurd h (by decide)) (facts_cons (fun h => absurd h (by decide)) (facts_cons (fun h => absurd h (by decide)) (facts_cons (fun h => absurd h (by decide)) facts_nil))))
        · intro a w_ K hw hS hd hN hK
          have s26 := (waits_on hd 5 (by kernel_rfl)).at (d := 26) rfl rfl rfl
          rw [if_pos (want_free rfl)]
          have c := hc2 w_ hw
          go_simp
          exact hK _ _ (Below.refl _ _) (vok rfl) (facts_cons (fun h => absurd h (by decide)) (facts_cons (fun h => absurd h (by decide)) (facts_cons (fun h => absurd h (by decide)) (facts_cons (fun h => absurd h (by decide)) facts_nil))))
        · intro a w_ K hw hS hd hN hK
          have s27 := (waits_on hd 6 (by kernel_rfl)).at (d := 27) rfl rfl rfl
          obtain ⟨hPR, hBW⟩ := hN _ (List.mem_cons_of_mem _ (List.mem_cons_self ..)) rfl
          rw [if_pos (want_free rfl)]
          go_simp
          refine (number_any B hlB w_ (hgl w_ hw)).mono ?_
          rintro e w' ⟨hn, hb⟩
          unfold NumR at hn
          cases hB : numO B with
          | some n =>
            rw [hB] at hn
            subst hn
            exact hK _ _ hb (vfree rfl) (facts_cons (fun h => absurd h (by decide)) (facts_cons (fun _ => ⟨n, hS.put_at (by kernel_rfl) _, hB⟩) (facts_cons (fun h => absurd h (by decide)) (facts_cons (fun h => absurd h (by decide)) facts_nil))))
          | none =>
            rw [hB] at hn
            obtain ⟨pv, rfl⟩ := hn
            have hno : parseP t = none := HNB hB
            have hd2 := hS.at 2 (by kernel_rfl) rfl
            have hd3 := hS.at 3 (by kernel_rfl) rfl
            show Leaves _ _ a.tmps _ a.defers _ _
            rw [hS.1]
            exact parse_odd hno w w' w.heap.size (w.heap.size + 1) (Nat.le_refl _) (Nat.le_succ _) (below_to hBW (Nat.le_refl _) hb) noCs ⟨hPR.p.to hb, hPR.e.to hb, rfl, hPR.ne⟩ _ hd2 hd3 pv
        · intro a w_ K hw hS hd hN hK
          have s4 := hS.at 4 (by kernel_rfl) rfl
          rw [if_pos (want_free rfl)]
          go_simp
          exact hK _ _ (Below.refl _ _) (vok rfl) (facts_cons (fun h => absurd h (by decide)) (facts_cons (fun h => absurd h (by decide)) (facts_cons (fun h => absurd h (by decide)) (facts_cons (fun h => absurd h (by decide)) facts_nil))))
        · intro a w_ K hw hS hd hN hK
          have s29 := (waits_on hd 8 (by kernel_rfl)).at (d := 29) rfl rfl rfl
          rw [if_pos (want_free rfl)]
          go_simp
          exact hK _ _ (Below.refl _ _) (vok rfl) (facts_cons (fun h => absurd h (by decide)) (facts_cons (fun h => absurd h (by decide)) (facts_cons (fun h => absurd h (by decide)) (facts_cons (fun h => absurd h (by decide)) facts_nil))))
        · intro a w_ K hw hS hd hN hK
          have s30 := (waits_on hd 9 (by kernel_rfl)).at (d := 30) rfl rfl rfl
          rw [if_pos (want_free rfl)]
          have c := hc3 w_ hw
          go_simp
          exact hK _ _ (Below.refl _ _) (vok rfl) (facts_cons (fun h => absurd h (by decide)) (facts_cons (fun h => absurd h (by decide)) (facts_cons (fun h => absurd h (by decide)) (facts_cons (fun h => absurd h (by decide)) facts_nil))))
        · intro a w_ K hw hS hd hN hK
          obtain ⟨n24, s24, h24⟩ := (waits_on hd 3 (by kernel_rfl)).2 _ (List.mem_cons_self ..) rfl
          obtain ⟨n28, s28, h28⟩ := (waits_on hd 7 (by kernel_rfl)).2 _ (List.mem_cons_of_mem _ (List.mem_cons_self ..)) rfl
          have s31 := (waits_on hd 10 (by kernel_rfl)).at (d := 31) rfl rfl rfl
          rw [if_pos (want_free rfl)]
          go_simp
          exact hK _ _ (Below.refl _ _) (vfree rfl) (facts_cons (fun h => absurd h (by decide)) (facts_cons (fun h => absurd h (by decide)) (facts_cons (fun _ => ⟨n24, n28, hS.put_at (by kernel_rfl) _, h24, h28⟩) (facts_cons (fun h => absurd h (by decide)) facts_nil))))
        · intro a w_ K hw hS hd hN hK
          have s2 := hS.at 2 (by kernel_rfl) rfl
          obtain ⟨n32, m32, s32, h32, k32⟩ := (waits_on hd 11 (by kernel_rfl)).2 _ (List.mem_cons_of_mem _ (List.mem_cons_of_mem _ (List.mem_cons_self ..))) rfl
          obtain ⟨hPR, hBW⟩ := hN _ (List.mem_cons_of_mem _ (List.mem_cons_of_mem _ (List.mem_cons_self ..))) rfl
          rw [if_pos (want_free rfl)]
          have c0 := (hPR.p.cell 0).trans (show _ = some (Value.int .i64 0) from rfl)
          have c1 := (hPR.p.cell 1).trans (show _ = some (Value.int .i64 0) from rfl)
          have c2 := (hPR.p.cell 2).trans (show _ = some (Value.string ⟨#[]⟩) from rfl)
          have c3 := (hPR.p.cell 3).trans (show _ = some (Value.slice none 0 0) from rfl)
          have c4 := (hPR.p.cell 4).trans (show _ = some (Value.slice none 0 0) from rfl)
          have f0 := hPR.p.frozen 0
          have f1 := hPR.p.frozen 1
          have f2 := hPR.p.frozen 2
          have f3 := hPR.p.frozen 3
          have f4 := hPR.p.frozen 4
          go_simp
          exact hK undef _ ⟨(((((Two.refl w.heap.size w.heap.size w_).set1 0 _).set1 1 _).set1 2 _).set1 3 _).set1 4 _, trivial⟩ (vfree rfl) (facts_cons (fun h => absurd h (by decide)) (facts_cons (fun h => absurd h (by decide)) (facts_cons (fun h => absurd h (by decide)) (facts_cons (fun _ => ⟨⟨n32, m32, h32, k32, (((((hPR.p.set_ 0 _).set_ 1 _).set_ 2 _).set_ 3 _).set_ 4 _), (((((hPR.e.far (p := ⟨w.heap.size, 0, none⟩) (Nat.succ_ne_self _) _).far (p := ⟨w.heap.size, 1, none⟩) (Nat.succ_ne_self _) _).far (p := ⟨w.heap.size, 2, none⟩) (Nat.succ_ne_self _) _).far (p := ⟨w.heap.size, 3, none⟩) (Nat.succ_ne_self _) _).far (p := ⟨w.heap.size, 4, none⟩) (Nat.succ_ne_self _) _), rfl, hPR.ne⟩, hBW.trans (Two.below (((((((Two.refl w.heap.size w.heap.size w_).set1 0 _).set1 1 _).set1 2 _).set1 3 _).set1 4 _)) hBW.size (Nat.le_refl _) (Nat.le_refl _))⟩) facts_nil))))
      case hfin =>
        intro a w_ hw hS hk
        have s21 := (hk 0 (by decide)).at (d := 21) rfl rfl rfl
        have s22 := (hk 1 (by decide)).at (d := 22) rfl rfl rfl
        have s23 := (hk 2 (by decide)).at (d := 23) rfl rfl rfl
        obtain ⟨n24, s24, h24⟩ := (hk 3 (by decide)).2 _ (List.mem_cons_self ..) rfl
        have s25 := (hk 4 (by decide)).at (d := 25) rfl rfl rfl
        have s26 := (hk 5 (by decide)).at (d := 26) rfl rfl rfl
        have s27 := (hk 6 (by decide)).at (d := 27) rfl rfl rfl
        obtain ⟨n28, s28, h28⟩ := (hk 7 (by decide)).2 _ (List.mem_cons_of_mem _ (List.mem_cons_self ..)) rfl
        have s29 := (hk 8 (by decide)).at (d := 29) rfl rfl rfl
        have s30 := (hk 9 (by decide)).at (d := 30) rfl rfl rfl
        have s31 := (hk 10 (by decide)).at (d := 31) rfl rfl rfl
        obtain ⟨n32, m32, s32, h32, k32⟩ := (hk 11 (by decide)).2 _ (List.mem_cons_of_mem _ (List.mem_cons_of_mem _ (List.mem_cons_self ..))) rfl
        obtain ⟨⟨fr, sz, hfr, hsz, hPR⟩, hBW⟩ := (hk 12 (by decide)).2 _ (List.mem_cons_of_mem _ (List.mem_cons_of_mem _ (List.mem_cons_of_mem _ (List.mem_cons_self ..)))) rfl
        have hlit := hS.lit _ (by kernel_rfl) (lits_cons s21 (lits_cons s22 (lits_cons s23 (lits_cons s24 (lits_cons s25 (lits_cons s26 (lits_cons s27 (lits_cons s28 (lits_cons s29 (lits_cons s30 (lits_cons s31 (lits_cons s32 lits_nil))))))))))))
        rw [hlit]
        clear hlit hk hS s21 s22 s23 s24 s25 s26 s27 s28 s29 s30 s31 s32
        obtain rfl : n24 = fr := Option.some.inj (h24.symm.trans hfr)
        obtain rfl : n28 = sz := Option.some.inj (h28.symm.trans hsz)
        obtain rfl : n24 = n32 := Option.some.inj (h24.symm.trans h32)
        obtain rfl : n28 = m32 := Option.some.inj (h28.symm.trans k32)
        have HGw := hgl w_ hw
        have hc := hc4 w_ hw
        have CN := number_any D hlD w_ HGw
        have HPRw := hide hPR
        have HBw := hide hBW
        simp only [litT, List.setIfInBounds_toArray, List.set_cons_succ, List.set_cons_zero]
        clear hc1 hc2 hc3 hc4 hgl hfr hsz hPR hBW h32 k32 hw HNA HNB HTX HG2 HPR2 HB2
        go_wp2_with fail
        refine CN.mono ?_
        rintro e w3 ⟨hn, hb⟩
        unfold NumR at hn
        cases hD : numO D with
        | none =>
          rw [hD] at hn
          obtain ⟨pv, rfl⟩ := hn
          have HN := HND hD
          clear hD
          go_wp2_with fail
          exact parse_odd HN w w3 w.heap.size (w.heap.size + 1) (Nat.le_refl _) (Nat.le_succ _) (below_to HBw.out (Nat.le_refl _) hb) _ ⟨HPRw.out.p.to hb, HPRw.out.e.to hb, rfl, HPRw.out.ne⟩ _ rfl rfl pv
        | some n =>
          rw [hD] at hn
          subst hn
          have HP : Hid (preP t = (loopP (min n 51).toNat ⟨[], [], reP t⟩).map fun st => ⟨n24, n28, R, st.items, st.paths⟩) := HPP.out _ _ _ h24 h28 hD
          have hr1 := numO_range h24
          have hr2 := numO_range h28
          have hr3 := numO_range hD
          have HP3 : Hid (PR w.heap.size (w.heap.size + 1) #[.int .i64 n24, .int .i64 n28, .string (bs R), .slice none 0 0, .slice none 0 0] w3) := ⟨HPRw.out.p.to hb, HPRw.out.e.to hb, rfl, HPRw.out.ne⟩
          have HB3 := hide (below_to HBw.out (Nat.le_refl _) hb)
          clear hD h24 h28 HPP HND CN hc HPRw HBw hb HGw
          go_wp2_with fail
          obtain ⟨N, hN⟩ : ∃ N : Nat, min n 51 = (N : Int) := ⟨(min n 51).toNat, by omega⟩
          have hN51 : N ≤ 51 := by omega
          rw [hN] at HP ⊢
          rw [Int.toNat_natCast] at HP
          have HP0 : Hid (PRound w.heap.size (w.heap.size + 1) (w.heap.size + 2) w.heap.size N n24 n28 R ⟨[], [], reP t⟩ w 0 ⟨[], [], reP t⟩ w3) := ⟨rfl, rfl, hlr, by simp, by simp, rfl, ⟨_, _, [], HP3.out, World.ownsRow_nil _ _ _ _, World.ownsRow_nil _ _ _ _, fun j q hq => by simp at hq⟩, HB3.out⟩
          clear hN hr3 HP3 HB3 hlA hlB hlD hgw
          generalize reP t = r0 at *
          go_loopw [5, 38] (fun rest i wr => ∃ (k : Nat) (st : PSt), i = .int .i64 (k : Int) ∧ k ≤ N ∧ rest = .string (bs st.rest) ∧ Aside (PRound w.heap.size (w.heap.size + 1) (w.heap.size + 2) w.heap.size N n24 n28 R ⟨[], [], r0⟩ w k st wr)) (fun _ i _ => N - (intOf i).toNat)
          case atStart => exact ⟨0, ⟨[], [], r0⟩, rfl, Nat.zero_le _, rfl, HP0.out⟩
          case round =>
            obtain ⟨k, st, rfl, hk, rfl, hrd⟩ := hrel
            have HR : Hid (PRound w.heap.size (w.heap.size + 1) (w.heap.size + 2) w.heap.size N n24 n28 R ⟨[], [], r0⟩ w k st wr) := hrd
            clear hrd HP0
            obtain ⟨vi, vp, pvs, hm⟩ := HR.out.mem
            have HM := hide hm
            have hswr : w.heap.size + 2 ≤ wr.heap.size := hm.r.e.lt
            obtain ⟨Ai, ci, rfl⟩ := own_sl4 hm.oi
            obtain ⟨Ap, cp, rfl⟩ := own_sl4 hm.op
            clear hm
            have HGr := hide (HG.out.belowB HR.out.bel HG.out.top)
            by_cases hlt : k < N
            · have e1 : decide ((k : Int) < (N : Int)) = true := decide_eq_true (by omega)
              have CC := cut_any st.rest (by have := HR.out.rl; omega) wr HGr.out
              unfold CutR at CC
              have HOD : Hid (stepP st = none → parseP t = none) := fun h => parse_no (by rw [HP.out, HR.out.lp, show N - k = (N - k - 1) + 1 by omega, loopP_no h]; rfl)
              have HST : Hid (∀ st', stepP st = some st' → PRound w.heap.size (w.heap.size + 1) (w.heap.size + 2) w.heap.size N n24 n28 R ⟨[], [], r0⟩ w k st wr → loopP N ⟨[], [], r0⟩ = loopP (N - (k + 1)) st') := fun st' h hr => by
                rw [hr.lp, show N - k = (N - (k + 1)) + 1 by omega, loopP_yes h]
              cases hok : okP st.rest with
              | false =>
                rw [hok] at CC
                have HN := hide (HOD.out (by unfold stepP; rw [hok]; rfl))
                clear hok HOD HST
                go_wp2_with fail
                refine CC.mono ?_
                rintro e w5 ⟨⟨pv, rfl⟩, hb⟩
                go_wp2_with fail
                exact parse_odd HN.out w w5 w.heap.size (w.heap.size + 1) (Nat.le_refl _) (Nat.le_succ _) (below_to HR.out.bel (Nat.le_refl _) hb) _ (HM.out.to hb).r _ rfl rfl pv
              | true =>
                rw [hok] at CC
                have hcl := cut_len st.rest [10]
                have hLl := split_len (Lib.cut st.rest [10]).1 [32]
                have hL1 := split_ne (Lib.cut st.rest [10]).1 [32]
                have hrr := HR.out.rl
                obtain ⟨l0, q, hL⟩ : ∃ l0 q, lnP st.rest = l0 :: q := by
                  cases h : lnP st.rest with
                  | nil => rw [show Lib.split (Lib.cut st.rest [10]).1 [32] = lnP st.rest from rfl, h] at hL1; simp at hL1
                  | cons a b => exact ⟨a, b, rfl⟩
                have hl0 : l0.length ≤ 100000 := by have := hLl.2 l0 (by rw [show Lib.split (Lib.cut st.rest [10]).1 [32] = lnP st.rest from rfl, hL]; simp); omega
                have hqn : q.length ≤ 100002 := by have := hLl.1; rw [show Lib.split (Lib.cut st.rest [10]).1 [32] = lnP st.rest from rfl, hL, List.length_cons] at this; omega
                have hr1 : (reP st.rest).length ≤ 100000 := by show (Lib.cut st.rest [10]).2.1.length ≤ _; omega
                have HSP : Hid (stepP st = match numO l0 with | none => none | some v => if (reP st.rest).length ≤ v.toNat then none else some ⟨st.items ++ [(reP st.rest).take v.toNat], st.paths ++ [q], (reP st.rest).drop (v.toNat + 1)⟩) := by
                  show _ = _
                  unfold stepP
                  rw [hok, hL]; rfl
                rw [hL] at CC
                clear hcl hLl hL1 hok hL hrr
                generalize reP st.rest = r1 at *
                go_wp2_with fail
                refine CC.mono ?_
                rintro e w5 ⟨g5, c5, rfl, hg5, htx, hb⟩
                have HM5 := hide (HM.out.to hb)
                have HB5 := hide (below_to HR.out.bel (Nat.le_refl _) hb)
                have HG5 := hide (HGr.out.to hb)
                have HT5 := hide htx
                have c0 : w5.cell? ⟨g5, 0, none⟩ = some (.string (bs l0)) := by
                  obtain ⟨ad, e, _, hc⟩ := htx.at_ (k := 0) (x := l0) rfl
                  obtain rfl := Option.some.inj e
                  exact hc
                have hs5 := hb.size
                have CN := number_any l0 (by omega) w5 HG5.out
                have hsz : (bs r1).size = r1.length := bs_size r1
                have hoR : ∀ k, (Value.ownBlock (.slice Ai st.items.length ci)) = some k → k < wr.heap.size := fun k e => (World.ownsRow.lt HM.out.oi k e).2
                have hvp5 : (Value.ownBlock (.slice Ap st.paths.length cp)) ≠ some g5 := fun e => by have := (World.ownsRow.lt HM.out.op g5 e).2; omega
                clear hb htx CC HM HGr
                rw [List.length_cons]
                go_wp2_with fail
                refine CN.mono ?_
                rintro e w6 ⟨hn, hb⟩
                unfold NumR at hn
                have HM6 := hide (HM5.out.to hb)
                have HB6 := hide (below_to HB5.out (Nat.le_refl _) hb)
                have HT6 := hide (HT5.out.to hb)
                have hs6 := hb.size
                clear hb CN HM5 HB5 HT5
                cases hv : numO l0 with
                | none =>
                  rw [hv] at hn
                  obtain ⟨pv, rfl⟩ := hn
                  have HN := hide (HOD.out (by rw [HSP.out, hv]))
                  clear hv HSP HOD HST
                  go_wp2_with fail
                  exact parse_odd HN.out w w6 w.heap.size (w.heap.size + 1) (Nat.le_refl _) (Nat.le_succ _) HB6.out _ HM6.out.r _ rfl rfl pv
                | some v =>
                  rw [hv] at hn
                  subst hn
                  obtain ⟨m, rfl⟩ : ∃ m : Nat, v = m := ⟨v.toNat, by have := numO_range hv; omega⟩
                  have hmr := numO_range hv
                  have HSP2 : Hid (stepP st = if r1.length ≤ m then none else some ⟨st.items ++ [r1.take m], st.paths ++ [q], r1.drop (m + 1)⟩) := by
                    show _ = _
                    rw [HSP.out, hv]; rfl
                  clear HSP hv
                  by_cases hml : r1.length ≤ m
                  · have e2 : decide ((r1.length : Int) ≤ (m : Int)) = true := decide_eq_true (by omega)
                    have HN := hide (HOD.out (by rw [HSP2.out, if_pos hml]))
                    clear HSP2 HOD HST
                    go_wp2_with fail
                    exact parse_odd HN.out w w6 w.heap.size (w.heap.size + 1) (Nat.le_refl _) (Nat.le_succ _) HB6.out _ HM6.out.r _ rfl rfl _
                  · have e2 : decide ((r1.length : Int) ≤ (m : Int)) = false := decide_eq_false (by omega)
                    have HSP3 : Hid (stepP st = some ⟨st.items ++ [r1.take m], st.paths ++ [q], r1.drop (m + 1)⟩) := by
                      show _ = _
                      rw [HSP2.out, if_neg hml]
                    have hmlt : m < r1.length := by omega
                    clear HSP2 HOD hml
                    go_wp2_with fail
                    have hil : st.items.length ≤ 51 := by have := HR.out.ki; omega
                    have hpl : st.paths.length ≤ 51 := by have := HR.out.kp; omega
                    have hwr6 : w.heap.size + 2 ≤ wr.heap.size := hswr
                    have hg56 : g5 < w6.heap.size := by
                      obtain ⟨ad, e, hl, _⟩ := HT6.out.at_ (k := 0) (x := l0) rfl
                      obtain rfl := Option.some.inj e
                      exact hl
                    have hsw6 : w.heap.size + 2 ≤ w6.heap.size := HM6.out.r.e.lt
                    have hoL : ∀ k, (Value.ownBlock (.slice Ai st.items.length ci)) = some k → w.heap.size + 2 ≤ k := fun k e => (World.ownsRow.lt HM6.out.oi k e).1
                    have hoS : ∀ k, (Value.ownBlock (.slice Ai st.items.length ci)) = some k → k < w6.heap.size := fun k e => (World.ownsRow.lt HM6.out.oi k e).2
                    have hoN : ∀ k, k < w.heap.size + 2 → some k ≠ (Value.ownBlock (.slice Ai st.items.length ci)) := fun k hk e => by have := hoL k e.symm; omega
                    apply wp_region_lo2 (C := fun W => Two w.heap.size (rowOr (.slice Ai st.items.length ci) w.heap.size) w6 W) (V := [some _, some _, some _, some _, some _, none, none, some _, none]) (Fs := [(5, fun a W => ∃ b, a.tmps[60]? = some (.slice (some ⟨b, 0, none⟩) 1 1) ∧ Blk W b 9 #[.string ((bs r1).extract 0 m)] ∧ w6.heap.size ≤ b), (6, fun a W => ∃ v', a.tmps[61]? = some v' ∧ World.ownsRow W (w.heap.size + 2) 9 1 v' (st.items.length + 1) ((flatS st.items) ++ [.string ((bs r1).extract 0 m)]) ∧ (v'.ownBlock = Value.ownBlock (.slice Ai st.items.length ci) ∨ ∃ g, v'.ownBlock = some g ∧ w6.heap.size ≤ g)), (8, fun a W => ∃ v', a.tmps[61]? = some v' ∧ PR w.heap.size (w.heap.size + 1) #[.int .i64 n24, .int .i64 n28, .string (bs R), v', .slice Ap st.paths.length cp] W ∧ Below w.heap.size w W)]) (Ns := [(1, fun (_ : Act) W => PR w.heap.size (w.heap.size + 1) #[.int .i64 n24, .int .i64 n28, .string (bs R), .slice Ai st.items.length ci, .slice Ap st.paths.length cp] W), (6, fun (_ : Act) W => World.ownsRow W (w.heap.size + 2) 9 1 (.slice Ai st.items.length ci) st.items.length (flatS st.items) ∧ w6.heap.size ≤ W.heap.size), (8, fun (_ : Act) W => PR w.heap.size (w.heap.size + 1) #[.int .i64 n24, .int .i64 n28, .string (bs R), .slice Ai st.items.length ci, .slice Ap st.paths.length cp] W ∧ Below w.heap.size w W)]) (Rel := fun i x x' => if i = 6 then (fun x x' => World.grownBy x x' (Value.ownBlock (.slice Ai st.items.length ci))) x x' else if i = 8 then (fun x x' => ∃ u, x' = World.setCell x ⟨w.heap.size, 3, none⟩ u) x x' else Below x.heap.size x x')
                    case hm => kernel_rfl
                    case hB => kernel_rfl
                    case hCw => exact ((Two.refl w.heap.size (rowOr (.slice Ai st.items.length ci) w.heap.size) w6).drewN 1)
                    case hC =>
                      intro i w_ w' hw hr
                      by_cases e6 : i = 6
                      · subst e6
                        have hr' : (fun x x' => World.grownBy x x' (Value.ownBlock (.slice Ai st.items.length ci))) w_ w' := hr
                        exact Two.trans hw (Two.grown hr')
                      by_cases e8 : i = 8
                      · subst e8
                        have hr' : (fun x x' => ∃ u, x' = World.setCell x ⟨w.heap.size, 3, none⟩ u) w_ w' := hr
                        obtain ⟨u, rfl⟩ := hr'
                        exact Two.set1 hw _ u
                      have hr' : Below w_.heap.size w_ w' := by simpa [e6, e8] using hr
                      exact Two.to hw hr'
                    case hst =>
                      refine keeps_cons (fun i a a' w_ w' hne hwt hs hr h => by
                        by_cases e6 : i = 6
                        · subst e6
                          have hr' : (fun x x' => World.grownBy x x' (Value.ownBlock (.slice Ai st.items.length ci))) w_ w' := hr
                          obtain ⟨b, h1, h2, h3⟩ := h
                          exact ⟨b, (hs 60 (by kernel_rfl)).trans h1, (hr'.block b h2.lt (fun e => absurd (hoS b e.symm) (by omega))).trans h2, h3⟩
                        by_cases e8 : i = 8
                        · subst e8
                          have hr' : (fun x x' => ∃ u, x' = World.setCell x ⟨w.heap.size, 3, none⟩ u) w_ w' := hr
                          obtain ⟨b, h1, h2, h3⟩ := h
                          obtain ⟨u, rfl⟩ := hr'
                          exact ⟨b, (hs 60 (by kernel_rfl)).trans h1, h2.far (p := ⟨w.heap.size, 3, none⟩) (by show b ≠ w.heap.size; omega) u, h3⟩
                        have hr' : Below w_.heap.size w_ w' := by simpa [e6, e8] using hr
                        obtain ⟨b, h1, h2, h3⟩ := h
                        exact ⟨b, (hs 60 (by kernel_rfl)).trans h1, h2.to hr', h3⟩) ?_
                      refine keeps_cons (fun i a a' w_ w' hne hwt hs hr h => by
                        by_cases e6 : i = 6
                        · exact absurd e6 hne
                        by_cases e8 : i = 8
                        · subst e8
                          have hr' : (fun x x' => ∃ u, x' = World.setCell x ⟨w.heap.size, 3, none⟩ u) w_ w' := hr
                          obtain ⟨b, h1, h2, h3⟩ := h
                          obtain ⟨u, rfl⟩ := hr'
                          exact ⟨b, (hs 61 (by kernel_rfl)).trans h1, ownsRow_set h2 (fun e => by have := (World.ownsRow.lt h2 _ e).1; omega), h3⟩
                        have hr' : Below w_.heap.size w_ w' := by simpa [e6, e8] using hr
                        obtain ⟨b, h1, h2, h3⟩ := h
                        exact ⟨b, (hs 61 (by kernel_rfl)).trans h1, ownsRow_to h2 hr', h3⟩) ?_
                      refine keeps_cons (fun i a a' w_ w' hne hwt hs hr h => by
                        by_cases e6 : i = 6
                        · subst e6
                          exact absurd (hwt.symm.trans (show Region.waitsFor .any _ 8 6 = true by kernel_rfl)) (by decide)
                        by_cases e8 : i = 8
                        · exact absurd e8 hne
                        have hr' : Below w_.heap.size w_ w' := by simpa [e6, e8] using hr
                        obtain ⟨b, h1, h2, h3⟩ := h
                        exact ⟨b, (hs 61 (by kernel_rfl)).trans h1, ⟨h2.p.to hr', h2.e.to hr', rfl, h2.ne⟩, below_to h3 (Nat.le_refl _) hr'⟩) ?_
                      exact keeps_nil
                    case hN0 => exact pre0_cons (⟨HM6.out.r.p, HM6.out.r.e, rfl, HM6.out.r.ne⟩) (pre0_cons (⟨HM6.out.oi, Nat.le_refl _⟩) (pre0_cons (⟨⟨HM6.out.r.p, HM6.out.r.e, rfl, HM6.out.r.ne⟩, HB6.out.drew⟩) (pre0_nil)))
                    case hNst =>
                      refine prek_cons (fun i a a' w_ w' hne hwt hr h hp => by
                        by_cases e6 : i = 6
                        · subst e6
                          exact absurd (hwt.symm.trans (show waitsT .any _ _ 6 1 = true by kernel_rfl)) (by decide)
                        by_cases e8 : i = 8
                        · subst e8
                          exact absurd (hwt.symm.trans (show waitsT .any _ _ 8 1 = true by kernel_rfl)) (by decide)
                        have hr' : Below w_.heap.size w_ w' := by simpa [e6, e8] using hr
                        exact ⟨h.p.to hr', h.e.to hr', rfl, h.ne⟩) ?_
                      refine prek_cons (fun i a a' w_ w' hne hwt hr h hp => by
                        by_cases e6 : i = 6
                        · exact absurd e6 hne
                        by_cases e8 : i = 8
                        · subst e8
                          exact absurd (hwt.symm.trans (show waitsT .any _ _ 8 6 = true by kernel_rfl)) (by decide)
                        have hr' : Below w_.heap.size w_ w' := by simpa [e6, e8] using hr
                        exact ⟨ownsRow_to h.1 hr', Nat.le_trans h.2 hr'.size⟩) ?_
                      refine prek_cons (fun i a a' w_ w' hne hwt hr h hp => by
                        by_cases e6 : i = 6
                        · subst e6
                          have hr' : (fun x x' => World.grownBy x x' (Value.ownBlock (.slice Ai st.items.length ci))) w_ w' := hr
                          exact ⟨⟨(hr'.block w.heap.size h.1.p.lt (hoN _ (by omega))).trans h.1.p, (hr'.block (w.heap.size + 1) h.1.e.lt (hoN _ (by omega))).trans h.1.e, rfl, h.1.ne⟩, h.2.trans (below_grown hr' h.2.size (fun k e => by have := hoL k e; omega))⟩
                        by_cases e8 : i = 8
                        · exact absurd e8 hne
                        have hr' : Below w_.heap.size w_ w' := by simpa [e6, e8] using hr
                        exact ⟨⟨h.1.p.to hr', h.1.e.to hr', rfl, h.1.ne⟩, below_to h.2 (Nat.le_refl _) hr'⟩) ?_
                      exact prek_nil
                    case hop =>
                      refine ⟨?_, ?_, ?_, ?_, ?_, ?_, ?_, ?_, ?_, trivial⟩
                      · intro a w_ K hw hS hd hN hK
                        have s2 := hS.at 2 (by kernel_rfl) rfl
                        rw [if_pos (want_free rfl)]
                        go_simp
                        exact hK _ _ (Below.refl _ _) (vok rfl) (facts_cons (fun h => absurd h (by decide)) (facts_cons (fun h => absurd h (by decide)) (facts_cons (fun h => absurd h (by decide)) facts_nil)))
                      · intro a w_ K hw hS hd hN hK
                        have s55 := (waits_on hd 0 (by kernel_rfl)).at (d := 55) rfl rfl rfl
                        have hBp := hN _ (List.mem_cons_self ..) rfl
                        rw [if_pos (want_free rfl)]
                        have c0 := (hBp.p.cell 3).trans (show _ = some (Value.slice Ai st.items.length ci) from rfl)
                        go_simp
                        exact hK _ _ (Below.refl _ _) (vok rfl) (facts_cons (fun h => absurd h (by decide)) (facts_cons (fun h => absurd h (by decide)) (facts_cons (fun h => absurd h (by decide)) facts_nil)))
                      · intro a w_ K hw hS hd hN hK
                        have s5 := hS.at 5 (by kernel_rfl) rfl
                        rw [if_pos (want_free rfl)]
                        go_simp
                        exact hK _ _ (Below.refl _ _) (vok rfl) (facts_cons (fun h => absurd h (by decide)) (facts_cons (fun h => absurd h (by decide)) (facts_cons (fun h => absurd h (by decide)) facts_nil)))
                      · intro a w_ K hw hS hd hN hK
                        have s7 := hS.at 7 (by kernel_rfl) rfl
                        rw [if_pos (want_free rfl)]
                        go_simp
                        exact hK _ _ (Below.refl _ _) (vok rfl) (facts_cons (fun h => absurd h (by decide)) (facts_cons (fun h => absurd h (by decide)) (facts_cons (fun h => absurd h (by decide)) facts_nil)))
                      · intro a w_ K hw hS hd hN hK
                        have s57 := (waits_on hd 2 (by kernel_rfl)).at (d := 57) rfl rfl rfl
                        have s58 := (waits_on hd 3 (by kernel_rfl)).at (d := 58) rfl rfl rfl
                        rw [if_pos (want_free rfl)]
                        go_simp
                        simp only [if_pos (show m ≤ r1.length by omega), Oper.upon]
                        exact hK _ _ (Below.refl _ _) (vok rfl) (facts_cons (fun h => absurd h (by decide)) (facts_cons (fun h => absurd h (by decide)) (facts_cons (fun h => absurd h (by decide)) facts_nil)))
                      · intro a w_ K hw hS hd hN hK
                        have s59 := (waits_on hd 4 (by kernel_rfl)).at (d := 59) rfl rfl rfl
                        rw [if_pos (want_free rfl)]
                        go_simp
                        exact hK _ _ (below_one _ _) (vfree rfl) (facts_cons (fun _ => ⟨_, hS.put_at (by kernel_rfl) _, Blk.new _ _ _, (Two.size hw)⟩) (facts_cons (fun h => absurd h (by decide)) (facts_cons (fun h => absurd h (by decide)) facts_nil)))
                      · intro a w_ K hw hS hd hN hK
                        have s56 := (waits_on hd 1 (by kernel_rfl)).at (d := 56) rfl rfl rfl
                        obtain ⟨b60, s60, r60, l60⟩ := (waits_on hd 5 (by kernel_rfl)).2 _ (List.mem_cons_self ..) rfl
                        obtain ⟨hOwn, hSz⟩ := hN _ (List.mem_cons_of_mem _ (List.mem_cons_self ..)) rfl
                        rw [if_pos (want_free rfl)]
                        obtain ⟨i0, hi0, hz0, hz1, hz2⟩ := info_parts info_str
                        refine wp_append_keep w_ (.tmp 56) (.tmp 60) 22 rfl (w.heap.size + 2) 9 i0 _ 1 16 Tryz.underlying22 hi0 hz0 hz1 hz2 rfl (by decide) (.slice Ai st.items.length ci) st.items.length _ (eval_at s56) hOwn ⟨b60, 0, none⟩ 1 1 [.string ((bs r1).extract 0 m)] (eval_at s60) rfl (fun j u hj => by
                          cases j with
                          | zero => simp at hj; subst hj; exact r60.cell 0
                          | succ j => simp at hj) (by intro u hu; simp at hu; subst hu; rfl) (by unfold maxLen; omega) (by omega) (by omega) ?_
                        intro v' w' h2 h3 h4 h5
                        exact hK v' w' h3 (vfree rfl) (facts_cons (fun h => absurd h (by decide)) (facts_cons (fun _ => ⟨v', hS.put_at (by kernel_rfl) _, h2, h5.imp id fun ⟨g, e, hg⟩ => ⟨g, e, Nat.le_trans hSz hg⟩⟩) (facts_cons (fun h => absurd h (by decide)) facts_nil)))
                      · intro a w_ K hw hS hd hN hK
                        have s2 := hS.at 2 (by kernel_rfl) rfl
                        rw [if_pos (want_free rfl)]
                        go_simp
                        exact hK _ _ (Below.refl _ _) (vok rfl) (facts_cons (fun h => absurd h (by decide)) (facts_cons (fun h => absurd h (by decide)) (facts_cons (fun h => absurd h (by decide)) facts_nil)))
                      · intro a w_ K hw hS hd hN hK
                        have s62 := (waits_on hd 7 (by kernel_rfl)).at (d := 62) rfl rfl rfl
                        obtain ⟨v61, s61, o61, k61⟩ := (waits_on hd 6 (by kernel_rfl)).2 _ (List.mem_cons_of_mem _ (List.mem_cons_self ..)) rfl
                        obtain ⟨hPR, hBW⟩ := hN _ (List.mem_cons_of_mem _ (List.mem_cons_of_mem _ (List.mem_cons_self ..))) rfl
                        rw [if_pos (want_free rfl)]
                        have c0 := (hPR.p.cell 3).trans (show _ = some (.slice Ai st.items.length ci) from rfl)
                        have f0 := hPR.p.frozen 3
                        obtain ⟨A0, c0', rfl⟩ := own_sl4 o61
                        go_simp
                        exact hK undef _ ⟨_, rfl⟩ (vfree rfl) (facts_cons (fun h => absurd h (by decide)) (facts_cons (fun h => absurd h (by decide)) (facts_cons (fun _ => ⟨_, s61, ⟨hPR.p.set_ 3 _, hPR.e.far (p := ⟨w.heap.size, 3, none⟩) (Nat.succ_ne_self _) _, rfl, hPR.ne⟩, hBW.setCell (p := ⟨w.heap.size, 3, none⟩) (Nat.le_refl _) _⟩) facts_nil)))
                    case hfin =>
                      intro a w7 hw hS hk
                      have s55 := (hk 0 (by decide)).at (d := 55) rfl rfl rfl
                      have s56 := (hk 1 (by decide)).at (d := 56) rfl rfl rfl
                      have s57 := (hk 2 (by decide)).at (d := 57) rfl rfl rfl
                      have s58 := (hk 3 (by decide)).at (d := 58) rfl rfl rfl
                      have s59 := (hk 4 (by decide)).at (d := 59) rfl rfl rfl
                      obtain ⟨b60, s60, r60, l60⟩ := (hk 5 (by decide)).2 _ (List.mem_cons_self ..) rfl
                      obtain ⟨v61, s61, o61, k61⟩ := (hk 6 (by decide)).2 _ (List.mem_cons_of_mem _ (List.mem_cons_self ..)) rfl
                      have s62 := (hk 7 (by decide)).at (d := 62) rfl rfl rfl
                      obtain ⟨z61, zs61, zP, zB⟩ := (hk 8 (by decide)).2 _ (List.mem_cons_of_mem _ (List.mem_cons_of_mem _ (List.mem_cons_self ..))) rfl
                      have hlit := hS.lit _ (by kernel_rfl) (lits_cons s55 (lits_cons s56 (lits_cons s57 (lits_cons s58 (lits_cons s59 (lits_cons s60 (lits_cons s61 (lits_cons s62 lits_nil))))))))
                      rw [hlit]
                      obtain rfl : v61 = z61 := Option.some.inj (s61.symm.trans zs61)
                      clear hlit hk hS s55 s56 s57 s58 s59 s60 s61 s62 zs61 r60 l60
                      have hr1e : (bs r1).extract 0 m = bs (r1.take m) := by rw [bs_cut]; simp
                      rw [hr1e] at o61 ⊢
                      have hT6 := (HT6.out).two hw (fun e => by have : g5 = w.heap.size := Option.some.inj e; omega) (show some g5 ≠ some (rowOr (.slice Ai st.items.length ci) w.heap.size) from rowOr_ne (fun e => by have := hoR g5 e; omega) (by omega))
                      obtain ⟨oe, hoe, hT7⟩ : ∃ oe, (if c5 = 1 then some (⟨g5, 0, none⟩ : Addr) else some ⟨g5, 1, none⟩) = some ⟨g5, oe, none⟩ ∧ TextsAt w7 (.slice (some ⟨g5, oe, none⟩) q.length (c5 - 1)) q := by
                        obtain ⟨A, c, e, hc⟩ := hT6.slice
                        cases e
                        rw [List.length_cons] at hc
                        by_cases h1 : c5 = 1
                        · subst h1
                          have hq0 : q = [] := List.eq_nil_of_length_eq_zero (by omega)
                          subst hq0
                          exact ⟨0, rfl, some ⟨g5, 0, none⟩, 0, rfl, Nat.le_refl _, by simp, fun k p hp => by simp at hp⟩
                        · refine ⟨1, if_neg h1, ?_⟩
                          have h2 := hT6.drop (k := 1) (by simp) (c5 - 1) (by rw [List.length_cons]; omega)
                          rwa [show (⟨g5, 0, none⟩ : Addr).add 1 = ⟨g5, 1, none⟩ by unfold Addr.add; split <;> simp_all, List.length_cons, Nat.add_sub_cancel] at h2
                      clear hT6
                      have hv61 : v61.ownBlock ≠ some g5 := by
                        rcases k61 with h | ⟨k, h, hk⟩
                        · rw [h]; intro e; have := hoR g5 e; omega
                        · rw [h]; intro e; cases e; omega
                      have hM7 := pmem_items (by omega) HM6.out hw zP (r1.take m) o61 k61 r1
                      obtain ⟨A1, c1, rfl⟩ := own_sl4 o61
                      have HM7 := hide hM7
                      have HT7 := hide hT7
                      have HB7 := hide zB
                      have hsw7 : w6.heap.size ≤ w7.heap.size := hw.size
                      have hqL : ∀ k, (Value.ownBlock (.slice Ap st.paths.length cp)) = some k → w.heap.size + 2 ≤ k := fun k e => (World.ownsRow.lt HM7.out.op k e).1
                      have hqS : ∀ k, (Value.ownBlock (.slice Ap st.paths.length cp)) = some k → k < w7.heap.size := fun k e => (World.ownsRow.lt HM7.out.op k e).2
                      have hqN : ∀ k, k < w.heap.size + 2 → some k ≠ (Value.ownBlock (.slice Ap st.paths.length cp)) := fun k hk e => by have := hqL k e.symm; omega
                      clear hw zP zB o61 k61 hM7 hT7 hr1e HM6 HT6 HB6
                      simp only [litT, List.setIfInBounds_toArray, List.set_cons_succ, List.set_cons_zero]
                      go_wp2_with fail
                      apply wp_region_lo2 (C := fun W => Two w.heap.size (rowOr (.slice Ap st.paths.length cp) w.heap.size) w7 W) (V := [some _, some _, some _, some _, none, none, some _, none]) (Fs := [(4, fun a W => ∃ b, a.tmps[67]? = some (.slice (some ⟨b, 0, none⟩) 1 1) ∧ Blk W b 22 #[.slice (some ⟨g5, oe, none⟩) q.length (c5 - 1)] ∧ w7.heap.size ≤ b), (5, fun a W => ∃ v', a.tmps[68]? = some v' ∧ World.ownsRow W (w.heap.size + 2) 22 1 v' (st.paths.length + 1) (pvs ++ [.slice (some ⟨g5, oe, none⟩) q.length (c5 - 1)]) ∧ (v'.ownBlock = Value.ownBlock (.slice Ap st.paths.length cp) ∨ ∃ g, v'.ownBlock = some g ∧ w7.heap.size ≤ g)), (7, fun a W => ∃ v', a.tmps[68]? = some v' ∧ PR w.heap.size (w.heap.size + 1) #[.int .i64 n24, .int .i64 n28, .string (bs R), .slice A1 (st.items.length + 1) c1, v'] W ∧ Below w.heap.size w W)]) (Ns := [(1, fun (_ : Act) W => PR w.heap.size (w.heap.size + 1) #[.int .i64 n24, .int .i64 n28, .string (bs R), .slice A1 (st.items.length + 1) c1, .slice Ap st.paths.length cp] W), (5, fun (_ : Act) W => World.ownsRow W (w.heap.size + 2) 22 1 (.slice Ap st.paths.length cp) st.paths.length pvs ∧ w7.heap.size ≤ W.heap.size), (7, fun (_ : Act) W => PR w.heap.size (w.heap.size + 1) #[.int .i64 n24, .int .i64 n28, .string (bs R), .slice A1 (st.items.length + 1) c1, .slice Ap st.paths.length cp] W ∧ Below w.heap.size w W)]) (Rel := fun i x x' => if i = 5 then (fun x x' => World.grownBy x x' (Value.ownBlock (.slice Ap st.paths.length cp))) x x' else if i = 7 then (fun x x' => ∃ u, x' = World.setCell x ⟨w.heap.size, 4, none⟩ u) x x' else Below x.heap.size x x')
                      case hm => kernel_rfl
                      case hB => kernel_rfl
                      case hCw => exact ((Two.refl w.heap.size (rowOr (.slice Ap st.paths.length cp) w.heap.size) w7).drewN 1)
                      case hC =>
                        intro i w_ w' hw hr
                        by_cases e5 : i = 5
                        · subst e5
                          have hr' : (fun x x' => World.grownBy x x' (Value.ownBlock (.slice Ap st.paths.length cp))) w_ w' := hr
                          exact Two.trans hw (Two.grown hr')
                        by_cases e7 : i = 7
                        · subst e7
                          have hr' : (fun x x' => ∃ u, x' = World.setCell x ⟨w.heap.size, 4, none⟩ u) w_ w' := hr
                          obtain ⟨u, rfl⟩ := hr'
                          exact Two.set1 hw _ u
                        have hr' : Below w_.heap.size w_ w' := by simpa [e5, e7] using hr
                        exact Two.to hw hr'
                      case hst =>
                        refine keeps_cons (fun i a a' w_ w' hne hwt hs hr h => by
                          by_cases e5 : i = 5
                          · subst e5
                            have hr' : (fun x x' => World.grownBy x x' (Value.ownBlock (.slice Ap st.paths.length cp))) w_ w' := hr
                            obtain ⟨b, h1, h2, h3⟩ := h
                            exact ⟨b, (hs 67 (by kernel_rfl)).trans h1, (hr'.block b h2.lt (fun e => absurd (hqS b e.symm) (by omega))).trans h2, h3⟩
                          by_cases e7 : i = 7
                          · subst e7
                            have hr' : (fun x x' => ∃ u, x' = World.setCell x ⟨w.heap.size, 4, none⟩ u) w_ w' := hr
                            obtain ⟨b, h1, h2, h3⟩ := h
                            obtain ⟨u, rfl⟩ := hr'
                            exact ⟨b, (hs 67 (by kernel_rfl)).trans h1, h2.far (p := ⟨w.heap.size, 4, none⟩) (by show b ≠ w.heap.size; omega) u, h3⟩
                          have hr' : Below w_.heap.size w_ w' := by simpa [e5, e7] using hr
                          obtain ⟨b, h1, h2, h3⟩ := h
                          exact ⟨b, (hs 67 (by kernel_rfl)).trans h1, h2.to hr', h3⟩) ?_
                        refine keeps_cons (fun i a a' w_ w' hne hwt hs hr h => by
                          by_cases e5 : i = 5
                          · exact absurd e5 hne
                          by_cases e7 : i = 7
                          · subst e7
                            have hr' : (fun x x' => ∃ u, x' = World.setCell x ⟨w.heap.size, 4, none⟩ u) w_ w' := hr
                            obtain ⟨b, h1, h2, h3⟩ := h
                            obtain ⟨u, rfl⟩ := hr'
                            exact ⟨b, (hs 68 (by kernel_rfl)).trans h1, ownsRow_set h2 (fun e => by have := (World.ownsRow.lt h2 _ e).1; omega), h3⟩
                          have hr' : Below w_.heap.size w_ w' := by simpa [e5, e7] using hr
                          obtain ⟨b, h1, h2, h3⟩ := h
                          exact ⟨b, (hs 68 (by kernel_rfl)).trans h1, ownsRow_to h2 hr', h3⟩) ?_
                        refine keeps_cons (fun i a a' w_ w' hne hwt hs hr h => by
                          by_cases e5 : i = 5
                          · subst e5
                            exact absurd (hwt.symm.trans (show Region.waitsFor .any _ 7 5 = true by kernel_rfl)) (by decide)
                          by_cases e7 : i = 7
                          · exact absurd e7 hne
                          have hr' : Below w_.heap.size w_ w' := by simpa [e5, e7] using hr
                          obtain ⟨b, h1, h2, h3⟩ := h
                          exact ⟨b, (hs 68 (by kernel_rfl)).trans h1, ⟨h2.p.to hr', h2.e.to hr', rfl, h2.ne⟩, below_to h3 (Nat.le_refl _) hr'⟩) ?_
                        exact keeps_nil
                      case hN0 => exact pre0_cons (⟨HM7.out.r.p, HM7.out.r.e, rfl, HM7.out.r.ne⟩) (pre0_cons (⟨HM7.out.op, Nat.le_refl _⟩) (pre0_cons (⟨⟨HM7.out.r.p, HM7.out.r.e, rfl, HM7.out.r.ne⟩, HB7.out.drew⟩) (pre0_nil)))
                      case hNst =>
                        refine prek_cons (fun i a a' w_ w' hne hwt hr h hp => by
                          by_cases e5 : i = 5
                          · subst e5
                            exact absurd (hwt.symm.trans (show waitsT .any _ _ 5 1 = true by kernel_rfl)) (by decide)
                          by_cases e7 : i = 7
                          · subst e7
                            exact absurd (hwt.symm.trans (show waitsT .any _ _ 7 1 = true by kernel_rfl)) (by decide)
                          have hr' : Below w_.heap.size w_ w' := by simpa [e5, e7] using hr
                          exact ⟨h.p.to hr', h.e.to hr', rfl, h.ne⟩) ?_
                        refine prek_cons (fun i a a' w_ w' hne hwt hr h hp => by
                          by_cases e5 : i = 5
                          · exact absurd e5 hne
                          by_cases e7 : i = 7
                          · subst e7
                            exact absurd (hwt.symm.trans (show waitsT .any _ _ 7 5 = true by kernel_rfl)) (by decide)
                          have hr' : Below w_.heap.size w_ w' := by simpa [e5, e7] using hr
                          exact ⟨ownsRow_to h.1 hr', Nat.le_trans h.2 hr'.size⟩) ?_
                        refine prek_cons (fun i a a' w_ w' hne hwt hr h hp => by
                          by_cases e5 : i = 5
                          · subst e5
                            have hr' : (fun x x' => World.grownBy x x' (Value.ownBlock (.slice Ap st.paths.length cp))) w_ w' := hr
                            exact ⟨⟨(hr'.block w.heap.size h.1.p.lt (hqN _ (by omega))).trans h.1.p, (hr'.block (w.heap.size + 1) h.1.e.lt (hqN _ (by omega))).trans h.1.e, rfl, h.1.ne⟩, h.2.trans (below_grown hr' h.2.size (fun k e => by have := hqL k e; omega))⟩
                          by_cases e7 : i = 7
                          · exact absurd e7 hne
                          have hr' : Below w_.heap.size w_ w' := by simpa [e5, e7] using hr
                          exact ⟨⟨h.1.p.to hr', h.1.e.to hr', rfl, h.1.ne⟩, below_to h.2 (Nat.le_refl _) hr'⟩) ?_
                        exact prek_nil
                      case hop =>
                        refine ⟨?_, ?_, ?_, ?_, ?_, ?_, ?_, ?_, trivial⟩
                        · intro a w_ K hw hS hd hN hK
                          have s2 := hS.at 2 (by kernel_rfl) rfl
                          rw [if_pos (want_free rfl)]
                          go_simp
                          exact hK _ _ (Below.refl _ _) (vok rfl) (facts_cons (fun h => absurd h (by decide)) (facts_cons (fun h => absurd h (by decide)) (facts_cons (fun h => absurd h (by decide)) facts_nil)))
                        · intro a w_ K hw hS hd hN hK
                          have s63 := (waits_on hd 0 (by kernel_rfl)).at (d := 63) rfl rfl rfl
                          have hBp := hN _ (List.mem_cons_self ..) rfl
                          rw [if_pos (want_free rfl)]
                          have c0 := (hBp.p.cell 4).trans (show _ = some (Value.slice Ap st.paths.length cp) from rfl)
                          go_simp
                          exact hK _ _ (Below.refl _ _) (vok rfl) (facts_cons (fun h => absurd h (by decide)) (facts_cons (fun h => absurd h (by decide)) (facts_cons (fun h => absurd h (by decide)) facts_nil)))
                        · intro a w_ K hw hS hd hN hK
                          have s6 := hS.at 6 (by kernel_rfl) rfl
                          rw [if_pos (want_free rfl)]
                          go_simp
                          exact hK _ _ (Below.refl _ _) (vok rfl) (facts_cons (fun h => absurd h (by decide)) (facts_cons (fun h => absurd h (by decide)) (facts_cons (fun h => absurd h (by decide)) facts_nil)))
                        · intro a w_ K hw hS hd hN hK
                          have s65 := (waits_on hd 2 (by kernel_rfl)).at (d := 65) rfl rfl rfl
                          rw [if_pos (want_free rfl)]
                          go_simp
                          simp only [if_pos (show (1 : Int) ≤ (q.length : Int) + 1 by omega), hoe, Oper.upon]
                          exact hK _ _ (Below.refl _ _) (vok rfl) (facts_cons (fun h => absurd h (by decide)) (facts_cons (fun h => absurd h (by decide)) (facts_cons (fun h => absurd h (by decide)) facts_nil)))
                        · intro a w_ K hw hS hd hN hK
                          have s66 := (waits_on hd 3 (by kernel_rfl)).at (d := 66) rfl rfl rfl
                          rw [if_pos (want_free rfl)]
                          go_simp
                          exact hK _ _ (below_one _ _) (vfree rfl) (facts_cons (fun _ => ⟨_, hS.put_at (by kernel_rfl) _, Blk.new _ _ _, (Two.size hw)⟩) (facts_cons (fun h => absurd h (by decide)) (facts_cons (fun h => absurd h (by decide)) facts_nil)))
                        · intro a w_ K hw hS hd hN hK
                          have s64 := (waits_on hd 1 (by kernel_rfl)).at (d := 64) rfl rfl rfl
                          obtain ⟨b67, s67, r67, l67⟩ := (waits_on hd 4 (by kernel_rfl)).2 _ (List.mem_cons_self ..) rfl
                          obtain ⟨hOwn, hSz⟩ := hN _ (List.mem_cons_of_mem _ (List.mem_cons_self ..)) rfl
                          rw [if_pos (want_free rfl)]
                          obtain ⟨i0, hi0, hz0, hz1, hz2⟩ := info_parts info_sl
                          refine wp_append_keep w_ (.tmp 64) (.tmp 67) 36 rfl (w.heap.size + 2) 22 i0 _ 1 24 Tryz.underlying36 hi0 hz0 hz1 hz2 rfl (by decide) (.slice Ap st.paths.length cp) st.paths.length _ (eval_at s64) hOwn ⟨b67, 0, none⟩ 1 1 [.slice (some ⟨g5, oe, none⟩) q.length (c5 - 1)] (eval_at s67) rfl (fun j u hj => by
                            cases j with
                            | zero => simp at hj; subst hj; exact r67.cell 0
                            | succ j => simp at hj) (by intro u hu; simp at hu; subst hu; rfl) (by unfold maxLen; omega) (by omega) (by omega) ?_
                          intro v' w' h2 h3 h4 h5
                          exact hK v' w' h3 (vfree rfl) (facts_cons (fun h => absurd h (by decide)) (facts_cons (fun _ => ⟨v', hS.put_at (by kernel_rfl) _, h2, h5.imp id fun ⟨g, e, hg⟩ => ⟨g, e, Nat.le_trans hSz hg⟩⟩) (facts_cons (fun h => absurd h (by decide)) facts_nil)))
                        · intro a w_ K hw hS hd hN hK
                          have s2 := hS.at 2 (by kernel_rfl) rfl
                          rw [if_pos (want_free rfl)]
                          go_simp
                          exact hK _ _ (Below.refl _ _) (vok rfl) (facts_cons (fun h => absurd h (by decide)) (facts_cons (fun h => absurd h (by decide)) (facts_cons (fun h => absurd h (by decide)) facts_nil)))
                        · intro a w_ K hw hS hd hN hK
                          have s69 := (waits_on hd 6 (by kernel_rfl)).at (d := 69) rfl rfl rfl
                          obtain ⟨v68, s68, o68, k68⟩ := (waits_on hd 5 (by kernel_rfl)).2 _ (List.mem_cons_of_mem _ (List.mem_cons_self ..)) rfl
                          obtain ⟨hPR, hBW⟩ := hN _ (List.mem_cons_of_mem _ (List.mem_cons_of_mem _ (List.mem_cons_self ..))) rfl
                          rw [if_pos (want_free rfl)]
                          have c0 := (hPR.p.cell 4).trans (show _ = some (.slice Ap st.paths.length cp) from rfl)
                          have f0 := hPR.p.frozen 4
                          obtain ⟨A0, c0', rfl⟩ := own_sl4 o68
                          go_simp
                          exact hK undef _ ⟨_, rfl⟩ (vfree rfl) (facts_cons (fun h => absurd h (by decide)) (facts_cons (fun h => absurd h (by decide)) (facts_cons (fun _ => ⟨_, s68, ⟨hPR.p.set_ 4 _, hPR.e.far (p := ⟨w.heap.size, 4, none⟩) (Nat.succ_ne_self _) _, rfl, hPR.ne⟩, hBW.setCell (p := ⟨w.heap.size, 4, none⟩) (Nat.le_refl _) _⟩) facts_nil)))
                      case hfin =>
                        intro a w8 hw hS hk
                        have s63 := (hk 0 (by decide)).at (d := 63) rfl rfl rfl
                        have s64 := (hk 1 (by decide)).at (d := 64) rfl rfl rfl
                        have s65 := (hk 2 (by decide)).at (d := 65) rfl rfl rfl
                        have s66 := (hk 3 (by decide)).at (d := 66) rfl rfl rfl
                        obtain ⟨b67, s67, r67, l67⟩ := (hk 4 (by decide)).2 _ (List.mem_cons_self ..) rfl
                        obtain ⟨v68, s68, o68, k68⟩ := (hk 5 (by decide)).2 _ (List.mem_cons_of_mem _ (List.mem_cons_self ..)) rfl
                        have s69 := (hk 6 (by decide)).at (d := 69) rfl rfl rfl
                        obtain ⟨z68, zs68, zP, zB⟩ := (hk 7 (by decide)).2 _ (List.mem_cons_of_mem _ (List.mem_cons_of_mem _ (List.mem_cons_self ..))) rfl
                        have hlit := hS.lit _ (by kernel_rfl) (lits_cons s63 (lits_cons s64 (lits_cons s65 (lits_cons s66 (lits_cons s67 (lits_cons s68 (lits_cons s69 lits_nil)))))))
                        rw [hlit]
                        obtain rfl : v68 = z68 := Option.some.inj (s68.symm.trans zs68)
                        clear hlit hk hS s63 s64 s65 s66 s67 s68 s69 zs68 r67 l67
                        obtain ⟨A2, c2', rfl⟩ := own_sl4 o68
                        have HM8 : Hid (PMem w.heap.size (w.heap.size + 1) (w.heap.size + 2) n24 n28 R ⟨st.items ++ [r1.take m], st.paths ++ [q], r1.drop (m + 1)⟩ (.slice A1 (st.items.length + 1) c1) (.slice A2 (st.paths.length + 1) c2') (pvs ++ [.slice (some ⟨g5, oe, none⟩) q.length (c5 - 1)]) w8) :=
                          pmem_paths (st := ⟨st.items ++ [r1.take m], st.paths, r1⟩) (by omega) HM7.out hw _ zP o68 k68 q HT7.out ⟨g5, rfl, by omega, by omega, hv61, hvp5⟩ _
                        have HB8 := hide zB
                        clear hw zP zB o68 k68
                        simp only [litT, List.setIfInBounds_toArray, List.set_cons_succ, List.set_cons_zero]
                        have em : decide (m + 1 ≤ r1.length) = true := decide_eq_true (by omega)
                        go_wp2_with fail
                        refine ⟨⟨k + 1, ⟨st.items ++ [r1.take m], st.paths ++ [q], r1.drop (m + 1)⟩, by go_num, by omega, by rw [bs_drop], ?_⟩, by simp [intOf]; omega⟩
                        obtain ⟨z1, z2, z3, z4, z5⟩ := step_sizes HSP3.out HR.out.rl HR.out.li HR.out.lq
                        exact ⟨by rw [z1, HR.out.ki], by rw [z2, HR.out.kp], z3, z4, z5, HST.out _ HSP3.out HR.out, ⟨_, _, _, HM8.out⟩, HB8.out⟩
            · obtain rfl : k = N := by omega
              have e1 : decide ((k : Int) < (k : Int)) = false := by simp
              have HPk : Hid (preP t = some ⟨n24, n28, R, st.items, st.paths⟩) := by
                show _ = _
                rw [HP.out, HR.out.lp, Nat.sub_self]; rfl
              have hki := HR.out.ki
              have hkp := HR.out.kp
              have hfit : Pg.fit ⟨n24, n28, R, st.items, st.paths⟩ := ⟨by show st.items.length ≤ _; omega, HR.out.li, by show st.paths.length ≤ _; omega, fun q hq => (HR.out.lq q hq).1, fun q hq => (HR.out.lq q hq).2, hlR, by show _ ≤ n24 ∧ n24 ≤ _; omega, by show _ ≤ n28 ∧ n28 ≤ _; omega⟩
              have CT := Text_any ⟨n24, n28, R, st.items, st.paths⟩ hfit (.slice Ai st.items.length ci) (.slice Ap st.paths.length cp) wr HGr.out (TextsAt.of_own HM.out.oi) (pmem_paths_at HM.out)
              unfold Pg.cs at CT
              have x0 := (HM.out.r.p.cell 0).trans (show _ = some (Value.int .i64 n24) from rfl)
              have x1 := (HM.out.r.p.cell 1).trans (show _ = some (Value.int .i64 n28) from rfl)
              have x2 := (HM.out.r.p.cell 2).trans (show _ = some (Value.string (bs R)) from rfl)
              have x3 := (HM.out.r.p.cell 3).trans (show _ = some (Value.slice Ai st.items.length ci) from rfl)
              have x4 := (HM.out.r.p.cell 4).trans (show _ = some (Value.slice Ap st.paths.length cp) from rfl)
              have HBr := hide HR.out.bel
              clear hki hkp hfit HR HP hlt hk
              obtain ⟨T, HT⟩ : ∃ T, Hid (textV ⟨n24, n28, R, st.items, st.paths⟩ = T) := ⟨_, rfl⟩
              cases hfo : formedB ⟨n24, n28, R, st.items, st.paths⟩ with
              | false =>
                have HN : Hid (parseP t = none) := by show _ = _; unfold parseP; rw [HPk.out]; simp [hfo]
                rw [HT.out, show textE ⟨n24, n28, R, st.items, st.paths⟩ = 1 by unfold textE; rw [hfo]; rfl] at CT
                clear hfo
                go_wp2_with fail
                refine CT.mono ?_
                rintro e w5 ⟨rfl, hb⟩
                go_wp2_with fail
                exact parse_odd HN.out w w5 w.heap.size (w.heap.size + 1) (Nat.le_refl _) (Nat.le_succ _) (below_to HBr.out (Nat.le_refl _) hb) _ (HM.out.to hb).r _ rfl rfl _
              | true =>
                have hTT : T = textPg ⟨n24, n28, R, st.items, st.paths⟩ := by rw [← HT.out]; unfold textV; rw [hfo]; rfl
                rw [HT.out, show textE ⟨n24, n28, R, st.items, st.paths⟩ = 0 by unfold textE; rw [hfo]; rfl] at CT
                by_cases hTt : T = t
                · have HN : Hid (parseP t = some ⟨n24, n28, R, st.items, st.paths⟩) := by show _ = _; unfold parseP; rw [HPk.out]; simp [hfo, ← hTT, hTt]
                  have e2 : ((bs T).toList == (bs t).toList) = true := by rw [beq_iff_eq, hTt]
                  clear hfo hTT hTt HT
                  go_wp2_with fail
                  refine CT.mono ?_
                  rintro e w5 ⟨rfl, hb⟩
                  have HM5 := hide (HM.out.to hb)
                  have HB5 := hide (below_to HBr.out (Nat.le_refl _) hb)
                  clear hb CT HM HBr x0 x1 x2 x3 x4
                  have x0 := (HM5.out.r.p.cell 0).trans (show _ = some (Value.int .i64 n24) from rfl)
                  have x1 := (HM5.out.r.p.cell 1).trans (show _ = some (Value.int .i64 n28) from rfl)
                  have x2 := (HM5.out.r.p.cell 2).trans (show _ = some (Value.string (bs R)) from rfl)
                  have x3 := (HM5.out.r.p.cell 3).trans (show _ = some (Value.slice Ai st.items.length ci) from rfl)
                  have x4 := (HM5.out.r.p.cell 4).trans (show _ = some (Value.slice Ap st.paths.length cp) from rfl)
                  have x5 := (HM5.out.r.e.cell 0).trans (show _ = some (Value.int .i64 0) from rfl)
                  have f0 := HM5.out.r.p.frozen 0
                  have f1 := HM5.out.r.p.frozen 1
                  have f2 := HM5.out.r.p.frozen 2
                  have f3 := HM5.out.r.p.frozen 3
                  have f4 := HM5.out.r.p.frozen 4
                  have f5 := HM5.out.r.e.frozen 0
                  go_wp2_with fail
                  have hT := ((((((Two.refl w.heap.size (w.heap.size + 1) w5).set1 0 (.int .i64 n24)).set1 1 (.int .i64 n28)).set1 2 (.string (bs R))).set1 3 (.slice Ai st.items.length ci)).set1 4 (.slice Ap st.paths.length cp)).set2 0 (.int .i64 0)
                  have hP := pmem_res (by omega) (by omega) HM5.out hT ⟨(((((HM5.out.r.p.set_ 0 (.int .i64 n24)).set_ 1 (.int .i64 n28)).set_ 2 (.string (bs R))).set_ 3 (.slice Ai st.items.length ci)).set_ 4 (.slice Ap st.paths.length cp)).far (p := ⟨w.heap.size + 1, 0, none⟩) (Nat.ne_of_lt (Nat.lt_succ_self _)) _,
                    (((((HM5.out.r.e.far (p := ⟨w.heap.size, 0, none⟩) (Nat.succ_ne_self _) _).far (p := ⟨w.heap.size, 1, none⟩) (Nat.succ_ne_self _) _).far (p := ⟨w.heap.size, 2, none⟩) (Nat.succ_ne_self _) _).far (p := ⟨w.heap.size, 3, none⟩) (Nat.succ_ne_self _) _).far (p := ⟨w.heap.size, 4, none⟩) (Nat.succ_ne_self _) _).set_ 0 _, rfl, HM5.out.r.ne⟩
                  exact parse_end HN.out w _ w.heap.size (w.heap.size + 1) (HB5.out.trans (hT.below HB5.out.size (Nat.le_refl _) (Nat.le_succ _))) _ _ hP.r (TextsAt.of_own hP.oi) (pmem_paths_at hP) (fun g e => by have := (World.ownsRow.lt hP.oi g e).1; omega) _ rfl rfl
                · have HN : Hid (parseP t = none) := by show _ = _; unfold parseP; rw [HPk.out]; simp [← hTT, hTt]
                  have e2 : ((bs T).toList == (bs t).toList) = false := by rw [beq_eq_false_iff_ne, bs_toList, bs_toList]; exact hTt
                  clear hfo hTT hTt HT
                  go_wp2_with fail
                  refine CT.mono ?_
                  rintro e w5 ⟨rfl, hb⟩
                  go_wp2_with fail
                  exact parse_odd HN.out w w5 w.heap.size (w.heap.size + 1) (Nat.le_refl _) (Nat.le_succ _) (below_to HBr.out (Nat.le_refl _) hb) _ (HM.out.to hb).r _ rfl rfl _
    · have HN : Hid (parseP t = none) := parse_no (by unfold preP; rw [decide_eq_false h5, Bool.and_false]; rfl)
      have e5 : (((lnP t).length : Int) != 5) = true := by rw [bne_iff_ne]; omega
      clear h5 hok
      go_wp2_with fail
      exact parse_odd HN.out w w2 w.heap.size (w.heap.size + 1) (Nat.le_refl _) (Nat.le_succ _) HB2.out _ ⟨HPR2.out.p, HPR2.out.e, rfl, HPR2.out.ne⟩ _ rfl rfl _
end Go.Proofs.YtnjlefggkfagmaaGreatDoor

/- Pages and where they lie; Serve: what is refused. -/
set_option linter.unusedVariables false
set_option linter.unusedSimpArgs false
namespace Go.Proofs.YtnjlefggkfagmaaGreatDoor
open Go.RowKit

/-- a slice's array lies between two places -/
def InB (lo hi : Nat) (v : Value) : Prop := ∀ g, v.ownBlock = some g → lo ≤ g ∧ g < hi
theorem InB.mono {lo hi lo' hi' : Nat} {v : Value} (h : InB lo hi v) (h1 : lo' ≤ lo) (h2 : hi ≤ hi') : InB lo' hi' v := fun g e => ⟨Nat.le_trans h1 (h g e).1, Nat.lt_of_lt_of_le (h g e).2 h2⟩
theorem InB.out {lo hi p : Nat} {v : Value} (h : InB lo hi v) (hp : p < lo ∨ hi ≤ p) : v.ownBlock ≠ some p := fun e => by have := h p e; omega
/-- a page in memory, its arrays between two places -/
structure PgAt (lo hi : Nat) (w : World) (vi vp : Value) (p : Pg) : Prop where
  ti : TextsAt w vi p.items
  tp : PathsAt w vp p.paths
  bi : InB lo hi vi
  bp : InB lo hi vp
  bq : ∀ k q, p.paths[k]? = some q → InB lo hi (vpsOf w vp k)
theorem vpsOf_eq {w w' : World} {a : Addr} {n c k : Nat} (h : w'.cell? (a.add k) = w.cell? (a.add k)) : vpsOf w' (.slice (some a) n c) k = vpsOf w (.slice (some a) n c) k := by unfold vpsOf; simp only [h]
theorem PgAt.two {lo hi p q : Nat} {w w' : World} {vi vp : Value} {g : Pg} (h : PgAt lo hi w vi vp g) (hb : Two p q w w') (hp : p < lo ∨ hi ≤ p) (hq : q < lo ∨ hi ≤ q) : PgAt lo hi w' vi vp g := by
  have hv : ∀ k x, g.paths[k]? = some x → vpsOf w' vp k = vpsOf w vp k ∧ ∃ a c, vp = .slice (some a) g.paths.length c ∧ a.block < w.heap.size ∧ w.cell? (a.add k) = some (vpsOf w vp k) := fun k x hx => by
    obtain ⟨ht, a, c, e, hl, hc⟩ := h.tp.vps hx
    refine ⟨?_, a, c, e, hl, hc⟩
    rw [e]
    refine vpsOf_eq (World.cell?_of_block ?_)
    rw [block_of_add]
    exact hb.block _ hl (fun e2 => h.bp.out hp (by rw [e, ← e2]; rfl)) (fun e2 => h.bp.out hq (by rw [e, ← e2]; rfl))
  refine ⟨h.ti.two hb (h.bi.out hp) (h.bi.out hq), ?_, h.bi, h.bp, fun k x hx => by rw [(hv k x hx).1]; exact h.bq k x hx⟩
  obtain ⟨A, c, h1, h2, h3⟩ := h.tp
  refine ⟨A, c, h1, h2, fun k x hx => ?_⟩
  obtain ⟨ev, a, c', e, hl, hc⟩ := hv k x hx
  rw [h1] at e
  cases e
  have ht := (h.tp.vps hx).1
  refine ⟨a, vpsOf w vp k, rfl, Nat.lt_of_lt_of_le hl hb.size, ?_, ht.two hb ((h.bq k x hx).out hp) ((h.bq k x hx).out hq)⟩
  rw [← hc]
  refine World.cell?_of_block ?_
  rw [block_of_add]
  exact hb.block _ hl (fun e2 => h.bp.out hp (by rw [h1, ← e2]; rfl)) (fun e2 => h.bp.out hq (by rw [h1, ← e2]; rfl))
theorem PgAt.to {lo hi : Nat} {w w' : World} {vi vp : Value} {g : Pg} (h : PgAt lo hi w vi vp g) (hb : Below w.heap.size w w') : PgAt lo hi w' vi vp g := by
  refine ⟨h.ti.to hb, h.tp.to hb, h.bi, h.bp, fun k x hx => ?_⟩
  obtain ⟨ht, a, c, e, hl, hc⟩ := h.tp.vps hx
  have := h.bq k x hx
  rw [e] at this ⊢
  rwa [vpsOf_eq (hb.cell (p := a.add k) (by rw [block_of_add]; exact hl))]
theorem PgAt.mono {lo hi lo' hi' : Nat} {w : World} {vi vp : Value} {g : Pg} (h : PgAt lo hi w vi vp g) (h1 : lo' ≤ lo) (h2 : hi ≤ hi') : PgAt lo' hi' w vi vp g :=
  ⟨h.ti, h.tp, h.bi.mono h1 h2, h.bp.mono h1 h2, fun k x hx => (h.bq k x hx).mono h1 h2⟩
theorem PgAt.no (lo hi : Nat) (w : World) : PgAt lo hi w (.slice none 0 0) (.slice none 0 0) noPg := ⟨TextsAt.nil w, PathsAt.nil w, (fun g e => by cases e), (fun g e => by cases e), (fun k q h => by simp [noPg] at h)⟩
def leavesV (items : List (List UInt8)) : List (List UInt8) := items.map leafD
def serveB (items : List (List UInt8)) (fr most : Int) : Bool := logB items && (decide (0 ≤ fr ∧ fr ≤ items.length) && decide (1 ≤ most ∧ most ≤ 50))
def pageV (items : List (List UInt8)) (fr most : Nat) : Pg := ⟨fr, items.length, totalT (leavesV items), (items.drop fr).take most, (List.range ((items.drop fr).take most).length).map fun i => pathV (leavesV items) (fr + i)⟩
def serveV (items : List (List UInt8)) (fr most : Int) : Pg := if serveB items fr most then pageV items fr.toNat most.toNat else noPg
def serveE (items : List (List UInt8)) (fr most : Int) : Int := if serveB items fr most then 0 else 1
def ServeR (p : Pg) (k : Int) (w : World) (e : Ending) (w' : World) : Prop := ∃ vi vp, e = .returned (.tuple #[.agg (p.cs vi vp), .int .i64 k]) ∧ PgAt w.heap.size w'.heap.size w' vi vp p ∧ Below w.heap.size w w'
theorem results_page {fn : Func} {p u : Tmp} (h : fn.results = #[.cell p 38, .tmp u]) (tmps : Array Value) (w : World) (bp : Nat) (hp : tmps[p]? = some (.pointer (some ⟨bp, 0, none⟩))) (cs : Array Value) (v : Value) (hv : tmps[u]? = some v)
    (h1 : Blk w bp 38 cs) (hs : cs.size = 5) : (results fn tmps).run Tryz.prog w = .ok (.tuple #[.agg cs, v]) w := by
  have hp' : tmps[p]?.getD undef = .pointer (some ⟨bp, 0, none⟩) := by rw [hp]; rfl
  have hv' : tmps[u]?.getD undef = v := by rw [hv]; rfl
  obtain ⟨c0, c1, c2, c3, c4, rfl⟩ : ∃ a b c d e, cs = #[a, b, c, d, e] := by
    rcases cs with ⟨l⟩
    match l, hs with
    | [a, b, c, d, e], _ => exact ⟨a, b, c, d, e, rfl⟩
  have x0 := (h1.cell 0).trans (show _ = some c0 from rfl)
  have x1 := (h1.cell 1).trans (show _ = some c1 from rfl)
  have x2 := (h1.cell 2).trans (show _ = some c2 from rfl)
  have x3 := (h1.cell 3).trans (show _ = some c3 from rfl)
  have x4 := (h1.cell 4).trans (show _ = some c4 from rfl)
  simp [results, h, hp', hv', go_sem, x0, x1, x2, x3, x4]
end Go.Proofs.YtnjlefggkfagmaaGreatDoor

/- Serve. -/
set_option linter.unusedVariables false
set_option linter.unusedSimpArgs false
namespace Go.Proofs.YtnjlefggkfagmaaGreatDoor
open Go.RowKit

theorem run_make_any {P : Program} {t e : TypeId} {z : Value} {sz : Nat} (ht : P.underlying t = some (.slice e)) (hinfo : (P.info? e).map (fun i => (i.zero, i.size, i.bytes)) = some (some z, 1, sz)) (hz : z.cells = #[z]) {N : Int} {n : Nat} (hN : N = n) (hn : n * sz ≤ 281474976710656) (hn2 : n ≤ 9223372036854775807) (w : World) :
    (Instr.makeSlice t (.int .i64 N) (.int .i64 N)).run P w = .ok (.slice (some ⟨w.heap.size, 0, none⟩) n n) (w.alloc (.cells (madeCells #[z] n) e)) := by
  subst hN
  obtain ⟨i0, hi, hz0, hz1, hz2⟩ := info_parts hinfo
  have hb : (i0.bytes : Int) * (n : Int) ≤ 281474976710656 := by
    have h : ((n * sz : Nat) : Int) ≤ 281474976710656 := by omega
    rwa [Int.natCast_mul, Int.mul_comm, ← hz2] at h
  have h := run_make (P := P) w t e i0 z ht hi hz0 .i64 .i64 (n : Int) (n : Int) (by omega) (by omega) hb (by omega)
  simp only [Int.toNat_natCast, hz1, Nat.mul_one, hz] at h
  exact h
/-- the leaves' array when k are laid -/
def lvL (items : List (List UInt8)) (k : Nat) : List (List UInt8) := (leavesV items).take k ++ List.replicate (items.length - k) []
theorem lvL_made (items : List (List UInt8)) : madeCells #[Value.string ⟨#[]⟩] items.length = strC (lvL items 0) := by
  apply Array.ext_getElem?
  intro i
  simp only [madeCells, strC, lvL, List.take_zero, List.nil_append, Nat.sub_zero, Array.getElem?_map, List.getElem?_toArray, List.getElem?_map, List.map_replicate]
  by_cases h : i < items.length
  · simp [h, Nat.mod_one]; rfl
  · simp [h]
theorem lvL_set (items : List (List UInt8)) {k : Nat} {x : List UInt8} (h : items[k]? = some x) : (strC (lvL items k)).setIfInBounds k (.string (bs (leafD x))) = strC (lvL items (k + 1)) := by
  have hk : k < items.length := (List.getElem?_eq_some_iff.1 h).1
  unfold strC
  rw [List.setIfInBounds_toArray, show Value.string (bs (leafD x)) = (fun l => Value.string (bs l)) (leafD x) from rfl, ← List.map_set]
  congr 2
  unfold lvL leavesV
  rw [List.set_append_right _ _ (by simp; omega)]
  have e1 : k - ((items.map leafD).take k).length = 0 := by simp; omega
  rw [e1, show items.length - k = (items.length - (k + 1)) + 1 by omega, List.replicate_succ, List.set_cons_zero, List.take_add_one]
  simp [h]
theorem lvL_all (items : List (List UInt8)) : lvL items items.length = leavesV items := by
  unfold lvL leavesV
  rw [List.take_of_length_le (by simp), Nat.sub_self]
  simp
theorem lvL_at (items : List (List UInt8)) {k : Nat} (h : k < items.length) : (strC (lvL items k))[k]? = some (.string ⟨#[]⟩) := by
  unfold strC lvL leavesV
  have e : k - ((items.map leafD).take k).length = 0 := by simp; omega
  rw [List.getElem?_toArray, List.getElem?_map, List.getElem?_append_right (by simp; omega), e, show items.length - k = (items.length - (k + 1)) + 1 by omega, List.replicate_succ]
  rfl
theorem TextsAt.of_blk {w : World} {b n : Nat} {t : TypeId} {ls : List (List UInt8)} (h : Blk w b t (strC ls)) (hn : n = ls.length) : TextsAt w (.slice (some ⟨b, 0, none⟩) n n) ls := by
  refine RowsAt.of_blk h (by rw [List.length_map]; exact hn) (Nat.le_refl _) (by simp [strV]) fun k x hx j u hu => ?_
  have := flat_at (size := 1) (ls.map strV) (by simp [strV]) k x j u hx hu
  unfold strC
  rw [List.getElem?_toArray, ← this, flatS_eq]
  rfl
theorem leaves_ok (items : List (List UInt8)) : properT (leavesV items) = true ∧ (∀ x ∈ leavesV items, x.length ≤ 100000000000) ∧ (leavesV items).length = items.length := by
  refine ⟨?_, fun x hx => ?_, by simp [leavesV]⟩
  · unfold properT leavesV
    rw [List.all_eq_true]
    intro x hx
    obtain ⟨y, hy, e⟩ := List.mem_map.1 hx
    rw [← e]
    exact leaf_isD y
  · obtain ⟨y, _, rfl⟩ := List.mem_map.1 hx
    rw [isD_len (leaf_isD y)]
    decide
theorem root_leaves (items : List (List UInt8)) (hn : items.length ≤ 1000) (v : Value) (w : World) (hv : TextsAt w v (leavesV items)) (hg : Glob w) :
    Calls Tryz.prog 23 #[v] w fun e w' => e = .returned (.tuple #[.string (bs (totalT (leavesV items))), .int .i64 0]) ∧ Below w.heap.size w w' := by
  obtain ⟨h1, h2, h3⟩ := leaves_ok items
  have := tRoot_any (leavesV items) (by omega) h2 v w hv hg
  unfold rootV rootE at this
  rw [h1] at this
  exact this
/-- while the leaves are laid -/
structure SvI (w : World) (b : Nat) (items : List (List UInt8)) (k : Nat) (W : World) : Prop where
  bel : Below w.heap.size w W
  res : Blk W w.heap.size 38 noCs
  lv : Blk W b 9 (strC (lvL items k))
/-- while the paths are laid: k of them -/
structure SvJ (w : World) (b2 b5 : Nat) (items I : List (List UInt8)) (F : Nat) (vi vp : Value) (B4 k : Nat) (pvs : List Value) (W : World) : Prop where
  bel : Below w.heap.size w W
  res : Blk W w.heap.size 38 noCs
  out : Blk W b5 38 #[.int .i64 (F : Int), .int .i64 (items.length : Int), .string (bs (totalT (leavesV items))), vi, vp]
  lv : TextsAt W (.slice (some ⟨b2, 0, none⟩) items.length items.length) (leavesV items)
  oi : W.ownsRow B4 9 1 vi I.length (flatS I)
  op : W.ownsRow (b5 + 1) 22 1 vp k pvs
  at_ : ∀ j : Nat, j < k → ∃ pv : Value, pvs[j]? = some pv ∧ TextsAt W pv (pathV (leavesV items) (F + j)) ∧ InB (w.heap.size + 1) W.heap.size pv ∧ ∀ g, pv.ownBlock = some g → g ≠ b5 ∧ vp.ownBlock ≠ some g
  ord : w.heap.size < b2 ∧ b2 < B4 ∧ B4 ≤ b5
theorem SvJ.to {w W W' : World} {b2 b5 : Nat} {items I : List (List UInt8)} {F : Nat} {vi vp : Value} {B4 k : Nat} {pvs : List Value} (h : SvJ w b2 b5 items I F vi vp B4 k pvs W) (hb : Below W.heap.size W W') : SvJ w b2 b5 items I F vi vp B4 k pvs W' :=
  ⟨below_to h.bel (Nat.le_refl _) hb, h.res.to hb, h.out.to hb, h.lv.to hb, ownsRow_to h.oi hb, ownsRow_to h.op hb, fun j hj => by
    obtain ⟨pv, h1, h2, h3, h4⟩ := h.at_ j hj
    exact ⟨pv, h1, h2.to hb, h3.mono (Nat.le_refl _) hb.size, h4⟩, h.ord⟩
theorem SvJ.grow {w W W' : World} {b2 b5 : Nat} {items I : List (List UInt8)} {F : Nat} {vi vp v' : Value} {B4 k : Nat} {pvs : List Value} (h : SvJ w b2 b5 items I F vi vp B4 k pvs W) (hg : W.grownBy W' vp.ownBlock)
    (pv : Value) (hO : W'.ownsRow (b5 + 1) 22 1 v' (k + 1) (pvs ++ [pv])) (hv : v'.ownBlock = vp.ownBlock ∨ ∃ g, v'.ownBlock = some g ∧ W.heap.size ≤ g)
    (hq : TextsAt W pv (pathV (leavesV items) (F + k))) (hI : InB (w.heap.size + 1) W.heap.size pv) (hne : ∀ g, pv.ownBlock = some g → g ≠ b5 ∧ vp.ownBlock ≠ some g) :
    SvJ w b2 b5 items I F vi v' B4 (k + 1) (pvs ++ [pv]) (W'.setCell ⟨b5, 4, none⟩ v') := by
  have hlo : ∀ g, vp.ownBlock = some g → b5 + 1 ≤ g := fun g e => (World.ownsRow.lt h.op g e).1
  have hN : ∀ g, g ≤ b5 → some g ≠ vp.ownBlock := fun g hg e => by have := hlo g e.symm; omega
  have hord := h.ord
  have hs := hg.size
  have hT : Two b5 (rowOr vp b5) W (W'.setCell ⟨b5, 4, none⟩ v') := (Two.grown hg).trans ((Two.refl b5 (rowOr vp b5) W').set1 4 v')
  have hsz : (W'.setCell ⟨b5, 4, none⟩ v').heap.size = W'.heap.size := by simp [World.setCell]
  have hrow : ∀ g, vp.ownBlock ≠ some g → b5 ≠ g → some g ≠ some (rowOr vp b5) := fun g h1 h2 => rowOr_ne h1 h2
  have hall : ∀ (pv : Value) (q : List (List UInt8)), TextsAt W pv q → InB (w.heap.size + 1) W.heap.size pv → (∀ g, pv.ownBlock = some g → g ≠ b5 ∧ vp.ownBlock ≠ some g) →
      TextsAt (W'.setCell ⟨b5, 4, none⟩ v') pv q ∧ InB (w.heap.size + 1) (W'.setCell ⟨b5, 4, none⟩ v').heap.size pv ∧ ∀ g, pv.ownBlock = some g → g ≠ b5 ∧ v'.ownBlock ≠ some g := fun pv q h1 h2 h3 => by
    refine ⟨h1.two hT (fun e => (h3 _ e).1 rfl) ?_, h2.mono (Nat.le_refl _) (by rw [hsz]; exact hs), fun g e => ⟨(h3 g e).1, ?_⟩⟩
    · cases hp : pv.ownBlock with
      | none => simp
      | some g => exact hrow g (h3 g hp).2 (fun e => (h3 g hp).1 e.symm)
    · rcases hv with hv | ⟨g', hv, hg'⟩
      · rw [hv]; exact (h3 g e).2
      · rw [hv]; intro e2; cases e2; have := (h2 g e).2; omega
  have hpl : pvs.length = k := by have := h.op.1; omega
  refine ⟨h.bel.trans (Two.below hT h.bel.size (by omega) ?_), ?_, ?_, ?_, ?_, ?_, fun j hj => ?_, hord⟩
  · unfold rowOr
    cases hp : vp.ownBlock with
    | none => show _ ≤ b5; omega
    | some g => have := hlo g hp; show _ ≤ g; omega
  · exact Blk.far ((hg.block w.heap.size h.res.lt (hN _ (by omega))).trans h.res) (p := ⟨b5, 4, none⟩) (by show w.heap.size ≠ b5; omega) v'
  · exact Blk.set_ ((hg.block b5 h.out.lt (hN _ (Nat.le_refl _))).trans h.out) 4 v'
  · exact h.lv.two hT (fun e => by have : b2 = b5 := Option.some.inj e; omega) (show some b2 ≠ some (rowOr vp b5) from hrow b2 (fun e => hN b2 (by omega) e.symm) (by omega))
  · cases hvi : vi.ownBlock with
    | none => exact ownsRow_two h.oi hT (by rw [hvi]; simp) (by rw [hvi]; simp)
    | some g =>
      have hx : vp.ownBlock ≠ some g := by
        intro e
        rcases ownsRow_apart h.oi h.op (by decide) with h1 | h1
        · exact h1 (by rw [e, hvi])
        · rw [h1] at hvi; cases hvi
      have h5 : g ≠ b5 := by
        rintro rfl
        rcases h.oi.2 with ⟨rfl, _⟩ | ⟨g', cap, cur, rfl, _, hgg, _⟩
        · cases hvi
        · cases hvi
          have h6 := h.out
          unfold Blk at h6
          rw [h6] at hgg
          cases hgg
      exact ownsRow_two h.oi hT (by rw [hvi]; intro e; cases e; exact h5 rfl) (by rw [hvi]; exact hrow g hx (fun e => h5 e.symm))
  · exact ownsRow_set hO (fun e => by have := (World.ownsRow.lt hO _ e).1; omega)
  · rcases Nat.lt_or_ge j k with hj2 | hj2
    · obtain ⟨pv', h1, h2, h3, h4⟩ := h.at_ j hj2
      exact ⟨pv', by rw [List.getElem?_append_left (by omega)]; exact h1, hall pv' _ h2 h3 h4⟩
    · obtain rfl : j = k := by omega
      exact ⟨pv, by rw [List.getElem?_append_right (by omega), hpl]; simp, hall pv _ hq hI hne⟩
theorem SvJ.page {w W : World} {b2 b5 : Nat} {items I : List (List UInt8)} {F : Nat} {vi vp : Value} {B4 : Nat} {pvs : List Value} (h : SvJ w b2 b5 items I F vi vp B4 I.length pvs W) :
    PgAt (w.heap.size + 1) W.heap.size W vi vp ⟨F, items.length, totalT (leavesV items), I, (List.range I.length).map fun i => pathV (leavesV items) (F + i)⟩ := by
  have hord := h.ord
  have hpl := h.op.1
  have hat : ∀ k q, ((List.range I.length).map fun i => pathV (leavesV items) (F + i))[k]? = some q → k < I.length ∧ q = pathV (leavesV items) (F + k) := fun k q hq => by
    rw [List.getElem?_map] at hq
    obtain ⟨i, hi, rfl⟩ := Option.map_eq_some_iff.1 hq
    obtain ⟨h1, h2⟩ := List.getElem?_eq_some_iff.1 hi
    simp at h1 h2
    subst h2
    exact ⟨h1, rfl⟩
  rcases h.op.2 with ⟨e, h0⟩ | ⟨g, cap, cur, e, hb, hg, h1, h2, h3, h4⟩
  · subst e
    have hI : I = [] := List.eq_nil_of_length_eq_zero h0
    subst hI
    exact ⟨TextsAt.of_own h.oi, PathsAt.nil W, (fun g e => ⟨by have := (World.ownsRow.lt h.oi g e).1; omega, (World.ownsRow.lt h.oi g e).2⟩), (fun g e => by cases e), (fun k q hq => by simp at hq)⟩
  · subst e
    have hcell : ∀ k pv, pvs[k]? = some pv → W.cell? ((⟨g, 0, none⟩ : Addr).add k) = some pv := fun k pv hk => h.op.cells (g := g) rfl k pv hk
    refine ⟨TextsAt.of_own h.oi, ⟨some ⟨g, 0, none⟩, cap, by simp, by simpa using h1, fun k q hq => ?_⟩, fun g e => ⟨by have := (World.ownsRow.lt h.oi g e).1; omega, (World.ownsRow.lt h.oi g e).2⟩, fun g e => ⟨by have := (World.ownsRow.lt h.op g e).1; omega, (World.ownsRow.lt h.op g e).2⟩, fun k q hq => ?_⟩
    · obtain ⟨hk, rfl⟩ := hat k q hq
      obtain ⟨pv, q1, q2, q3, _⟩ := h.at_ k hk
      exact ⟨⟨g, 0, none⟩, pv, rfl, (Array.getElem?_eq_some_iff.1 hg).1, hcell k pv q1, q2⟩
    · obtain ⟨hk, rfl⟩ := hat k q hq
      obtain ⟨pv, q1, q2, q3, _⟩ := h.at_ k hk
      have : vpsOf W (.slice (some ⟨g, 0, none⟩) I.length cap) k = pv := by unfold vpsOf; simp only [hcell k pv q1]; rfl
      rw [this]
      exact q3
set_option maxRecDepth 100000 in
set_option maxHeartbeats 4000000 in
theorem Serve_yes (items : List (List UInt8)) (hn : items.length ≤ 1000) (hx : ∀ x ∈ items, x.length ≤ 100000) (F M : Nat) (h : serveB items F M = true) (v : Value) (w : World) (hg : Glob w) (hv : TextsAt w v items) :
    Calls Tryz.prog 10 #[v, .int .i64 (F : Int), .int .i64 (M : Int)] w (ServeR (pageV items F M) 0 w) := by
  have CL := isLog_any items hn hx v (w.alloc (.cells noCs 38)) (hv.to (below_one _ _))
  have hh : logB items = true ∧ (F ≤ items.length) ∧ 1 ≤ M ∧ M ≤ 50 := by
    unfold serveB at h
    simp only [Bool.and_eq_true, decide_eq_true_eq] at h
    exact ⟨h.1, by omega, by omega, by omega⟩
  obtain ⟨h1, hF, hM1, hM2⟩ := hh
  rw [h1] at CL
  have HV := hide hv
  have HX := hide hx
  have HG := hide hg
  obtain ⟨A, c, rfl, hc⟩ := hv.slice
  have q1 : decide ((F : Int) < 0) = false := decide_eq_false (by omega)
  have q2 : decide ((items.length : Int) < (F : Int)) = false := decide_eq_false (by omega)
  have q2' : decide (items.length < F) = false := decide_eq_false (by omega)
  have q3 : decide ((M : Int) < 1) = false := decide_eq_false (by omega)
  have q4 : decide (50 < (M : Int)) = false := decide_eq_false (by omega)
  have hmk := fun w => run_make_any (P := Tryz.prog) Tryz.underlying22 info_str rfl (N := (items.length : Int)) (n := items.length) rfl (by omega) (by omega) w
  clear hv h h1 hx hg
  unfold noCs at CL
  go_enter Tryz.func10, Tryz.ntmps10
  go_wp2_with fail
  refine CL.mono ?_
  rintro e w2 ⟨rfl, hb⟩
  have HB2 := hide (below_to (below_one w (.cells noCs 38)) (Nat.le_refl _) hb)
  have HR2 := hide ((Blk.new w 38 noCs).to hb)
  clear hb CL
  go_wp2_with fail
  have HI0 : Hid (SvI w w2.heap.size items 0 (w2.alloc (.cells (madeCells #[Value.string ⟨#[]⟩] items.length) 9))) := ⟨below_alloc HB2.out (Nat.le_refl _) _, HR2.out.alloc _, by rw [lvL_made]; exact Blk.new _ _ _⟩
  have hsw : w.heap.size < w2.heap.size := HR2.out.lt
  clear HB2 HR2 hmk
  go_loopw [44] (fun i wr => ∃ k : Nat, i = .int .i64 (k : Int) ∧ k ≤ items.length ∧ Aside (SvI w w2.heap.size items k wr)) (fun i _ => items.length - (intOf i).toNat)
  case atStart => exact ⟨0, rfl, Nat.zero_le _, HI0.out⟩
  case round =>
    obtain ⟨k, rfl, hk, hI⟩ := hrel
    have HI : Hid (SvI w w2.heap.size items k wr) := hI
    clear hI HI0
    by_cases hlt : k < items.length
    · have e1 : decide ((k : Int) < (items.length : Int)) = true := decide_eq_true (by omega)
      obtain ⟨x, hx⟩ : ∃ x, items[k]? = some x := ⟨_, List.getElem?_eq_getElem hlt⟩
      obtain ⟨a, rfl, ha, c0⟩ := (HV.out.to HI.out.bel).at_ hx
      have hxl := HX.out x (List.mem_of_getElem? hx)
      have HS := hide (lvL_set items hx)
      have CL := Leaf_any x (by omega) wr (HG.out.to HI.out.bel)
      have hAt := lvL_at items hlt
      clear hx
      go_wp2_with ((with_reducible refine CL.mono ?_); rintro e w4 ⟨rfl, hb4⟩; have x0 := ((HI.out.lv.to hb4).cell k).trans hAt; have f0 := (HI.out.lv.to hb4).frozen k; have HB4 := hide (below_to HI.out.bel (Nat.le_refl _) hb4); have HR4 := hide (HI.out.res.to hb4); have HL4 := hide (HI.out.lv.to hb4); clear hb4)
      refine ⟨⟨k + 1, by go_num, by omega, HB4.out.setCell (p := ⟨w2.heap.size, k, none⟩) (Nat.le_of_lt hsw) _, HR4.out.far (p := ⟨w2.heap.size, k, none⟩) (Nat.ne_of_lt hsw) _, by rw [← HS.out]; exact HL4.out.set_ k _⟩, ?_⟩
      simp [intOf]; omega
    · obtain rfl : k = items.length := by omega
      have e1 : decide ((items.length : Int) < (items.length : Int)) = false := by simp
      have HLV : Hid (TextsAt wr (.slice (some ⟨w2.heap.size, 0, none⟩) items.length items.length) (leavesV items)) := by
        have := HI.out.lv
        rw [lvL_all] at this
        exact TextsAt.of_blk this (by simp [leavesV])
      have HB3 := hide HI.out.bel
      have HR3 := hide HI.out.res
      have hlw : w2.heap.size < wr.heap.size := HI.out.lv.lt
      have CR := root_leaves items hn (.slice (some ⟨w2.heap.size, 0, none⟩) items.length items.length) wr HLV.out (HG.out.to HB3.out)
      clear HI
      go_wp2_with fail
      refine CR.mono ?_
      rintro e w4 ⟨rfl, hb⟩
      have HB4 := hide (below_to HB3.out (Nat.le_refl _) hb)
      have HR4 := hide (HR3.out.to hb)
      have HLV4 := hide (HLV.out.to hb)
      have hsw4 : w2.heap.size < w4.heap.size := Nat.lt_of_lt_of_le hlw hb.size
      have hmN : Hid (((min (items.length : Int) ((F : Int) + (M : Int))).toNat - F) = ((items.drop F).take M).length) := by show _ = _; rw [List.length_take, List.length_drop]; omega
      have HVS : ∀ (A' : Option Addr) (c' : Nat), A' = (if c = F then A else A.map fun x => x.add F) → c' = c - F → Hid (TextsAt w4 (.slice A' ((items.drop F).take M).length c') ((items.drop F).take M)) := by
        rintro A' c' rfl rfl
        have h0 := HV.out.to HB4.out
        cases A with
        | none =>
          have h1 : items = [] := h0.none_nil
          subst h1
          have hF0 : F = 0 := by simpa using hF
          subst hF0
          refine ⟨none, c - 0, ?_, ?_, ?_⟩
          · show Value.slice _ _ _ = .slice _ _ _
            congr 1
            · split <;> rfl
            · simp
          · simp
          · exact ⟨by simp, fun k p hp => by simp at hp⟩
        | some a =>
          by_cases hcF : c = F
          · have h1 : (items.drop F).take M = [] := by rw [List.drop_of_length_le (by omega), List.take_nil]
            rw [h1, if_pos hcF]
            exact ⟨some a, c - F, rfl, Nat.zero_le _, by simp, fun k p hp => by simp at hp⟩
          · rw [if_neg hcF]
            exact (h0.drop hF (c - F) (by omega)).take (k := ((items.drop F).take M).length) (by simp; omega) (c - F) (by simp; omega) |> fun h => by
              rwa [show (items.drop F).take ((items.drop F).take M).length = (items.drop F).take M by rw [List.length_take, List.take_eq_take_iff]; simp] at h
      clear hb CR HB3 HR3 HLV
      have hIl : ((items.drop F).take M).length ≤ 50 := by rw [List.length_take]; omega
      have hIF : F + ((items.drop F).take M).length ≤ items.length := by rw [List.length_take, List.length_drop]; omega
      obtain ⟨I, HI⟩ : ∃ I, Hid ((items.drop F).take M = I) := ⟨_, rfl⟩
      rw [HI.out] at hmN HVS hIl hIF
      go_wp2_with fail
      all_goals rw [hmN.out]
      have hS : TextsAt w4 (.slice A I.length 0) I := (HVS A 0 (by rw [if_pos (by assumption)]) (by omega)).out
      rename_i h
      clear h
      rotate_left
      have hS : TextsAt w4 (.slice (A.map fun x => x.add F) I.length (c - F)) I := (HVS (A.map fun x => x.add F) (c - F) (by rw [if_neg (by assumption)]) rfl).out
      rename_i h
      clear h
      all_goals
        have CC := Clone_any I (by omega) _ w4 hS
        unfold CloneR at CC
        refine CC.mono ?_
        rintro e w5 ⟨vc, rfl, ho, hb⟩
        have HO5 := hide ho
        have HB5 := hide (below_to HB4.out (Nat.le_refl _) hb)
        have HR5 := hide (HR4.out.to hb)
        have HLV5 := hide (HLV4.out.to hb)
        have hs45 := hb.size
        obtain ⟨Ac, cc, rfl⟩ := own_sl4 ho
        clear hb CC HVS hS HB4 HR4 HLV4 ho hmN
        go_wp2_with fail
        have HJ0 : Hid (SvJ w w2.heap.size w5.heap.size items I F (.slice Ac I.length cc) (.slice none 0 0) w4.heap.size 0 [] (w5.alloc (.cells #[.int .i64 (F : Int), .int .i64 (items.length : Int), .string (bs (totalT (leavesV items))), .slice Ac I.length cc, .slice none 0 0] 38))) :=
          ⟨below_alloc HB5.out (Nat.le_refl _) _, HR5.out.alloc _, Blk.new _ _ _, HLV5.out.to (below_one _ _), ownsRow_to HO5.out (below_one _ _), World.ownsRow_nil _ _ _ _, fun j hj => absurd hj (Nat.not_lt_zero _), ⟨hsw, hsw4, hs45⟩⟩
        clear HB5 HR5 HLV5 HO5
        have hs5 : w.heap.size < w5.heap.size := by omega
        go_loopw [78] (fun i wr5 => ∃ (k : Nat) (vp : Value) (pvs : List Value), i = .int .i64 (k : Int) ∧ k ≤ I.length ∧ Aside (SvJ w w2.heap.size w5.heap.size items I F (.slice Ac I.length cc) vp w4.heap.size k pvs wr5)) (fun i _ => I.length - (intOf i).toNat)
        case atStart => exact ⟨0, _, _, rfl, Nat.zero_le _, HJ0.out⟩
        case round =>
          obtain ⟨k, vp, pvs, rfl, hkI, hJ⟩ := hrel
          have HJ : Hid (SvJ w w2.heap.size w5.heap.size items I F (.slice Ac I.length cc) vp w4.heap.size k pvs _) := hJ
          clear hJ HJ0
          obtain ⟨Ap, cp, rfl⟩ := own_sl4 HJ.out.op
          by_cases hkl : k < I.length
          · have e3 : decide ((k : Int) < (I.length : Int)) = true := decide_eq_true (by omega)
            obtain ⟨hl1, hl2, hl3⟩ := leaves_ok items
            have CP := Path_own (leavesV items) (by omega) hl1 hl2 (F + k) (by omega) (.slice (some ⟨w2.heap.size, 0, none⟩) (leavesV items).length items.length) wr (by rw [hl3]; exact HJ.out.lv) (HG.out.to HJ.out.bel)
            rw [hl3, show ((F + k : Nat) : Int) = (F : Int) + (k : Int) by omega] at CP
            unfold PathO at CP
            clear hl1 hl2 hl3
            go_wp2_with fail
            refine CP.mono ?_
            rintro e w6 ⟨pv, rfl, hpt, hb, hpo⟩
            have HJ6 := hide (HJ.out.to hb)
            have HPT := hide hpt
            have HPO := hide hpo
            have HSZ := hide hb.size
            obtain ⟨Aq, cq, rfl, _⟩ := hpt.slice
            have x4 := (HJ6.out.out.cell 4).trans (show _ = some (Value.slice Ap k cp) from rfl)
            obtain ⟨i0, hi0, hz0, hz1, hz2⟩ := info_parts info_sl
            have hpl := HJ6.out.op.1
            have HJ7 := hide (HJ6.out.to (below_one w6 (.cells #[.slice Aq (pathV (leavesV items) (F + k)).length cq] 22)))
            have hc1 := cells_new4 (W := w6) (xs := [Value.slice Aq (pathV (leavesV items) (F + k)).length cq]) (ty := 22) (b := w6.heap.size) rfl
            have hc2 : ∀ u ∈ [Value.slice Aq (pathV (leavesV items) (F + k)).length cq], u.oneCell' = true := by intro u hu; simp only [List.mem_cons, List.not_mem_nil, or_false] at hu; rcases hu with rfl; rfl
            have hc4 : k + 1 ≤ maxLen := by simp only [maxLen]; omega
            have hc5 : (k + 1) * 24 ≤ 140737488355328 := by omega
            have hc3 : w5.heap.size + 1 ≤ (w6.alloc (.cells #[.slice Aq (pathV (leavesV items) (F + k)).length cq] 22)).heap.size := by have := HJ6.out.out.lt; simp; omega
            have HC1 := hide hc1
            clear hpt hb hpo CP hc1
            go_wp2_with (at_builtin; refine wpList_append_keep _ rfl (.tmp 90) (.tmp 92) _ rfl (w5.heap.size + 1) 22 i0 (.slice none 0 0) 1 24 Tryz.underlying36 hi0 hz0 hz1 hz2 rfl (by omega) _ k pvs rfl HJ7.out.op ⟨_, 0, none⟩ 1 1 [.slice Aq (pathV (leavesV items) (F + k)).length cq] rfl rfl HC1.out hc2 hc4 hc5 hc3 ?_)
            intro v' w7 ho7 hg7 hk7 hv7
            have hlo : some w5.heap.size ≠ (Value.slice Ap k cp).ownBlock := fun e => by have := (World.ownsRow.lt HJ7.out.op _ e.symm).1; omega
            have hb7 : Blk w7 w5.heap.size 38 _ := (hg7.block w5.heap.size HJ7.out.out.lt hlo).trans HJ7.out.out
            have y4 := (hb7.cell 4).trans (show _ = some (Value.slice Ap k cp) from rfl)
            have yf := hb7.frozen 4
            have HG7 : Hid (SvJ w w2.heap.size w5.heap.size items I F (.slice Ac I.length cc) v' w4.heap.size (k + 1) (pvs ++ [.slice Aq (pathV (leavesV items) (F + k)).length cq]) (w7.setCell ⟨w5.heap.size, 4, none⟩ v')) := by
              have hfr : ∀ g, (Value.slice Aq (pathV (leavesV items) (F + k)).length cq).ownBlock = some g → wr.heap.size ≤ g ∧ g < w6.heap.size := HPO.out
              refine SvJ.grow HJ7.out hg7 _ ho7 (hv7.imp id fun ⟨g, e, h⟩ => ⟨g, e, by rw [World.size_alloc]; exact h⟩) (HPT.out.to (below_one _ _)) (fun g e => ?_) (fun g e => ?_)
              · have := hfr g e
                have := HJ.out.out.lt
                exact ⟨by omega, by rw [World.size_alloc]; omega⟩
              · have := hfr g e
                have := HJ.out.out.lt
                refine ⟨by omega, fun e2 => ?_⟩
                have := (World.ownsRow.lt HJ.out.op g e2).2
                omega
            obtain ⟨A7, c7, rfl⟩ := own_sl4 ho7
            clear ho7 hg7 hk7 hv7 HJ7 hlo hb7 HPT HPO x4
            go_wp2_with fail
            refine ⟨⟨k + 1, _, _, by go_num, by omega, HG7.out⟩, ?_⟩
            simp [intOf]; omega
          · obtain rfl : k = I.length := by omega
            have e3 : decide ((I.length : Int) < (I.length : Int)) = false := by simp
            have x0 := (HJ.out.out.cell 0).trans (show _ = some (Value.int .i64 (F : Int)) from rfl)
            have x1 := (HJ.out.out.cell 1).trans (show _ = some (Value.int .i64 (items.length : Int)) from rfl)
            have x2 := (HJ.out.out.cell 2).trans (show _ = some (Value.string (bs (totalT (leavesV items)))) from rfl)
            have x3 := (HJ.out.out.cell 3).trans (show _ = some (Value.slice Ac I.length cc) from rfl)
            have x4 := (HJ.out.out.cell 4).trans (show _ = some (Value.slice Ap I.length cp) from rfl)
            have y0 := (HJ.out.res.cell 0).trans (show _ = some (Value.int .i64 0) from rfl)
            have y1 := (HJ.out.res.cell 1).trans (show _ = some (Value.int .i64 0) from rfl)
            have y2 := (HJ.out.res.cell 2).trans (show _ = some (Value.string ⟨#[]⟩) from rfl)
            have y3 := (HJ.out.res.cell 3).trans (show _ = some (Value.slice none 0 0) from rfl)
            have y4 := (HJ.out.res.cell 4).trans (show _ = some (Value.slice none 0 0) from rfl)
            have f0 := HJ.out.res.frozen 0
            have f1 := HJ.out.res.frozen 1
            have f2 := HJ.out.res.frozen 2
            have f3 := HJ.out.res.frozen 3
            have f4 := HJ.out.res.frozen 4
            go_wp2_with fail
            have hT := (((((Two.refl w.heap.size w.heap.size wr).set1 0 (.int .i64 (F : Int))).set1 1 (.int .i64 (items.length : Int))).set1 2 (.string (bs (totalT (leavesV items))))).set1 3 (.slice Ac I.length cc)).set1 4 (.slice Ap I.length cp)
            refine bodyPost_ret (results_page rfl _ _ w.heap.size rfl _ _ rfl (((((HJ.out.res.set_ 0 (.int .i64 (F : Int))).set_ 1 (.int .i64 (items.length : Int))).set_ 2 (.string (bs (totalT (leavesV items))))).set_ 3 (.slice Ac I.length cc)).set_ 4 (.slice Ap I.length cp)) rfl) rfl ?_
            refine ⟨.slice Ac I.length cc, .slice Ap I.length cp, rfl, ?_, HJ.out.bel.trans (hT.below HJ.out.bel.size (Nat.le_refl _) (Nat.le_refl _))⟩
            have hp := (HJ.out.page.two hT (.inl (Nat.lt_succ_self _)) (.inl (Nat.lt_succ_self _))).mono (lo' := w.heap.size) (Nat.le_succ _) hT.size
            unfold pageV
            rw [HI.out]
            exact hp
end Go.Proofs.YtnjlefggkfagmaaGreatDoor

/- A client: New, Next, Items. -/
set_option linter.unusedVariables false
set_option linter.unusedSimpArgs false
namespace Go.Proofs.YtnjlefggkfagmaaGreatDoor
open Go.RowKit

/-- a client in memory: its block b, its items in a row of its own -/
structure CliAt (b : Nat) (root : List UInt8) (size : Int) (its : List (List UInt8)) (v : Value) (W : World) : Prop where
  blk : Blk W b 69 #[.string (bs root), .int .i64 size, v]
  own : W.ownsRow (b + 1) 9 1 v its.length (flatS its)
theorem CliAt.to {b : Nat} {root : List UInt8} {size : Int} {its : List (List UInt8)} {v : Value} {W W' : World} (h : CliAt b root size its v W) (hb : Below W.heap.size W W') : CliAt b root size its v W' := ⟨h.blk.to hb, ownsRow_to h.own hb⟩
theorem CliAt.texts {b : Nat} {root : List UInt8} {size : Int} {its : List (List UInt8)} {v : Value} {W : World} (h : CliAt b root size its v W) : TextsAt W v its := TextsAt.of_own h.own
theorem CliAt.lt {b : Nat} {root : List UInt8} {size : Int} {its : List (List UInt8)} {v : Value} {W : World} (h : CliAt b root size its v W) : ∀ g, v.ownBlock = some g → b + 1 ≤ g ∧ g < W.heap.size := World.ownsRow.lt h.own
def cliP (b : Nat) : Value := .pointer (some ⟨b, 0, none⟩)
def emptyR : List UInt8 := listD [emptyT]
def newB (root : List UInt8) (size : Int) : Bool := isD root && (decide (0 ≤ size) && (decide (size ≤ 10000) && !(decide (size = 0) && !decide (root = emptyR))))
def NewR (root : List UInt8) (size : Int) (w : World) (e : Ending) (w' : World) : Prop :=
  (if newB root size then ∃ b, e = .returned (.tuple #[cliP b, .int .i64 0]) ∧ w.heap.size ≤ b ∧ CliAt b root size [] (.slice none 0 0) w' else e = .returned (.tuple #[.pointer none, .int .i64 1])) ∧ Below w.heap.size w w'
set_option maxRecDepth 100000 in
set_option maxHeartbeats 2000000 in
theorem New_any (root : List UInt8) (hr : root.length ≤ 100000) (size : Int) (w : World) (hg : Glob w) :
    Calls Tryz.prog 25 #[.string (bs root), .int .i64 size] w (NewR root size w) := by
  have CR : Calls Tryz.prog 23 #[.slice none 0 0] w fun e w' => e = .returned (.tuple #[.string (bs emptyR), .int .i64 0]) ∧ Below w.heap.size w w' := by
    have := tRoot_any [] (by simp) (by simp) (.slice none 0 0) w (TextsAt.nil w) hg
    exact this
  have CI := fun w' : World => Is_any root (by omega) w'
  have HE := emptyR.length
  unfold NewR
  have hnb : newB root size = !(!isD root || (decide (size < 0) || (decide (10000 < size) || (decide (size = 0) && !decide (root = emptyR))))) := by
    unfold newB
    generalize isD root = x
    generalize decide (root = emptyR) = y
    rw [show decide (0 ≤ size) = !decide (size < 0) by rw [← decide_not]; exact decide_eq_decide.2 (by omega), show decide (size ≤ 10000) = !decide (10000 < size) by rw [← decide_not]; exact decide_eq_decide.2 (by omega)]
    cases x <;> cases y <;> simp
  rw [hnb]
  clear hnb HE hg
  have h0 : (size == 0) = decide (size = 0) := rfl
  obtain ⟨b0, c0⟩ : ∃ b, isD root = !b := ⟨!isD root, by simp⟩
  rw [c0] at CI
  rw [c0, Bool.not_not]
  clear c0
  generalize c1 : decide (size < 0) = b1 at *
  generalize c2 : decide (10000 < size) = b2 at *
  generalize c3 : decide (size = 0) = b3 at *
  obtain ⟨b4, c4⟩ : ∃ b, ((bs root).toList == (bs emptyR).toList) = !b := ⟨!((bs root).toList == (bs emptyR).toList), by simp⟩
  have c5 : (!decide (root = emptyR)) = b4 := by
    rw [bs_toList, bs_toList] at c4
    rw [← Bool.not_not b4, ← c4]
    congr 1
    rw [Bool.eq_iff_iff]; simp
  rw [c5]
  generalize emptyR = ER at *
  clear c5
  cases b0
  cases b1
  cases b2
  cases b3
  rotate_left
  cases b4
  all_goals (try simp only [Bool.not_false, Bool.not_true] at CI c4)
  all_goals
    go_enter Tryz.func25, Tryz.ntmps25
    go_wp2_with fail
    refine CR.mono ?_
    rintro e w2 ⟨rfl, hb2⟩
    have HB := hide hb2
    clear hb2 CR
    go_wp2_with ((with_reducible refine (CI _).mono ?_); rintro e w3 ⟨rfl, hb3⟩; have HB3 := hide hb3; clear hb3)
    go_ret2
    first
      | exact ⟨rfl, below_to HB.out (Nat.le_refl _) HB3.out⟩
      | exact ⟨⟨w3.heap.size, rfl, Nat.le_trans HB.out.size HB3.out.size, Blk.new _ _ _, World.ownsRow_nil _ _ _ _⟩, below_alloc (below_to HB.out (Nat.le_refl _) HB3.out) (Nat.le_refl _) _⟩
def ItemsR (its : List (List UInt8)) (w : World) (e : Ending) (w' : World) : Prop := ∃ v', e = .returned v' ∧ OwnT w' w.heap.size v' its ∧ Below w.heap.size w w'
set_option maxRecDepth 100000 in
set_option maxHeartbeats 1000000 in
theorem Items_any (b : Nat) (root : List UInt8) (size : Int) (its : List (List UInt8)) (hl : its.length ≤ 1000000000) (v : Value) (w : World) (h : CliAt b root size its v w) :
    Calls Tryz.prog 21 #[cliP b] w (ItemsR its w) := by
  have CC := Clone_any its hl v w h.texts
  unfold CloneR at CC
  obtain ⟨A, c, rfl⟩ := own_sl4 h.own
  have x2 := (h.blk.cell 2).trans (show _ = some (Value.slice A its.length c) from rfl)
  unfold cliP
  clear h
  go_enter Tryz.func21, Tryz.ntmps21
  go_wp2_with fail
  refine CC.mono ?_
  rintro e w2 ⟨v', rfl, ho, hb⟩
  go_wp2_with fail
  go_ret
  exact ⟨v', rfl, ho, hb⟩
set_option maxRecDepth 100000 in
set_option maxHeartbeats 1000000 in
theorem Next_any (b : Nat) (root : List UInt8) (size : Int) (its : List (List UInt8)) (hl : its.length ≤ 1000000000) (v : Value) (w : World) (h : CliAt b root size its v w) :
    Calls Tryz.prog 9 #[cliP b] w fun e w' => e = .returned (.int .i64 (its.length : Int)) ∧ Below w.heap.size w w' := by
  have CI := Items_any b root size its hl v w h
  unfold ItemsR at CI
  clear h
  go_enter Tryz.func9, Tryz.ntmps9
  go_wp2_with fail
  refine CI.mono ?_
  rintro e w2 ⟨v', rfl, ho, hb⟩
  obtain ⟨A, c, rfl⟩ := own_sl4 ho
  go_wp2_with fail
  go_ret
  exact ⟨rfl, hb⟩
end Go.Proofs.YtnjlefggkfagmaaGreatDoor

/- A client: Accept, what it says and keeps. -/
set_option linter.unusedVariables false
set_option linter.unusedSimpArgs false
namespace Go.Proofs.YtnjlefggkfagmaaGreatDoor
open Go.RowKit Go.Shelf
attribute [local go_sem] Oper.semAt_some

def Pg.checkAt (p : Pg) (root : List UInt8) (size : Int) (k : Fin p.items.length) : Bool := checkV root size (p.fr + (k : Nat)) (leafD p.items[k]) (p.paths.getD k [])
def sameB (p : Pg) (root : List UInt8) (size : Int) : Bool := decide (p.root = root) && (decide (p.size = size) && decide (p.fr ≤ p.size - p.items.length))
def heldB (p : Pg) (root : List UInt8) (size : Int) : Bool := sameB p root size && (List.finRange p.items.length).all (p.checkAt root size)
def accE (p : Pg) (root : List UInt8) (size : Int) (its : List (List UInt8)) : Int := if formedB p then (if heldB p root size then (if (its.length : Int) < p.fr then 13 else 0) else 17) else 1
def accV (p : Pg) (root : List UInt8) (size : Int) (its : List (List UInt8)) : List (List UInt8) := if accE p root size its = 0 then its ++ p.items.drop (its.length - p.fr.toNat) else its
def AcceptR (b : Nat) (root : List UInt8) (size : Int) (k : Int) (its : List (List UInt8)) (v : Value) (w : World) (e : Ending) (w' : World) : Prop := ∃ v', e = .returned (.int .i64 k) ∧ CliAt b root size its v' w' ∧ Two b (rowOr v b) w w' ∧ (v'.ownBlock = v.ownBlock ∨ ∃ g, v'.ownBlock = some g ∧ w.heap.size ≤ g)
theorem results_errno {fn : Func} {p : Tmp} (h : fn.results = #[.cell p 39]) (tmps : Array Value) (w : World) (g : Nat) (v : Value) (hp : tmps[p]? = some (.pointer (some ⟨g, 0, none⟩))) (hc : Blk w g 39 #[v]) :
    (results fn tmps).run Tryz.prog w = .ok v w := by
  have hp' : tmps[p]?.getD undef = .pointer (some ⟨g, 0, none⟩) := by rw [hp]; rfl
  have hc' := (hc.cell 0).trans (show _ = some v from rfl)
  simp [results, h, hp', go_sem, hc']
/-- nothing was taken over -/
theorem accept_same {b : Nat} {root : List UInt8} {size k : Int} {its : List (List UInt8)} {v : Value} {w w' : World} (h : CliAt b root size its v w) (hb : Below w.heap.size w w') : AcceptR b root size k its v w (.returned (.int .i64 k)) w' :=
  ⟨v, rfl, h.to hb, Two.of hb, .inl rfl⟩
set_option maxRecDepth 100000 in
set_option maxHeartbeats 2000000 in
theorem Accept_no (b : Nat) (root : List UInt8) (size : Int) (its : List (List UInt8)) (v : Value) (p : Pg) (hp : p.fit) (hf : formedB p = false) (vi vp : Value) (w : World) (hcl : CliAt b root size its v w) (hvi : TextsAt w vi p.items) (hvp : PathsAt w vp p.paths) :
    Calls Tryz.prog 11 #[cliP b, .agg (p.cs vi vp)] w (AcceptR b root size 1 its v w) := by
  have hq := fun q hq => (⟨hp.nq q hq, hp.lq q hq⟩ : q.length ≤ 200000 ∧ ∀ x ∈ q, x.length ≤ 100000)
  have CF := fun w' (hb : Below w.heap.size w w') => formed_any p hp.lr hp.li hq vi vp w' (hvi.to hb) (hvp.to hb)
  rw [hf] at CF
  obtain ⟨Ai, ci, rfl, hci⟩ := hvi.slice
  obtain ⟨Ap, cp, rfl, hcp⟩ := hvp.slice
  have HC := hide hcl
  clear hvi hvp hcl hq hf
  unfold Pg.cs at CF ⊢
  unfold cliP
  have hb0 : Below w.heap.size w (((w.alloc (.cells #[.pointer (some ⟨b, 0, none⟩)] 30)).alloc (.cells #[.int .i64 p.fr, .int .i64 p.size, .string (bs p.root), .slice Ai p.items.length ci, .slice Ap p.paths.length cp] 38)).alloc (.cells #[.int .i64 0] 39)) := (((Below.refl _ w).alloc (Nat.le_refl _) _).alloc (by simp) _).alloc (by simp; omega) _
  have he := Blk.new ((w.alloc (.cells #[.pointer (some ⟨b, 0, none⟩)] 30)).alloc (.cells #[.int .i64 p.fr, .int .i64 p.size, .string (bs p.root), .slice Ai p.items.length ci, .slice Ap p.paths.length cp] 38)) 39 #[.int .i64 0]
  rw [World.size_alloc, World.size_alloc] at he
  have HB0 := hide hb0
  have HE := hide he
  clear hb0 he
  go_enter Tryz.func11, Tryz.ntmps11
  go_wp2_with ((with_reducible refine (CF _ HB0.out).mono ?_); rintro e w2 ⟨rfl, hb2⟩; have HB2 := hide hb2; have y := HE.out.to hb2; have y0 := (y.cell 0).trans (show _ = some (Value.int .i64 0) from rfl); have yf := y.frozen 0; have HY := hide y; clear hb2 y)
  refine bodyPost_ret (results_errno rfl _ _ (w.heap.size + 1 + 1) _ rfl (HY.out.set_ 0 (.int .i64 1))) rfl (accept_same HC.out ?_)
  exact (below_to HB0.out (Nat.le_refl _) HB2.out).setCell (p := ⟨w.heap.size + 1 + 1, 0, none⟩) (by show _ ≤ w.heap.size + 1 + 1; omega) _
end Go.Proofs.YtnjlefggkfagmaaGreatDoor

/- A drawn region whose relations know the frame ahead of and behind an operation. -/
set_option linter.unusedVariables false
set_option linter.unusedSimpArgs false
namespace Go.Proofs.YtnjlefggkfagmaaGreatDoor
open Go Go.RowKit

/-- the region is fit for it -/
def looseB3 (ops : Array Oper) (n : Nat) (js : List Nat) : Bool :=
  (List.range ops.size).all fun i => match ops[i]? with
    | none => true
    | some o => (o.after.all fun e => !Region.binds .any e || decide (e.on < i)) &&
      (match o.dst with
       | none => true
       | some d => decide (d < n) && (List.range ops.size).all fun j => (i == j) || (match ops[j]? with
          | none => true
          | some oj => (oj.dst != some d) && (!js.contains j || !(oj.looksAt ops).contains d || Region.waitsFor .any ops j i)))
theorem looseB3_spec {ops : Array Oper} {n : Nat} {js : List Nat} (h : looseB3 ops n js = true) : ∀ (i : Nat) (o : Oper), ops[i]? = some o → (∀ e ∈ o.after, Region.binds .any e = true → e.on < i) ∧
    ∀ d, o.dst = some d → d < n ∧ ∀ (j : Nat) (oj : Oper), i ≠ j → ops[j]? = some oj → oj.dst ≠ some d ∧ (j ∈ js → d ∈ oj.looksAt ops → Region.waitsFor .any ops j i = true) := by
  intro i o ho
  have hlt : i < ops.size := (Array.getElem?_eq_some_iff.1 ho).1
  have h1 := List.all_eq_true.1 h i (List.mem_range.2 hlt)
  simp only [ho, Bool.and_eq_true] at h1
  refine ⟨fun e he hb => ?_, fun d hd => ?_⟩
  · have := Array.all_eq_true_iff_forall_mem.1 h1.1 e he
    simpa [hb] using this
  · have h2 := h1.2
    simp only [hd, Bool.and_eq_true, decide_eq_true_eq] at h2
    refine ⟨h2.1, fun j oj hij hoj => ?_⟩
    have hjlt : j < ops.size := (Array.getElem?_eq_some_iff.1 hoj).1
    have h3 := List.all_eq_true.1 h2.2 j (List.mem_range.2 hjlt)
    simp only [hoj, Bool.or_eq_true, Bool.and_eq_true, bne_iff_ne, beq_iff_eq] at h3
    rcases h3 with h3 | h3
    · exact absurd h3 hij
    · refine ⟨h3.1, fun hjm hm => ?_⟩
      rcases h3.2 with (h4 | h4) | h4
      · simp only [Bool.not_eq_true', List.contains_eq_mem, decide_eq_false_iff_not] at h4
        exact absurd hjm h4
      · simp only [Bool.not_eq_true', List.contains_eq_mem, decide_eq_false_iff_not] at h4
        exact absurd hm h4
      · exact h4

section
variable {P : Program} {ops : Array Oper} {Q : Exit → Act → World → Prop} {md : Region.Mode} {C : World → Prop} {a0 : Act}
theorem wpAny_pre3 (Kn : Nat → Act → World → Prop) (N : Nat → Act → World → Prop) (Rel : Nat → Act → Act → World → World → Prop)
    (hacyc : ∀ (i : Nat) (o : Oper), ops[i]? = some o → ∀ e ∈ o.after, Region.binds md e = true → e.on < i)
    (hC : ∀ i a a' w w', C w → Rel i a a' w w' → C w')
    (hkeep : ∀ (i j : Nat) (o : Oper), i ≠ j → ops[i]? = some o → Region.waitsFor md ops j i = false → ∀ a v w w', Kn j a w → Rel i a (a.put o.dst v) w w' → Kn j (a.put o.dst v) w')
    (hNk : ∀ (i k : Nat) (o : Oper), i ≠ k → ops[k]? = some o → waitsT md ops ops.size k i = false → ∀ a v w w', N i a w → Rel k a (a.put o.dst v) w w' → N i (a.put o.dst v) w')
    (hop : ∀ (i : Nat) (o : Oper), ops[i]? = some o → ∀ a w, C w → Same ops a0 a → (∀ e ∈ o.after, Region.binds md e = true → Kn e.on a w) → N i a w →
      wpOp P ops Q i (fun a' w' => ∃ v, a' = a.put o.dst v ∧ Rel i a (a.put o.dst v) w w' ∧ Kn i (a.put o.dst v) w') a w)
    (hfin : ∀ a w, C w → Same ops a0 a → (∀ i, i < ops.size → Kn i a w) → Q .normal a w) :
    ∀ (f : Nat) (L : List Nat) (listed : Array Bool) (a : Act) (w : World), L.length ≤ f → listed.size = ops.size → (∀ i, i < ops.size → listed.getD i true = false → i ∈ L) → C w → Same ops a0 a →
      (∀ (j : Nat) (oj : Oper), ops[j]? = some oj → listed.getD j false = true → ∀ e ∈ oj.after, Region.binds md e = true → listed.getD e.on false = true) →
      (∀ i, i < ops.size → listed.getD i false = true → Kn i a w) → (∀ i, i < ops.size → listed.getD i true = false → N i a w) → wpAny P md ops Q f listed a w := by
  have hfull : ∀ listed : Array Bool, listed.size = ops.size → Region.ready md ops listed = [] → ∀ (d i : Nat), i < d → i < ops.size → listed.getD i false = true := by
    intro listed hsz hr d
    induction d with
    | zero => intro i hi; omega
    | succ d ih =>
      intro i hi hin
      rcases Nat.lt_or_ge i d with h | h
      · exact ih i h hin
      · obtain rfl : i = d := by omega
        cases hl : listed.getD i false with
        | true => rfl
        | false =>
          have hmem : i ∈ Region.ready md ops listed := by
            rw [mem_ready]
            refine ⟨getD_in (by omega) hl, ops[i], Array.getElem?_eq_getElem hin, fun e he hb => ?_⟩
            have := hacyc i ops[i] (Array.getElem?_eq_getElem hin) e he hb
            exact ih e.on this (by omega)
          rw [hr] at hmem
          cases hmem
  intro f
  induction f with
  | zero =>
    intro L listed a w hL hsz hun hw hs hcl hk hN
    have hall : ∀ i, i < ops.size → listed.getD i false = true := by
      intro i hi
      cases hl : listed.getD i false with
      | true => rfl
      | false =>
        have := hun i hi (getD_in (by omega) hl)
        have hL0 : L = [] := List.length_eq_zero_iff.1 (by omega)
        rw [hL0] at this
        cases this
    have hr : Region.ready md ops listed = [] := by
      apply List.eq_nil_iff_forall_not_mem.2
      intro i hi
      obtain ⟨h1, o, ho, _⟩ := mem_ready.1 hi
      have hlt : i < ops.size := (Array.getElem?_eq_some_iff.1 ho).1
      have h2 := hall i hlt
      rw [getD_both h1] at h2
      cases h2
    exact ⟨hr, hfin a w hw hs (fun i hi => hk i hi (hall i hi))⟩
  | succ f ih =>
    intro L listed a w hL hsz hun hw hs hcl hk hN
    refine ⟨fun hr => hfin a w hw hs (fun i hi => hk i hi (hfull listed hsz hr _ i hi hi)), fun i hi => ?_⟩
    obtain ⟨hiun, o, ho, hall⟩ := mem_ready.1 hi
    have hlt : i < ops.size := (Array.getElem?_eq_some_iff.1 ho).1
    refine wpOp_mono ?_ (hop i o ho a w hw hs (fun e he hb => hk e.on (by have := hacyc i o ho e he hb; omega) (hall e he hb)) (hN i hlt hiun))
    rintro a' w' ⟨v, rfl, hrel, hkn⟩
    have hiL := hun i hlt hiun
    refine ih (L.erase i) (listed.setIfInBounds i true) _ w' ?_ (by simpa using hsz) ?_ (hC i _ _ _ _ hw hrel) (hs.put ho v) ?_ ?_ ?_
    · rw [List.length_erase_of_mem hiL]; omega
    · intro j hj hjl
      rcases Nat.decEq j i with hji | hji
      · rw [getD_set_ne true (Ne.symm hji)] at hjl
        exact (List.mem_erase_of_ne hji).2 (hun j hj hjl)
      · subst hji
        rw [Array.getD_eq_getD_getElem?, Array.getElem?_setIfInBounds_self_of_lt (by omega)] at hjl
        cases hjl
    · intro j oj hoj hjl e he hb
      rcases Nat.decEq j i with hji | hji
      · rw [getD_set_ne false (Ne.symm hji)] at hjl
        exact getD_set_true (hcl j oj hoj hjl e he hb)
      · subst hji
        have : oj = o := Option.some.inj (hoj.symm.trans ho)
        subst this
        exact getD_set_true (hall e he hb)
    · intro j hj hjl
      rcases Nat.decEq j i with hji | hji
      · rw [getD_set_ne false (Ne.symm hji)] at hjl
        refine hkeep i j o (Ne.symm hji) ho ?_ a v w w' (hk j hj hjl) hrel
        cases hwf : Region.waitsFor md ops j i with
        | false => rfl
        | true =>
          obtain ⟨oj, hoj, e, he, hb, hon⟩ := Region.waitsFor_spec hwf
          have h1 := hcl j oj hoj hjl e he hb
          rw [hon, getD_both hiun] at h1
          cases h1
      · subst hji; exact hkn
    · intro j hj hjl
      rcases Nat.decEq j i with hji | hji
      · rw [getD_set_ne true (Ne.symm hji)] at hjl
        refine hNk j i o hji ho ?_ a v w w' (hN j hj hjl) hrel
        cases hwt : waitsT md ops ops.size i j with
        | false => rfl
        | true =>
          have := waitsT_listed hcl _ _ _ hwt o ho hall
          rw [getD_both hjl] at this
          cases this
      · subst hji
        rw [Array.getD_eq_getD_getElem?, Array.getElem?_setIfInBounds_self_of_lt (by omega)] at hjl
        cases hjl
/-- what operation i owes -/
def Owes3 (P : Program) (ops : Array Oper) (Q : Exit → Act → World → Prop) (C : World → Prop) (a0 : Act) (V : List (Option Value)) (Fs Ns : List (Nat × (Act → World → Prop))) (Rel : Nat → Act → Act → World → World → Prop) (i : Nat) (o : Oper) : Prop :=
  ∀ (a : Act) (w : World) (K : Act → World → Prop), C w → Same ops a0 a → (∀ e ∈ o.after, Region.binds .any e = true → Kn ops V Fs e.on a w) → (∀ p ∈ Ns, p.1 = i → p.2 a w) →
    (∀ v w', Rel i a (a.put o.dst v) w w' → (∀ v0, V[i]? = some (some v0) → v = v0) → (∀ p ∈ Fs, p.1 = i → p.2 (a.put o.dst v) w') → K (a.put o.dst v) w') →
    if Region.wanted o (yielded ops a.tmps) then o.wp P a w K Q else K (a.put o.dst undef) w
def AllOwe3 (P : Program) (ops : Array Oper) (Q : Exit → Act → World → Prop) (C : World → Prop) (a0 : Act) (V : List (Option Value)) (Fs Ns : List (Nat × (Act → World → Prop))) (Rel : Nat → Act → Act → World → World → Prop) : List Oper → Nat → Prop
  | [], _ => True
  | o :: l, k => Owes3 P ops Q C a0 V Fs Ns Rel k o ∧ AllOwe3 P ops Q C a0 V Fs Ns Rel l (k + 1)
theorem AllOwe3.at {V : List (Option Value)} {Fs Ns : List (Nat × (Act → World → Prop))} {Rel : Nat → Act → Act → World → World → Prop} : ∀ (l : List Oper) (k : Nat), AllOwe3 P ops Q C a0 V Fs Ns Rel l k → ∀ (j : Nat) (o : Oper), l[j]? = some o → Owes3 P ops Q C a0 V Fs Ns Rel (k + j) o
  | [], _, _, j, o, ho => by simp at ho
  | x :: l, k, h, 0, o, ho => by
    simp only [List.getElem?_cons_zero, Option.some.injEq] at ho
    subst ho
    exact h.1
  | x :: l, k, h, j + 1, o, ho => by
    simp only [List.getElem?_cons_succ] at ho
    have := AllOwe3.at l (k + 1) h.2 j o ho
    rwa [show k + 1 + j = k + (j + 1) by omega] at this
theorem wpAny_lo3 {w : World} {l : List Oper} (V : List (Option Value)) (Fs : List (Nat × (Act → World → Prop))) (Ns : List (Nat × (Act → World → Prop))) (Rel : Nat → Act → Act → World → World → Prop)
    (hB : looseB3 l.toArray a0.tmps.size (Fs.map (·.1)) = true) (hCw : C w.drew) (hC : ∀ i a a' w w', C w → Rel i a a' w w' → C w')
    (hst : ∀ p ∈ Fs, ∀ (i : Nat) (a a' : Act) (w w' : World), i ≠ p.1 → Region.waitsFor .any l.toArray p.1 i = false → (∀ t, (Oper.slots l.toArray p.1).contains t = true → a'.tmps[t]? = a.tmps[t]?) → (∃ o v, l.toArray[i]? = some o ∧ a' = a.put o.dst v) → Rel i a a' w w' → p.2 a w → p.2 a' w')
    (hN0 : ∀ p ∈ Ns, p.2 a0 w.drew)
    (hNst : ∀ p ∈ Ns, ∀ (i : Nat) (a a' : Act) (w w' : World), i ≠ p.1 → waitsT .any l.toArray l.length i p.1 = false → Rel i a a' w w' → p.2 a w → (∃ o v, l.toArray[i]? = some o ∧ a' = a.put o.dst v) → p.2 a' w')
    (hop : AllOwe3 P l.toArray Q C a0 V Fs Ns Rel l 0)
    (hfin : ∀ a w, C w → Same l.toArray a0 a → (∀ i, i < l.length → Kn l.toArray V Fs i a w) → Q .normal a w) : wpAny P .any l.toArray Q l.toArray.size (Array.replicate l.toArray.size false) a0 w.drew := by
  have hspec := looseB3_spec hB
  refine (wpAny_pre3 (C := C) (a0 := a0) (Kn l.toArray V Fs) (fun i a w => ∀ p ∈ Ns, p.1 = i → p.2 a w) Rel (fun i o ho => (hspec i o ho).1) hC ?_ ?_ ?_ ?_ _ (List.range l.toArray.size) _ _ _ (by simp) (by simp) ?_ hCw (Same.refl _ _) ?_ ?_ ?_)
  · intro i j o hij ho hwf a v w w' hk hrel
    refine ⟨fun oj u d hoj hu hd => ?_, fun p hp hpj => ?_⟩
    · have h1 := hk.1 oj u d hoj hu hd
      unfold Act.put
      split
      · rename_i di hdi
        have hne : di ≠ d := fun e => ((hspec i o ho).2 di hdi).2 j oj hij hoj |>.1 (by rw [hd, e])
        show (a.tmps.setIfInBounds di v)[d]? = _
        rw [Array.getElem?_setIfInBounds_ne hne]
        exact h1
      · exact h1
    · refine hst p hp i a _ w w' (by rw [hpj]; exact hij) (by rw [hpj]; exact hwf) (fun t ht => ?_) ⟨o, v, ho, rfl⟩ hrel (hk.2 p hp hpj)
      rw [hpj, List.contains_iff_mem] at ht
      unfold Act.put
      split
      · rename_i di hdi
        show (a.tmps.setIfInBounds di v)[t]? = _
        have hne : di ≠ t := by
          intro e
          subst e
          unfold Oper.slots at ht
          split at ht
          · cases ht
          · rename_i oj hoj
            have h2 := ((hspec i o ho).2 di hdi).2 j oj hij hoj
            rcases List.mem_append.1 ht with h3 | h3
            · rw [Option.mem_toList] at h3
              exact h2.1 h3
            · rw [h2.2 (List.mem_map.2 ⟨p, hp, hpj⟩) h3] at hwf
              cases hwf
        rw [Array.getElem?_setIfInBounds_ne hne]
      · rfl
  · intro i k o hik ho hwt a v w w' hN hrel p hp hpi
    refine hNst p hp k a _ w w' (by rw [hpi]; exact Ne.symm hik) (by rw [hpi]; simpa using hwt) hrel (hN p hp hpi) ⟨o, v, ho, rfl⟩
  · intro i o ho a w hw hs hk hN
    have h := AllOwe3.at l 0 hop i o (by simpa using ho)
    rw [Nat.zero_add] at h
    unfold wpOp
    simp only [ho]
    have hput : ∀ (v : Value) (w' : World), Rel i a (a.put o.dst v) w w' → (∀ v0, V[i]? = some (some v0) → v = v0) → (∀ p ∈ Fs, p.1 = i → p.2 (a.put o.dst v) w') → ∃ u, a.put o.dst v = a.put o.dst u ∧ Rel i a (a.put o.dst u) w w' ∧ Kn l.toArray V Fs i (a.put o.dst u) w' := by
      intro v w' hr hv hf
      refine ⟨v, rfl, hr, fun oj u d hoj hu hd => ?_, hf⟩
      have : oj = o := Option.some.inj (hoj.symm.trans ho)
      subst this
      have hvu := hv u hu
      subst hvu
      have hlt := ((hspec i oj ho).2 d hd).1
      unfold Act.put
      rw [hd]
      show (a.tmps.setIfInBounds d v)[d]? = _
      rw [Array.getElem?_setIfInBounds_self_of_lt (by rw [hs.2.1]; exact hlt)]
    have h' := h a w (fun a' w' => ∃ u, a' = a.put o.dst u ∧ Rel i a (a.put o.dst u) w w' ∧ Kn l.toArray V Fs i (a.put o.dst u) w') hw hs hk hN hput
    split
    · rename_i hwt
      rw [if_pos hwt] at h'
      exact .inl h'
    · rename_i hwt
      rw [if_neg hwt] at h'
      exact h'
  · intro a w hw hs hk
    exact hfin a w hw hs (fun i hi => hk i (by simpa using hi))
  · intro i hi _
    simpa using hi
  · intro j oj _ hl
    rw [getD_replicate_false] at hl
    cases hl
  · intro i _ hl
    rw [getD_replicate_false] at hl
    cases hl
  · intro i _ _ p hp _
    exact hN0 p hp
theorem wp_region_lo3 {id : Nat} {w : World} {l : List Oper} (V : List (Option Value)) (Fs : List (Nat × (Act → World → Prop))) (Ns : List (Nat × (Act → World → Prop))) (Rel : Nat → Act → Act → World → World → Prop)
    (hm : P.follows .mixedOrders = true) (hB : looseB3 l.toArray a0.tmps.size (Fs.map (·.1)) = true) (hCw : C w.drew) (hC : ∀ i a a' w w', C w → Rel i a a' w w' → C w')
    (hst : ∀ p ∈ Fs, ∀ (i : Nat) (a a' : Act) (w w' : World), i ≠ p.1 → Region.waitsFor .any l.toArray p.1 i = false → (∀ t, (Oper.slots l.toArray p.1).contains t = true → a'.tmps[t]? = a.tmps[t]?) → (∃ o v, l.toArray[i]? = some o ∧ a' = a.put o.dst v) → Rel i a a' w w' → p.2 a w → p.2 a' w')
    (hN0 : ∀ p ∈ Ns, p.2 a0 w.drew)
    (hNst : ∀ p ∈ Ns, ∀ (i : Nat) (a a' : Act) (w w' : World), i ≠ p.1 → waitsT .any l.toArray l.length i p.1 = false → Rel i a a' w w' → p.2 a w → (∃ o v, l.toArray[i]? = some o ∧ a' = a.put o.dst v) → p.2 a' w')
    (hop : AllOwe3 P l.toArray Q C a0 V Fs Ns Rel l 0)
    (hfin : ∀ a w, C w → Same l.toArray a0 a → (∀ i, i < l.length → Kn l.toArray V Fs i a w) → Q .normal a w) : (Code.region id l.toArray true).wp P Q a0 w :=
  wp_region_any hm (wpAny_lo3 V Fs Ns Rel hB hCw hC hst hN0 hNst hop hfin)

end
section
variable {ops : Array Oper} {n : Nat} {Rel : Nat → Act → Act → World → World → Prop}
theorem prek_nil3 : ∀ p ∈ ([] : List (Nat × (Act → World → Prop))), ∀ (i : Nat) (a a' : Act) (w w' : World), i ≠ p.1 → waitsT .any ops n i p.1 = false → Rel i a a' w w' → p.2 a w → (∃ o v, ops[i]? = some o ∧ a' = a.put o.dst v) → p.2 a' w' := fun p hp => by cases hp
theorem prek_cons3 {j : Nat} {F : Act → World → Prop} {Ns : List (Nat × (Act → World → Prop))} (h1 : ∀ (i : Nat) (a a' : Act) (w w' : World), i ≠ j → waitsT .any ops n i j = false → Rel i a a' w w' → F a w → (∃ o v, ops[i]? = some o ∧ a' = a.put o.dst v) → F a' w')
    (h2 : ∀ p ∈ Ns, ∀ (i : Nat) (a a' : Act) (w w' : World), i ≠ p.1 → waitsT .any ops n i p.1 = false → Rel i a a' w w' → p.2 a w → (∃ o v, ops[i]? = some o ∧ a' = a.put o.dst v) → p.2 a' w') :
    ∀ p ∈ (j, F) :: Ns, ∀ (i : Nat) (a a' : Act) (w w' : World), i ≠ p.1 → waitsT .any ops n i p.1 = false → Rel i a a' w w' → p.2 a w → (∃ o v, ops[i]? = some o ∧ a' = a.put o.dst v) → p.2 a' w' := fun p hp => by
  rcases List.mem_cons.1 hp with rfl | hp
  · exact h1
  · exact h2 p hp
end
section
variable {ops : Array Oper} {Rel : Nat → Act → Act → World → World → Prop}
theorem keeps3_nil : ∀ p ∈ ([] : List (Nat × (Act → World → Prop))), ∀ (i : Nat) (a a' : Act) (w w' : World), i ≠ p.1 → Region.waitsFor .any ops p.1 i = false → (∀ t, (Oper.slots ops p.1).contains t = true → a'.tmps[t]? = a.tmps[t]?) → (∃ o v, ops[i]? = some o ∧ a' = a.put o.dst v) → Rel i a a' w w' → p.2 a w → p.2 a' w' := fun p hp => by cases hp
theorem keeps3_cons {j : Nat} {F : Act → World → Prop} {Fs : List (Nat × (Act → World → Prop))} (h1 : ∀ (i : Nat) (a a' : Act) (w w' : World), i ≠ j → Region.waitsFor .any ops j i = false → (∀ t, (Oper.slots ops j).contains t = true → a'.tmps[t]? = a.tmps[t]?) → (∃ o v, ops[i]? = some o ∧ a' = a.put o.dst v) → Rel i a a' w w' → F a w → F a' w')
    (h2 : ∀ p ∈ Fs, ∀ (i : Nat) (a a' : Act) (w w' : World), i ≠ p.1 → Region.waitsFor .any ops p.1 i = false → (∀ t, (Oper.slots ops p.1).contains t = true → a'.tmps[t]? = a.tmps[t]?) → (∃ o v, ops[i]? = some o ∧ a' = a.put o.dst v) → Rel i a a' w w' → p.2 a w → p.2 a' w') : ∀ p ∈ (j, F) :: Fs, ∀ (i : Nat) (a a' : Act) (w w' : World), i ≠ p.1 → Region.waitsFor .any ops p.1 i = false → (∀ t, (Oper.slots ops p.1).contains t = true → a'.tmps[t]? = a.tmps[t]?) → (∃ o v, ops[i]? = some o ∧ a' = a.put o.dst v) → Rel i a a' w w' → p.2 a w → p.2 a' w' := fun p hp => by
  rcases List.mem_cons.1 hp with rfl | hp
  · exact h1
  · exact h2 p hp
/-- a slot that only operation k writes -/
theorem other_slot {d k i : Nat} (hd : ((List.range ops.size).all fun j => j == k || decide ((ops[j]?.bind (·.dst)) ≠ some d)) = true) {a a' : Act} (h : ∃ o v, ops[i]? = some o ∧ a' = a.put o.dst v) (hi : i ≠ k) : a'.tmps[d]? = a.tmps[d]? := by
  obtain ⟨o, v, ho, rfl⟩ := h
  have hlt : i < ops.size := (Array.getElem?_eq_some_iff.1 ho).1
  have h1 := List.all_eq_true.1 hd i (by simpa using hlt)
  simp only [Bool.or_eq_true, beq_iff_eq, decide_eq_true_eq, ho, Option.bind_some] at h1
  have h2 : o.dst ≠ some d := h1.resolve_left hi
  unfold Act.put
  split
  · rename_i di hdi
    have hne : di ≠ d := fun e => h2 (by rw [hdi, e])
    show (a.tmps.setIfInBounds di v)[d]? = _
    rw [Array.getElem?_setIfInBounds_ne hne]
  · rfl
end
end Go.Proofs.YtnjlefggkfagmaaGreatDoor

/- As XLo3, but an operation owes its fact out of the facts of all that it waits for, by however many steps; a fact need not be kept by what it waits for so. -/
set_option linter.unusedVariables false
set_option linter.unusedSimpArgs false
namespace Go.Proofs.YtnjlefggkfagmaaGreatDoor
open Go Go.RowKit

theorem waitsT_of {md : Region.Mode} {ops : Array Oper} {j i : Nat} (h : Region.waitsFor md ops j i = true) (hs : 0 < ops.size) : waitsT md ops ops.size j i = true := by
  obtain ⟨n, hn⟩ : ∃ n, ops.size = n + 1 := ⟨ops.size - 1, by omega⟩
  rw [hn]
  obtain ⟨oj, hoj, e, he, hb, hon⟩ := Region.waitsFor_spec h
  unfold waitsT
  simp only [hoj]
  exact Array.any_eq_true'.2 ⟨e, he, by simp [hb, hon]⟩
section
variable {P : Program} {ops : Array Oper} {Q : Exit → Act → World → Prop} {md : Region.Mode} {C : World → Prop} {a0 : Act}
theorem wpAny_pre4 (Kn : Nat → Act → World → Prop) (N : Nat → Act → World → Prop) (Rel : Nat → Act → Act → World → World → Prop)
    (hacyc : ∀ (i : Nat) (o : Oper), ops[i]? = some o → ∀ e ∈ o.after, Region.binds md e = true → e.on < i)
    (hC : ∀ i a a' w w', C w → Rel i a a' w w' → C w')
    (hkeep : ∀ (i j : Nat) (o : Oper), i ≠ j → ops[i]? = some o → waitsT md ops ops.size j i = false → ∀ a v w w', Kn j a w → Rel i a (a.put o.dst v) w w' → Kn j (a.put o.dst v) w')
    (hNk : ∀ (i k : Nat) (o : Oper), i ≠ k → ops[k]? = some o → waitsT md ops ops.size k i = false → ∀ a v w w', N i a w → Rel k a (a.put o.dst v) w w' → N i (a.put o.dst v) w')
    (hop : ∀ (i : Nat) (o : Oper), ops[i]? = some o → ∀ a w, C w → Same ops a0 a → (∀ j, waitsT md ops ops.size i j = true → Kn j a w) → N i a w →
      wpOp P ops Q i (fun a' w' => ∃ v, a' = a.put o.dst v ∧ Rel i a (a.put o.dst v) w w' ∧ Kn i (a.put o.dst v) w') a w)
    (hfin : ∀ a w, C w → Same ops a0 a → (∀ i, i < ops.size → Kn i a w) → Q .normal a w) :
    ∀ (f : Nat) (L : List Nat) (listed : Array Bool) (a : Act) (w : World), L.length ≤ f → listed.size = ops.size → (∀ i, i < ops.size → listed.getD i true = false → i ∈ L) → C w → Same ops a0 a →
      (∀ (j : Nat) (oj : Oper), ops[j]? = some oj → listed.getD j false = true → ∀ e ∈ oj.after, Region.binds md e = true → listed.getD e.on false = true) →
      (∀ i, i < ops.size → listed.getD i false = true → Kn i a w) → (∀ i, i < ops.size → listed.getD i true = false → N i a w) → wpAny P md ops Q f listed a w := by
  have hfull : ∀ listed : Array Bool, listed.size = ops.size → Region.ready md ops listed = [] → ∀ (d i : Nat), i < d → i < ops.size → listed.getD i false = true := by
    intro listed hsz hr d
    induction d with
    | zero => intro i hi; omega
    | succ d ih =>
      intro i hi hin
      rcases Nat.lt_or_ge i d with h | h
      · exact ih i h hin
      · obtain rfl : i = d := by omega
        cases hl : listed.getD i false with
        | true => rfl
        | false =>
          have hmem : i ∈ Region.ready md ops listed := by
            rw [mem_ready]
            refine ⟨getD_in (by omega) hl, ops[i], Array.getElem?_eq_getElem hin, fun e he hb => ?_⟩
            have := hacyc i ops[i] (Array.getElem?_eq_getElem hin) e he hb
            exact ih e.on this (by omega)
          rw [hr] at hmem
          cases hmem
  intro f
  induction f with
  | zero =>
    intro L listed a w hL hsz hun hw hs hcl hk hN
    have hall : ∀ i, i < ops.size → listed.getD i false = true := by
      intro i hi
      cases hl : listed.getD i false with
      | true => rfl
      | false =>
        have := hun i hi (getD_in (by omega) hl)
        have hL0 : L = [] := List.length_eq_zero_iff.1 (by omega)
        rw [hL0] at this
        cases this
    have hr : Region.ready md ops listed = [] := by
      apply List.eq_nil_iff_forall_not_mem.2
      intro i hi
      obtain ⟨h1, o, ho, _⟩ := mem_ready.1 hi
      have hlt : i < ops.size := (Array.getElem?_eq_some_iff.1 ho).1
      have h2 := hall i hlt
      rw [getD_both h1] at h2
      cases h2
    exact ⟨hr, hfin a w hw hs (fun i hi => hk i hi (hall i hi))⟩
  | succ f ih =>
    intro L listed a w hL hsz hun hw hs hcl hk hN
    refine ⟨fun hr => hfin a w hw hs (fun i hi => hk i hi (hfull listed hsz hr _ i hi hi)), fun i hi => ?_⟩
    obtain ⟨hiun, o, ho, hall⟩ := mem_ready.1 hi
    have hlt : i < ops.size := (Array.getElem?_eq_some_iff.1 ho).1
    refine wpOp_mono ?_ (hop i o ho a w hw hs (fun j hwj => by
      have h1 := waitsT_listed hcl _ _ _ hwj o ho hall
      have h2 : j < ops.size := by
        rcases Nat.lt_or_ge j ops.size with h | h
        · exact h
        · rw [Array.getD_eq_getD_getElem?, Array.getElem?_eq_none (by omega)] at h1; cases h1
      exact hk j h2 h1) (hN i hlt hiun))
    rintro a' w' ⟨v, rfl, hrel, hkn⟩
    have hiL := hun i hlt hiun
    refine ih (L.erase i) (listed.setIfInBounds i true) _ w' ?_ (by simpa using hsz) ?_ (hC i _ _ _ _ hw hrel) (hs.put ho v) ?_ ?_ ?_
    · rw [List.length_erase_of_mem hiL]; omega
    · intro j hj hjl
      rcases Nat.decEq j i with hji | hji
      · rw [getD_set_ne true (Ne.symm hji)] at hjl
        exact (List.mem_erase_of_ne hji).2 (hun j hj hjl)
      · subst hji
        rw [Array.getD_eq_getD_getElem?, Array.getElem?_setIfInBounds_self_of_lt (by omega)] at hjl
        cases hjl
    · intro j oj hoj hjl e he hb
      rcases Nat.decEq j i with hji | hji
      · rw [getD_set_ne false (Ne.symm hji)] at hjl
        exact getD_set_true (hcl j oj hoj hjl e he hb)
      · subst hji
        have : oj = o := Option.some.inj (hoj.symm.trans ho)
        subst this
        exact getD_set_true (hall e he hb)
    · intro j hj hjl
      rcases Nat.decEq j i with hji | hji
      · rw [getD_set_ne false (Ne.symm hji)] at hjl
        refine hkeep i j o (Ne.symm hji) ho ?_ a v w w' (hk j hj hjl) hrel
        cases hwf : waitsT md ops ops.size j i with
        | false => rfl
        | true =>
          have h1 := waitsT_listed hcl _ _ _ hwf ops[j] (Array.getElem?_eq_getElem hj) (hcl j _ (Array.getElem?_eq_getElem hj) hjl)
          rw [getD_both hiun] at h1
          cases h1
      · subst hji; exact hkn
    · intro j hj hjl
      rcases Nat.decEq j i with hji | hji
      · rw [getD_set_ne true (Ne.symm hji)] at hjl
        refine hNk j i o hji ho ?_ a v w w' (hN j hj hjl) hrel
        cases hwt : waitsT md ops ops.size i j with
        | false => rfl
        | true =>
          have := waitsT_listed hcl _ _ _ hwt o ho hall
          rw [getD_both hjl] at this
          cases this
      · subst hji
        rw [Array.getD_eq_getD_getElem?, Array.getElem?_setIfInBounds_self_of_lt (by omega)] at hjl
        cases hjl
/-- what operation i owes -/
def Owes4 (P : Program) (ops : Array Oper) (Q : Exit → Act → World → Prop) (C : World → Prop) (a0 : Act) (V : List (Option Value)) (Fs Ns : List (Nat × (Act → World → Prop))) (Rel : Nat → Act → Act → World → World → Prop) (i : Nat) (o : Oper) : Prop :=
  ∀ (a : Act) (w : World) (K : Act → World → Prop), C w → Same ops a0 a → (∀ j, waitsT .any ops ops.size i j = true → Kn ops V Fs j a w) → (∀ p ∈ Ns, p.1 = i → p.2 a w) →
    (∀ v w', Rel i a (a.put o.dst v) w w' → (∀ v0, V[i]? = some (some v0) → v = v0) → (∀ p ∈ Fs, p.1 = i → p.2 (a.put o.dst v) w') → K (a.put o.dst v) w') →
    if Region.wanted o (yielded ops a.tmps) then o.wp P a w K Q else K (a.put o.dst undef) w
def AllOwe4 (P : Program) (ops : Array Oper) (Q : Exit → Act → World → Prop) (C : World → Prop) (a0 : Act) (V : List (Option Value)) (Fs Ns : List (Nat × (Act → World → Prop))) (Rel : Nat → Act → Act → World → World → Prop) : List Oper → Nat → Prop
  | [], _ => True
  | o :: l, k => Owes4 P ops Q C a0 V Fs Ns Rel k o ∧ AllOwe4 P ops Q C a0 V Fs Ns Rel l (k + 1)
theorem AllOwe4.at {V : List (Option Value)} {Fs Ns : List (Nat × (Act → World → Prop))} {Rel : Nat → Act → Act → World → World → Prop} : ∀ (l : List Oper) (k : Nat), AllOwe4 P ops Q C a0 V Fs Ns Rel l k → ∀ (j : Nat) (o : Oper), l[j]? = some o → Owes4 P ops Q C a0 V Fs Ns Rel (k + j) o
  | [], _, _, j, o, ho => by simp at ho
  | x :: l, k, h, 0, o, ho => by
    simp only [List.getElem?_cons_zero, Option.some.injEq] at ho
    subst ho
    exact h.1
  | x :: l, k, h, j + 1, o, ho => by
    simp only [List.getElem?_cons_succ] at ho
    have := AllOwe4.at l (k + 1) h.2 j o ho
    rwa [show k + 1 + j = k + (j + 1) by omega] at this
theorem wpAny_lo4 {w : World} {l : List Oper} (V : List (Option Value)) (Fs : List (Nat × (Act → World → Prop))) (Ns : List (Nat × (Act → World → Prop))) (Rel : Nat → Act → Act → World → World → Prop)
    (hB : looseB3 l.toArray a0.tmps.size (Fs.map (·.1)) = true) (hCw : C w.drew) (hC : ∀ i a a' w w', C w → Rel i a a' w w' → C w')
    (hst : ∀ p ∈ Fs, ∀ (i : Nat) (a a' : Act) (w w' : World), i ≠ p.1 → waitsT .any l.toArray l.length p.1 i = false → (∀ t, (Oper.slots l.toArray p.1).contains t = true → a'.tmps[t]? = a.tmps[t]?) → (∃ o v, l.toArray[i]? = some o ∧ a' = a.put o.dst v) → Rel i a a' w w' → p.2 a w → p.2 a' w')
    (hN0 : ∀ p ∈ Ns, p.2 a0 w.drew)
    (hNst : ∀ p ∈ Ns, ∀ (i : Nat) (a a' : Act) (w w' : World), i ≠ p.1 → waitsT .any l.toArray l.length i p.1 = false → Rel i a a' w w' → p.2 a w → (∃ o v, l.toArray[i]? = some o ∧ a' = a.put o.dst v) → p.2 a' w')
    (hop : AllOwe4 P l.toArray Q C a0 V Fs Ns Rel l 0)
    (hfin : ∀ a w, C w → Same l.toArray a0 a → (∀ i, i < l.length → Kn l.toArray V Fs i a w) → Q .normal a w) : wpAny P .any l.toArray Q l.toArray.size (Array.replicate l.toArray.size false) a0 w.drew := by
  have hspec := looseB3_spec hB
  refine (wpAny_pre4 (C := C) (a0 := a0) (Kn l.toArray V Fs) (fun i a w => ∀ p ∈ Ns, p.1 = i → p.2 a w) Rel (fun i o ho => (hspec i o ho).1) hC ?_ ?_ ?_ ?_ _ (List.range l.toArray.size) _ _ _ (by simp) (by simp) ?_ hCw (Same.refl _ _) ?_ ?_ ?_)
  · intro i j o hij ho hwf a v w w' hk hrel
    refine ⟨fun oj u d hoj hu hd => ?_, fun p hp hpj => ?_⟩
    · have h1 := hk.1 oj u d hoj hu hd
      unfold Act.put
      split
      · rename_i di hdi
        have hne : di ≠ d := fun e => ((hspec i o ho).2 di hdi).2 j oj hij hoj |>.1 (by rw [hd, e])
        show (a.tmps.setIfInBounds di v)[d]? = _
        rw [Array.getElem?_setIfInBounds_ne hne]
        exact h1
      · exact h1
    · refine hst p hp i a _ w w' (by rw [hpj]; exact hij) (by rw [hpj]; simpa using hwf) (fun t ht => ?_) ⟨o, v, ho, rfl⟩ hrel (hk.2 p hp hpj)
      rw [hpj, List.contains_iff_mem] at ht
      unfold Act.put
      split
      · rename_i di hdi
        show (a.tmps.setIfInBounds di v)[t]? = _
        have hne : di ≠ t := by
          intro e
          subst e
          unfold Oper.slots at ht
          split at ht
          · cases ht
          · rename_i oj hoj
            have h2 := ((hspec i o ho).2 di hdi).2 j oj hij hoj
            rcases List.mem_append.1 ht with h3 | h3
            · rw [Option.mem_toList] at h3
              exact h2.1 h3
            · have h4 := waitsT_of (h2.2 (List.mem_map.2 ⟨p, hp, hpj⟩) h3) (by have := (Array.getElem?_eq_some_iff.1 ho).1; omega)
              rw [h4] at hwf
              cases hwf
        rw [Array.getElem?_setIfInBounds_ne hne]
      · rfl
  · intro i k o hik ho hwt a v w w' hN hrel p hp hpi
    refine hNst p hp k a _ w w' (by rw [hpi]; exact Ne.symm hik) (by rw [hpi]; simpa using hwt) hrel (hN p hp hpi) ⟨o, v, ho, rfl⟩
  · intro i o ho a w hw hs hk hN
    have h := AllOwe4.at l 0 hop i o (by simpa using ho)
    rw [Nat.zero_add] at h
    unfold wpOp
    simp only [ho]
    have hput : ∀ (v : Value) (w' : World), Rel i a (a.put o.dst v) w w' → (∀ v0, V[i]? = some (some v0) → v = v0) → (∀ p ∈ Fs, p.1 = i → p.2 (a.put o.dst v) w') → ∃ u, a.put o.dst v = a.put o.dst u ∧ Rel i a (a.put o.dst u) w w' ∧ Kn l.toArray V Fs i (a.put o.dst u) w' := by
      intro v w' hr hv hf
      refine ⟨v, rfl, hr, fun oj u d hoj hu hd => ?_, hf⟩
      have : oj = o := Option.some.inj (hoj.symm.trans ho)
      subst this
      have hvu := hv u hu
      subst hvu
      have hlt := ((hspec i oj ho).2 d hd).1
      unfold Act.put
      rw [hd]
      show (a.tmps.setIfInBounds d v)[d]? = _
      rw [Array.getElem?_setIfInBounds_self_of_lt (by rw [hs.2.1]; exact hlt)]
    have h' := h a w (fun a' w' => ∃ u, a' = a.put o.dst u ∧ Rel i a (a.put o.dst u) w w' ∧ Kn l.toArray V Fs i (a.put o.dst u) w') hw hs hk hN hput
    split
    · rename_i hwt
      rw [if_pos hwt] at h'
      exact .inl h'
    · rename_i hwt
      rw [if_neg hwt] at h'
      exact h'
  · intro a w hw hs hk
    exact hfin a w hw hs (fun i hi => hk i (by simpa using hi))
  · intro i hi _
    simpa using hi
  · intro j oj _ hl
    rw [getD_replicate_false] at hl
    cases hl
  · intro i _ hl
    rw [getD_replicate_false] at hl
    cases hl
  · intro i _ _ p hp _
    exact hN0 p hp
theorem wp_region_lo4 {id : Nat} {w : World} {l : List Oper} (V : List (Option Value)) (Fs : List (Nat × (Act → World → Prop))) (Ns : List (Nat × (Act → World → Prop))) (Rel : Nat → Act → Act → World → World → Prop)
    (hm : P.follows .mixedOrders = true) (hB : looseB3 l.toArray a0.tmps.size (Fs.map (·.1)) = true) (hCw : C w.drew) (hC : ∀ i a a' w w', C w → Rel i a a' w w' → C w')
    (hst : ∀ p ∈ Fs, ∀ (i : Nat) (a a' : Act) (w w' : World), i ≠ p.1 → waitsT .any l.toArray l.length p.1 i = false → (∀ t, (Oper.slots l.toArray p.1).contains t = true → a'.tmps[t]? = a.tmps[t]?) → (∃ o v, l.toArray[i]? = some o ∧ a' = a.put o.dst v) → Rel i a a' w w' → p.2 a w → p.2 a' w')
    (hN0 : ∀ p ∈ Ns, p.2 a0 w.drew)
    (hNst : ∀ p ∈ Ns, ∀ (i : Nat) (a a' : Act) (w w' : World), i ≠ p.1 → waitsT .any l.toArray l.length i p.1 = false → Rel i a a' w w' → p.2 a w → (∃ o v, l.toArray[i]? = some o ∧ a' = a.put o.dst v) → p.2 a' w')
    (hop : AllOwe4 P l.toArray Q C a0 V Fs Ns Rel l 0)
    (hfin : ∀ a w, C w → Same l.toArray a0 a → (∀ i, i < l.length → Kn l.toArray V Fs i a w) → Q .normal a w) : (Code.region id l.toArray true).wp P Q a0 w :=
  wp_region_any hm (wpAny_lo4 V Fs Ns Rel hB hCw hC hst hN0 hNst hop hfin)

end
section
variable {ops : Array Oper} {n : Nat} {Rel : Nat → Act → Act → World → World → Prop}
theorem keeps4_nil : ∀ p ∈ ([] : List (Nat × (Act → World → Prop))), ∀ (i : Nat) (a a' : Act) (w w' : World), i ≠ p.1 → waitsT .any ops n p.1 i = false → (∀ t, (Oper.slots ops p.1).contains t = true → a'.tmps[t]? = a.tmps[t]?) → (∃ o v, ops[i]? = some o ∧ a' = a.put o.dst v) → Rel i a a' w w' → p.2 a w → p.2 a' w' := fun p hp => by cases hp
theorem keeps4_cons {j : Nat} {F : Act → World → Prop} {Fs : List (Nat × (Act → World → Prop))} (h1 : ∀ (i : Nat) (a a' : Act) (w w' : World), i ≠ j → waitsT .any ops n j i = false → (∀ t, (Oper.slots ops j).contains t = true → a'.tmps[t]? = a.tmps[t]?) → (∃ o v, ops[i]? = some o ∧ a' = a.put o.dst v) → Rel i a a' w w' → F a w → F a' w')
    (h2 : ∀ p ∈ Fs, ∀ (i : Nat) (a a' : Act) (w w' : World), i ≠ p.1 → waitsT .any ops n p.1 i = false → (∀ t, (Oper.slots ops p.1).contains t = true → a'.tmps[t]? = a.tmps[t]?) → (∃ o v, ops[i]? = some o ∧ a' = a.put o.dst v) → Rel i a a' w w' → p.2 a w → p.2 a' w') : ∀ p ∈ (j, F) :: Fs, ∀ (i : Nat) (a a' : Act) (w w' : World), i ≠ p.1 → waitsT .any ops n p.1 i = false → (∀ t, (Oper.slots ops p.1).contains t = true → a'.tmps[t]? = a.tmps[t]?) → (∃ o v, ops[i]? = some o ∧ a' = a.put o.dst v) → Rel i a a' w w' → p.2 a w → p.2 a' w' := fun p hp => by
  rcases List.mem_cons.1 hp with rfl | hp
  · exact h1
  · exact h2 p hp
end
end Go.Proofs.YtnjlefggkfagmaaGreatDoor

/- A disk in memory: where it lies; place, at, New, Start. -/
set_option linter.unusedVariables false
set_option linter.unusedSimpArgs false
namespace Go.Proofs.YtnjlefggkfagmaaGreatDoor
open Go.RowKit

/-- all is as it was but for the blocks of F -/
structure Sav (F : Nat → Prop) (w w' : World) : Prop where
  os : w'.os = w.os
  tape : w'.tape = w.tape
  output : w'.output = w.output
  size : w.heap.size ≤ w'.heap.size
  block : ∀ k, k < w.heap.size → ¬ F k → w'.heap[k]? = w.heap[k]?
section
variable {F F' : Nat → Prop} {a w w' w2 : World}
theorem Sav.refl (F : Nat → Prop) (w : World) : Sav F w w := ⟨rfl, rfl, rfl, Nat.le_refl _, fun _ _ _ => rfl⟩
theorem Sav.join (h : Sav F a w) (k : Sav F' w w') (hF : ∀ k, k < a.heap.size → F' k → F k) : Sav F a w' :=
  ⟨k.os.trans h.os, k.tape.trans h.tape, k.output.trans h.output, Nat.le_trans h.size k.size, fun i hi hn => (k.block i (Nat.lt_of_lt_of_le hi h.size) (fun h' => hn (hF i hi h'))).trans (h.block i hi hn)⟩
theorem Sav.trans (h : Sav F a w) (k : Sav F w w') : Sav F a w' := h.join k fun _ _ h => h
theorem Sav.of (h : Below w.heap.size w w') : Sav F w w' := ⟨h.os, h.tape, h.output, h.size, fun k hk _ => h.block k hk⟩
theorem Sav.to (h : Sav F a w) (hb : Below w.heap.size w w') : Sav F a w' := h.trans (Sav.of hb)
theorem Sav.mono (h : Sav F w w') (hF : ∀ k, k < w.heap.size → F k → F' k) : Sav F' w w' := ⟨h.os, h.tape, h.output, h.size, fun k hk hn => h.block k hk fun h' => hn (hF k hk h')⟩
theorem Sav.set_ (h : Sav F a w) {p : Addr} (hp : p.block < a.heap.size → F p.block) (u : Value) : Sav F a (w.setCell p u) :=
  ⟨h.os, h.tape, h.output, by simpa [World.setCell] using h.size, fun k hk hn => (Below.heap_setCell _ _ _ _ (fun e => hn (by rw [e]; exact hp (by rw [← e]; exact hk)))).trans (h.block k hk hn)⟩
theorem Sav.below {B : Nat} (h : Sav F w w') (hB : B ≤ w.heap.size) (hF : ∀ k, k < B → ¬ F k) : Below B w w' := ⟨h.os, h.tape, h.output, h.size, fun k hk => h.block k (by omega) (hF k hk)⟩
theorem Sav.blk {g : Nat} {t : TypeId} {cs : Array Value} (h : Sav F w w') (H : Blk w g t cs) (hF : ¬ F g) : Blk w' g t cs := (h.block g H.lt hF).trans H
theorem Sav.own {base : Nat} {e : TypeId} {size n : Nat} {v : Value} {xs : List Value} (h : Sav F w w') (H : w.ownsRow base e size v n xs) (hF : ∀ g, v.ownBlock = some g → ¬ F g) : w'.ownsRow base e size v n xs := by
  obtain ⟨h1, h2⟩ := H
  refine ⟨h1, ?_⟩
  rcases h2 with h2 | ⟨g, cap, cur, hv, hB, hg, hr⟩
  · exact .inl h2
  · refine .inr ⟨g, cap, cur, hv, hB, ?_, hr⟩
    rw [h.block g (Array.getElem?_eq_some_iff.1 hg).1 (hF g (by rw [hv]; rfl))]
    exact hg
theorem Sav.grown {row : Option Nat} (h : Sav F a w) (hg : w.grownBy w' row) (hr : ∀ k, row = some k → k < a.heap.size → F k) : Sav F a w' :=
  h.join (F' := fun k => row = some k) ⟨hg.os, hg.tape, hg.output, hg.size, fun k hk hn => hg.block k hk fun e => hn e.symm⟩ fun k hk e => hr k e hk
end
def armV (m : Option (Int × Int × Int)) (ab : Nat) : Value := match m with | none => .pointer none | some _ => .pointer (some ⟨ab, 0, none⟩)
def pendV (p : Nat × List UInt8) : List Value := [.int .i64 ((64 * p.1 : Nat) : Int), .int .i64 ((64 * p.1 + 64 : Nat) : Int), .string (bs p.2)]
def pendF (q : List (Nat × List UInt8)) : List Value := (q.map pendV).flatten
def stB (ss : List (List UInt8)) : Array Value := (Lib.byteCells ss.flatten).toArray
def dkP (b : Nat) : Value := .pointer (some ⟨b, 0, none⟩)
/-- a disk in memory: its box b, the array sb of its sectors, its alarm ab, what waits in a row of its own -/
structure DkAt (b sb ab : Nat) (vq : Value) (d : Dk) (w : World) : Prop where
  blk : Blk w b 60 #[.slice (some ⟨sb, 0, none⟩) (64 * d.ss.length) (64 * d.ss.length), vq, .bool d.off, armV d.arm ab]
  st : Blk w sb 5 (stB d.ss)
  al : ∀ a n c, d.arm = some (a, n, c) → Blk w ab 88 #[.int .i64 a, .int .i64 n, .int .i64 c] ∧ b < ab ∧ (∀ g, vq.ownBlock = some g → g ≠ ab) ∧ a ≤ 9223372036854775807
  ord : sb < b
  q : w.ownsRow (b + 1) 133 3 vq d.q.length (pendF d.q)
  l64 : All64 d.ss
  qk : ∀ p ∈ d.q, p.1 < d.ss.length ∧ p.2.length = 64
  few : d.ss.length ≤ 4000 ∧ d.q.length ≤ 1000000
theorem own_toB {w w' : World} {base : Nat} {e : TypeId} {size n : Nat} {v : Value} {xs : List Value} (h : w.ownsRow base e size v n xs) (hb : Below w.heap.size w w') : w'.ownsRow base e size v n xs :=
  Sav.own (F := fun _ => False) (Sav.of hb) h fun _ _ h => h
theorem DkAt.to {b sb ab : Nat} {vq : Value} {d : Dk} {w w' : World} (h : DkAt b sb ab vq d w) (hb : Below w.heap.size w w') : DkAt b sb ab vq d w' :=
  ⟨h.blk.to hb, h.st.to hb, fun a n c e => ⟨(h.al a n c e).1.to hb, (h.al a n c e).2⟩, h.ord, own_toB h.q hb, h.l64, h.qk, h.few⟩
/-- the blocks of a disk -/
def DF (b sb ab : Nat) (vq : Value) (k : Nat) : Prop := k = b ∨ k = sb ∨ (k = ab ∧ b < ab) ∨ vq.ownBlock = some k
theorem stB_size (ss : List (List UInt8)) (h : All64 ss) : (stB ss).size = 64 * ss.length := by unfold stB; rw [List.size_toArray, Lib.byteCells_length, flat_64 ss h]
def spotV (a c : Int) : Value := .agg #[.int .i64 a, .int .i64 c]
theorem results_spot {fn : Func} {p u : Tmp} (h : fn.results = #[.cell p 129, .tmp u]) (tmps : Array Value) (w : World) (g : Nat) (x y v : Value) (hp : tmps[p]? = some (.pointer (some ⟨g, 0, none⟩))) (hv : tmps[u]? = some v) (hc : Blk w g 129 #[x, y]) :
    (results fn tmps).run Tryz.prog w = .ok (.tuple #[.agg #[x, y], v]) w := by
  have hp' : tmps[p]?.getD undef = .pointer (some ⟨g, 0, none⟩) := by rw [hp]; rfl
  have hv' : tmps[u]?.getD undef = v := by rw [hv]; rfl
  have x0 := (hc.cell 0).trans (show _ = some x from rfl)
  have x1 := (hc.cell 1).trans (show _ = some y from rfl)
  simp [results, h, hp', hv', go_sem, x0, x1]
def placeV (k n : Nat) : Value := .tuple #[if k < n then spotV ((64 * k : Nat) : Int) ((64 * k + 64 : Nat) : Int) else spotV 0 0, .bool (decide (k < n))]
set_option maxRecDepth 100000 in
set_option maxHeartbeats 2000000 in
theorem place_any (b sb ab : Nat) (vq : Value) (d : Dk) (k : Nat) (hk : k ≤ 1000000) (w : World) (h : DkAt b sb ab vq d w) :
    Calls Tryz.prog 125 #[dkP b, .int .i64 (k : Int)] w fun e w' => e = .returned (placeV k d.ss.length) ∧ Below w.heap.size w w' := by
  have x0 := (h.blk.cell 0).trans (show _ = some (Value.slice (some ⟨sb, 0, none⟩) (64 * d.ss.length) (64 * d.ss.length)) from rfl)
  have hf := h.few
  have hlt : b < w.heap.size := h.blk.lt
  have hne : b ≠ w.heap.size := by omega
  have e0 : decide ((k : Int) < 0) = false := decide_eq_false (by omega)
  have ed : ((64 * d.ss.length : Nat) : Int) / 64 = ((d.ss.length : Nat) : Int) := by omega
  have ew := w64 (x := (k : Int) * 64) (by omega) (by omega)
  have ew1 := w64 (x := (k : Int) + 1) (by omega) (by omega)
  have ew2 := w64 (x := ((k : Int) + 1) * 64) (by omega) (by omega)
  unfold dkP placeV
  generalize d.ss.length = n at *
  clear h
  by_cases hlt : k < n
  · have e1 : decide ((n : Int) ≤ (k : Int)) = false := decide_eq_false (by omega)
    rw [if_pos hlt, decide_eq_true hlt]
    have e2 : ((64 * k : Nat) : Int) = (k : Int) * 64 := by omega
    have e3 : ((64 * k + 64 : Nat) : Int) = ((k : Int) + 1) * 64 := by omega
    rw [e2, e3]
    clear e2 e3
    go_enter Tryz.func125, Tryz.ntmps125
    have e4 : decide (n ≤ k) = false := decide_eq_false (by omega)
    go_wp2_with fail
    refine bodyPost_ret (results_spot rfl _ _ w.heap.size _ _ _ rfl rfl (Blk.new w _ _)) rfl ⟨rfl, below_one _ _⟩
  · have e1 : decide ((n : Int) ≤ (k : Int)) = true := decide_eq_true (by omega)
    have e4 : decide (n ≤ k) = true := decide_eq_true (by omega)
    rw [if_neg hlt, decide_eq_false hlt]
    go_enter Tryz.func125, Tryz.ntmps125
    go_wp2_with fail
    refine bodyPost_ret (results_spot rfl _ _ w.heap.size _ _ _ rfl rfl (Blk.new w _ _)) rfl ⟨rfl, below_one _ _⟩
def atV (k n : Nat) : Value := .tuple #[if k < n then spotV ((64 * k : Nat) : Int) ((64 * k + 64 : Nat) : Int) else spotV 0 0, .int .i64 (if k < n then 0 else 1)]
set_option maxRecDepth 100000 in
set_option maxHeartbeats 2000000 in
theorem at_any (b sb ab : Nat) (vq : Value) (d : Dk) (hon : d.off = false) (k : Nat) (hk : k ≤ 1000000) (w : World) (h : DkAt b sb ab vq d w) :
    Calls Tryz.prog 102 #[dkP b, .int .i64 (k : Int)] w fun e w' => e = .returned (atV k d.ss.length) ∧ Below w.heap.size w w' := by
  have CP := fun (w' : World) (hb : Below w.heap.size w w') => place_any b sb ab vq d k hk w' (h.to hb)
  have x2 := (h.blk.cell 2).trans (show _ = some (Value.bool false) from by rw [← hon]; rfl)
  have hlt : b < w.heap.size := h.blk.lt
  have hne : b ≠ w.heap.size := by omega
  unfold dkP at CP ⊢
  unfold placeV at CP
  unfold atV
  generalize d.ss.length = n at *
  have hb0 := below_one w (.cells #[.int .i64 0, .int .i64 0] 129)
  have HB0 := hide hb0
  have HE := hide (Blk.new w 129 #[.int .i64 0, .int .i64 0])
  clear h hb0
  by_cases hlt : k < n
  · rw [if_pos hlt, decide_eq_true hlt] at CP
    rw [if_pos hlt, if_pos hlt]
    unfold spotV at CP ⊢
    generalize ((64 * k : Nat) : Int) = p at *
    generalize ((64 * k + 64 : Nat) : Int) = q at *
    go_enter Tryz.func102, Tryz.ntmps102
    go_wp2_with ((with_reducible refine (CP _ HB0.out).mono ?_); rintro e w2 ⟨rfl, hb2⟩; have HB2 := hide hb2; have y := HE.out.to hb2; have y0 := (y.cell 0).trans (show _ = some (Value.int .i64 0) from rfl); have y1 := (y.cell 1).trans (show _ = some (Value.int .i64 0) from rfl); have yf := y.frozen 0; have yg := y.frozen 1; have HY := hide y; have hl2 : w.heap.size < w2.heap.size := y.lt; have hn2 : w.heap.size ≠ w2.heap.size := Nat.ne_of_lt hl2; clear hb2 y)
    refine bodyPost_ret (results_spot rfl _ _ w.heap.size _ _ _ rfl rfl (((HY.out.set_ 0 _).set_ 1 _).alloc _)) rfl ⟨rfl, ?_⟩
    exact below_alloc (((below_to HB0.out (Nat.le_refl _) HB2.out).setCell (p := ⟨w.heap.size, 0, none⟩) (Nat.le_refl _) _).setCell (p := ⟨w.heap.size, 1, none⟩) (Nat.le_refl _) _) (Nat.le_refl _) _
  · rw [if_neg hlt, decide_eq_false hlt] at CP
    rw [if_neg hlt, if_neg hlt]
    unfold spotV at CP ⊢
    go_enter Tryz.func102, Tryz.ntmps102
    go_wp2_with ((with_reducible refine (CP _ HB0.out).mono ?_); rintro e w2 ⟨rfl, hb2⟩; have HB2 := hide hb2; have y := HE.out.to hb2; have y0 := (y.cell 0).trans (show _ = some (Value.int .i64 0) from rfl); have y1 := (y.cell 1).trans (show _ = some (Value.int .i64 0) from rfl); have yf := y.frozen 0; have yg := y.frozen 1; have HY := hide y; have hl2 : w.heap.size < w2.heap.size := y.lt; have hn2 : w.heap.size ≠ w2.heap.size := Nat.ne_of_lt hl2; clear hb2 y)
    refine bodyPost_ret (results_spot rfl _ _ w.heap.size _ _ _ rfl rfl (((HY.out.set_ 0 _).set_ 1 _).alloc _)) rfl ⟨rfl, ?_⟩
    exact below_alloc (((below_to HB0.out (Nat.le_refl _) HB2.out).setCell (p := ⟨w.heap.size, 0, none⟩) (Nat.le_refl _) _).setCell (p := ⟨w.heap.size, 1, none⟩) (Nat.le_refl _) _) (Nat.le_refl _) _
theorem zeros_flat (n : Nat) : (List.replicate n (List.replicate 64 (0 : UInt8))).flatten = List.replicate (64 * n) 0 := by
  rw [List.flatten_replicate_replicate, Nat.mul_comm]
theorem zeros_64 (n : Nat) : All64 (List.replicate n (List.replicate 64 (0 : UInt8))) := fun s hs => by rw [List.eq_of_mem_replicate hs]; exact List.length_replicate
def newD (n : Nat) : Dk := ⟨List.replicate n (List.replicate 64 0), [], false, none⟩
theorem made_rep (z : Value) (n : Nat) : madeCells #[z] n = (List.replicate n z).toArray := by
  apply Array.ext
  · simp [madeCells]
  · intro i h1 h2
    simp [madeCells, Nat.mod_one]
theorem made_zero (n : Nat) : madeCells #[.int .u8 0] (64 * n) = stB (newD n).ss := by
  unfold stB newD
  rw [zeros_flat, made_rep]
  simp [Lib.byteCells]
def NewDR (n : Nat) (w : World) (e : Ending) (w' : World) : Prop := ∃ b sb, e = .returned (dkP b) ∧ w.heap.size ≤ sb ∧ DkAt b sb b (.slice none 0 0) (newD n) w' ∧ Below w.heap.size w w'
set_option maxRecDepth 100000 in
set_option maxHeartbeats 2000000 in
theorem diskNew_any (n : Nat) (h0 : 1 ≤ n) (hn : n ≤ 4000) (w : World) : Calls Tryz.prog 7 #[.int .i64 (n : Int)] w (NewDR n w) := by
  have hmk := fun w => run_make_any (P := Tryz.prog) (t := 56) (e := 5) Tryz.underlying56 (show (Tryz.prog.info? 5).map (fun i => (i.zero, i.size, i.bytes)) = some (some (.int .u8 0), 1, 1) by kernel_rfl) rfl (N := (n : Int) * 64) (n := 64 * n) (by omega) (by omega) (by omega) w
  rw [made_zero] at hmk
  have HS : Hid (64 * n = 64 * (newD n).ss.length) := by show _ = _; unfold newD; rw [List.length_replicate]
  have e1 : decide ((n : Int) < 1) = false := decide_eq_false (by omega)
  have e2 : decide ((4000 : Int) < (n : Int)) = false := decide_eq_false (by omega)
  have e3 : decide (n < 1) = false := decide_eq_false (by omega)
  have e4 : decide (4000 < n) = false := decide_eq_false (by omega)
  have ew := w64 (x := (n : Int) * 64) (by omega) (by omega)
  generalize hT : stB (newD n).ss = T at *
  have HT := hide hT
  clear hT
  go_enter Tryz.func7, Tryz.ntmps7
  go_wp2_with fail
  go_ret
  have hsz : (w.alloc (.cells T 5)).heap.size = w.heap.size + 1 := World.size_alloc _ _
  refine ⟨w.heap.size + 1, w.heap.size, rfl, Nat.le_refl _, ⟨?_, ?_, fun a n c e => (by cases e), Nat.lt_succ_self _, World.ownsRow_nil _ _ _ _, zeros_64 n, fun p hp => absurd hp List.not_mem_nil, ⟨by show (List.replicate n _).length ≤ 4000; rw [List.length_replicate]; exact hn, Nat.zero_le _⟩⟩, below_two w _ _⟩
  · have := Blk.new (w.alloc (.cells T 5)) 60 #[.slice (some ⟨w.heap.size, 0, none⟩) (64 * n) (64 * n), .slice none 0 0, .bool false, .pointer none]
    rw [hsz] at this
    rw [← HS.out]
    exact this
  · rw [HT.out]
    exact (Blk.new w _ _).alloc _
theorem DkAt.ne {b sb ab : Nat} {vq : Value} {d : Dk} {w : World} (h : DkAt b sb ab vq d w) : ∀ g, vq.ownBlock = some g → b + 1 ≤ g ∧ g < w.heap.size := World.ownsRow.lt h.q
theorem own_farB {W : World} {B n s : Nat} {e : TypeId} {v : Value} {xs : List Value} (h : W.ownsRow B e s v n xs) {p : Addr} (hp : v.ownBlock ≠ some p.block) (u : Value) : (W.setCell p u).ownsRow B e s v n xs := ownsRow_setCell_other h hp u
def StartR (b sb ab : Nat) (vq : Value) (d : Dk) (w : World) (e : Ending) (w' : World) : Prop := e = .returned (.tuple #[]) ∧ DkAt b sb ab vq { d with off := false, arm := none } w' ∧ Sav (DF b sb ab vq) w w'
set_option maxRecDepth 100000 in
set_option maxHeartbeats 2000000 in
theorem Start_any (b sb ab : Nat) (vq : Value) (d : Dk) (w : World) (h : DkAt b sb ab vq d w) : Calls Tryz.prog 19 #[dkP b] w (StartR b sb ab vq d w) := by
  have x2 := (h.blk.cell 2).trans (show _ = some (Value.bool d.off) from rfl)
  have x3 := (h.blk.cell 3).trans (show _ = some (armV d.arm ab) from rfl)
  have f2 := h.blk.frozen 2
  have f3 := h.blk.frozen 3
  have H := hide h
  clear h
  unfold dkP
  go_enter Tryz.func19, Tryz.ntmps19
  go_wp2_with fail
  refine bodyPost_ret (results_none rfl _ _ _) rfl ?_
  have hq : vq.ownBlock ≠ some b := fun e => by have := H.out.ne b e; omega
  have ho := H.out.ord
  exact ⟨rfl, ⟨(H.out.blk.set_ 2 _).set_ 3 _, (H.out.st.far (p := ⟨b, 2, none⟩) (by show sb ≠ b; omega) _).far (p := ⟨b, 3, none⟩) (by show sb ≠ b; omega) _, fun a n c e => (by cases e), ho, own_farB (own_farB H.out.q hq _) hq _, H.out.l64, H.out.qk, H.out.few⟩,
    ((Sav.refl _ w).set_ (p := ⟨b, 2, none⟩) (fun _ => .inl rfl) _).set_ (p := ⟨b, 3, none⟩) (fun _ => .inl rfl) _⟩
def ArmR (b sb ab : Nat) (d : Dk) (m : Option (Int × Int × Int)) (w : World) (e : Ending) (w' : World) : Prop := e = .returned (.tuple #[]) ∧ ∃ ab', (ab' = ab ∨ (w.heap.size ≤ ab' ∧ ab' < w'.heap.size)) ∧ DkAt b sb ab' (.slice none 0 0) { d with arm := m } w' ∧ Sav (DF b sb ab (.slice none 0 0)) w w'
set_option maxRecDepth 100000 in
set_option maxHeartbeats 2000000 in
theorem Arm_any (b sb ab : Nat) (d : Dk) (hon : d.off = false) (a n c : Int) (ha : a ≤ 9223372036854775807) (w : World) (h : DkAt b sb ab (.slice none 0 0) d w) :
    Calls Tryz.prog 17 #[dkP b, .int .i64 a, .int .i64 n, .int .i64 c] w (ArmR b sb ab d (if 0 ≤ a then some (a, n, c) else none) w) := by
  have x2 := (h.blk.cell 2).trans (show _ = some (Value.bool false) from by rw [← hon]; rfl)
  have x3 := (h.blk.cell 3).trans (show _ = some (armV d.arm ab) from rfl)
  have f3 := h.blk.frozen 3
  have H := hide h
  have HON := hide hon
  have hlt : b < w.heap.size := h.blk.lt
  have hne : b ≠ w.heap.size := by omega
  have ho := h.ord
  have HA := hide ha
  clear h hon ha
  unfold dkP
  by_cases h0 : 0 ≤ a
  · have e1 : decide (0 ≤ a) = true := decide_eq_true h0
    rw [if_pos h0]
    go_enter Tryz.func17, Tryz.ntmps17
    go_wp2_with fail
    refine bodyPost_ret (results_none rfl _ _ _) rfl ?_
    refine ⟨rfl, w.heap.size, .inr ⟨Nat.le_refl _, by simp [World.setCell]⟩, ⟨((H.out.blk.set_ 3 _).set_ 3 _).alloc _, ((H.out.st.far (p := ⟨b, 3, none⟩) (by show sb ≠ b; omega) _).far (p := ⟨b, 3, none⟩) (by show sb ≠ b; omega) _).alloc _, fun a' n' c' e => ?_, ho, own_toB (own_farB (own_farB H.out.q (by intro e; cases e) _) (by intro e; cases e) _) (below_one _ _), H.out.l64, H.out.qk, H.out.few⟩,
      (((Sav.refl _ w).set_ (p := ⟨b, 3, none⟩) (fun _ => .inl rfl) _).set_ (p := ⟨b, 3, none⟩) (fun _ => .inl rfl) _).to (below_one _ _)⟩
    cases e
    have hs : ((w.setCell ⟨b, 3, none⟩ (.pointer none)).setCell ⟨b, 3, none⟩ (.pointer (some ⟨w.heap.size, 0, none⟩))).heap.size = w.heap.size := by simp [World.setCell]
    refine ⟨?_, hlt, fun g e => (by cases e), HA.out⟩
    have := Blk.new ((w.setCell ⟨b, 3, none⟩ (.pointer none)).setCell ⟨b, 3, none⟩ (.pointer (some ⟨w.heap.size, 0, none⟩))) 88 #[.int .i64 a, .int .i64 n, .int .i64 c]
    rwa [hs] at this
  · have e1 : decide (0 ≤ a) = false := decide_eq_false h0
    rw [if_neg h0]
    go_enter Tryz.func17, Tryz.ntmps17
    go_wp2_with fail
    refine bodyPost_ret (results_none rfl _ _ _) rfl ?_
    exact ⟨rfl, ab, .inl rfl, ⟨H.out.blk.set_ 3 _, H.out.st.far (p := ⟨b, 3, none⟩) (by show sb ≠ b; omega) _, fun a n c e => (by cases e), ho, own_farB H.out.q (by intro e; cases e) _, H.out.l64, H.out.qk, H.out.few⟩,
      (Sav.refl _ w).set_ (p := ⟨b, 3, none⟩) (fun _ => .inl rfl) _⟩
end Go.Proofs.YtnjlefggkfagmaaGreatDoor

/- Walks of the disk: set, settle. -/
set_option linter.unusedVariables false
set_option linter.unusedSimpArgs false
namespace Go.Proofs.YtnjlefggkfagmaaGreatDoor
open Go.RowKit

/-- copy of a text into a part of a block known whole, in which it has room -/
theorem wpList_copy_part {P : Program} {w : World} {ops : Array Oper} {rest : List Oper} {o : Oper} {a : Act} {Q : Exit → Act → World → Prop} (hgd : o.guard = none) (d s : Operand) (dT sT elem : TypeId)
    (ho : o.op = .call { callee := .builtin .copy, args := #[d, s], argTypes := #[dT, sT] }) (hu : P.underlying dT = some (.slice elem)) (hsz : (P.info? elem).map (·.size) = some 1)
    (g off n c : Nat) (l : List UInt8) (hd : a.eval d = .slice (some ⟨g, off, none⟩) n c) (hs : a.eval s = .string (bs l)) (t : TypeId) (cur : Array Value) (hg : Blk w g t cur) (hl : l.length ≤ n) (hn : off + l.length ≤ cur.size)
    (h : ∀ w', Only w w' g → Blk w' g t (cur.toList.take off ++ (Lib.byteCells l ++ cur.toList.drop (off + l.length))).toArray → wpList P ops Q rest (a.put o.dst (goInt (l.length : Nat))) w') : wpList P ops Q (o :: rest) a w := by
  have hlen : (Lib.byteCells l).length = l.length := Lib.byteCells_length l
  have hst := run_storeCells_at (P := P) g off t (Lib.byteCells l) 0 cur w hg (by rw [hlen]; omega) (Lib.byteCells_one _)
  have hrun : (Builtin.copy_ #[dT, sT] o.type #[.slice (some ⟨g, off, none⟩) n c, .string (bs l)]).run P w = .ok (goInt (l.length : Nat)) (w.setRow g (cur.toList.take off ++ (Lib.byteCells l ++ cur.toList.drop (off + l.length))).toArray) := by
    cases hq : P.info? elem with
    | none => simp [hq] at hsz
    | some i =>
      have hmin : Nat.min (bs l).size n = l.length := by rw [bs_size]; exact Nat.min_eq_left hl
      have htk : List.take l.length (List.map (fun b : UInt8 => Value.int IntKind.u8 (b.toNat : Int)) (bs l).data.toList) = Lib.byteCells l := by
        rw [bs_list, List.take_of_length_le (by simp)]; rfl
      simp only [Nat.add_zero, hlen] at hst
      simp [Builtin.copy_, run_underlying hu, Builtin.lenOf, Builtin.firstCells, sizeOf, typeInfo, hq, hmin]
      rw [htk, hst]
      simp [Result.andThen]
  exact wpList_plain hgd fun K hK => by
    unfold Oper.wp
    simp [execOp, ho, resolve, invoke, builtin, hd, hs, hrun, Result.andThen]
    exact hK _ _ (h _ (setRow_grown w g _) (setRow_heap w g cur _ t (0, 0) hg))
theorem stB_set {ss : List (List UInt8)} {k : Nat} {t : List UInt8} (h : All64 ss) (hk : k < ss.length) (ht : t.length ≤ 64) : ((stB ss).toList.take (64 * k) ++ (Lib.byteCells t ++ (stB ss).toList.drop (64 * k + t.length))).toArray = stB (setS ss k t) := by
  unfold stB
  rw [flat_set h hk ht]
  simp [Lib.byteCells, List.map_take, List.map_drop]
theorem run_cut64 {sb k n : Nat} (hk : k < n) (w : World) : (Instr.slice 56 (.slice (some ⟨sb, 0, none⟩) (64 * n) (64 * n)) (some (.int .i64 ((64 * k : Nat) : Int))) (some (.int .i64 ((64 * k + 64 : Nat) : Int))) none).run Tryz.prog w = .ok (.slice (some ⟨sb, 64 * k, none⟩) 64 (64 * n - 64 * k)) w := by
  have hsz : ∀ w, (sizeOf 5).run Tryz.prog w = .ok 1 w := fun w => by kernel_rfl
  have he : Tryz.prog.elem 56 = 5 := by kernel_rfl
  have hu : Tryz.prog.underlying 56 = some (.slice (Tryz.prog.elem 56)) := by rw [he]; exact Tryz.underlying56
  rw [run_slice_lh (P := Tryz.prog) (w := w) 56 _ _ _ hu _ _ _ _ (by omega) (by omega) (by omega), he, hsz]
  simp only [Result.andThen, sliced, Int.toNat_natCast]
  have h1 : ¬ (64 * n - 64 * k = 0) := by omega
  simp [h1, show 64 * k + 64 - 64 * k = 64 by omega, Addr.add]
  rw [if_neg (by omega)]
  by_cases h0 : 64 * k = 0
  · rw [if_pos h0, h0]
  · rw [if_neg h0]
def SetR (sb : Nat) (ss : List (List UInt8)) (w : World) (e : Ending) (w' : World) : Prop := e = .returned (.tuple #[]) ∧ Blk w' sb 5 (stB ss) ∧ Sav (fun k => k = sb) w w'
theorem Sav.only {F : Nat → Prop} {a w w' : World} {g : Nat} (h : Sav F a w) (ho : Only w w' g) (hF : F g) : Sav F a w' := h.grown ho (fun k e _ => by obtain rfl : g = k := Option.some.inj e; exact hF)
set_option maxRecDepth 100000 in
set_option maxHeartbeats 2000000 in
theorem set_any (b sb : Nat) (ss : List (List UInt8)) (h6 : All64 ss) (hn : ss.length ≤ 4000) (k : Nat) (hk : k < ss.length) (t : List UInt8) (ht : t.length ≤ 64) (w : World)
    (x0 : w.cell? ⟨b, 0, none⟩ = some (.slice (some ⟨sb, 0, none⟩) (64 * ss.length) (64 * ss.length))) (hs : Blk w sb 5 (stB ss)) :
    Calls Tryz.prog 149 #[dkP b, .agg #[.int .i64 ((64 * k : Nat) : Int), .int .i64 ((64 * k + 64 : Nat) : Int)], .string (bs t)] w (SetR sb (setS ss k t) w) := by
  have hszb : (Tryz.prog.info? 5).map (·.size) = some 1 := by kernel_rfl
  have HE := hide (Blk.new w 129 #[.int .i64 ((64 * k : Nat) : Int), .int .i64 ((64 * k + 64 : Nat) : Int)])
  have hb0 := below_one w (.cells #[.int .i64 ((64 * k : Nat) : Int), .int .i64 ((64 * k + 64 : Nat) : Int)] 129)
  have HB0 := hide hb0
  have HS := hide (hs.to hb0)
  have HT := hide (stB_set h6 hk ht)
  have HZ := hide (stB_size ss h6)
  have hbl : b < w.heap.size := World.block_lt_of_cell? w ⟨b, 0, none⟩ x0
  have hx0 := (hb0.cell (p := ⟨b, 0, none⟩) hbl).trans x0
  clear hs hb0 h6
  unfold dkP
  generalize hN : ss.length = n at *
  clear hN
  generalize hp : ((64 * k : Nat) : Int) = p at *
  generalize hq : ((64 * k + 64 : Nat) : Int) = q at *
  go_enter Tryz.func149, Tryz.ntmps149
  go_upto_region 1 with fail
  generalize hW : w.alloc (.cells #[.int .i64 p, .int .i64 q] 129) = w1 at *
  obtain ⟨U, hU, g, u0, e9, hgu, hi⟩ := cls w1
  subst e9
  have X0 : ∀ u, (g u).cell? ⟨b, 0, none⟩ = some (.slice (some ⟨sb, 0, none⟩) (64 * n) (64 * n)) := fun u => ((hgu u).cell (p := ⟨b, 0, none⟩) (Nat.lt_of_lt_of_le hbl HB0.out.size)).trans hx0
  have Y0 : ∀ u, (g u).cell? ⟨w.heap.size, 0, none⟩ = some (.int .i64 p) := blk_all hgu HE.out 0 rfl
  have Y1 : ∀ u, (g u).cell? ⟨w.heap.size, 1, none⟩ = some (.int .i64 q) := blk_all hgu HE.out 1 rfl
  have SL : ∀ W, (Instr.slice 56 (.slice (some ⟨sb, 0, none⟩) (64 * n) (64 * n)) (some (.int .i64 p)) (some (.int .i64 q)) none).run Tryz.prog W = .ok (.slice (some ⟨sb, 64 * k, none⟩) 64 (64 * n - 64 * k)) W := fun W => by rw [← hp, ← hq]; exact run_cut64 hk W
  have HGU := hide hgu
  have HHI := hide hi
  clear hgu hi x0 hx0
  refine wp_region_class_tail g 10 (by kernel_rfl) (by kernel_rfl) (HHI.out _ (HGU.out _).drew) ?_
  simp only [List.take_succ_cons, List.take_zero, List.drop_succ_cons, List.drop_zero]
  repeat (go_big_quiet_step (fail))
  refine wpQuiet_nil ?_
  intro w3 hw3
  obtain ⟨u, rfl⟩ := hw3
  have HSu := hide (HS.out.to (HGU.out u))
  have HBu := hide (below_to HB0.out (Nat.le_refl _) (HGU.out u))
  refine wpList_copy_part rfl (.tmp 14) (.tmp 15) 56 9 5 rfl Tryz.underlying56 hszb sb (64 * k) 64 (64 * n - 64 * k) t rfl rfl 5 (stB ss) HSu.out ht (by rw [HZ.out]; omega) ?_
  intro w4 ho4 hb4
  rw [HT.out] at hb4
  have HO := hide ho4
  have HB4 := hide hb4
  clear ho4 hb4
  go_wp2_with fail
  refine bodyPost_ret (results_none rfl _ _ _) rfl ⟨rfl, HB4.out, (Sav.of HBu.out).only HO.out rfl⟩
theorem RowsAt.sav {F : Nat → Prop} {w w' : World} {size : Nat} {v : Value} {ls : List (List Value)} (h : RowsAt w size v ls) (hb : Sav F w w') (hF : ∀ g, v.ownBlock = some g → ¬ F g) : RowsAt w' size v ls := by
  obtain ⟨A, c, rfl, h3, h4, h5⟩ := h
  refine ⟨A, c, rfl, h3, h4, fun k x hx => ?_⟩
  obtain ⟨ad, e, hl, hc⟩ := h5 k x hx
  subst e
  refine ⟨ad, rfl, Nat.lt_of_lt_of_le hl hb.size, fun j u hu => ?_⟩
  rw [← hc j u hu]
  refine World.cell?_of_block ?_
  have e : ((ad.add (k * size)).add j).block = ad.block := by rw [block_of_add, block_of_add]
  rw [e]
  exact hb.block _ hl (hF _ rfl)
def PendAt (w : World) (v : Value) (q : List (Nat × List UInt8)) : Prop := RowsAt w 3 v (q.map pendV)
theorem PendAt.slice {w : World} {v : Value} {q : List (Nat × List UInt8)} (h : PendAt w v q) : ∃ A c, v = .slice A q.length c := by
  obtain ⟨A, c, h1, _⟩ := h
  exact ⟨A, c, by rw [h1, List.length_map]⟩
theorem PendAt.at_ {w : World} {A : Option Addr} {n c : Nat} {q : List (Nat × List UInt8)} (h : PendAt w (.slice A n c) q) {k : Nat} {p : Nat × List UInt8} (hl : q[k]? = some p) : ∃ a, A = some a ∧ a.block < w.heap.size ∧
    w.cell? (a.add (k * 3)) = some (.int .i64 ((64 * p.1 : Nat) : Int)) ∧ w.cell? ⟨(a.add (k * 3)).block, (a.add (k * 3)).off + 1, none⟩ = some (.int .i64 ((64 * p.1 + 64 : Nat) : Int)) ∧ w.cell? ⟨(a.add (k * 3)).block, (a.add (k * 3)).off + 2, none⟩ = some (.string (bs p.2)) := by
  obtain ⟨a, c', h1, _, h3, _, h5⟩ := RowsAt.at_ h (k := k) (x := pendV p) (by rw [List.getElem?_map, hl]; rfl)
  injection h1 with e1
  refine ⟨a, e1, h3, ?_, h5 1 _ rfl, h5 2 _ rfl⟩
  have := h5 0 _ rfl
  rwa [show (a.add (k * 3)).add 0 = a.add (k * 3) by rw [add_of_add, Nat.add_zero]] at this
theorem settle_take (ss : List (List UInt8)) {q : List (Nat × List UInt8)} {k : Nat} {p : Nat × List UInt8} (h : q[k]? = some p) : settleS ss (q.take (k + 1)) = setS (settleS ss (q.take k)) p.1 p.2 := by
  rw [List.take_add_one, h, Option.toList_some, settle_snoc]
set_option maxRecDepth 100000 in
set_option maxHeartbeats 2000000 in
theorem settle_any (b sb : Nat) (hne : sb ≠ b) (ss : List (List UInt8)) (h6 : All64 ss) (hn : ss.length ≤ 4000) (q : List (Nat × List UInt8)) (hq : ∀ p ∈ q, p.1 < ss.length ∧ p.2.length = 64) (hql : q.length ≤ 1000000) (v : Value) (w : World)
    (x0 : w.cell? ⟨b, 0, none⟩ = some (.slice (some ⟨sb, 0, none⟩) (64 * ss.length) (64 * ss.length))) (hs : Blk w sb 5 (stB ss)) (hv : PendAt w v q) (hvb : ∀ g, v.ownBlock = some g → g ≠ sb) :
    Calls Tryz.prog 120 #[dkP b, v] w (SetR sb (settleS ss q) w) := by
  obtain ⟨A, c, rfl⟩ := hv.slice
  have HV := hide hv
  have HVB := hide hvb
  have HS := hide hs
  have HQ := hide hq
  have H6 := hide h6
  have hbl : b < w.heap.size := World.block_lt_of_cell? w ⟨b, 0, none⟩ x0
  have HX := hide x0
  clear hv hvb hs hq h6 x0
  unfold dkP
  go_enter Tryz.func120, Tryz.ntmps120
  go_wp2_with fail
  go_loopw [5, 8] (fun _ i wr => ∃ k : Nat, i = .int .i64 (k : Int) ∧ k ≤ q.length ∧ Aside (Blk wr sb 5 (stB (settleS ss (q.take k)))) ∧ Aside (Sav (fun g => g = sb) w wr)) (fun _ i _ => q.length - (intOf i).toNat)
  case atStart => exact ⟨0, rfl, Nat.zero_le _, HS.out, Sav.refl _ _⟩
  case round =>
    obtain ⟨k, rfl, hk, hB, hA⟩ := hrel
    have HB : Hid (Blk wr sb 5 (stB (settleS ss (q.take k)))) := hB
    have HA : Hid (Sav (fun g => g = sb) w wr) := hA
    clear hB hA
    by_cases hlt : k < q.length
    · have e1 : decide ((k : Int) < (q.length : Int)) = true := decide_eq_true (by omega)
      obtain ⟨p, hp⟩ : ∃ p, q[k]? = some p := ⟨_, List.getElem?_eq_getElem hlt⟩
      have hpq := HQ.out p (List.mem_of_getElem? hp)
      obtain ⟨a, rfl, ha, c0, c1, c2⟩ := PendAt.at_ (RowsAt.sav HV.out HA.out HVB.out) hp
      have HN := hide (settle_take ss hp)
      have hl64 : All64 (settleS ss (q.take k)) := settle_64 _ H6.out fun p hp => by have := HQ.out p (List.mem_of_mem_take hp); omega
      have hlen := settle_len (q.take k) ss
      have hbr : b < wr.heap.size := Nat.lt_of_lt_of_le hbl HA.out.size
      have hxr : wr.cell? ⟨b, 0, none⟩ = some (.slice (some ⟨sb, 0, none⟩) (64 * (settleS ss (q.take k)).length) (64 * (settleS ss (q.take k)).length)) := by
        rw [hlen]
        exact (World.cell?_of_block (HA.out.block b hbl (fun e => hne e.symm))).trans HX.out
      have hb1 := below_one wr (.cells #[.int .i64 ((64 * p.1 : Nat) : Int), .int .i64 ((64 * p.1 + 64 : Nat) : Int), .string (bs p.2)] 133)
      have CS := set_any b sb (settleS ss (q.take k)) hl64 (by omega) p.1 (by omega) p.2 (by omega) _ ((hb1.cell (p := ⟨b, 0, none⟩) hbr).trans hxr) (HB.out.to hb1)
      have HB1 := hide hb1
      rw [← HN.out] at CS
      unfold SetR dkP at CS
      clear hp hl64 hlen hxr hb1 HN
      generalize ((64 * p.1 + 64 : Nat) : Int) = P2 at *
      generalize ((64 * p.1 : Nat) : Int) = P1 at *
      go_wp2_with fail
      with_reducible refine CS.mono ?_
      rintro e w4 ⟨rfl, h4, h5⟩
      have H4 := hide h4
      have H5 := hide h5
      clear CS h4 h5
      go_wp2_with fail
      refine ⟨⟨k + 1, by go_num, by omega, H4.out, (HA.out.to HB1.out).trans H5.out⟩, ?_⟩
      simp [intOf]; omega
    · obtain rfl : k = q.length := by omega
      have e1 : decide ((q.length : Int) < (q.length : Int)) = false := by simp
      rw [List.take_length] at HB
      go_wp2_with fail
      refine bodyPost_ret (results_none rfl _ _ _) rfl ⟨rfl, HB.out, HA.out⟩
end Go.Proofs.YtnjlefggkfagmaaGreatDoor

/- Walks of the disk: Fail. -/
set_option linter.unusedVariables false
set_option linter.unusedSimpArgs false
namespace Go.Proofs.YtnjlefggkfagmaaGreatDoor
open Go.RowKit

theorem PendAt.of_own {w : World} {B : Nat} {v : Value} {q : List (Nat × List UInt8)} (h : w.ownsRow B 133 3 v q.length (pendF q)) : PendAt w v q := RowsAt.of_own (fun x hx => by obtain ⟨p, _, rfl⟩ := List.mem_map.1 hx; rfl) (by rw [List.length_map]; exact h)
def FailR (b sb ab : Nat) (vq : Value) (d : Dk) (n c : Int) (w : World) (e : Ending) (w' : World) : Prop := e = .returned (.tuple #[]) ∧ DkAt b sb ab (.slice none 0 0) (dFail d n c) w' ∧ Sav (DF b sb ab vq) w w'
theorem PendAt.take {w : World} {A : Option Addr} {n c : Nat} {q : List (Nat × List UInt8)} (h : PendAt w (.slice A n c) q) {k : Nat} (hk : k ≤ q.length) : PendAt w (.slice A k c) (q.take k) := by
  have hc : q.length ≤ c := by
    obtain ⟨A', c', h1, h2, _⟩ := h
    injection h1 with _ _ h3
    rw [List.length_map] at h2; omega
  unfold PendAt
  rw [List.map_take]
  exact RowsAt.take h (by rw [List.length_map]; exact hk) c (by omega)
theorem tornS_len (ss : List (List UInt8)) (o : Option (Nat × List UInt8)) (c : Int) : (tornS ss o c).length = ss.length := by
  cases o with
  | none => rfl
  | some p => exact setS_len _ _ _
theorem tornS_64 {ss : List (List UInt8)} (h : All64 ss) (o : Option (Nat × List UInt8)) (c : Int) : All64 (tornS ss o c) := by
  cases o with
  | none => exact h
  | some p => exact setS_64 h (by rw [List.length_take]; omega)
theorem fail_len (d : Dk) (n c : Int) : (dFail d n c).ss.length = d.ss.length := by unfold dFail; exact (tornS_len _ _ _).trans (settle_len _ _)
theorem fail_end {b sb ab : Nat} {vq : Value} {d : Dk} {n c : Int} {w W : World} (h : DkAt b sb ab vq d w) (hs : Sav (fun k => k = sb) w W) (hS : Blk W sb 5 (stB (dFail d n c).ss)) :
    FailR b sb ab vq d n c w (.returned (.tuple #[])) (((W.setCell ⟨b, 1, none⟩ (.slice none 0 0)).setCell ⟨b, 2, none⟩ (.bool true)).setCell ⟨b, 3, none⟩ (.pointer none)) := by
  have ho := h.ord
  have hb := hs.blk h.blk (by omega)
  have hl := fail_len d n c
  refine ⟨rfl, ⟨?_, ((hS.far (p := ⟨b, 1, none⟩) (by show sb ≠ b; omega) _).far (p := ⟨b, 2, none⟩) (by show sb ≠ b; omega) _).far (p := ⟨b, 3, none⟩) (by show sb ≠ b; omega) _, fun a' n' c' e => (by cases e), ho, World.ownsRow_nil _ _ _ _, ?_, fun p hp => absurd hp List.not_mem_nil, ⟨by rw [hl]; exact h.few.1, Nat.zero_le _⟩⟩, ?_⟩
  · rw [hl]
    exact ((hb.set_ 1 _).set_ 2 _).set_ 3 _
  · unfold dFail
    exact tornS_64 (settle_64 _ h.l64 fun p hp => by have := h.qk p (List.mem_of_mem_take hp); omega) _ _
  · exact (((hs.mono fun k _ e => .inr (.inl e)).set_ (p := ⟨b, 1, none⟩) (fun _ => .inl rfl) _).set_ (p := ⟨b, 2, none⟩) (fun _ => .inl rfl) _).set_ (p := ⟨b, 3, none⟩) (fun _ => .inl rfl) _
theorem FailR.further {b sb ab : Nat} {vq : Value} {d : Dk} {n c : Int} {w W W' : World} {e : Ending} (h : FailR b sb ab vq d n c w e W) (hb : Below W.heap.size W W') : FailR b sb ab vq d n c w e W' := ⟨h.1, h.2.1.to hb, h.2.2.to hb⟩
set_option maxRecDepth 100000 in
set_option maxHeartbeats 2000000 in
theorem Fail_any (b sb ab : Nat) (vq : Value) (d : Dk) (hon : d.off = false) (n c : Int) (w : World) (h : DkAt b sb ab vq d w) :
    Calls Tryz.prog 148 #[dkP b, .int .i64 n, .int .i64 c] w (FailR b sb ab vq d n c w) := by
  have hpe := PendAt.of_own h.q
  obtain ⟨A, cq, rfl⟩ := hpe.slice
  have x0 := (h.blk.cell 0).trans (show _ = some (Value.slice (some ⟨sb, 0, none⟩) (64 * d.ss.length) (64 * d.ss.length)) from rfl)
  have x1 := (h.blk.cell 1).trans (show _ = some (Value.slice A d.q.length cq) from rfl)
  have x2 := (h.blk.cell 2).trans (show _ = some (Value.bool false) from by rw [← hon]; rfl)
  have x3 := (h.blk.cell 3).trans (show _ = some (armV d.arm ab) from rfl)
  have f0 := h.blk.frozen 0
  have f1 := h.blk.frozen 1
  have f2 := h.blk.frozen 2
  have f3 := h.blk.frozen 3
  have ho := h.ord
  have hne := h.ne
  have hcq : d.q.length ≤ cq := by
    obtain ⟨A', c', h1, h2, _⟩ := hpe
    injection h1 with _ _ h3
    rw [List.length_map] at h2; omega
  obtain ⟨m, hm⟩ : ∃ m : Nat, m = min n.toNat d.q.length := ⟨_, rfl⟩
  have hml : m ≤ d.q.length := by omega
  have hmi : min (max n 0) (d.q.length : Int) = (m : Int) := by omega
  have hmk : m < d.q.length → n.toNat = m := by omega
  have htk : d.q.take n.toNat = d.q.take m := by
    rcases Nat.lt_or_ge n.toNat d.q.length with hl | hl
    · rw [show m = n.toNat by omega]
    · rw [List.take_of_length_le hl, show m = d.q.length by omega, List.take_length]
  have CS := settle_any b sb (by omega) d.ss h.l64 h.few.1 (d.q.take m) (fun p hp => h.qk p (List.mem_of_mem_take hp)) (by have := h.few.2; rw [List.length_take]; omega) (.slice A m cq) w x0 h.st (hpe.take hml) (fun g e => by have := hne g (by rw [← e]; cases A <;> rfl); omega)
  unfold SetR at CS
  have H := hide h
  unfold dkP at CS ⊢
  have HM := hide hm
  have HTK := hide htk
  have HMK := hide hmk
  clear h hpe hne hm htk hmk hon
  go_enter Tryz.func148, Tryz.ntmps148
  go_wp2_with fail
  with_reducible refine CS.mono ?_
  rintro e w2 ⟨rfl, h1, h2⟩
  have H1 := hide h1
  have H2 := hide h2
  have hbk := h2.blk H.out.blk (by omega)
  have x0 := (hbk.cell 0).trans (show _ = some (Value.slice (some ⟨sb, 0, none⟩) (64 * d.ss.length) (64 * d.ss.length)) from rfl)
  have x1 := (hbk.cell 1).trans (show _ = some (Value.slice A d.q.length cq) from rfl)
  have x2 := (hbk.cell 2).trans (show _ = some (Value.bool d.off) from rfl)
  have x3 := (hbk.cell 3).trans (show _ = some (armV d.arm ab) from rfl)
  have f1 := hbk.frozen 1
  have f2 := hbk.frozen 2
  have f3 := hbk.frozen 3
  have hlb := hbk.lt
  have HBK := hide hbk
  clear h1 h2 CS f0 hbk
  by_cases hlt : m < d.q.length
  · have e1 : decide ((m : Int) < (d.q.length : Int)) = true := decide_eq_true (by omega)
    obtain ⟨p, hp⟩ : ∃ p, d.q[m]? = some p := ⟨_, List.getElem?_eq_getElem hlt⟩
    obtain ⟨a, rfl, ha, c0, c1, c2⟩ := PendAt.at_ (RowsAt.sav (PendAt.of_own H.out.q) H2.out (fun g e => by have := H.out.ne g e; omega)) hp
    obtain ⟨k, hk⟩ : ∃ k : Nat, k = min c.toNat 64 := ⟨_, rfl⟩
    have hki : min (max c 0) (64 : Int) = (k : Int) := by omega
    have hpq := H.out.qk p (List.mem_of_getElem? hp)
    have HD : Hid ((dFail d n c).ss = setS (settleS d.ss (d.q.take m)) p.1 (p.2.take k)) := by
      show _ = _
      unfold dFail
      rw [HTK.out, HMK.out hlt, hp, hk]; rfl
    have hl64 : All64 (settleS d.ss (d.q.take m)) := settle_64 _ H.out.l64 fun p hp => by have := H.out.qk p (List.mem_of_mem_take hp); omega
    have hlen := settle_len (d.q.take m) d.ss
    have HX0 : Hid (w2.cell? ⟨b, 0, none⟩ = some (.slice (some ⟨sb, 0, none⟩) (64 * (settleS d.ss (d.q.take m)).length) (64 * (settleS d.ss (d.q.take m)).length))) := by
      show _ = _
      rw [hlen]; exact x0
    have CS := fun (W : World) (hb : Below w2.heap.size w2 W) => set_any b sb (settleS d.ss (d.q.take m)) hl64 (by have := H.out.few.1; omega) p.1 (by omega) (p.2.take k) (by rw [List.length_take]; omega) W ((hb.cell (p := ⟨b, 0, none⟩) hlb).trans HX0.out) (H1.out.to hb)
    rw [← HD.out] at CS
    have hcut : ∀ W, (Instr.slice 9 (.string (bs p.2)) none (some (.int .i64 (k : Int))) none).run Tryz.prog W = .ok (.string (bs (p.2.take k))) W := fun W => by
      rw [run_slice_string_h W 9 (bs p.2) Tryz.underlying9 .i64 (k : Int) (by omega) (by rw [bs_size]; omega), Int.toNat_natCast, bs_cut, List.drop_zero, Nat.sub_zero]
    unfold SetR dkP at CS
    have hk64 : k ≤ 64 := by omega
    clear hp hl64 hlen hk x0 HX0
    generalize ((64 * p.1 + 64 : Nat) : Int) = P2 at *
    generalize ((64 * p.1 : Nat) : Int) = P1 at *
    by_cases hk0 : 0 < k
    · have e2 : decide (0 < (k : Int)) = true := decide_eq_true (by omega)
      have e3 : decide (0 < k) = true := decide_eq_true (by omega)
      have hb1 := below_one w2 (.cells #[.int .i64 P1, .int .i64 P2, .string (bs p.2)] 133)
      have HE := hide (Blk.new w2 133 #[.int .i64 P1, .int .i64 P2, .string (bs p.2)])
      have HB1 := hide hb1
      clear hb1
      go_upto_region 7 with fail
      generalize w2.alloc (.cells #[.int .i64 P1, .int .i64 P2, .string (bs p.2)] 133) = w3 at *
      obtain ⟨U, hU, g, u0, e9, hgu, hi⟩ := cls w3
      subst e9
      have Y0 : ∀ u, (g u).cell? ⟨w2.heap.size, 0, none⟩ = some (.int .i64 P1) := blk_all hgu HE.out 0 rfl
      have Y1 : ∀ u, (g u).cell? ⟨w2.heap.size, 1, none⟩ = some (.int .i64 P2) := blk_all hgu HE.out 1 rfl
      have Y2 : ∀ u, (g u).cell? ⟨w2.heap.size, 2, none⟩ = some (.string (bs p.2)) := blk_all hgu HE.out 2 rfl
      have HGU := hide hgu
      have HHI := hide hi
      clear hgu hi c0 c1 c2 x1 x2 x3 f1 f2 f3
      refine wp_region_class_tail g 7 (by kernel_rfl) (by kernel_rfl) (HHI.out _ (HGU.out _).drew) ?_
      simp only [List.take_succ_cons, List.take_zero, List.drop_succ_cons, List.drop_zero]
      repeat (go_big_quiet_step (fail))
      refine wpQuiet_nil ?_
      intro w4 hw4
      obtain ⟨u, rfl⟩ := hw4
      have HB2 := hide (below_to HB1.out (Nat.le_refl _) (HGU.out u))
      have CS := CS _ HB2.out
      generalize g u = w4 at *
      go_wp2_with fail
      with_reducible refine CS.mono ?_
      rintro e w5 ⟨rfl, h5, h6⟩
      have H5 := hide h5
      have H6 := hide ((H2.out.to HB2.out).trans h6)
      have hbk := H6.out.blk H.out.blk (by omega)
      have x1 := (hbk.cell 1).trans (show _ = some (Value.slice (some a) d.q.length cq) from rfl)
      have x2 := (hbk.cell 2).trans (show _ = some (Value.bool d.off) from rfl)
      have x3 := (hbk.cell 3).trans (show _ = some (armV d.arm ab) from rfl)
      have f1 := hbk.frozen 1
      have f2 := hbk.frozen 2
      have f3 := hbk.frozen 3
      clear h5 h6 CS hbk
      go_wp2_with fail
      refine bodyPost_ret (results_none rfl _ _ _) rfl ?_
      exact fail_end H.out H6.out H5.out
    · have e2 : decide (0 < (k : Int)) = false := decide_eq_false (by omega)
      have e3 : decide (0 < k) = false := decide_eq_false (by omega)
      have HD2 : Hid ((dFail d n c).ss = settleS d.ss (d.q.take m)) := by show _ = _; rw [HD.out, show k = 0 by omega, List.take_zero, setS_nil]
      have HB1 := hide (below_one w2 (.cells #[.int .i64 P1, .int .i64 P2, .string (bs p.2)] 133))
      rw [← HD2.out] at H1
      have hne2 : b ≠ w2.heap.size := Nat.ne_of_lt hlb
      go_wp2_with fail
      refine bodyPost_ret (results_none rfl _ _ _) rfl ?_
      exact (fail_end H.out H2.out H1.out).further (below_one _ _)
  · have e1 : decide ((m : Int) < (d.q.length : Int)) = false := decide_eq_false (by omega)
    have HD : Hid ((dFail d n c).ss = settleS d.ss (d.q.take m)) := by
      show _ = _
      unfold dFail
      have hm := HM.out
      rw [HTK.out, List.getElem?_eq_none (by omega)]; rfl
    rw [← HD.out] at H1
    go_wp2_with fail
    refine bodyPost_ret (results_none rfl _ _ _) rfl ?_
    exact fail_end H.out H2.out H1.out
end Go.Proofs.YtnjlefggkfagmaaGreatDoor

/- Walks of the disk: count, Sync, Write. -/
set_option linter.unusedVariables false
set_option linter.unusedSimpArgs false
namespace Go.Proofs.YtnjlefggkfagmaaGreatDoor
open Go.RowKit

/-- a counted call: what it says, the disk behind it -/
def CountR (b sb ab : Nat) (vq : Value) (r : Int × Dk) (w : World) (e : Ending) (w' : World) : Prop := e = .returned (.int .i64 r.1) ∧ ∃ vq', ((r.1 = 0 ∧ vq' = vq) ∨ (r.1 = 21 ∧ vq' = .slice none 0 0)) ∧ DkAt b sb ab vq' r.2 w' ∧ Sav (DF b sb ab vq) w w'
def SyncR (b sb ab : Nat) (vq : Value) (r : Int × Dk) (w : World) (e : Ending) (w' : World) : Prop := e = .returned (.int .i64 r.1) ∧ DkAt b sb ab (.slice none 0 0) r.2 w' ∧ Sav (DF b sb ab vq) w w'
set_option maxRecDepth 100000 in
set_option maxHeartbeats 2000000 in
theorem count_any (b sb ab : Nat) (vq : Value) (d : Dk) (hon : d.off = false) (w : World) (h : DkAt b sb ab vq d w) :
    Calls Tryz.prog 119 #[dkP b] w (CountR b sb ab vq (dCount d) w) := by
  have x3 := (h.blk.cell 3).trans (show _ = some (armV d.arm ab) from rfl)
  unfold dkP
  cases ha : d.arm with
  | none =>
    have hr : dCount d = (0, d) := count_none d ha
    rw [hr]
    rw [ha] at x3
    unfold armV at x3
    simp only at x3
    have H := hide h
    clear h hr ha hon
    go_enter Tryz.func119, Tryz.ntmps119
    go_wp2_with fail
    go_ret
    exact ⟨rfl, vq, .inl ⟨rfl, rfl⟩, H.out, Sav.refl _ _⟩
  | some x =>
    obtain ⟨a, n, c⟩ := x
    obtain ⟨hA, hlt, hqa, hmax⟩ := h.al a n c ha
    rw [ha] at x3
    unfold armV at x3
    simp only at x3
    have y0 := (hA.cell 0).trans (show _ = some (Value.int .i64 a) from rfl)
    have y1 := (hA.cell 1).trans (show _ = some (Value.int .i64 n) from rfl)
    have y2 := (hA.cell 2).trans (show _ = some (Value.int .i64 c) from rfl)
    have g0 := hA.frozen 0
    have H := hide h
    have HA := hide hA
    have HQA := hide hqa
    have hbl := h.blk.lt
    by_cases h0 : 0 < a
    · have e1 : decide (0 < a) = true := decide_eq_true h0
      have ew := w64 (x := a - 1) (by omega) (by omega)
      have hr : dCount d = (0, { d with arm := some (a - 1, n, c) }) := by unfold dCount; rw [ha]; simp only; rw [if_pos h0]
      rw [hr]
      have HAR := hide ha
      clear h hA hr ha hon hqa
      go_enter Tryz.func119, Tryz.ntmps119
      go_wp2_with fail
      go_ret
      have ho := H.out.ord
      refine ⟨rfl, vq, .inl ⟨rfl, rfl⟩, ⟨?_, H.out.st.far (p := ⟨ab, 0, none⟩) (by show sb ≠ ab; omega) _, fun a' n' c' e => ?_, ho, own_farB H.out.q (fun e => HQA.out ab e rfl) _, H.out.l64, H.out.qk, H.out.few⟩, (Sav.refl _ w).set_ (p := ⟨ab, 0, none⟩) (fun _ => .inr (.inr (.inl ⟨rfl, hlt⟩))) _⟩
      · have := H.out.blk.far (p := ⟨ab, 0, none⟩) (by show b ≠ ab; omega) (.int .i64 (a - 1))
        rw [HAR.out] at this
        exact this
      · cases e
        exact ⟨HA.out.set_ 0 _, hlt, HQA.out, by omega⟩
    · have e1 : decide (0 < a) = false := decide_eq_false h0
      have hr : dCount d = (21, dFail d n c) := by unfold dCount; rw [ha]; simp only; rw [if_neg h0]
      rw [hr]
      have CF := fun (W : World) (hb : Below w.heap.size w W) => Fail_any b sb ab vq d hon n c W (h.to hb)
      unfold FailR dkP at CF
      clear h hr ha hon hqa
      go_enter Tryz.func119, Tryz.ntmps119
      go_upto_region 6 with fail
      obtain ⟨U, hU, g, u0, e9, hgu, hi⟩ := cls w
      subst e9
      have X3 : ∀ u, (g u).cell? ⟨b, 3, none⟩ = some (.pointer (some ⟨ab, 0, none⟩)) := fun u => ((hgu u).cell (p := ⟨b, 3, none⟩) hbl).trans x3
      have Y1 : ∀ u, (g u).cell? ⟨ab, 1, none⟩ = some (.int .i64 n) := blk_all hgu HA.out 1 rfl
      have Y2 : ∀ u, (g u).cell? ⟨ab, 2, none⟩ = some (.int .i64 c) := blk_all hgu HA.out 2 rfl
      have HGU := hide hgu
      have HHI := hide hi
      clear hgu hi
      refine wp_region_class_tail g 15 (by kernel_rfl) (by kernel_rfl) (HHI.out _ (HGU.out _).drew) ?_
      simp only [List.take_succ_cons, List.take_zero, List.drop_succ_cons, List.drop_zero]
      repeat (go_big_quiet_step (fail))
      refine wpQuiet_nil ?_
      intro w4 hw4
      obtain ⟨u, rfl⟩ := hw4
      have HB2 := hide (HGU.out u)
      have CF := CF _ HB2.out
      generalize g u = w4 at *
      go_wp2_with fail
      with_reducible refine CF.mono ?_
      rintro e w5 ⟨rfl, h5, h6⟩
      have H5 := hide h5
      have H6 := hide h6
      clear h5 h6 CF
      go_wp2_with fail
      go_ret
      exact ⟨rfl, _, .inr ⟨rfl, rfl⟩, H5.out, (Sav.of HB2.out).trans H6.out⟩
set_option maxRecDepth 100000 in
set_option maxHeartbeats 2000000 in
theorem Sync_any (b sb ab : Nat) (vq : Value) (d : Dk) (hon : d.off = false) (w : World) (h : DkAt b sb ab vq d w) :
    Calls Tryz.prog 96 #[dkP b] w (SyncR b sb ab vq (dSync d) w) := by
  have x2 := (h.blk.cell 2).trans (show _ = some (Value.bool false) from by rw [← hon]; rfl)
  have CC := count_any b sb ab vq d hon w h
  unfold CountR at CC
  unfold SyncR dSync
  have H := hide h
  have hsb := h.ord
  unfold dkP at CC ⊢
  rcases count_cases d with ⟨m, hr⟩ | ⟨n, c, hr⟩
  · rw [hr] at CC ⊢
    rw [if_pos rfl]
    clear h hr
    go_enter Tryz.func96, Tryz.ntmps96
    go_wp2_with fail
    with_reducible refine CC.mono ?_
    rintro e w5 ⟨rfl, vq', hv1, h5, h6⟩
    have x0 := (h5.blk.cell 0).trans (show _ = some (Value.slice (some ⟨sb, 0, none⟩) (64 * d.ss.length) (64 * d.ss.length)) from rfl)
    have x1 := (h5.blk.cell 1).trans (show _ = some vq' from rfl)
    have f1 := h5.blk.frozen 1
    have CS := settle_any b sb (by omega) d.ss h5.l64 h5.few.1 d.q h5.qk h5.few.2 vq' w5 x0 h5.st (PendAt.of_own h5.q) (fun g e => by have := h5.ne g e; omega)
    unfold SetR dkP at CS
    have H5 := hide h5
    have H6 := hide h6
    clear h5 h6 CC hv1
    go_wp2_with fail
    with_reducible refine CS.mono ?_
    rintro e w7 ⟨rfl, h7, h8⟩
    have hbk := h8.blk H5.out.blk (by omega)
    have y1 := (hbk.cell 1).trans (show _ = some vq' from rfl)
    have g1 := hbk.frozen 1
    have H7 := hide h7
    have H8 := hide h8
    have HBK := hide hbk
    clear h7 h8 CS hbk x0 x1 f1
    go_wp2_with fail
    go_ret
    refine ⟨rfl, ?_, ?_⟩
    · have hl : (settleS d.ss d.q).length = d.ss.length := settle_len _ _
      refine ⟨?_, H7.out.far (p := ⟨b, 1, none⟩) (by show sb ≠ b; omega) _, fun a n c e => ?_, hsb, World.ownsRow_nil _ _ _ _, settle_64 _ H5.out.l64 fun p hp => by have := H5.out.qk p hp; omega, fun p hp => absurd hp List.not_mem_nil, ⟨by show (settleS d.ss d.q).length ≤ 4000; rw [hl]; exact H5.out.few.1, Nat.zero_le _⟩⟩
      · show Blk _ b _ #[.slice (some ⟨sb, 0, none⟩) (64 * (settleS d.ss d.q).length) (64 * (settleS d.ss d.q).length), .slice none 0 0, .bool d.off, armV m ab]
        rw [hl]
        exact HBK.out.set_ 1 _
      · obtain ⟨h1, h2, _, h4⟩ := H5.out.al a n c e
        exact ⟨(H8.out.blk h1 (by omega)).far (p := ⟨b, 1, none⟩) (by show ab ≠ b; omega) _, h2, fun g e => (by cases e), h4⟩
    · exact (H6.out.trans (H8.out.mono fun k _ e => .inr (.inl e))).set_ (p := ⟨b, 1, none⟩) (fun _ => .inl rfl) _
  · rw [hr] at CC ⊢
    rw [if_neg (show ¬ ((21 : Int) = 0) by decide)]
    clear h hr
    go_enter Tryz.func96, Tryz.ntmps96
    go_wp2_with fail
    with_reducible refine CC.mono ?_
    rintro e w5 ⟨rfl, vq', hv1, h5, h6⟩
    obtain ⟨_, rfl⟩ := hv1.resolve_left (fun h => absurd h.1 (by decide))
    go_wp2_with fail
    go_ret
    exact ⟨rfl, h5, h6⟩
theorem pendF_snoc (q : List (Nat × List UInt8)) (p : Nat × List UInt8) : pendF (q ++ [p]) = pendF q ++ pendV p := by unfold pendF; simp
theorem info_pend : (Tryz.prog.info? 133).map (fun i => (i.zero, i.size, i.bytes)) = some (some (.agg #[.int .i64 0, .int .i64 0, .string ⟨#[]⟩]), 3, 32) := by kernel_rfl
end Go.Proofs.YtnjlefggkfagmaaGreatDoor

/- Walks of the disk: Write. -/
set_option linter.unusedVariables false
set_option linter.unusedSimpArgs false
namespace Go.Proofs.YtnjlefggkfagmaaGreatDoor
open Go.RowKit Go.Shelf
attribute [local go_sem] Oper.semAt_some

theorem wp_builtW {P : Program} {o : Oper} {a : Act} {w : World} {K : Act → World → Prop} {Q : Exit → Act → World → Prop} (t : TypeId) (parts : Array (Nat × Operand)) (cells : Array Value) (ho : o.op = .build t parts)
    (hf : P.built t (parts.map fun (i, x) => (i, a.eval x)).toList = some cells) (h : K (a.put o.dst (.agg cells)) w) : o.wp P a w K Q :=
  wp_build t parts ho (by rw [hf]; rfl) (by rw [hf]; exact h)
def WriteR (b sb ab : Nat) (vq : Value) (r : Int × Dk) (w : World) (e : Ending) (w' : World) : Prop := e = .returned (.int .i64 r.1) ∧ ∃ vq', (vq'.ownBlock = vq.ownBlock ∨ vq' = .slice none 0 0 ∨ ∃ g, vq'.ownBlock = some g ∧ w.heap.size ≤ g) ∧ (r.1 ≠ 0 → vq' = .slice none 0 0) ∧ DkAt b sb ab vq' r.2 w' ∧ Sav (DF b sb ab vq) w w'
set_option maxRecDepth 100000 in
set_option maxHeartbeats 4000000 in
theorem Write_any (b sb ab : Nat) (vq : Value) (d : Dk) (hon : d.off = false) (k : Nat) (hk : k < d.ss.length) (t : List UInt8) (ht : t.length = 64) (hql : d.q.length < 1000000) (w : World) (h : DkAt b sb ab vq d w) :
    Calls Tryz.prog 95 #[dkP b, .int .i64 (k : Int), .string (bs t)] w (WriteR b sb ab vq (dWrite d k t) w) := by
  have hf := h.few
  have CA := at_any b sb ab vq d hon k (by omega) w h
  unfold atV spotV at CA
  rw [if_pos hk, if_pos hk] at CA
  have H := hide h
  have hsz : (bs t).size = 64 := by rw [bs_size, ht]
  have e1 : (((bs t).size : Int) != 64) = false := by rw [hsz]; rfl
  have hbW := h.blk.lt
  unfold dkP at CA ⊢
  clear h
  have hkk := hk
  clear hk
  obtain ⟨P1, hP1⟩ : ∃ P1, ((64 * k : Nat) : Int) = P1 := ⟨_, rfl⟩
  obtain ⟨P2, hP2⟩ : ∃ P2, ((64 * k + 64 : Nat) : Int) = P2 := ⟨_, rfl⟩
  rw [hP1, hP2] at CA
  have HP1' := hide hP1
  have HP2 := hide hP2
  clear hP1 hP2
  go_enter Tryz.func95, Tryz.ntmps95
  go_wp2_with fail
  with_reducible refine CA.mono ?_
  rintro e w2 ⟨rfl, hb⟩
  have H2 := hide (H.out.to hb)
  have HB2 := hide hb
  clear hb CA
  go_upto_region 6 with fail
  have hb4 := below_one w2 (.cells #[.int .i64 P1, .int .i64 P2] 129)
  have H4 := hide (H2.out.to hb4)
  have HE4 := hide (Blk.new w2 129 #[.int .i64 P1, .int .i64 P2])
  have HB4 := hide (below_to HB2.out (Nat.le_refl _) hb4)
  have hl4 := hb4.size
  clear hb4
  generalize w2.alloc (.cells #[.int .i64 P1, .int .i64 P2] 129) = w4 at *
  obtain ⟨A, cq, rfl⟩ := own_sl4 H4.out.q
  have hlt := H4.out.ne
  have hbp : b < b + 1 := Nat.lt_succ_self b
  have hbW : b < w4.heap.size := H4.out.blk.lt
  apply wp_region_lo4 (C := fun W => Two b (rowOr (.slice A d.q.length cq) b) w4 W) (V := [some _, some _, some _, some _, some _, some _, some _, some _, none, none, some _, some _, none]) (Fs := [(8, fun a W => ∃ g, a.tmps[29]? = some (.slice (some ⟨g, 0, none⟩) 1 1) ∧ Blk W g 133 #[.int .i64 P1, .int .i64 P2, .string (bs t)] ∧ w4.heap.size ≤ g), (9, fun a W => ∃ v2, a.tmps[30]? = some v2 ∧ World.ownsRow W (b + 1) 133 3 v2 (d.q.length + 1) ((pendF d.q) ++ [.int .i64 P1, .int .i64 P2, .string (bs t)]) ∧ (v2.ownBlock = Value.ownBlock (.slice A d.q.length cq) ∨ ∃ g, v2.ownBlock = some g ∧ w4.heap.size ≤ g)), (12, fun a W => ∃ v2, a.tmps[30]? = some v2 ∧ Blk W b 60 #[.slice (some ⟨sb, 0, none⟩) (64 * d.ss.length) (64 * d.ss.length), v2, .bool d.off, armV d.arm ab])]) (Ns := [(4, fun (_ : Act) W => Blk W b 60 #[.slice (some ⟨sb, 0, none⟩) (64 * d.ss.length) (64 * d.ss.length), .slice A d.q.length cq, .bool d.off, armV d.arm ab]), (5, fun (_ : Act) W => Blk W w2.heap.size 129 #[.int .i64 P1, .int .i64 P2]), (9, fun (_ : Act) W => World.ownsRow W (b + 1) 133 3 (.slice A d.q.length cq) d.q.length (pendF d.q) ∧ w4.heap.size ≤ W.heap.size), (12, fun (_ : Act) W => Blk W b 60 #[.slice (some ⟨sb, 0, none⟩) (64 * d.ss.length) (64 * d.ss.length), .slice A d.q.length cq, .bool d.off, armV d.arm ab])]) (Rel := fun i a0_ a1_ x x' => if i = 9 then (fun b0 b1 x x' => World.grownBy x x' (Value.ownBlock (.slice A d.q.length cq))) a0_ a1_ x x' else if i = 12 then (fun b0 b1 x x' => ∃ u, x' = World.setCell x ⟨b, 1, none⟩ u) a0_ a1_ x x' else Below x.heap.size x x')
  case hm => kernel_rfl
  case hB => kernel_rfl
  case hCw => exact ((Two.refl b (rowOr (.slice A d.q.length cq) b) w4).drewN 1)
  case hC =>
    intro i a a' w_ w' hw hr
    by_cases e9 : i = 9
    · subst e9
      have hr' : (fun b0 b1 x x' => World.grownBy x x' (Value.ownBlock (.slice A d.q.length cq))) a a' w_ w' := hr
      exact Two.trans hw (Two.grown hr')
    by_cases e12 : i = 12
    · subst e12
      have hr' : (fun b0 b1 x x' => ∃ u, x' = World.setCell x ⟨b, 1, none⟩ u) a a' w_ w' := hr
      obtain ⟨u, rfl⟩ := hr'
      exact Two.set1 hw _ u
    have hr' : Below w_.heap.size w_ w' := by simpa [e9, e12] using hr
    exact Two.to hw hr'
  case hst =>
    refine keeps4_cons (fun i a a' w_ w' hne hwt hs hput hr h => by
      by_cases e9 : i = 9
      · subst e9
        have hr' : (fun b0 b1 x x' => World.grownBy x x' (Value.ownBlock (.slice A d.q.length cq))) a a' w_ w' := hr
        obtain ⟨g, h1, h2, h3⟩ := h
        exact ⟨g, (hs 29 (by kernel_rfl)).trans h1, (hr'.block g h2.lt (fun e => by have := (hlt g e.symm).2; omega)).trans h2, h3⟩
      by_cases e12 : i = 12
      · subst e12
        have hr' : (fun b0 b1 x x' => ∃ u, x' = World.setCell x ⟨b, 1, none⟩ u) a a' w_ w' := hr
        obtain ⟨g, h1, h2, h3⟩ := h
        obtain ⟨u, rfl⟩ := hr'
        exact ⟨g, (hs 29 (by kernel_rfl)).trans h1, h2.far (p := ⟨b, 1, none⟩) (by show g ≠ b; omega) u, h3⟩
      have hr' : Below w_.heap.size w_ w' := by simpa [e9, e12] using hr
      obtain ⟨g, h1, h2, h3⟩ := h
      exact ⟨g, (hs 29 (by kernel_rfl)).trans h1, h2.to hr', h3⟩) ?_
    refine keeps4_cons (fun i a a' w_ w' hne hwt hs hput hr h => by
      by_cases e9 : i = 9
      · exact absurd e9 hne
      by_cases e12 : i = 12
      · subst e12
        have hr' : (fun b0 b1 x x' => ∃ u, x' = World.setCell x ⟨b, 1, none⟩ u) a a' w_ w' := hr
        obtain ⟨g, h1, h2, h3⟩ := h
        obtain ⟨u, rfl⟩ := hr'
        exact ⟨g, (hs 30 (by kernel_rfl)).trans h1, ownsRow_set h2 (fun e => by have := (World.ownsRow.lt h2 _ e).1; omega), h3⟩
      have hr' : Below w_.heap.size w_ w' := by simpa [e9, e12] using hr
      obtain ⟨g, h1, h2, h3⟩ := h
      exact ⟨g, (hs 30 (by kernel_rfl)).trans h1, ownsRow_to h2 hr', h3⟩) ?_
    refine keeps4_cons (fun i a a' w_ w' hne hwt hs hput hr h => by
      by_cases e9 : i = 9
      · subst e9
        exact absurd (hwt.symm.trans (show waitsT .any _ _ 12 9 = true by kernel_rfl)) (by decide)
      by_cases e12 : i = 12
      · exact absurd e12 hne
      have hr' : Below w_.heap.size w_ w' := by simpa [e9, e12] using hr
      obtain ⟨g, h1, h2⟩ := h
      exact ⟨g, (hs 30 (by kernel_rfl)).trans h1, h2.to hr'⟩) ?_
    exact keeps4_nil
  case hN0 => exact pre0_cons ((show Blk w4.drew b 60 _ from H4.out.blk)) (pre0_cons ((show Blk w4.drew w2.heap.size 129 _ from HE4.out)) (pre0_cons (⟨(show World.ownsRow w4.drew (b + 1) 133 3 _ _ _ from H4.out.q), Nat.le_refl _⟩) (pre0_cons ((show Blk w4.drew b 60 _ from H4.out.blk)) (pre0_nil))))
  case hNst =>
    refine prek_cons3 (fun i a a' w_ w' hne hwt hr h hput => by
      by_cases e9 : i = 9
      · subst e9
        exact absurd (hwt.symm.trans (show waitsT .any _ _ 9 4 = true by kernel_rfl)) (by decide)
      by_cases e12 : i = 12
      · subst e12
        exact absurd (hwt.symm.trans (show waitsT .any _ _ 12 4 = true by kernel_rfl)) (by decide)
      have hr' : Below w_.heap.size w_ w' := by simpa [e9, e12] using hr
      exact h.to hr') ?_
    refine prek_cons3 (fun i a a' w_ w' hne hwt hr h hput => by
      by_cases e9 : i = 9
      · subst e9
        exact absurd (hwt.symm.trans (show waitsT .any _ _ 9 5 = true by kernel_rfl)) (by decide)
      by_cases e12 : i = 12
      · subst e12
        exact absurd (hwt.symm.trans (show waitsT .any _ _ 12 5 = true by kernel_rfl)) (by decide)
      have hr' : Below w_.heap.size w_ w' := by simpa [e9, e12] using hr
      exact h.to hr') ?_
    refine prek_cons3 (fun i a a' w_ w' hne hwt hr h hput => by
      by_cases e9 : i = 9
      · exact absurd e9 hne
      by_cases e12 : i = 12
      · subst e12
        exact absurd (hwt.symm.trans (show waitsT .any _ _ 12 9 = true by kernel_rfl)) (by decide)
      have hr' : Below w_.heap.size w_ w' := by simpa [e9, e12] using hr
      exact ⟨ownsRow_to h.1 hr', Nat.le_trans h.2 hr'.size⟩) ?_
    refine prek_cons3 (fun i a a' w_ w' hne hwt hr h hput => by
      by_cases e9 : i = 9
      · subst e9
        have hr' : (fun b0 b1 x x' => World.grownBy x x' (Value.ownBlock (.slice A d.q.length cq))) a a' w_ w' := hr
        exact (hr'.block b h.lt (fun e => by have := (hlt _ e.symm).1; omega)).trans h
      by_cases e12 : i = 12
      · exact absurd e12 hne
      have hr' : Below w_.heap.size w_ w' := by simpa [e9, e12] using hr
      exact h.to hr') ?_
    exact prek_nil3
  case hop =>
    refine ⟨?_, ?_, ?_, ?_, ?_, ?_, ?_, ?_, ?_, ?_, ?_, ?_, ?_, trivial⟩
    · intro a w_ K hw hS hd hN hK
      have s0 := hS.at 0 (by kernel_rfl) rfl
      rw [if_pos (want_free rfl)]
      go_simp
      exact hK _ _ (Below.refl _ _) (vok rfl) (facts_cons (fun h => absurd h (by decide)) (facts_cons (fun h => absurd h (by decide)) (facts_cons (fun h => absurd h (by decide)) facts_nil)))
    · intro a w_ K hw hS hd hN hK
      have s0 := hS.at 0 (by kernel_rfl) rfl
      rw [if_pos (want_free rfl)]
      go_simp
      exact hK _ _ (Below.refl _ _) (vok rfl) (facts_cons (fun h => absurd h (by decide)) (facts_cons (fun h => absurd h (by decide)) (facts_cons (fun h => absurd h (by decide)) facts_nil)))
    · intro a w_ K hw hS hd hN hK
      have s22 := (hd 1 (by kernel_rfl)).at (d := 22) rfl rfl rfl
      rw [if_pos (want_free rfl)]
      go_simp
      exact hK _ _ (Below.refl _ _) (vok rfl) (facts_cons (fun h => absurd h (by decide)) (facts_cons (fun h => absurd h (by decide)) (facts_cons (fun h => absurd h (by decide)) facts_nil)))
    · intro a w_ K hw hS hd hN hK
      have s23 := (hd 2 (by kernel_rfl)).at (d := 23) rfl rfl rfl
      rw [if_pos (want_free rfl)]
      go_simp
      exact hK _ _ (Below.refl _ _) (vok rfl) (facts_cons (fun h => absurd h (by decide)) (facts_cons (fun h => absurd h (by decide)) (facts_cons (fun h => absurd h (by decide)) facts_nil)))
    · intro a w_ K hw hS hd hN hK
      have s24 := (hd 3 (by kernel_rfl)).at (d := 24) rfl rfl rfl
      have hBc := hN _ (List.mem_cons_self ..) rfl
      rw [if_pos (want_free rfl)]
      have c0 := (hBc.cell 1).trans (show _ = some (.slice A d.q.length cq) from rfl)
      go_simp
      exact hK _ _ (Below.refl _ _) (vok rfl) (facts_cons (fun h => absurd h (by decide)) (facts_cons (fun h => absurd h (by decide)) (facts_cons (fun h => absurd h (by decide)) facts_nil)))
    · intro a w_ K hw hS hd hN hK
      have s7 := hS.at 7 (by kernel_rfl) rfl
      have hBq := hN _ (List.mem_cons_of_mem _ (List.mem_cons_self ..)) rfl
      rw [if_pos (want_free rfl)]
      have e0 := (hBq.cell 0).trans (show _ = some (Value.int .i64 P1) from rfl)
      have e1 := (hBq.cell 1).trans (show _ = some (Value.int .i64 P2) from rfl)
      go_simp
      exact hK _ _ (Below.refl _ _) (vok rfl) (facts_cons (fun h => absurd h (by decide)) (facts_cons (fun h => absurd h (by decide)) (facts_cons (fun h => absurd h (by decide)) facts_nil)))
    · intro a w_ K hw hS hd hN hK
      have s2 := hS.at 2 (by kernel_rfl) rfl
      rw [if_pos (want_free rfl)]
      go_simp
      exact hK _ _ (Below.refl _ _) (vok rfl) (facts_cons (fun h => absurd h (by decide)) (facts_cons (fun h => absurd h (by decide)) (facts_cons (fun h => absurd h (by decide)) facts_nil)))
    · intro a w_ K hw hS hd hN hK
      have s26 := (hd 5 (by kernel_rfl)).at (d := 26) rfl rfl rfl
      have s27 := (hd 6 (by kernel_rfl)).at (d := 27) rfl rfl rfl
      rw [if_pos (want_free rfl)]
      refine wp_builtW 133 _ #[.int .i64 P1, .int .i64 P2, .string (bs t)] rfl ?_ (hK _ _ (Below.refl _ _) (vok rfl) (facts_cons (fun h => absurd h (by decide)) (facts_cons (fun h => absurd h (by decide)) (facts_cons (fun h => absurd h (by decide)) facts_nil))))
      simp only [List.map_toArray, List.map_cons, List.map_nil]
      rw [evt s26, evt s27]
      kernel_rfl
    · intro a w_ K hw hS hd hN hK
      have s28 := (hd 7 (by kernel_rfl)).at (d := 28) rfl rfl rfl
      rw [if_pos (want_free rfl)]
      go_simp
      exact hK _ _ (below_one _ _) (vfree rfl) (facts_cons (fun _ => ⟨_, hS.put_at (by kernel_rfl) _, Blk.new _ _ _, (Two.size hw)⟩) (facts_cons (fun h => absurd h (by decide)) (facts_cons (fun h => absurd h (by decide)) facts_nil)))
    · intro a w_ K hw hS hd hN hK
      have s25 := (hd 4 (by kernel_rfl)).at (d := 25) rfl rfl rfl
      obtain ⟨b29, s29, r29, l29⟩ := (hd 8 (by kernel_rfl)).2 _ (List.mem_cons_self ..) rfl
      obtain ⟨hOwn, hSz⟩ := hN _ (List.mem_cons_of_mem _ (List.mem_cons_of_mem _ (List.mem_cons_self ..))) rfl
      rw [if_pos (want_free rfl)]
      obtain ⟨i0, hi0, hz0, hz1, hz2⟩ := info_parts info_pend
      refine wp_append_keep w_ (.tmp 25) (.tmp 29) 57 rfl (b + 1) 133 i0 _ 3 32 Tryz.underlying57 hi0 hz0 hz1 hz2 rfl (by decide) (.slice A d.q.length cq) d.q.length _ (eval_at s25) hOwn ⟨b29, 0, none⟩ 1 1 [.int .i64 P1, .int .i64 P2, .string (bs t)] (eval_at s29) rfl (fun j u hj => by
        cases j with
        | zero => simp at hj; subst hj; exact r29.cell 0
        | succ j =>
          cases j with
          | zero => simp at hj; subst hj; exact r29.cell 1
          | succ j =>
            cases j with
            | zero => simp at hj; subst hj; exact r29.cell 2
            | succ j =>
              simp at hj) (by intro u hu; simp at hu; rcases hu with rfl | rfl | rfl <;> rfl) (by unfold maxLen; omega) (by omega) (by omega) ?_
      intro v2 w' h2 h3 h4 h5
      exact hK v2 w' h3 (vfree rfl) (facts_cons (fun h => absurd h (by decide)) (facts_cons (fun _ => ⟨v2, hS.put_at (by kernel_rfl) _, h2, h5.imp id fun ⟨g, e, hg⟩ => ⟨g, e, Nat.le_trans hSz hg⟩⟩) (facts_cons (fun h => absurd h (by decide)) facts_nil)))
    · intro a w_ K hw hS hd hN hK
      have s21 := (hd 0 (by kernel_rfl)).at (d := 21) rfl rfl rfl
      rw [if_pos (want_free rfl)]
      go_simp
      exact hK _ _ (Below.refl _ _) (vok rfl) (facts_cons (fun h => absurd h (by decide)) (facts_cons (fun h => absurd h (by decide)) (facts_cons (fun h => absurd h (by decide)) facts_nil)))
    · intro a w_ K hw hS hd hN hK
      have s31 := (hd 10 (by kernel_rfl)).at (d := 31) rfl rfl rfl
      rw [if_pos (want_free rfl)]
      go_simp
      exact hK _ _ (Below.refl _ _) (vok rfl) (facts_cons (fun h => absurd h (by decide)) (facts_cons (fun h => absurd h (by decide)) (facts_cons (fun h => absurd h (by decide)) facts_nil)))
    · intro a w_ K hw hS hd hN hK
      have s32 := (hd 11 (by kernel_rfl)).at (d := 32) rfl rfl rfl
      obtain ⟨v30, s30, o30, k30⟩ := (hd 9 (by kernel_rfl)).2 _ (List.mem_cons_of_mem _ (List.mem_cons_self ..)) rfl
      have hBs := hN _ (List.mem_cons_of_mem _ (List.mem_cons_of_mem _ (List.mem_cons_of_mem _ (List.mem_cons_self ..)))) rfl
      rw [if_pos (want_free rfl)]
      obtain ⟨A0, c0', hv0⟩ := own_sl4 ((show World.ownsRow w4.drew (b + 1) 133 3 _ _ _ from H4.out.q))
      have c0 := (hBs.cell 1).trans (show _ = some (.slice A d.q.length cq) from rfl)
      have f0 := hBs.frozen 1
      obtain ⟨A1, c1', rfl⟩ := own_sl4 o30
      try subst hv0
      go_simp
      exact hK undef _ ⟨_, rfl⟩ (vfree rfl) (facts_cons (fun h => absurd h (by decide)) (facts_cons (fun h => absurd h (by decide)) (facts_cons (fun _ => ⟨_, s30, hBs.set_ 1 _⟩) facts_nil)))
  case hfin =>
    intro a w5 hw hS hk
    have s21 := (hk 0 (by decide)).at (d := 21) rfl rfl rfl
    have s22 := (hk 1 (by decide)).at (d := 22) rfl rfl rfl
    have s23 := (hk 2 (by decide)).at (d := 23) rfl rfl rfl
    have s24 := (hk 3 (by decide)).at (d := 24) rfl rfl rfl
    have s25 := (hk 4 (by decide)).at (d := 25) rfl rfl rfl
    have s26 := (hk 5 (by decide)).at (d := 26) rfl rfl rfl
    have s27 := (hk 6 (by decide)).at (d := 27) rfl rfl rfl
    have s28 := (hk 7 (by decide)).at (d := 28) rfl rfl rfl
    obtain ⟨b29, s29, r29, l29⟩ := (hk 8 (by decide)).2 _ (List.mem_cons_self ..) rfl
    obtain ⟨v30, s30, o30, k30⟩ := (hk 9 (by decide)).2 _ (List.mem_cons_of_mem _ (List.mem_cons_self ..)) rfl
    have s31 := (hk 10 (by decide)).at (d := 31) rfl rfl rfl
    have s32 := (hk 11 (by decide)).at (d := 32) rfl rfl rfl
    obtain ⟨z30, zs30, zP⟩ := (hk 12 (by decide)).2 _ (List.mem_cons_of_mem _ (List.mem_cons_of_mem _ (List.mem_cons_self ..))) rfl
    have hlit := hS.lit _ (by kernel_rfl) (lits_cons s21 (lits_cons s22 (lits_cons s23 (lits_cons s24 (lits_cons s25 (lits_cons s26 (lits_cons s27 (lits_cons s28 (lits_cons s29 (lits_cons s30 (lits_cons s31 (lits_cons s32 lits_nil))))))))))))
    rw [hlit]
    obtain rfl : v30 = z30 := Option.some.inj (s30.symm.trans zs30)
    clear zs30 r29 l29
    have HT := hide hw
    have HO := hide o30
    have HZ := hide zP
    have HK := hide k30
    clear hw o30 zP k30 hlit hk hS s21 s22 s23 s24 s25 s26 s27 s28 s29 s30 s31 s32
    have ho := H4.out.ord
    have hrow : rowOr (Value.slice A d.q.length cq) b ≠ sb ∧ (d.arm ≠ none → rowOr (Value.slice A d.q.length cq) b ≠ ab) := by
      unfold rowOr
      cases e : (Value.slice A d.q.length cq).ownBlock with
      | none => exact ⟨by show b ≠ sb; omega, fun hm => by
          show b ≠ ab
          obtain ⟨⟨a, n, c⟩, ha⟩ := Option.ne_none_iff_exists'.1 hm
          have := (H4.out.al a n c ha).2.1; omega⟩
      | some g => exact ⟨by have := hlt g e; show g ≠ sb; omega, fun hm => by
          obtain ⟨⟨a, n, c⟩, ha⟩ := Option.ne_none_iff_exists'.1 hm
          exact (H4.out.al a n c ha).2.2.1 g e⟩
    obtain ⟨hr1, hr2⟩ := hrow
    have HD : Hid (DkAt b sb ab v30 { d with q := d.q ++ [(k, t)] } w5) := by
      refine ⟨HZ.out, HT.out.blk H4.out.st (by omega) (fun e => hr1 e.symm), fun a n c e => ?_, ho, ?_, H4.out.l64, fun p hp => ?_, ⟨H4.out.few.1, by show (d.q ++ [(k, t)]).length ≤ 1000000; rw [List.length_append]; show d.q.length + 1 ≤ _; omega⟩⟩
      · obtain ⟨h1, h2, h3, h4⟩ := H4.out.al a n c e
        refine ⟨HT.out.blk h1 (by omega) (fun e2 => hr2 (by intro h0; have e' : d.arm = some (a, n, c) := e; rw [h0] at e'; cases e') e2.symm), h2, fun g eg => ?_, h4⟩
        rcases HK.out with h5 | ⟨g', h5, h6⟩
        · exact h3 g (h5.symm.trans eg)
        · rw [h5] at eg
          have := h1.lt
          have := Option.some.inj eg
          omega
      · show World.ownsRow _ _ _ _ _ (d.q ++ [(k, t)]).length (pendF (d.q ++ [(k, t)]))
        rw [List.length_append, pendF_snoc]
        have := HO.out
        rw [← HP1'.out, ← HP2.out] at this
        exact this
      · rcases List.mem_append.1 hp with hp | hp
        · exact H4.out.qk p hp
        · obtain rfl := List.mem_singleton.1 hp
          exact ⟨hkk, ht⟩
    have HS : Hid (Sav (DF b sb ab (.slice A d.q.length cq)) w w5) := by
      refine (Sav.of HB4.out).trans (Sav.mono (F := fun x => x = b ∨ x = rowOr (Value.slice A d.q.length cq) b) ⟨HT.out.os, HT.out.tape, HT.out.output, HT.out.size, fun x hx hn => HT.out.block x hx (fun e => hn (.inl e)) (fun e => hn (.inr e))⟩ fun x _ hx => ?_)
      rcases hx with rfl | hx
      · exact .inl rfl
      · unfold rowOr at hx
        cases e : (Value.slice A d.q.length cq).ownBlock with
        | none => rw [e] at hx; exact .inl hx
        | some g => rw [e] at hx; exact .inr (.inr (.inr (by rw [e, hx]; rfl)))
    have hs45 := HT.out.size
    have CC := count_any b sb ab v30 { d with q := d.q ++ [(k, t)] } hon w5 HD.out
    unfold CountR dkP at CC
    obtain ⟨r, hrr⟩ : ∃ r, dCount { d with q := d.q ++ [(k, t)] } = r := ⟨_, rfl⟩
    rw [hrr] at CC
    have HR : Hid (dWrite d k t = r) := hrr
    obtain ⟨A5, c5, rfl⟩ := own_sl4 HO.out
    clear hrr hr1 hr2 HZ HT HP1' HP2 hlt hsz ht e1 hql hf
    simp only [litT, List.setIfInBounds_toArray, List.set_cons_succ, List.set_cons_zero]
    go_wp2_with fail
    with_reducible refine CC.mono ?_
    rintro e w6 ⟨rfl, vq', hv, h6, h7⟩
    have HSS : Hid (Sav (DF b sb ab (.slice A d.q.length cq)) w w6) := by
      refine HS.out.join h7 fun x hx hF => ?_
      rcases hF with e | e | e | e
      · exact .inl e
      · exact .inr (.inl e)
      · exact .inr (.inr (.inl e))
      · rcases HK.out with h | ⟨g, h, hg⟩
        · exact .inr (.inr (.inr (by rw [← h]; exact e)))
        · rw [h] at e
          have e' := Option.some.inj e
          have := HB4.out.size
          omega
    have HH6 := hide h6
    have HV := hide hv
    clear h6 h7 hv CC
    go_wp2_with fail
    go_ret
    suffices hfin : WriteR b sb ab (.slice A d.q.length cq) r w (.returned (.int .i64 r.1)) w6 by
      exact (congrArg (fun z => WriteR b sb ab (.slice A d.q.length cq) z w (.returned (.int .i64 r.1)) w6) HR.out).mpr hfin
    refine ⟨rfl, vq', ?_, fun hr => ?_, HH6.out, HSS.out⟩
    · rcases HV.out with ⟨_, rfl⟩ | ⟨_, rfl⟩
      · rcases HK.out with h | ⟨g, h, hg⟩
        · exact .inl h
        · exact .inr (.inr ⟨g, h, by have := HB4.out.size; omega⟩)
      · exact .inr (.inl rfl)
    · rcases HV.out with ⟨h, _⟩ | ⟨_, h⟩
      · exact absurd h hr
      · exact h
end Go.Proofs.YtnjlefggkfagmaaGreatDoor

/- Walks of the disk: Read where nothing waits. -/
set_option linter.unusedVariables false
set_option linter.unusedSimpArgs false
namespace Go.Proofs.YtnjlefggkfagmaaGreatDoor
open Go.RowKit

def readV (ss : List (List UInt8)) (k : Nat) : Value := .tuple #[.string (bs (ss.getD k [])), .int .i64 (if k < ss.length then 0 else 1)]
set_option maxRecDepth 100000 in
set_option maxHeartbeats 2000000 in
theorem Read_any (b sb ab : Nat) (ss : List (List UInt8)) (m : Option (Int × Int × Int)) (k : Nat) (hk : k ≤ 1000000) (w : World) (h : DkAt b sb ab (.slice none 0 0) ⟨ss, [], false, m⟩ w) :
    Calls Tryz.prog 62 #[dkP b, .int .i64 (k : Int)] w fun e w' => e = .returned (readV ss k) ∧ Below w.heap.size w w' := by
  have CA := at_any b sb ab (.slice none 0 0) ⟨ss, [], false, m⟩ rfl k hk w h
  unfold atV spotV at CA
  have H := hide h
  unfold dkP at CA ⊢
  unfold readV
  clear h
  by_cases hlt : k < ss.length
  · obtain ⟨s, hs⟩ : ∃ s, ss[k]? = some s := ⟨_, List.getElem?_eq_getElem hlt⟩
    have HA := hide (flat_at64 H.out.l64 hs)
    have hsl := H.out.l64 s (List.mem_of_getElem? hs)
    rw [if_pos hlt, if_pos hlt] at CA
    rw [if_pos hlt, List.getD_eq_getElem?_getD, hs, Option.getD_some]
    obtain ⟨p, hp⟩ : ∃ p, ((64 * k : Nat) : Int) = p := ⟨_, rfl⟩
    obtain ⟨q, hq⟩ : ∃ q, ((64 * k + 64 : Nat) : Int) = q := ⟨_, rfl⟩
    rw [hp, hq] at CA
    obtain ⟨n, hn⟩ : ∃ n, ss.length = n := ⟨_, rfl⟩
    have SL : ∀ W, (Instr.slice 56 (.slice (some ⟨sb, 0, none⟩) (64 * n) (64 * n)) (some (.int .i64 p)) (some (.int .i64 q)) none).run Tryz.prog W = .ok (.slice (some ⟨sb, 64 * k, none⟩) 64 (64 * n - 64 * k)) W := fun W => by rw [← hp, ← hq]; exact run_cut64 (by omega) W
    have HN := hide hn
    clear hp hq hn hs
    go_enter Tryz.func62, Tryz.ntmps62
    go_wp2_with fail
    with_reducible refine CA.mono ?_
    rintro e w2 ⟨rfl, hb⟩
    have H2 := hide (H.out.to hb)
    have HB2 := hide hb
    have x1 := ((hb.cell (p := ⟨b, 1, none⟩) H.out.blk.lt).trans (H.out.blk.cell 1)).trans (show _ = some (Value.slice none 0 0) from rfl)
    have hlb := H2.out.blk.lt
    have hne : b ≠ w2.heap.size := Nat.ne_of_lt hlb
    clear hb CA
    have hb3 := below_one w2 (.cells #[.int .i64 p, .int .i64 q] 129)
    have HE := hide (Blk.new w2 129 #[.int .i64 p, .int .i64 q])
    have H3 := hide (H2.out.to hb3)
    have HB3 := hide (below_to HB2.out (Nat.le_refl _) hb3)
    clear hb3
    go_wp2_with fail
    generalize w2.alloc (.cells #[.int .i64 p, .int .i64 q] 129) = w3 at *
    go_loopw [8] (fun i wr => i = .int .i64 (-1) ∧ wr = w3) (fun _ _ => 0)
    case atStart => exact ⟨rfl, rfl⟩
    case round =>
      obtain ⟨rfl, rfl⟩ := hrel
      go_upto_region 9 with fail
      obtain ⟨U, hU, g, u0, e9, hgu, hi⟩ := cls wr
      subst e9
      have X0 : ∀ u, (g u).cell? ⟨b, 0, none⟩ = some (.slice (some ⟨sb, 0, none⟩) (64 * n) (64 * n)) := blk_all hgu H3.out.blk 0 (by rw [← HN.out]; rfl)
      have Y0 : ∀ u, (g u).cell? ⟨w2.heap.size, 0, none⟩ = some (.int .i64 p) := blk_all hgu HE.out 0 rfl
      have Y1 : ∀ u, (g u).cell? ⟨w2.heap.size, 1, none⟩ = some (.int .i64 q) := blk_all hgu HE.out 1 rfl
      have CV : ∀ u, (convert 56 9 (.slice (some ⟨sb, 64 * k, none⟩) 64 (64 * n - 64 * k))).run Tryz.prog (g u) = .ok (.string (bs s)) (g u) := fun u => conv_bytes (g u) 56 5 9 Tryz.underlying56 Tryz.underlying5 Tryz.underlying9 sb (64 * k) s 64 _ hsl.symm fun i c hc => by
        have hb := (H3.out.st.to (hgu u)).cell (64 * k + i)
        rw [hb]
        have e : ss.flatten[64 * k + i]? = some c := by
          rw [← HA.out, List.getElem?_take] at hc
          split at hc
          · rwa [List.getElem?_drop] at hc
          · cases hc
        show (stB ss)[64 * k + i]? = _
        unfold stB Lib.byteCells
        rw [List.getElem?_toArray, List.getElem?_map, e]; rfl
      have HGU := hide hgu
      have HHI := hide hi
      clear hgu hi x1
      refine wp_region_class g (by kernel_rfl) (by kernel_rfl) (HHI.out _ (HGU.out _).drew) ?_
      repeat (go_big_quiet_step (fail))
      refine wpQuiet_nil ?_
      intro w5 hw5
      obtain ⟨u, rfl⟩ := hw5
      go_wp2_with fail
      go_ret2
      exact ⟨rfl, below_to HB3.out (Nat.le_refl _) (HGU.out _)⟩
  · rw [if_neg hlt, if_neg hlt] at CA
    rw [if_neg hlt, List.getD_eq_getElem?_getD, List.getElem?_eq_none (by omega), Option.getD_none]
    go_enter Tryz.func62, Tryz.ntmps62
    go_wp2_with fail
    with_reducible refine CA.mono ?_
    rintro e w2 ⟨rfl, hb⟩
    have HB2 := hide hb
    clear hb CA
    go_wp2_with fail
    go_ret2
    exact ⟨rfl, below_alloc HB2.out (Nat.le_refl _) _⟩
end Go.Proofs.YtnjlefggkfagmaaGreatDoor

/- Walks of the journal: digits, seal, zero, head, sector. -/
set_option linter.unusedVariables false
set_option linter.unusedSimpArgs false
namespace Go.Proofs.YtnjlefggkfagmaaGreatDoor
open Go.RowKit

theorem Repeat_any (n : Nat) (c : UInt8) (hn : n ≤ 100000) (w : World) : Calls Tryz.prog 92 #[.string ⟨#[c]⟩, .int .i64 (n : Int)] w fun e w' => e = .returned (.string (bs (List.replicate n c))) ∧ Below w.heap.size w w' := by
  refine (Tryz.strings_Repeat ⟨#[c]⟩ n w (by omega) (by show 1 * n ≤ _; omega)).mono ?_
  rintro e w' ⟨rfl, hb⟩
  refine ⟨?_, hb⟩
  have h : ∀ k : Nat, Lib.repeatL [c] k = List.replicate k c := by
    intro k
    induction k with
    | zero => rfl
    | succ k ih => rw [List.replicate_succ, ← ih]; rfl
  show Ending.returned (.string ⟨(Lib.repeatL [c] n).toArray⟩) = _
  rw [h]; rfl
set_option maxRecDepth 100000 in
set_option maxHeartbeats 2000000 in
theorem digits_any (n wd : Nat) (hn : n ≤ 1000000000) (hw : wd ≤ 100) (w : World) (hg : Glob w) : Calls Tryz.prog 94 #[.int .i64 (n : Int), .int .i64 (wd : Int)] w fun e w' => e = .returned (.string (bs (digitsV n wd))) ∧ Below w.heap.size w w' := by
  have CI := Itoa_any (n : Int) (by omega) (by omega) w hg
  have HV : Hid (digitsV n wd = List.replicate (wd - (Lib.itoa (n : Int)).length) 48 ++ Lib.itoa (n : Int)) := rfl
  have hil := itoa_len n (by omega)
  generalize hI : Lib.itoa (n : Int) = I at *
  clear hI
  have hsz : (bs I).size = I.length := bs_size I
  have CR := fun w' => Repeat_any (wd - I.length) 48 (by omega) w'
  have hm : max (0 : Int) ((wd : Int) - (I.length : Int)) = ((wd - I.length : Nat) : Int) := by omega
  have hwr := w64 (x := (wd : Int) - (I.length : Int)) (by omega) (by omega)
  have hr : (bs (List.replicate (wd - I.length) (48 : UInt8))).size = wd - I.length := by rw [bs_size]; simp
  go_enter Tryz.func94, Tryz.ntmps94
  go_wp2_with fail
  refine CI.mono ?_
  rintro e w2 ⟨rfl, hb⟩
  have HB2 := hide hb
  clear hb
  go_wp2_with fail
  refine (CR w2).mono ?_
  rintro e w3 ⟨rfl, hb⟩
  have HB3 := hide (below_to HB2.out (Nat.le_refl _) hb)
  clear hb CI CR
  go_wp2_with fail
  go_ret
  exact ⟨ret_str' (by rw [HV.out, ← bs_app]), HB3.out⟩
def zero48 : Array Value := (Lib.byteCells (List.replicate 48 0)).toArray
theorem fill_cells {c : List UInt8} (hc : c.length ≤ 48) : (Lib.byteCells c ++ zero48.toList.drop c.length).toArray = (Lib.byteCells (fillV c)).toArray := by
  have h : zero48.toList = List.replicate 48 (Value.int IntKind.u8 0) := rfl
  rw [h, List.drop_replicate]
  unfold fillV Lib.byteCells
  rw [List.map_append, List.map_replicate]; rfl
theorem zero48_size : zero48.size = 48 := rfl
set_option maxRecDepth 100000 in
set_option maxHeartbeats 2000000 in
theorem seal_any (p : Nat) (hp : p ≤ 1000000000) (c : List UInt8) (hc : c.length ≤ 48) (w : World) (hg : Glob w) : Calls Tryz.prog 93 #[.int .i64 (p : Int), .string (bs c)] w fun e w' => e = .returned (.string (bs (sealV p c))) ∧ Below w.heap.size w w' := by
  have HG := hide hg
  have HZ := hide (Blk.new w 147 zero48)
  have HB := hide (below_one w (.cells zero48 147))
  have hszb : (Tryz.prog.info? 5).map (·.size) = some 1 := by kernel_rfl
  have HF := hide (fill_cells hc)
  have HV : Hid (sealV p c = sumD (digitsV p 8 ++ fillV c) ++ fillV c) := rfl
  have hfl := fillV_len hc
  have hdl : (digitsV p 8).length ≤ 40 := by
    have := itoa_len p (by omega)
    unfold digitsV
    rw [List.length_append, List.length_replicate]; omega
  generalize fillV c = F at *
  clear hg
  go_enter Tryz.func93, Tryz.ntmps93
  go_wp2_with ((with_reducible show wpList _ _ _ (Oper.mk (some 9) _ _ _ _ _ :: _) _ _); refine wpList_copy_part rfl (.tmp 7) (.tmp 8) 56 9 5 rfl Tryz.underlying56 hszb w.heap.size 0 48 48 c rfl rfl 147 zero48 HZ.out hc (by rw [zero48_size]; omega) ?_)
  intro w2 ho hb
  rw [HF.out] at hb
  have HB2 := hide (HB.out.grown ho HB.out.size (fun k e => by obtain rfl : w.heap.size = k := Option.some.inj e; exact Nat.le_refl _))
  have CV : (convert 56 9 (.slice (some ⟨w.heap.size, 0, none⟩) 48 48)).run Tryz.prog w2 = .ok (.string (bs F)) w2 := conv_bytes w2 56 5 9 Tryz.underlying56 Tryz.underlying5 Tryz.underlying9 w.heap.size 0 F 48 _ hfl.symm fun i x hx => by
    rw [hb.cell (0 + i), Nat.zero_add]
    unfold Lib.byteCells
    rw [List.getElem?_toArray, List.getElem?_map, hx]; rfl
  have HB2b : Hid (Below w.heap.size w w2) := HB2.out
  have CD := digits_any p 8 hp (by omega) w2 (HG.out.to HB2b.out)
  clear ho hb HB HZ HF
  go_wp2_with fail
  refine CD.mono ?_
  rintro e w3 ⟨rfl, hb⟩
  have HB3 := hide (below_to HB2b.out (Nat.le_refl _) hb)
  have HG3 := hide (HG.out.to HB3.out)
  have CS := Sum_any (digitsV p 8 ++ F) (by rw [List.length_append]; omega) w3 HG3.out
  rw [← bs_app] at CS
  generalize digitsV p 8 = D at *
  have hS : (sumD (D ++ F)).length = 16 := sumD_len _
  generalize sumD (D ++ F) = S at *
  have h1 : (bs D).size = D.length := bs_size D
  have h2 : (bs F).size = F.length := bs_size F
  have h3 : (bs S).size = S.length := bs_size S
  clear hb CD CV
  go_wp2_with fail
  refine CS.mono ?_
  rintro e w4 ⟨rfl, hb⟩
  have HB4 := hide (below_to HB3.out (Nat.le_refl _) hb)
  clear hb CS
  go_wp2_with fail
  go_ret
  exact ⟨ret_str' (by rw [HV.out, ← bs_app]), HB4.out⟩
set_option maxRecDepth 100000 in
set_option maxHeartbeats 2000000 in
theorem zero_any (w : World) : Calls Tryz.prog 51 #[] w fun e w' => e = .returned (.string (bs zeroV)) ∧ Below w.heap.size w w' := by
  have CR : Calls Tryz.prog 92 #[.string ⟨#[0]⟩, .int .i64 64] w fun e w' => e = .returned (.string (bs zeroV)) ∧ Below w.heap.size w w' := Repeat_any 64 0 (by omega) w
  generalize zeroV = Z at *
  go_enter Tryz.func51, Tryz.ntmps51
  go_wp2_with fail
  refine CR.mono ?_
  rintro e w3 ⟨rfl, hb⟩
  go_wp2_with fail
  go_ret
  exact ⟨rfl, hb⟩
theorem digits_40 (n : Nat) (k : Nat) (hn : n ≤ 1000000000) (hk : k ≤ 20) : (digitsV n k).length ≤ 40 := by
  have := itoa_len n (by omega)
  unfold digitsV
  rw [List.length_append, List.length_replicate]; omega
set_option maxRecDepth 100000 in
set_option maxHeartbeats 2000000 in
theorem jhead_any (p n : Nat) (hp : p ≤ 1000000000) (hn : n ≤ 1000000000) (w : World) (hg : Glob w) : Calls Tryz.prog 57 #[.int .i64 (p : Int), .int .i64 (n : Int)] w fun e w' => e = .returned (.string (bs (headV p n))) ∧ Below w.heap.size w w' := by
  have HG := hide hg
  have CD : Calls Tryz.prog 94 #[.int .i64 (n : Int), .int .i64 8] w fun e w' => e = .returned (.string (bs (digitsV n 8))) ∧ Below w.heap.size w w' := digits_any n 8 hn (by omega) w hg
  have CS := fun w' (hb : Below w.heap.size w w') => seal_any p hp (digitsV n 8) (by have := digits_40 n 8 hn (by omega); omega) w' (hg.to hb)
  unfold headV
  generalize sealV p (digitsV n 8) = S at *
  generalize digitsV n 8 = D at *
  clear hg
  go_enter Tryz.func57, Tryz.ntmps57
  go_wp2_with fail
  refine CD.mono ?_
  rintro e w2 ⟨rfl, hb⟩
  have HB2 := hide hb
  have CS := CS _ hb
  clear hb CD
  go_wp2_with fail
  refine CS.mono ?_
  rintro e w3 ⟨rfl, hb⟩
  go_wp2_with fail
  go_ret
  exact ⟨rfl, below_to HB2.out (Nat.le_refl _) hb⟩
set_option maxRecDepth 100000 in
set_option maxHeartbeats 2000000 in
theorem sector_any (p : Nat) (hp : p ≤ 1000000000) (t : List UInt8) (ht : t.length ≤ 46) (w : World) (hg : Glob w) : Calls Tryz.prog 52 #[.int .i64 (p : Int), .string (bs t)] w fun e w' => e = .returned (.string (bs (sectorV p t))) ∧ Below w.heap.size w w' := by
  have hsz : (bs t).size = t.length := bs_size t
  have CD : Calls Tryz.prog 94 #[.int .i64 (t.length : Int), .int .i64 2] w fun e w' => e = .returned (.string (bs (digitsV t.length 2))) ∧ Below w.heap.size w w' := digits_any t.length 2 (by omega) (by omega) w hg
  have hd := digits_2 (n := t.length) (by omega)
  have CS := fun w' (hb : Below w.heap.size w w') => seal_any p hp (digitsV t.length 2 ++ t) (by rw [List.length_append, hd]; omega) w' (hg.to hb)
  unfold sectorV
  generalize sealV p (digitsV t.length 2 ++ t) = S at *
  generalize digitsV t.length 2 = D at *
  rw [← bs_app] at CS
  have hsd : (bs D).size = D.length := bs_size D
  clear hg
  go_enter Tryz.func52, Tryz.ntmps52
  go_wp2_with fail
  refine CD.mono ?_
  rintro e w2 ⟨rfl, hb⟩
  have HB2 := hide hb
  have CS := CS _ hb
  clear hb CD
  go_wp2_with fail
  refine CS.mono ?_
  rintro e w3 ⟨rfl, hb⟩
  go_wp2_with fail
  go_ret
  exact ⟨rfl, below_to HB2.out (Nat.le_refl _) hb⟩
end Go.Proofs.YtnjlefggkfagmaaGreatDoor
