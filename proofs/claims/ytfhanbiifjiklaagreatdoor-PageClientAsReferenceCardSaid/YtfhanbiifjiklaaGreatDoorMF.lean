/- Several texts as one, in build order. -/
import Derived.Test.YtfhanbiifjiklaaGreatDoorME
import Derived.Test.YtfhanbiifjiklaaGreatDoorMD
/- The walk of PageForgery. -/
set_option linter.unusedVariables false
set_option linter.unusedSimpArgs false
namespace Go.Proofs.YtfhanbiifjiklaaGreatDoor
open Go.RowKit Go.Shelf
attribute [local go_sem] Oper.semAt_some

/-- a page that came in, in a box of the call -/
structure FgI (w : World) (p : Pg) (vi vp : Value) (W : World) : Prop where
  bel : Below w.heap.size w W
  box : Blk W w.heap.size 25 (p.cs vi vp)
theorem FgI.to {w W W' : World} {p : Pg} {vi vp : Value} (h : FgI w p vi vp W) (hb : Below W.heap.size W W') : FgI w p vi vp W' := ⟨below_to h.bel (Nat.le_refl _) hb, h.box.to hb⟩
theorem FgI.two {w W W' : World} {p : Pg} {vi vp : Value} {b r : Nat} (h : FgI w p vi vp W) (hT : Two b r W W') (hb : w.heap.size < b) (hr : b ≤ r) : FgI w p vi vp W' := ⟨h.bel.trans (hT.below h.bel.size (by omega) (by omega)), hT.blk h.box (by omega) (by omega)⟩
theorem texts_far {w : World} {vi : Value} {ls : List (List UInt8)} (h : TextsAt w vi ls) {b : Nat} (hb : w.heap.size ≤ b) : ls ≠ [] → vi.ownBlock ≠ some b := fun hne e => by
  obtain ⟨x, hx⟩ : ∃ x, ls[0]? = some x := ⟨_, List.getElem?_eq_getElem (List.length_pos_iff.2 hne)⟩
  obtain ⟨A, c, rfl, _⟩ := h.slice
  obtain ⟨a, rfl, hl, _⟩ := h.at_ hx
  have : a.block = b := Option.some.inj e
  omega
theorem shown_app {D K : List (List UInt8)} (hc : CollIn (D ++ K)) (hn : D.length + K.length ≤ 1000000) (hD : ∀ s ∈ D, s.length ≤ 1000000) (hK : ∀ s ∈ K, s.length ≤ 1000000) (w : World) (v : Value) (hv : TextsAt w v (D ++ K)) : Calls Tryz.prog 29 #[v] w fun e w' => e = .returned (.bool true) ∧ Below w.heap.size w w' :=
  Shown_yes (D ++ K) (by rw [List.length_append]; exact hn) (fun x hx => (List.mem_append.1 hx).elim (hD x) (hK x)) hc v w hv
set_option maxRecDepth 100000 in
set_option maxHeartbeats 4000000 in
theorem forgery_law (items : List (List UInt8)) (hn : items.length ≤ 8796093022208) (hx : ∀ x ∈ items, x.length ≤ 140737488355328) (p : Pg) (hp : p.wide) (hpf : -9223372036854775808 ≤ p.fr ∧ p.fr ≤ 9223372036854775807) (hps : -9223372036854775808 ≤ p.size ∧ p.size ≤ 9223372036854775807) (v vi vp : Value) (w : World) (hv : TextsAt w v items) (hvi : TextsAt w vi p.items) (hvp : PathsAt w vp p.paths) (hg : Glob w) :
    Calls Tryz.prog 5 #[v, .agg (p.cs vi vp)] w fun e w' => e = .returned (.bool true) ∧ Below w.heap.size w w' := by
  have HS := hide hv
  have HG := hide hg
  have HVI := hide hvi
  have HVP := hide hvp
  have CF := fun (w' : World) (hb : Below w.heap.size w w') => few_any items hn hx v w' (hv.to hb)
  have CP := fun (w' : World) (hb : Below w.heap.size w w') => FewP_any p hp vi vp w' (hvi.to hb) (hvp.to hb)
  have H1 : Hid (FgI w p vi vp (w.alloc (.cells (p.cs vi vp) 25))) := ⟨below_one _ _, Blk.new _ _ _⟩
  obtain ⟨A, c, rfl, _⟩ := hv.slice
  obtain ⟨Ai, ci, rfl, _⟩ := hvi.slice
  obtain ⟨Ap, cp, rfl, _⟩ := hvp.slice
  clear hv hg hvi hvp
  unfold Pg.cs at CP H1 ⊢
  go_enter Tryz.func5, Tryz.ntmps5
  go_wp2_with fail
  generalize w.alloc (.cells #[.int .i64 p.fr, .int .i64 p.size, .string (bs p.root), .slice Ai p.items.length ci, .slice Ap p.paths.length cp] 25) = w1 at *
  have C1 := head_any w1 (HG.out.to H1.out.bel)
  refine C1.mono ?_
  rintro e w2 ⟨rfl, hb⟩
  have H2 := hide (H1.out.to hb)
  have CF := CF w2 H2.out.bel
  have CP := CP w2 H2.out.bel
  obtain ⟨x0, x1, x2, x3, x4⟩ := page_cells H2.out.box
  clear hb C1 H1
  have FIT := fun h => few_fit (p := p) h hpf hps
  cases hfew : fewI items with
  | false =>
    rw [hfew] at CF
    clear hfew
    go_wp2_with ((with_reducible refine CF.mono ?_); rintro e w3 ⟨rfl, e9⟩; subst e9)
    go_ret
    exact ⟨rfl, H2.out.bel⟩
  | true =>
    have HL := hide (fewI_lg hfew)
    rw [hfew] at CF
    clear hfew
    cases hfp : fewP p with
    | false =>
      rw [hfp] at CP
      clear hfp
      go_wp2_with (first | ((with_reducible refine CF.mono ?_); rintro e w3 ⟨rfl, e9⟩; subst e9) | ((with_reducible refine CP.mono ?_); rintro e w3 ⟨rfl, hb⟩; have H3 := hide (H2.out.to hb); clear hb))
      go_ret
      exact ⟨rfl, H3.out.bel⟩
    | true =>
      have HFT := hide (FIT hfp).1
      have HP6 := hide (FIT hfp).2.2
      rw [hfp] at CP
      clear hfp FIT
      go_wp2_with (first | ((with_reducible refine CF.mono ?_); rintro e w3 ⟨rfl, e9⟩; subst e9) | ((with_reducible refine CP.mono ?_); rintro e w3 ⟨rfl, hb⟩; have H3 := hide (H2.out.to hb); clear hb))
      clear CF CP x0 x1 x2 x3 x4
      have C3 := rootL_any HL.out _ w3 (HS.out.to H3.out.bel) (HG.out.to H3.out.bel)
      refine C3.mono ?_
      rintro e w4 ⟨rfl, hb⟩
      have H4 := hide (H3.out.to hb)
      have hlen := HL.out.len
      clear hb C3 H3 H2
      go_wp2_with fail
      have C4 := NewL HL.out w4 (HG.out.to H4.out.bel)
      unfold cliP at C4
      refine C4.mono ?_
      rintro e w5 ⟨b, rfl, hbb, hcl, hb⟩
      have H5 := hide (H4.out.to hb)
      have HC5 := hide hcl
      have hwb : w.heap.size < b := by have := H4.out.box.lt; omega
      clear hb C4 H4 hcl hbb
      obtain ⟨x0, x1, x2, x3, x4⟩ := page_cells H5.out.box
      go_wp2_with fail
      have C6 := Accept_any b (rootL items) items.length [] (by decide) (.slice none 0 0) p HFT.out (.slice Ai p.items.length ci) (.slice Ap p.paths.length cp) w5 (HG.out.to H5.out.bel) HC5.out (HVI.out.to H5.out.bel) (HVP.out.to H5.out.bel) (texts_far HVI.out (by omega)) (fun g e => by cases e)
      unfold AcceptR cliP Pg.cs at C6
      refine C6.mono ?_
      rintro e w6 ⟨v6, rfl, hcl, hT, _⟩
      have HF6 : Hid (FgI w p (.slice Ai p.items.length ci) (.slice Ap p.paths.length cp) w6) := H5.out.two hT hwb (Nat.le_refl _)
      have HC6 := hide hcl
      clear C6 hcl hT H5 HC5 x0 x1 x2 x3 x4
      by_cases hacc : accE p (rootL items) items.length [] = 0
      · obtain ⟨hfo, hho, hro, hso, hfz⟩ := acc_facts hacc
        have hfs := (formed_spec hfo).1
        have hfr0 : p.fr.toNat = 0 := by simp at hfz; omega
        have hfr1 : p.fr = 0 := by simp at hfz; omega
        have hav : accV p (rootL items) items.length [] = p.items := by unfold accV; rw [if_pos hacc]; simp
        rw [hav] at HC6
        rw [hacc]
        have hil := hfs.2.2.2.1
        have hlen2 : p.items.length ≤ items.length := by have := held_same hho; omega
        obtain ⟨x0, x1, x2, x3, x4⟩ := page_cells HF6.out.box
        have C7 : Calls Tryz.prog 27 #[.agg #[.int .i64 p.fr, .int .i64 p.size, .string (bs p.root), .slice Ai p.items.length ci, .slice Ap p.paths.length cp]] w6 fun e w' => e = .returned (.bool true) ∧ Below w6.heap.size w6 w' := Holds_yes p HFT.out hfo hho _ _ w6 (HVI.out.to HF6.out.bel) (HVP.out.to HF6.out.bel)
        have y1 : (p.size != (items.length : Int)) = false := by rw [hso]; simp
        have y2 : (p.fr != 0) = false := by rw [hfr1]; rfl
        have HFO := hide hfo
        have HHO := hide hho
        have HRO := hide hro
        have HSO := hide hso
        have HFR := hide hfr0
        have HLN := hide hlen2
        have HIL := hide hil
        clear hfo hho hro hso hfr0 hfr1 hlen2 hil hav hacc hfs hfz
        go_wp2_with fail
        refine C7.mono ?_
        rintro e w7 ⟨rfl, hb⟩
        have HFI := hide (HF6.out.to hb)
        have HC7 := hide (HC6.out.to hb)
        clear hb C7 HF6 HC6 x0 x1 x2 x3 x4
        obtain ⟨x0, x1, x2, x3, x4⟩ := page_cells HFI.out.box
        go_wp2_with fail
        clear x0 x1 x2 x3 x4
        have HBG : Hid (∀ W, Below w7.heap.size w7 W → Calls Tryz.prog 28 #[.slice A items.length c, .slice Ai p.items.length ci] W fun e w' => e = .returned (.bool (beginsV items p.items)) ∧ Below W.heap.size W w') := fun W h => Begins_any items p.items (by omega) (by have := HIL.out; omega) _ _ W ((HS.out.to HFI.out.bel).to h) ((HVI.out.to HFI.out.bel).to h)
        have HIT : Hid (∀ W, Below w7.heap.size w7 W → Calls Tryz.prog 26 #[.pointer (some ⟨b, 0, none⟩)] W (ItemsR p.items W)) := fun W h => Items_any b _ _ p.items (by have := HIL.out; omega) v6 W (HC7.out.to h)
        have HSS : Hid (∀ W, Below w7.heap.size w7 W → ∀ u, TextsAt W u p.items → Calls Tryz.prog 25 #[u, .slice Ai p.items.length ci] W fun e w' => e = .returned (.bool true) ∧ Below W.heap.size W w') := fun W h u hu => by
          have := Same_any p.items p.items (by have := HIL.out; omega) (by have := HIL.out; omega) u _ W hu ((HVI.out.to HFI.out.bel).to h)
          rwa [decide_eq_true rfl] at this
        clear HC7 y1 y2
        cases hB : beginsV items p.items with
        | true =>
          rw [hB] at HBG
          clear hB
          apply wp_region_lo3 (C := fun W => Below w7.heap.size w7 W) (V := [some _, some _, some _, some _, some _, some _, none, some _, some _, some _, some _]) (Fs := [(6, fun a W => ∃ v, a.tmps[59]? = some v ∧ TextsAt W v p.items)]) (Ns := []) (Rel := fun i b b' x x' => Below x.heap.size x x')
          case hm => kernel_rfl
          case hB => kernel_rfl
          case hCw => exact (Below.refl _ w7).drew
          case hC =>
            intro i a a' w_ w' hw hr
            have hr' : Below w_.heap.size w_ w' := hr
            exact below_to hw (Nat.le_refl _) hr'
          case hst =>
            refine keeps3_cons (fun i a a' w_ w' hne hwt hs hput hr h => by
              have hr' : Below w_.heap.size w_ w' := hr
              obtain ⟨v, h1, h2⟩ := h
              exact ⟨v, (hs 59 (by kernel_rfl)).trans h1, h2.to hr'⟩) ?_
            exact keeps3_nil
          case hN0 => exact pre0_nil
          case hNst =>
            exact prek_nil3
          case hop =>
            refine ⟨?_, ?_, ?_, ?_, ?_, ?_, ?_, ?_, ?_, ?_, ?_, trivial⟩
            · intro a w_ K hw hS hd hN hK
              have s0 := hS.at 0 (by kernel_rfl) rfl
              rw [if_pos (want_free rfl)]
              go_simp
              exact hK _ _ (Below.refl _ _) (vok rfl) (facts_cons (fun h => absurd h (by decide)) facts_nil)
            · intro a w_ K hw hS hd hN hK
              have s3 := hS.at 3 (by kernel_rfl) rfl
              rw [if_pos (want_free rfl)]
              go_simp
              exact hK _ _ (Below.refl _ _) (vok rfl) (facts_cons (fun h => absurd h (by decide)) facts_nil)
            · intro a w_ K hw hS hd hN hK
              have s54 := (waits_on hd 1 (by kernel_rfl)).at (d := 54) rfl rfl rfl
              rw [if_pos (want_free rfl)]
              obtain ⟨x0, x1, x2, x3, x4⟩ := page_cells (HFI.out.to hw).box
              go_simp
              exact hK _ _ (Below.refl _ _) (vok rfl) (facts_cons (fun h => absurd h (by decide)) facts_nil)
            · intro a w_ K hw hS hd hN hK
              have s53 := (waits_on hd 0 (by kernel_rfl)).at (d := 53) rfl rfl rfl
              have s55 := (waits_on hd 2 (by kernel_rfl)).at (d := 55) rfl rfl rfl
              rw [if_pos (want_free rfl)]
              go_simp
              with_reducible refine (HBG.out w_ hw).mono ?_
              rintro e w' ⟨rfl, hb⟩
              exact hK _ _ hb (vok rfl) (facts_cons (fun h => absurd h (by decide)) facts_nil)
            · intro a w_ K hw hS hd hN hK
              have s56 := (waits_on hd 3 (by kernel_rfl)).at (d := 56) rfl rfl rfl
              rw [if_pos (want_free rfl)]
              go_simp
              exact hK _ _ (Below.refl _ _) (vok rfl) (facts_cons (fun h => absurd h (by decide)) facts_nil)
            · intro a w_ K hw hS hd hN hK
              have s57 := (waits_on hd 4 (by kernel_rfl)).at (d := 57) rfl rfl rfl
              have s6 := hS.at 6 (by kernel_rfl) rfl
              rw [if_pos (want_yes rfl rfl rfl s57)]
              go_simp
              exact hK _ _ (Below.refl _ _) (vok rfl) (facts_cons (fun h => absurd h (by decide)) facts_nil)
            · intro a w_ K hw hS hd hN hK
              have s57 := (waits_on hd 4 (by kernel_rfl)).at (d := 57) rfl rfl rfl
              have s58 := (waits_on hd 5 (by kernel_rfl)).at (d := 58) rfl rfl rfl
              rw [if_pos (want_yes rfl rfl rfl s57)]
              go_simp
              refine (HIT.out w_ hw).mono ?_
              rintro e w' ⟨v7, rfl, ho7, hb7⟩
              exact hK _ _ hb7 (vfree rfl) (facts_cons (fun _ => ⟨v7, hS.put_at (by kernel_rfl) _, TextsAt.of_own ho7⟩) facts_nil)
            · intro a w_ K hw hS hd hN hK
              have s57 := (waits_on hd 4 (by kernel_rfl)).at (d := 57) rfl rfl rfl
              have s3 := hS.at 3 (by kernel_rfl) rfl
              rw [if_pos (want_yes rfl rfl rfl s57)]
              go_simp
              exact hK _ _ (Below.refl _ _) (vok rfl) (facts_cons (fun h => absurd h (by decide)) facts_nil)
            · intro a w_ K hw hS hd hN hK
              have s57 := (waits_on hd 4 (by kernel_rfl)).at (d := 57) rfl rfl rfl
              have s60 := (waits_on hd 7 (by kernel_rfl)).at (d := 60) rfl rfl rfl
              rw [if_pos (want_yes rfl rfl rfl s57)]
              obtain ⟨x0, x1, x2, x3, x4⟩ := page_cells (HFI.out.to hw).box
              go_simp
              exact hK _ _ (Below.refl _ _) (vok rfl) (facts_cons (fun h => absurd h (by decide)) facts_nil)
            · intro a w_ K hw hS hd hN hK
              have s57 := (waits_on hd 4 (by kernel_rfl)).at (d := 57) rfl rfl rfl
              obtain ⟨v59, s59, t59⟩ := (waits_on hd 6 (by kernel_rfl)).2 _ (List.mem_cons_self ..) rfl
              have s61 := (waits_on hd 8 (by kernel_rfl)).at (d := 61) rfl rfl rfl
              rw [if_pos (want_yes rfl rfl rfl s57)]
              go_simp
              with_reducible refine (HSS.out w_ hw v59 t59).mono ?_
              rintro e w' ⟨rfl, hb⟩
              exact hK _ _ hb (vok rfl) (facts_cons (fun h => absurd h (by decide)) facts_nil)
            · intro a w_ K hw hS hd hN hK
              have s57 := (waits_on hd 4 (by kernel_rfl)).at (d := 57) rfl rfl rfl
              have s62 := (waits_on hd 9 (by kernel_rfl)).at (d := 62) rfl rfl rfl
              rw [if_pos (want_free rfl)]
              go_simp
              exact hK _ _ (Below.refl _ _) (vok rfl) (facts_cons (fun h => absurd h (by decide)) facts_nil)
          case hfin =>
            intro a w8 hw hS hk
            have s53 := (hk 0 (by decide)).at (d := 53) rfl rfl rfl
            have s54 := (hk 1 (by decide)).at (d := 54) rfl rfl rfl
            have s55 := (hk 2 (by decide)).at (d := 55) rfl rfl rfl
            have s56 := (hk 3 (by decide)).at (d := 56) rfl rfl rfl
            have s57 := (hk 4 (by decide)).at (d := 57) rfl rfl rfl
            have s58 := (hk 5 (by decide)).at (d := 58) rfl rfl rfl
            obtain ⟨v59, s59, t59⟩ := (hk 6 (by decide)).2 _ (List.mem_cons_self ..) rfl
            have s60 := (hk 7 (by decide)).at (d := 60) rfl rfl rfl
            have s61 := (hk 8 (by decide)).at (d := 61) rfl rfl rfl
            have s62 := (hk 9 (by decide)).at (d := 62) rfl rfl rfl
            have s63 := (hk 10 (by decide)).at (d := 63) rfl rfl rfl
            have hlit := hS.lit _ (by kernel_rfl) (lits_cons s53 (lits_cons s54 (lits_cons s55 (lits_cons s56 (lits_cons s57 (lits_cons s58 (lits_cons s59 (lits_cons s60 (lits_cons s61 (lits_cons s62 (lits_cons s63 lits_nil)))))))))))
            rw [hlit]
            have HF8 := hide (HFI.out.to hw)
            clear hlit hk hS t59 hw
            simp only [litT, List.setIfInBounds_toArray, List.set_cons_succ, List.set_cons_zero]
            go_wp2_with fail
            go_ret
            exact ⟨rfl, HF8.out.bel⟩
        | false =>
          rw [hB] at HBG
          have HBB := hide hB
          clear hB HSS HIT
          apply wp_region_lo3 (C := fun W => Below w7.heap.size w7 W) (V := [some _, some _, some _, some _, some _, some _, some _, some _, some _, some _, some _]) (Fs := []) (Ns := []) (Rel := fun i b b' x x' => Below x.heap.size x x')
          case hm => kernel_rfl
          case hB => kernel_rfl
          case hCw => exact (Below.refl _ w7).drew
          case hC =>
            intro i a a' w_ w' hw hr
            have hr' : Below w_.heap.size w_ w' := hr
            exact below_to hw (Nat.le_refl _) hr'
          case hst =>
            exact keeps3_nil
          case hN0 => exact pre0_nil
          case hNst =>
            exact prek_nil3
          case hop =>
            refine ⟨?_, ?_, ?_, ?_, ?_, ?_, ?_, ?_, ?_, ?_, ?_, trivial⟩
            · intro a w_ K hw hS hd hN hK
              have s0 := hS.at 0 (by kernel_rfl) rfl
              rw [if_pos (want_free rfl)]
              go_simp
              exact hK _ _ (Below.refl _ _) (vok rfl) facts_nil
            · intro a w_ K hw hS hd hN hK
              have s3 := hS.at 3 (by kernel_rfl) rfl
              rw [if_pos (want_free rfl)]
              go_simp
              exact hK _ _ (Below.refl _ _) (vok rfl) facts_nil
            · intro a w_ K hw hS hd hN hK
              have s54 := (waits_on hd 1 (by kernel_rfl)).at (d := 54) rfl rfl rfl
              rw [if_pos (want_free rfl)]
              obtain ⟨x0, x1, x2, x3, x4⟩ := page_cells (HFI.out.to hw).box
              go_simp
              exact hK _ _ (Below.refl _ _) (vok rfl) facts_nil
            · intro a w_ K hw hS hd hN hK
              have s53 := (waits_on hd 0 (by kernel_rfl)).at (d := 53) rfl rfl rfl
              have s55 := (waits_on hd 2 (by kernel_rfl)).at (d := 55) rfl rfl rfl
              rw [if_pos (want_free rfl)]
              go_simp
              with_reducible refine (HBG.out w_ hw).mono ?_
              rintro e w' ⟨rfl, hb⟩
              exact hK _ _ hb (vok rfl) facts_nil
            · intro a w_ K hw hS hd hN hK
              have s56 := (waits_on hd 3 (by kernel_rfl)).at (d := 56) rfl rfl rfl
              rw [if_pos (want_free rfl)]
              go_simp
              exact hK _ _ (Below.refl _ _) (vok rfl) facts_nil
            · intro a w_ K hw hS hd hN hK
              have s57 := (waits_on hd 4 (by kernel_rfl)).at (d := 57) rfl rfl rfl
              rw [if_neg (want_no rfl rfl rfl s57 rfl)]
              exact hK _ _ (Below.refl _ _) (vok rfl) facts_nil
            · intro a w_ K hw hS hd hN hK
              have s57 := (waits_on hd 4 (by kernel_rfl)).at (d := 57) rfl rfl rfl
              rw [if_neg (want_no rfl rfl rfl s57 rfl)]
              exact hK _ _ (Below.refl _ _) (vok rfl) facts_nil
            · intro a w_ K hw hS hd hN hK
              have s57 := (waits_on hd 4 (by kernel_rfl)).at (d := 57) rfl rfl rfl
              rw [if_neg (want_no rfl rfl rfl s57 rfl)]
              exact hK _ _ (Below.refl _ _) (vok rfl) facts_nil
            · intro a w_ K hw hS hd hN hK
              have s57 := (waits_on hd 4 (by kernel_rfl)).at (d := 57) rfl rfl rfl
              rw [if_neg (want_no rfl rfl rfl s57 rfl)]
              exact hK _ _ (Below.refl _ _) (vok rfl) facts_nil
            · intro a w_ K hw hS hd hN hK
              have s57 := (waits_on hd 4 (by kernel_rfl)).at (d := 57) rfl rfl rfl
              rw [if_neg (want_no rfl rfl rfl s57 rfl)]
              exact hK _ _ (Below.refl _ _) (vok rfl) facts_nil
            · intro a w_ K hw hS hd hN hK
              have s57 := (waits_on hd 4 (by kernel_rfl)).at (d := 57) rfl rfl rfl
              have s62 := (waits_on hd 9 (by kernel_rfl)).at (d := 62) rfl rfl rfl
              rw [if_pos (want_free rfl)]
              go_simp
              exact hK _ _ (Below.refl _ _) (vok rfl) facts_nil
          case hfin =>
            intro a w8 hw hS hk
            have s53 := (hk 0 (by decide)).at (d := 53) rfl rfl rfl
            have s54 := (hk 1 (by decide)).at (d := 54) rfl rfl rfl
            have s55 := (hk 2 (by decide)).at (d := 55) rfl rfl rfl
            have s56 := (hk 3 (by decide)).at (d := 56) rfl rfl rfl
            have s57 := (hk 4 (by decide)).at (d := 57) rfl rfl rfl
            have s58 := (hk 5 (by decide)).at (d := 58) rfl rfl rfl
            have s59 := (hk 6 (by decide)).at (d := 59) rfl rfl rfl
            have s60 := (hk 7 (by decide)).at (d := 60) rfl rfl rfl
            have s61 := (hk 8 (by decide)).at (d := 61) rfl rfl rfl
            have s62 := (hk 9 (by decide)).at (d := 62) rfl rfl rfl
            have s63 := (hk 10 (by decide)).at (d := 63) rfl rfl rfl
            have hlit := hS.lit _ (by kernel_rfl) (lits_cons s53 (lits_cons s54 (lits_cons s55 (lits_cons s56 (lits_cons s57 (lits_cons s58 (lits_cons s59 (lits_cons s60 (lits_cons s61 (lits_cons s62 (lits_cons s63 lits_nil)))))))))))
            rw [hlit]
            have HF8 := hide (HFI.out.to hw)
            clear hlit hk hS hw
            simp only [litT, List.setIfInBounds_toArray, List.set_cons_succ, List.set_cons_zero]
            go_wp2_with fail
            have hfo := HFO.out
            have hho := HHO.out
            have hro := HRO.out
            have hso := HSO.out
            have hfr0 := HFR.out
            have hlen2 := HLN.out
            have hil := HIL.out
            have hB := HBB.out
            have HDG := hide (fun (W : World) (h : Below w8.heap.size w8 W) => Digested_any items HL.out.big.1 HL.out.big.2 (.slice A items.length c) W ((HS.out.to HF8.out.bel).to h))
            have HCK : Hid (∀ W : World, Below w8.heap.size w8 W → Calls Tryz.prog 31 #[.agg #[.int .i64 p.fr, .int .i64 p.size, .string (bs p.root), .slice Ai p.items.length ci, .slice Ap p.paths.length cp]] W (LvR (checkedV p) W)) := fun W h => Checked_any p HFT.out hfo hho _ _ W ((HVI.out.to HF8.out.bel).to h) ((HVP.out.to HF8.out.bel).to h)
            have hdl := dig_len items
            have hcl := chk_len p p.items.length
            have hcl2 : (checkedV p).length ≤ 50 * 10001 := Nat.le_trans hcl (Nat.mul_le_mul hil (by omega))
            have HSH := hide (shown_app (D := digestedV items) (K := checkedV p) (coll_in (by
              obtain ⟨k, x, y, h1, h2, h3⟩ := begins_no hlen2 hB
              exact held_sound hfo hho hro hso (k := k) h2 (by rw [hfr0]; simpa using h1) h3)) (by omega) (dig_small (fun x hx => by have := HL.out.lx x hx; omega)) (chk_small (fun x hx => by have := HP6.out x hx; omega) (fun q hq x hx => by have := (formed_len hfo).1 q hq; rw [this.2 x hx]; decide)))
            clear hcl hB
            clear hfo hho hro hso hfr0 hlen2 hil HFO HHO HRO HSO HFR HLN HIL HBB
            apply wp_region_lo3 (C := fun W => Below w8.heap.size w8 W) (V := [some _, some _, some _, none, some _, none, none, some _, some _, some _]) (Fs := [(3, fun a W => ∃ v, a.tmps[68]? = some v ∧ (a.tmps[71]? = some undef → OwnT W w8.heap.size v (digestedV items))), (5, fun a W => ∃ v, a.tmps[70]? = some v ∧ (a.tmps[71]? = some undef → TextsAt W v (checkedV p))), (6, fun a W => ∃ v, a.tmps[71]? = some v ∧ TextsAt W v (digestedV items ++ checkedV p))]) (Ns := [(6, fun a (_ : World) => a.tmps[71]? = some undef)]) (Rel := fun i b b' x x' => if i = 6 then (fun b b' x x' => ¬ b'.tmps[71]? = some undef ∧ ∃ r, World.grownBy x x' r ∧ ∀ g, r = some g → w8.heap.size ≤ g) b b' x x' else Below x.heap.size x x')
            case hm => kernel_rfl
            case hB => kernel_rfl
            case hCw => exact (Below.refl _ w8).drew
            case hC =>
              intro i a a' w_ w' hw hr
              by_cases e6 : i = 6
              · subst e6
                have hr' : (fun b b' x x' => ¬ b'.tmps[71]? = some undef ∧ ∃ r, World.grownBy x x' r ∧ ∀ g, r = some g → w8.heap.size ≤ g) a a' w_ w' := hr
                obtain ⟨_, r, hg, hv⟩ := hr'
                exact hw.trans (below_grown hg hw.size hv)
              have hr' : Below w_.heap.size w_ w' := by simpa [e6] using hr
              exact below_to hw (Nat.le_refl _) hr'
            case hst =>
              refine keeps3_cons (fun i a a' w_ w' hne hwt hs hput hr h => by
                by_cases e6 : i = 6
                · subst e6
                  have hr' : (fun b b' x x' => ¬ b'.tmps[71]? = some undef ∧ ∃ r, World.grownBy x x' r ∧ ∀ g, r = some g → w8.heap.size ≤ g) a a' w_ w' := hr
                  obtain ⟨v, h1, _⟩ := h
                  exact ⟨v, (hs 68 (by kernel_rfl)).trans h1, fun e => absurd e hr'.1⟩
                have hr' : Below w_.heap.size w_ w' := by simpa [e6] using hr
                obtain ⟨v, h1, h2⟩ := h
                exact ⟨v, (hs 68 (by kernel_rfl)).trans h1, fun e => own_to4 (h2 ((other_slot (d := 71) (k := 6) (by kernel_rfl) hput e6).symm.trans e)) hr'⟩) ?_
              refine keeps3_cons (fun i a a' w_ w' hne hwt hs hput hr h => by
                by_cases e6 : i = 6
                · subst e6
                  have hr' : (fun b b' x x' => ¬ b'.tmps[71]? = some undef ∧ ∃ r, World.grownBy x x' r ∧ ∀ g, r = some g → w8.heap.size ≤ g) a a' w_ w' := hr
                  obtain ⟨v, h1, _⟩ := h
                  exact ⟨v, (hs 70 (by kernel_rfl)).trans h1, fun e => absurd e hr'.1⟩
                have hr' : Below w_.heap.size w_ w' := by simpa [e6] using hr
                obtain ⟨v, h1, h2⟩ := h
                exact ⟨v, (hs 70 (by kernel_rfl)).trans h1, fun e => (h2 ((other_slot (d := 71) (k := 6) (by kernel_rfl) hput e6).symm.trans e)).to hr'⟩) ?_
              refine keeps3_cons (fun i a a' w_ w' hne hwt hs hput hr h => by
                by_cases e6 : i = 6
                · exact absurd e6 hne
                have hr' : Below w_.heap.size w_ w' := by simpa [e6] using hr
                obtain ⟨v, h1, h2⟩ := h
                exact ⟨v, (hs 71 (by kernel_rfl)).trans h1, h2.to hr'⟩) ?_
              exact keeps3_nil
            case hN0 => exact pre0_cons (rfl) (pre0_nil)
            case hNst =>
              refine prek_cons3 (fun i a a' w_ w' hne hwt hr h hput => by
                by_cases e6 : i = 6
                · exact absurd e6 hne
                have hr' : Below w_.heap.size w_ w' := by simpa [e6] using hr
                exact (other_slot (d := 71) (k := 6) (by kernel_rfl) hput e6).trans h) ?_
              exact prek_nil3
            case hop =>
              refine ⟨?_, ?_, ?_, ?_, ?_, ?_, ?_, ?_, ?_, ?_, trivial⟩
              · intro a w_ K hw hS hd hN hK
                have s5 := hS.at 5 (by kernel_rfl) rfl
                rw [if_pos (want_free rfl)]
                go_simp
                exact hK _ _ (Below.refl _ _) (vok rfl) (facts_cons (fun h => absurd h (by decide)) (facts_cons (fun h => absurd h (by decide)) (facts_cons (fun h => absurd h (by decide)) facts_nil)))
              · intro a w_ K hw hS hd hN hK
                have s65 := (waits_on hd 0 (by kernel_rfl)).at (d := 65) rfl rfl rfl
                rw [if_pos (want_free rfl)]
                go_simp
                exact hK _ _ (Below.refl _ _) (vok rfl) (facts_cons (fun h => absurd h (by decide)) (facts_cons (fun h => absurd h (by decide)) (facts_cons (fun h => absurd h (by decide)) facts_nil)))
              · intro a w_ K hw hS hd hN hK
                have s66 := (waits_on hd 1 (by kernel_rfl)).at (d := 66) rfl rfl rfl
                have s0 := hS.at 0 (by kernel_rfl) rfl
                rw [if_pos (want_yes rfl rfl rfl s66)]
                go_simp
                exact hK _ _ (Below.refl _ _) (vok rfl) (facts_cons (fun h => absurd h (by decide)) (facts_cons (fun h => absurd h (by decide)) (facts_cons (fun h => absurd h (by decide)) facts_nil)))
              · intro a w_ K hw hS hd hN hK
                have s66 := (waits_on hd 1 (by kernel_rfl)).at (d := 66) rfl rfl rfl
                have s67 := (waits_on hd 2 (by kernel_rfl)).at (d := 67) rfl rfl rfl
                rw [if_pos (want_yes rfl rfl rfl s66)]
                go_simp
                refine (HDG.out w_ hw).mono ?_
                rintro e w' ⟨v7, rfl, ho7, hb7⟩
                exact hK _ _ hb7 (vfree rfl) (facts_cons (fun _ => ⟨v7, hS.put_at (by kernel_rfl) _, fun _ => own_less ho7 hw.size⟩) (facts_cons (fun h => absurd h (by decide)) (facts_cons (fun h => absurd h (by decide)) facts_nil)))
              · intro a w_ K hw hS hd hN hK
                have s66 := (waits_on hd 1 (by kernel_rfl)).at (d := 66) rfl rfl rfl
                have s3 := hS.at 3 (by kernel_rfl) rfl
                rw [if_pos (want_yes rfl rfl rfl s66)]
                obtain ⟨x0, x1, x2, x3, x4⟩ := page_cells (HF8.out.to hw).box
                go_simp
                exact hK _ _ (Below.refl _ _) (vok rfl) (facts_cons (fun h => absurd h (by decide)) (facts_cons (fun h => absurd h (by decide)) (facts_cons (fun h => absurd h (by decide)) facts_nil)))
              · intro a w_ K hw hS hd hN hK
                have s66 := (waits_on hd 1 (by kernel_rfl)).at (d := 66) rfl rfl rfl
                have s69 := (waits_on hd 4 (by kernel_rfl)).at (d := 69) rfl rfl rfl
                rw [if_pos (want_yes rfl rfl rfl s66)]
                go_simp
                refine (HCK.out w_ hw).mono ?_
                rintro e w' ⟨v7, rfl, ho7, hb7⟩
                exact hK _ _ hb7 (vfree rfl) (facts_cons (fun h => absurd h (by decide)) (facts_cons (fun _ => ⟨v7, hS.put_at (by kernel_rfl) _, fun _ => TextsAt.of_own ho7⟩) (facts_cons (fun h => absurd h (by decide)) facts_nil)))
              · intro a w_ K hw hS hd hN hK
                have s66 := (waits_on hd 1 (by kernel_rfl)).at (d := 66) rfl rfl rfl
                obtain ⟨v68, s68, f68⟩ := (waits_on hd 3 (by kernel_rfl)).2 _ (List.mem_cons_self ..) rfl
                obtain ⟨v70, s70, f70⟩ := (waits_on hd 5 (by kernel_rfl)).2 _ (List.mem_cons_of_mem _ (List.mem_cons_self ..)) rfl
                have hu71 := hN _ (List.mem_cons_self ..) rfl
                rw [if_pos (want_yes rfl rfl rfl s66)]
                refine wp_append_texts (.tmp 68) (.tmp 70) rfl w8.heap.size v68 (digestedV items) (eval_at s68) (f68 hu71) v70 (checkedV p) (eval_at s70) (f70 hu71) (by omega) hw.size ?_
                intro v8 w' ho hg hne
                have hp71 := hS.put_at (s := 71) (by kernel_rfl) v8
                exact hK v8 w' ⟨fun e => hne (Option.some.inj (hp71.symm.trans e)), _, hg, fun g e => (own_blk_lt (f68 hu71) g e).1⟩ (vfree rfl) (facts_cons (fun h => absurd h (by decide)) (facts_cons (fun h => absurd h (by decide)) (facts_cons (fun _ => ⟨v8, hp71, TextsAt.of_own ho⟩) facts_nil)))
              · intro a w_ K hw hS hd hN hK
                have s66 := (waits_on hd 1 (by kernel_rfl)).at (d := 66) rfl rfl rfl
                obtain ⟨v71, s71, t71⟩ := (waits_on hd 6 (by kernel_rfl)).2 _ (List.mem_cons_of_mem _ (List.mem_cons_of_mem _ (List.mem_cons_self ..))) rfl
                rw [if_pos (want_yes rfl rfl rfl s66)]
                go_simp
                with_reducible refine (HSH.out w_ v71 t71).mono ?_
                rintro e w' ⟨rfl, hb⟩
                exact hK _ _ hb (vok rfl) (facts_cons (fun h => absurd h (by decide)) (facts_cons (fun h => absurd h (by decide)) (facts_cons (fun h => absurd h (by decide)) facts_nil)))
              · intro a w_ K hw hS hd hN hK
                have s66 := (waits_on hd 1 (by kernel_rfl)).at (d := 66) rfl rfl rfl
                have s72 := (waits_on hd 7 (by kernel_rfl)).at (d := 72) rfl rfl rfl
                rw [if_pos (want_free rfl)]
                go_simp
                exact hK _ _ (Below.refl _ _) (vok rfl) (facts_cons (fun h => absurd h (by decide)) (facts_cons (fun h => absurd h (by decide)) (facts_cons (fun h => absurd h (by decide)) facts_nil)))
              · intro a w_ K hw hS hd hN hK
                have s73 := (waits_on hd 8 (by kernel_rfl)).at (d := 73) rfl rfl rfl
                rw [if_pos (want_free rfl)]
                go_simp
                exact hK _ _ (Below.refl _ _) (vok rfl) (facts_cons (fun h => absurd h (by decide)) (facts_cons (fun h => absurd h (by decide)) (facts_cons (fun h => absurd h (by decide)) facts_nil)))
            case hfin =>
              intro a w9 hw hS hk
              have s65 := (hk 0 (by decide)).at (d := 65) rfl rfl rfl
              have s66 := (hk 1 (by decide)).at (d := 66) rfl rfl rfl
              have s67 := (hk 2 (by decide)).at (d := 67) rfl rfl rfl
              obtain ⟨v68, s68, f68⟩ := (hk 3 (by decide)).2 _ (List.mem_cons_self ..) rfl
              have s69 := (hk 4 (by decide)).at (d := 69) rfl rfl rfl
              obtain ⟨v70, s70, f70⟩ := (hk 5 (by decide)).2 _ (List.mem_cons_of_mem _ (List.mem_cons_self ..)) rfl
              obtain ⟨v71, s71, t71⟩ := (hk 6 (by decide)).2 _ (List.mem_cons_of_mem _ (List.mem_cons_of_mem _ (List.mem_cons_self ..))) rfl
              have s72 := (hk 7 (by decide)).at (d := 72) rfl rfl rfl
              have s73 := (hk 8 (by decide)).at (d := 73) rfl rfl rfl
              have s4 := (hk 9 (by decide)).at (d := 4) rfl rfl rfl
              have hlit := hS.lit _ (by kernel_rfl) (lits_cons s65 (lits_cons s66 (lits_cons s67 (lits_cons s68 (lits_cons s69 (lits_cons s70 (lits_cons s71 (lits_cons s72 (lits_cons s73 (lits_cons s4 lits_nil))))))))))
              rw [hlit]
              have HF9 := hide (below_to HF8.out.bel (Nat.le_refl _) hw)
              clear hlit hk hS f68 f70 t71 hw
              simp only [litT, List.setIfInBounds_toArray, List.set_cons_succ, List.set_cons_zero]
              go_wp2_with fail
              go_ret
              exact ⟨rfl, HF9.out⟩
      · have hav : accV p (rootL items) items.length [] = [] := by unfold accV; rw [if_neg hacc]
        rw [hav] at HC6
        have ha0 : (accE p (rootL items) items.length [] != 0) = true := by rw [bne_iff_ne]; exact hacc
        generalize accE p (rootL items) items.length [] = E at *
        clear hav hacc
        have C7 := Next_any b _ _ [] (by decide) v6 w6 HC6.out
        unfold cliP at C7
        have HC6' := HC6
        go_wp2_with ((with_reducible refine C7.mono ?_); rintro e w7 ⟨rfl, hb⟩; have HF7 := hide (HF6.out.to hb); clear hb)
        go_ret
        exact ⟨rfl, HF7.out.bel⟩
end Go.Proofs.YtfhanbiifjiklaaGreatDoor

/- As XLo3, but an operation owes its fact out of the facts of all that it waits for, by however many steps; a fact need not be kept by what it waits for so. -/
set_option linter.unusedVariables false
set_option linter.unusedSimpArgs false
namespace Go.Proofs.YtfhanbiifjiklaaGreatDoor
open Go Go.RowKit

theorem waitsT_of {md : Region.Mode} {ops : Array Oper} {j i : Nat} (h : Region.waitsFor md ops j i = true) (hs : 0 < ops.size) : waitsT md ops ops.size j i = true := by
  obtain ⟨n, hn⟩ : ∃ n, ops.size = n + 1 := ⟨ops.size - 1, by omega⟩
  rw [hn]
  obtain ⟨oj, hoj, e, he, hb, hon⟩ := Region.waitsFor_spec h
  unfold waitsT
  simp only [hoj]
  exact Array.any_eq_true'.2 ⟨e, he, by simp [hb, hon]⟩
section
variable {P : Program} {ops : Array Oper} {Q : Exit → Act → World → Prop} {md : Region.Mode} {C : World → Prop} {a0 : Act}
theorem wpAny_pre4 (Kn : Nat → Act → World → Prop) (N : Nat → Act → World → Prop) (Rel : Nat → Act → Act → World → World → Prop)
    (hacyc : ∀ (i : Nat) (o : Oper), ops[i]? = some o → ∀ e ∈ o.after, Region.binds md e = true → e.on < i)
    (hC : ∀ i a a' w w', C w → Rel i a a' w w' → C w')
    (hkeep : ∀ (i j : Nat) (o : Oper), i ≠ j → ops[i]? = some o → waitsT md ops ops.size j i = false → ∀ a v w w', Kn j a w → Rel i a (a.put o.dst v) w w' → Kn j (a.put o.dst v) w')
    (hNk : ∀ (i k : Nat) (o : Oper), i ≠ k → ops[k]? = some o → waitsT md ops ops.size k i = false → ∀ a v w w', N i a w → Rel k a (a.put o.dst v) w w' → N i (a.put o.dst v) w')
    (hop : ∀ (i : Nat) (o : Oper), ops[i]? = some o → ∀ a w, C w → Same ops a0 a → (∀ j, waitsT md ops ops.size i j = true → Kn j a w) → N i a w →
      wpOp P ops Q i (fun a' w' => ∃ v, a' = a.put o.dst v ∧ Rel i a (a.put o.dst v) w w' ∧ Kn i (a.put o.dst v) w') a w)
    (hfin : ∀ a w, C w → Same ops a0 a → (∀ i, i < ops.size → Kn i a w) → Q .normal a w) :
    ∀ (f : Nat) (L : List Nat) (listed : Array Bool) (a : Act) (w : World), L.length ≤ f → listed.size = ops.size → (∀ i, i < ops.size → listed.getD i true = false → i ∈ L) → C w → Same ops a0 a →
      (∀ (j : Nat) (oj : Oper), ops[j]? = some oj → listed.getD j false = true → ∀ e ∈ oj.after, Region.binds md e = true → listed.getD e.on false = true) →
      (∀ i, i < ops.size → listed.getD i false = true → Kn i a w) → (∀ i, i < ops.size → listed.getD i true = false → N i a w) → wpAny P md ops Q f listed a w := by
  have hfull : ∀ listed : Array Bool, listed.size = ops.size → Region.ready md ops listed = [] → ∀ (d i : Nat), i < d → i < ops.size → listed.getD i false = true := by
    intro listed hsz hr d
    induction d with
    | zero => intro i hi; omega
    | succ d ih =>
      intro i hi hin
      rcases Nat.lt_or_ge i d with h | h
      · exact ih i h hin
      · obtain rfl : i = d := by omega
        cases hl : listed.getD i false with
        | true => rfl
        | false =>
          have hmem : i ∈ Region.ready md ops listed := by
            rw [mem_ready]
            refine ⟨getD_in (by omega) hl, ops[i], Array.getElem?_eq_getElem hin, fun e he hb => ?_⟩
            have := hacyc i ops[i] (Array.getElem?_eq_getElem hin) e he hb
            exact ih e.on this (by omega)
          rw [hr] at hmem
          cases hmem
  intro f
  induction f with
  | zero =>
    intro L listed a w hL hsz hun hw hs hcl hk hN
    have hall : ∀ i, i < ops.size → listed.getD i false = true := by
      intro i hi
      cases hl : listed.getD i false with
      | true => rfl
      | false =>
        have := hun i hi (getD_in (by omega) hl)
        have hL0 : L = [] := List.length_eq_zero_iff.1 (by omega)
        rw [hL0] at this
        cases this
    have hr : Region.ready md ops listed = [] := by
      apply List.eq_nil_iff_forall_not_mem.2
      intro i hi
      obtain ⟨h1, o, ho, _⟩ := mem_ready.1 hi
      have hlt : i < ops.size := (Array.getElem?_eq_some_iff.1 ho).1
      have h2 := hall i hlt
      rw [getD_both h1] at h2
      cases h2
    exact ⟨hr, hfin a w hw hs (fun i hi => hk i hi (hall i hi))⟩
  | succ f ih =>
    intro L listed a w hL hsz hun hw hs hcl hk hN
    refine ⟨fun hr => hfin a w hw hs (fun i hi => hk i hi (hfull listed hsz hr _ i hi hi)), fun i hi => ?_⟩
    obtain ⟨hiun, o, ho, hall⟩ := mem_ready.1 hi
    have hlt : i < ops.size := (Array.getElem?_eq_some_iff.1 ho).1
    refine wpOp_mono ?_ (hop i o ho a w hw hs (fun j hwj => by
      have h1 := waitsT_listed hcl _ _ _ hwj o ho hall
      have h2 : j < ops.size := by
        rcases Nat.lt_or_ge j ops.size with h | h
        · exact h
        · rw [Array.getD_eq_getD_getElem?, Array.getElem?_eq_none (by omega)] at h1; cases h1
      exact hk j h2 h1) (hN i hlt hiun))
    rintro a' w' ⟨v, rfl, hrel, hkn⟩
    have hiL := hun i hlt hiun
    refine ih (L.erase i) (listed.setIfInBounds i true) _ w' ?_ (by simpa using hsz) ?_ (hC i _ _ _ _ hw hrel) (hs.put ho v) ?_ ?_ ?_
    · rw [List.length_erase_of_mem hiL]; omega
    · intro j hj hjl
      rcases Nat.decEq j i with hji | hji
      · rw [getD_set_ne true (Ne.symm hji)] at hjl
        exact (List.mem_erase_of_ne hji).2 (hun j hj hjl)
      · subst hji
        rw [Array.getD_eq_getD_getElem?, Array.getElem?_setIfInBounds_self_of_lt (by omega)] at hjl
        cases hjl
    · intro j oj hoj hjl e he hb
      rcases Nat.decEq j i with hji | hji
      · rw [getD_set_ne false (Ne.symm hji)] at hjl
        exact getD_set_true (hcl j oj hoj hjl e he hb)
      · subst hji
        have : oj = o := Option.some.inj (hoj.symm.trans ho)
        subst this
        exact getD_set_true (hall e he hb)
    · intro j hj hjl
      rcases Nat.decEq j i with hji | hji
      · rw [getD_set_ne false (Ne.symm hji)] at hjl
        refine hkeep i j o (Ne.symm hji) ho ?_ a v w w' (hk j hj hjl) hrel
        cases hwf : waitsT md ops ops.size j i with
        | false => rfl
        | true =>
          have h1 := waitsT_listed hcl _ _ _ hwf ops[j] (Array.getElem?_eq_getElem hj) (hcl j _ (Array.getElem?_eq_getElem hj) hjl)
          rw [getD_both hiun] at h1
          cases h1
      · subst hji; exact hkn
    · intro j hj hjl
      rcases Nat.decEq j i with hji | hji
      · rw [getD_set_ne true (Ne.symm hji)] at hjl
        refine hNk j i o hji ho ?_ a v w w' (hN j hj hjl) hrel
        cases hwt : waitsT md ops ops.size i j with
        | false => rfl
        | true =>
          have := waitsT_listed hcl _ _ _ hwt o ho hall
          rw [getD_both hjl] at this
          cases this
      · subst hji
        rw [Array.getD_eq_getD_getElem?, Array.getElem?_setIfInBounds_self_of_lt (by omega)] at hjl
        cases hjl
/-- what operation i owes -/
def Owes4 (P : Program) (ops : Array Oper) (Q : Exit → Act → World → Prop) (C : World → Prop) (a0 : Act) (V : List (Option Value)) (Fs Ns : List (Nat × (Act → World → Prop))) (Rel : Nat → Act → Act → World → World → Prop) (i : Nat) (o : Oper) : Prop :=
  ∀ (a : Act) (w : World) (K : Act → World → Prop), C w → Same ops a0 a → (∀ j, waitsT .any ops ops.size i j = true → Kn ops V Fs j a w) → (∀ p ∈ Ns, p.1 = i → p.2 a w) →
    (∀ v w', Rel i a (a.put o.dst v) w w' → (∀ v0, V[i]? = some (some v0) → v = v0) → (∀ p ∈ Fs, p.1 = i → p.2 (a.put o.dst v) w') → K (a.put o.dst v) w') →
    if Region.wanted o (yielded ops a.tmps) then o.wp P a w K Q else K (a.put o.dst undef) w
def AllOwe4 (P : Program) (ops : Array Oper) (Q : Exit → Act → World → Prop) (C : World → Prop) (a0 : Act) (V : List (Option Value)) (Fs Ns : List (Nat × (Act → World → Prop))) (Rel : Nat → Act → Act → World → World → Prop) : List Oper → Nat → Prop
  | [], _ => True
  | o :: l, k => Owes4 P ops Q C a0 V Fs Ns Rel k o ∧ AllOwe4 P ops Q C a0 V Fs Ns Rel l (k + 1)
theorem AllOwe4.at {V : List (Option Value)} {Fs Ns : List (Nat × (Act → World → Prop))} {Rel : Nat → Act → Act → World → World → Prop} : ∀ (l : List Oper) (k : Nat), AllOwe4 P ops Q C a0 V Fs Ns Rel l k → ∀ (j : Nat) (o : Oper), l[j]? = some o → Owes4 P ops Q C a0 V Fs Ns Rel (k + j) o
  | [], _, _, j, o, ho => by simp at ho
  | x :: l, k, h, 0, o, ho => by
    simp only [List.getElem?_cons_zero, Option.some.injEq] at ho
    subst ho
    exact h.1
  | x :: l, k, h, j + 1, o, ho => by
    simp only [List.getElem?_cons_succ] at ho
    have := AllOwe4.at l (k + 1) h.2 j o ho
    rwa [show k + 1 + j = k + (j + 1) by omega] at this
theorem wpAny_lo4 {w : World} {l : List Oper} (V : List (Option Value)) (Fs : List (Nat × (Act → World → Prop))) (Ns : List (Nat × (Act → World → Prop))) (Rel : Nat → Act → Act → World → World → Prop)
    (hB : looseB3 l.toArray a0.tmps.size (Fs.map (·.1)) = true) (hCw : C w.drew) (hC : ∀ i a a' w w', C w → Rel i a a' w w' → C w')
    (hst : ∀ p ∈ Fs, ∀ (i : Nat) (a a' : Act) (w w' : World), i ≠ p.1 → waitsT .any l.toArray l.length p.1 i = false → (∀ t, (Oper.slots l.toArray p.1).contains t = true → a'.tmps[t]? = a.tmps[t]?) → (∃ o v, l.toArray[i]? = some o ∧ a' = a.put o.dst v) → Rel i a a' w w' → p.2 a w → p.2 a' w')
    (hN0 : ∀ p ∈ Ns, p.2 a0 w.drew)
    (hNst : ∀ p ∈ Ns, ∀ (i : Nat) (a a' : Act) (w w' : World), i ≠ p.1 → waitsT .any l.toArray l.length i p.1 = false → Rel i a a' w w' → p.2 a w → (∃ o v, l.toArray[i]? = some o ∧ a' = a.put o.dst v) → p.2 a' w')
    (hop : AllOwe4 P l.toArray Q C a0 V Fs Ns Rel l 0)
    (hfin : ∀ a w, C w → Same l.toArray a0 a → (∀ i, i < l.length → Kn l.toArray V Fs i a w) → Q .normal a w) : wpAny P .any l.toArray Q l.toArray.size (Array.replicate l.toArray.size false) a0 w.drew := by
  have hspec := looseB3_spec hB
  refine (wpAny_pre4 (C := C) (a0 := a0) (Kn l.toArray V Fs) (fun i a w => ∀ p ∈ Ns, p.1 = i → p.2 a w) Rel (fun i o ho => (hspec i o ho).1) hC ?_ ?_ ?_ ?_ _ (List.range l.toArray.size) _ _ _ (by simp) (by simp) ?_ hCw (Same.refl _ _) ?_ ?_ ?_)
  · intro i j o hij ho hwf a v w w' hk hrel
    refine ⟨fun oj u d hoj hu hd => ?_, fun p hp hpj => ?_⟩
    · have h1 := hk.1 oj u d hoj hu hd
      unfold Act.put
      split
      · rename_i di hdi
        have hne : di ≠ d := fun e => ((hspec i o ho).2 di hdi).2 j oj hij hoj |>.1 (by rw [hd, e])
        show (a.tmps.setIfInBounds di v)[d]? = _
        rw [Array.getElem?_setIfInBounds_ne hne]
        exact h1
      · exact h1
    · refine hst p hp i a _ w w' (by rw [hpj]; exact hij) (by rw [hpj]; simpa using hwf) (fun t ht => ?_) ⟨o, v, ho, rfl⟩ hrel (hk.2 p hp hpj)
      rw [hpj, List.contains_iff_mem] at ht
      unfold Act.put
      split
      · rename_i di hdi
        show (a.tmps.setIfInBounds di v)[t]? = _
        have hne : di ≠ t := by
          intro e
          subst e
          unfold Oper.slots at ht
          split at ht
          · cases ht
          · rename_i oj hoj
            have h2 := ((hspec i o ho).2 di hdi).2 j oj hij hoj
            rcases List.mem_append.1 ht with h3 | h3
            · rw [Option.mem_toList] at h3
              exact h2.1 h3
            · have h4 := waitsT_of (h2.2 (List.mem_map.2 ⟨p, hp, hpj⟩) h3) (by have := (Array.getElem?_eq_some_iff.1 ho).1; omega)
              rw [h4] at hwf
              cases hwf
        rw [Array.getElem?_setIfInBounds_ne hne]
      · rfl
  · intro i k o hik ho hwt a v w w' hN hrel p hp hpi
    refine hNst p hp k a _ w w' (by rw [hpi]; exact Ne.symm hik) (by rw [hpi]; simpa using hwt) hrel (hN p hp hpi) ⟨o, v, ho, rfl⟩
  · intro i o ho a w hw hs hk hN
    have h := AllOwe4.at l 0 hop i o (by simpa using ho)
    rw [Nat.zero_add] at h
    unfold wpOp
    simp only [ho]
    have hput : ∀ (v : Value) (w' : World), Rel i a (a.put o.dst v) w w' → (∀ v0, V[i]? = some (some v0) → v = v0) → (∀ p ∈ Fs, p.1 = i → p.2 (a.put o.dst v) w') → ∃ u, a.put o.dst v = a.put o.dst u ∧ Rel i a (a.put o.dst u) w w' ∧ Kn l.toArray V Fs i (a.put o.dst u) w' := by
      intro v w' hr hv hf
      refine ⟨v, rfl, hr, fun oj u d hoj hu hd => ?_, hf⟩
      have : oj = o := Option.some.inj (hoj.symm.trans ho)
      subst this
      have hvu := hv u hu
      subst hvu
      have hlt := ((hspec i oj ho).2 d hd).1
      unfold Act.put
      rw [hd]
      show (a.tmps.setIfInBounds d v)[d]? = _
      rw [Array.getElem?_setIfInBounds_self_of_lt (by rw [hs.2.1]; exact hlt)]
    have h' := h a w (fun a' w' => ∃ u, a' = a.put o.dst u ∧ Rel i a (a.put o.dst u) w w' ∧ Kn l.toArray V Fs i (a.put o.dst u) w') hw hs hk hN hput
    split
    · rename_i hwt
      rw [if_pos hwt] at h'
      exact .inl h'
    · rename_i hwt
      rw [if_neg hwt] at h'
      exact h'
  · intro a w hw hs hk
    exact hfin a w hw hs (fun i hi => hk i (by simpa using hi))
  · intro i hi _
    simpa using hi
  · intro j oj _ hl
    rw [getD_replicate_false] at hl
    cases hl
  · intro i _ hl
    rw [getD_replicate_false] at hl
    cases hl
  · intro i _ _ p hp _
    exact hN0 p hp
theorem wp_region_lo4 {id : Nat} {w : World} {l : List Oper} (V : List (Option Value)) (Fs : List (Nat × (Act → World → Prop))) (Ns : List (Nat × (Act → World → Prop))) (Rel : Nat → Act → Act → World → World → Prop)
    (hm : P.follows .mixedOrders = true) (hB : looseB3 l.toArray a0.tmps.size (Fs.map (·.1)) = true) (hCw : C w.drew) (hC : ∀ i a a' w w', C w → Rel i a a' w w' → C w')
    (hst : ∀ p ∈ Fs, ∀ (i : Nat) (a a' : Act) (w w' : World), i ≠ p.1 → waitsT .any l.toArray l.length p.1 i = false → (∀ t, (Oper.slots l.toArray p.1).contains t = true → a'.tmps[t]? = a.tmps[t]?) → (∃ o v, l.toArray[i]? = some o ∧ a' = a.put o.dst v) → Rel i a a' w w' → p.2 a w → p.2 a' w')
    (hN0 : ∀ p ∈ Ns, p.2 a0 w.drew)
    (hNst : ∀ p ∈ Ns, ∀ (i : Nat) (a a' : Act) (w w' : World), i ≠ p.1 → waitsT .any l.toArray l.length i p.1 = false → Rel i a a' w w' → p.2 a w → (∃ o v, l.toArray[i]? = some o ∧ a' = a.put o.dst v) → p.2 a' w')
    (hop : AllOwe4 P l.toArray Q C a0 V Fs Ns Rel l 0)
    (hfin : ∀ a w, C w → Same l.toArray a0 a → (∀ i, i < l.length → Kn l.toArray V Fs i a w) → Q .normal a w) : (Code.region id l.toArray true).wp P Q a0 w :=
  wp_region_any hm (wpAny_lo4 V Fs Ns Rel hB hCw hC hst hN0 hNst hop hfin)

end
section
variable {ops : Array Oper} {n : Nat} {Rel : Nat → Act → Act → World → World → Prop}
theorem keeps4_nil : ∀ p ∈ ([] : List (Nat × (Act → World → Prop))), ∀ (i : Nat) (a a' : Act) (w w' : World), i ≠ p.1 → waitsT .any ops n p.1 i = false → (∀ t, (Oper.slots ops p.1).contains t = true → a'.tmps[t]? = a.tmps[t]?) → (∃ o v, ops[i]? = some o ∧ a' = a.put o.dst v) → Rel i a a' w w' → p.2 a w → p.2 a' w' := fun p hp => by cases hp
theorem keeps4_cons {j : Nat} {F : Act → World → Prop} {Fs : List (Nat × (Act → World → Prop))} (h1 : ∀ (i : Nat) (a a' : Act) (w w' : World), i ≠ j → waitsT .any ops n j i = false → (∀ t, (Oper.slots ops j).contains t = true → a'.tmps[t]? = a.tmps[t]?) → (∃ o v, ops[i]? = some o ∧ a' = a.put o.dst v) → Rel i a a' w w' → F a w → F a' w')
    (h2 : ∀ p ∈ Fs, ∀ (i : Nat) (a a' : Act) (w w' : World), i ≠ p.1 → waitsT .any ops n p.1 i = false → (∀ t, (Oper.slots ops p.1).contains t = true → a'.tmps[t]? = a.tmps[t]?) → (∃ o v, ops[i]? = some o ∧ a' = a.put o.dst v) → Rel i a a' w w' → p.2 a w → p.2 a' w') : ∀ p ∈ (j, F) :: Fs, ∀ (i : Nat) (a a' : Act) (w w' : World), i ≠ p.1 → waitsT .any ops n p.1 i = false → (∀ t, (Oper.slots ops p.1).contains t = true → a'.tmps[t]? = a.tmps[t]?) → (∃ o v, ops[i]? = some o ∧ a' = a.put o.dst v) → Rel i a a' w w' → p.2 a w → p.2 a' w' := fun p hp => by
  rcases List.mem_cons.1 hp with rfl | hp
  · exact h1
  · exact h2 p hp
end
end Go.Proofs.YtfhanbiifjiklaaGreatDoor

/- The walk of PageClientAsReference. -/
set_option linter.unusedVariables false
set_option linter.unusedSimpArgs false
namespace Go.Proofs.YtfhanbiifjiklaaGreatDoor
open Go.RowKit Go.Shelf
attribute [local go_sem] Oper.semAt_some

/-- the two clients -/
structure CR (w : World) (b d : Nat) (root : List UInt8) (size : Int) (its : List (List UInt8)) (v v' : Value) (W : World) : Prop where
  bel : Below w.heap.size w W
  cc : CliAt b root size its v W
  dd : RCliAt d root size its v' W
  ord : w.heap.size ≤ b ∧ b < d
  s1 : v.ownBlock ≠ some d
  s2 : ∀ g, v.ownBlock = some g → v'.ownBlock ≠ some g
section
variable {w W W' : World} {b d : Nat} {root : List UInt8} {size : Int} {its : List (List UInt8)} {v v' : Value}
theorem CR.to (h : CR w b d root size its v v' W) (hb : Below W.heap.size W W') : CR w b d root size its v v' W' := ⟨below_to h.bel (Nat.le_refl _) hb, h.cc.to hb, h.dd.to hb, h.ord, h.s1, h.s2⟩
theorem CR.low (h : CR w b d root size its v v' W) : w.heap.size ≤ rowOr v b ∧ w.heap.size ≤ rowOr v' d := by
  have ho := h.ord
  exact ⟨rowOr_le (fun g e => by have := (h.cc.lt g e).1; omega) ho.1, rowOr_le (fun g e => by have := (h.dd.lt g e).1; omega) (by omega)⟩
theorem CR.far_d (h : CR w b d root size its v v' W) : b ≠ d ∧ b ≠ rowOr v' d ∧ v.ownBlock ≠ some d ∧ v.ownBlock ≠ some (rowOr v' d) := by
  have ho := h.ord
  refine ⟨by omega, fun e => ?_, h.s1, fun e => ?_⟩
  · rcases rowOr_cases v' d with h1 | h1
    · omega
    · have := (h.dd.lt _ h1).1; omega
  · rcases rowOr_cases v' d with h1 | h1
    · rw [h1] at e; exact h.s1 e
    · exact h.s2 _ e h1
theorem CR.far_b (h : CR w b d root size its v v' W) : d ≠ b ∧ d ≠ rowOr v b ∧ v'.ownBlock ≠ some b ∧ v'.ownBlock ≠ some (rowOr v b) := by
  have ho := h.ord
  refine ⟨by omega, fun e => ?_, fun e => by have := (h.dd.lt _ e).1; omega, fun e => ?_⟩
  · rcases rowOr_cases v b with h1 | h1
    · omega
    · rw [← e] at h1; exact h.s1 h1
  · rcases rowOr_cases v b with h1 | h1
    · rw [h1] at e; have := (h.dd.lt _ e).1; omega
    · exact h.s2 _ h1 e
end
theorem rNextB (b : Nat) (root : List UInt8) (size : Int) (its : List (List UInt8)) (v : Value) (w : World) (h : RCliAt b root size its v w) :
    Calls Tryz.prog 37 #[.pointer (some ⟨b, 0, none⟩)] w fun e w' => e = .returned (.int .i64 (its.length : Int)) ∧ Below w.heap.size w w' :=
  (rNext_any b root size its v w h).mono fun e w' ⟨h1, h2⟩ => ⟨h1, by rw [h2]; exact Below.refl _ _⟩
theorem nextB (b : Nat) (root : List UInt8) (size : Int) (its : List (List UInt8)) (hl : its.length ≤ 1000000000) (v : Value) (w : World) (h : CliAt b root size its v w) :
    Calls Tryz.prog 23 #[.pointer (some ⟨b, 0, none⟩)] w fun e w' => e = .returned (.int .i64 (its.length : Int)) ∧ Below w.heap.size w w' := Next_any b root size its hl v w h
theorem itemsB (b : Nat) (root : List UInt8) (size : Int) (its : List (List UInt8)) (hl : its.length ≤ 1000000000) (v : Value) (w : World) (h : CliAt b root size its v w) :
    Calls Tryz.prog 26 #[.pointer (some ⟨b, 0, none⟩)] w fun e w' => ∃ u, e = .returned u ∧ TextsAt w' u its ∧ Below w.heap.size w w' := (Items_any b root size its hl v w h).mono fun e w' ⟨u, h1, h2, h3⟩ => ⟨u, h1, TextsAt.of_own h2, h3⟩
theorem rItemsB (b : Nat) (root : List UInt8) (size : Int) (its : List (List UInt8)) (hl : its.length ≤ 1000000000) (v : Value) (w : World) (h : RCliAt b root size its v w) :
    Calls Tryz.prog 38 #[.pointer (some ⟨b, 0, none⟩)] w fun e w' => ∃ u, e = .returned u ∧ TextsAt w' u its ∧ Below w.heap.size w w' := (rItems_any b root size its hl v w h).mono fun e w' ⟨u, h1, h2, h3⟩ => ⟨u, h1, TextsAt.of_own h2, h3⟩
theorem sameLL {a : List (List UInt8)} (ha : a.length ≤ 1000000) {v u : Value} {w : World} (hv : TextsAt w v a) (hu : TextsAt w u a) : Calls Tryz.prog 25 #[v, u] w fun e w' => e = .returned (.bool true) ∧ Below w.heap.size w w' := by
  have := Same_any a a (by omega) (by omega) v u w hv hu
  rwa [decide_eq_true rfl] at this
theorem accV_top (p : Pg) (r : List UInt8) (s : Int) (its : List (List UInt8)) : (accV p r s its).length ≤ its.length + p.items.length := by
  unfold accV
  split
  · rw [List.length_append, List.length_drop]; omega
  · omega
/-- whatever the growing says, the two clients trust the same -/
theorem CR.grow {w W1 W2 W3 : World} {b d : Nat} {root next : List UInt8} {size more : Int} {link its : List (List UInt8)} {v v' : Value} (h : CR w b d root size its v v' W1) (h1 : if growE root size next more link = 0 then CliAt b next more its v W2 else CliAt b root size its v W2) (t1 : Two b b W1 W2)
    (h2 : if growE root size next more link = 0 then RCliAt d next more its v' W3 else RCliAt d root size its v' W3) (t2 : Two d d W2 W3) : CR w b d (if growE root size next more link = 0 then next else root) (if growE root size next more link = 0 then more else size) its v v' W3 := by
  have ho := h.ord
  have hb3 : Below w.heap.size w W3 := (h.bel.trans (t1.below h.bel.size (by omega) (by omega))).trans (t2.below (Nat.le_trans h.bel.size t1.size) (by omega) (by omega))
  split at h1
  · rename_i hg
    rw [if_pos hg] at h2
    rw [if_pos hg, if_pos hg]
    exact ⟨hb3, h1.far t2 (by omega) (by omega) h.s1 h.s1, h2, ho, h.s1, h.s2⟩
  · rename_i hg
    rw [if_neg hg] at h2
    rw [if_neg hg, if_neg hg]
    exact ⟨hb3, h1.far t2 (by omega) (by omega) h.s1 h.s1, h2, ho, h.s1, h.s2⟩
theorem CR.mid {w W1 W2 : World} {b d : Nat} {root : List UInt8} {size : Int} {its : List (List UInt8)} {v v' : Value} (h : CR w b d root size its v v' W1) (t1 : Two b b W1 W2) : RCliAt d root size its v' W2 := by
  have ho := h.ord
  have hf := h.far_b
  exact h.dd.far t1 hf.1 hf.1 hf.2.2.1 hf.2.2.1
set_option maxRecDepth 100000 in
set_option maxHeartbeats 8000000 in
theorem client_law (first : List UInt8) (hf1 : first.length ≤ 140737488355328) (size : Int) (l : List PV) (hl : l.length ≤ 140737488355328) (hok : ∀ x ∈ l, x.ok) (next : List UInt8) (hn1 : next.length ≤ 140737488355328) (more : Int) (link : List (List UInt8)) (hk1 : link.length ≤ 8796093022208) (hkx : ∀ x ∈ link, x.length ≤ 140737488355328) (wn : Nat) (hwn : wn ≤ 255) (vl vk : Value) (w : World) (hvl : PagesAt w vl l) (hvk : TextsAt w vk link) (hg : Glob w) :
    Calls Tryz.prog 8 #[.string (bs first), .int .i64 size, vl, .string (bs next), .int .i64 more, vk, .int .u8 (wn : Int)] w fun e w' => e = .returned (.bool true) ∧ Below w.heap.size w w' := by
  have HVL := hide hvl
  have HVK := hide hvk
  have HG := hide hg
  have CF := fun (w' : World) (hb : Below w.heap.size w w') => Few_any link hk1 hkx 60 (by decide) vk w' (hvk.to hb)
  obtain ⟨Al, cl, rfl⟩ := hvl.slice
  obtain ⟨Ak, ck, rfl, _⟩ := hvk.slice
  have C1 := head_any w hg
  have hsz1 : (bs first).size = first.length := bs_size first
  have hsz2 : (bs next).size = next.length := bs_size next
  obtain ⟨w12, hw12⟩ : ∃ m, wn % 12 = m := ⟨_, rfl⟩
  have eW : (wn : Int) % 12 = (w12 : Int) := by rw [← hw12]; push_cast; rfl
  clear hvl hvk hg hw12
  by_cases hall : first.length ≤ 60 ∧ next.length ≤ 60 ∧ l.length ≤ 12 ∧ link.length ≤ 30 ∧ fewT link 60 = true
  · obtain ⟨a1, a2, a3, a4, a5⟩ := hall
    have hlkx : ∀ x ∈ link, x.length ≤ 60 := by
      unfold fewT at a5
      simp only [Bool.and_eq_true, decide_eq_true_eq, List.all_eq_true] at a5
      exact a5.1
    rw [a5] at CF
    clear a5
    have c1 : decide ((60 : Int) < (first.length : Int)) = false := decide_eq_false (by omega)
    have c1' : decide (60 < first.length) = false := decide_eq_false (by omega)
    have c2 : decide ((60 : Int) < (next.length : Int)) = false := decide_eq_false (by omega)
    have c2' : decide (60 < next.length) = false := decide_eq_false (by omega)
    have c3 : decide ((12 : Int) < (l.length : Int)) = false := decide_eq_false (by omega)
    have c3' : decide (12 < l.length) = false := decide_eq_false (by omega)
    have c4 : decide ((30 : Int) < (link.length : Int)) = false := decide_eq_false (by omega)
    have c4' : decide (30 < link.length) = false := decide_eq_false (by omega)
    go_enter Tryz.func8, Tryz.ntmps8
    go_wp2_with fail
    refine C1.mono ?_
    rintro e w2 ⟨rfl, hb⟩
    have HB2 := hide hb
    have CF : Calls Tryz.prog 32 #[.slice Ak link.length ck, .int .i64 60] w2 fun e w' => e = .returned (.bool true) ∧ w' = w2 := CF w2 hb
    clear hb C1
    go_wp2_with ((with_reducible refine CF.mono ?_); rintro e w3 ⟨rfl, e9⟩; have e9 := e9.symm; subst e9)
    clear CF
    go_loopw [16] (fun i wr => ∃ k : Nat, i = .int .i64 (k : Int) ∧ k ≤ l.length ∧ Aside (Below w.heap.size w wr) ∧ Aside (∀ x ∈ l.take k, fewP x.p = true)) (fun i _ => l.length - (intOf i).toNat)
    case atStart => exact ⟨0, rfl, by omega, HB2.out, fun x hx => by simp at hx⟩
    case round =>
      obtain ⟨k, rfl, hk, hB, hA⟩ := hrel
      have HB : Hid (Below w.heap.size w wr) := hB
      have HA : Hid (∀ x ∈ l.take k, fewP x.p = true) := hA
      clear hB hA HB2
      by_cases hlt : k < l.length
      · have e1 : decide ((k : Int) < (l.length : Int)) = true := decide_eq_true (by omega)
        have e1' : decide (k < l.length) = true := decide_eq_true hlt
        obtain ⟨x, hx⟩ : ∃ x, l[k]? = some x := ⟨_, List.getElem?_eq_getElem hlt⟩
        have hmem := List.mem_of_getElem? hx
        obtain ⟨p, vi, vp⟩ := x
        have HTI := hide (HVL.out.ti _ hmem)
        have HTP := hide (HVL.out.tp _ hmem)
        have HOK := hide (hok _ hmem)
        obtain ⟨al, e9, hal, q0, q1, q2, q3, q4⟩ := HVL.out.at_ hx
        subst e9
        obtain ⟨Ai, ci, hvi, _⟩ := HTI.out.slice
        obtain ⟨Ap, cp, hvp, _⟩ := HTP.out.slice
        simp only at hvi hvp HTI HTP HOK q0 q1 q2 q3 q4
        subst hvi hvp
        have HPC : Hid (∀ W, Below w.heap.size w W → W.cell? (al.add (k * 5)) = some (.int .i64 p.fr) ∧ W.cell? ⟨(al.add (k * 5)).block, (al.add (k * 5)).off + 1, none⟩ = some (.int .i64 p.size) ∧ W.cell? ⟨(al.add (k * 5)).block, (al.add (k * 5)).off + 2, none⟩ = some (.string (bs p.root)) ∧ W.cell? ⟨(al.add (k * 5)).block, (al.add (k * 5)).off + 3, none⟩ = some (.slice Ai p.items.length ci) ∧ W.cell? ⟨(al.add (k * 5)).block, (al.add (k * 5)).off + 4, none⟩ = some (.slice Ap p.paths.length cp)) := fun W hb => by
          have hbl : (al.add (k * 5)).block < w.heap.size := by rw [block_of_add]; exact hal
          exact ⟨(hb.cell (p := al.add (k * 5)) hbl).trans q0, (hb.cell (p := ⟨(al.add (k * 5)).block, (al.add (k * 5)).off + 1, none⟩) hbl).trans q1, (hb.cell (p := ⟨(al.add (k * 5)).block, (al.add (k * 5)).off + 2, none⟩) hbl).trans q2, (hb.cell (p := ⟨(al.add (k * 5)).block, (al.add (k * 5)).off + 3, none⟩) hbl).trans q3, (hb.cell (p := ⟨(al.add (k * 5)).block, (al.add (k * 5)).off + 4, none⟩) hbl).trans q4⟩
        have HMEM := hide hmem
        have HXI := hide hx
        have i0 : (0 : Int) ≤ (k : Int) := by omega
        have i1 : (k : Int) < (l.length : Int) := by omega
        clear q0 q1 q2 q3 q4 hx hmem hal
        have CP := FewP_any p HOK.out.wide _ _ wr (HTI.out.to HB.out) (HTP.out.to HB.out)
        have HSTEP : Hid (fewP p = true → ∀ x ∈ l.take (k + 1), fewP x.p = true) := fun hf x hx => by
          rw [List.take_add_one, HXI.out] at hx
          rcases List.mem_append.1 hx with hx | hx
          · exact HA.out x hx
          · have : x = ⟨p, _, _⟩ := List.mem_singleton.1 hx
            rw [this]; exact hf
        obtain ⟨y0, y1, y2, y3, y4⟩ := HPC.out wr HB.out
        unfold Pg.cs at CP
        cases hf : fewP p with
        | true =>
          rw [hf] at CP
          have HST := hide (HSTEP.out hf)
          clear hf
          go_wp2_with fail
          with_reducible refine CP.mono ?_
          rintro e w3 ⟨rfl, hb⟩
          have HB3 := hide (below_to HB.out (Nat.le_refl _) hb)
          clear hb CP
          go_wp2_with fail
          refine ⟨⟨k + 1, by go_num, by omega, HB3.out, HST.out⟩, ?_⟩
          simp [intOf]; omega
        | false =>
          rw [hf] at CP
          clear hf
          go_wp2_with fail
          with_reducible refine CP.mono ?_
          rintro e w3 ⟨rfl, hb⟩
          have HB3 := hide (below_to HB.out (Nat.le_refl _) hb)
          clear hb CP
          go_wp2_with fail
          go_ret
          exact ⟨rfl, HB3.out⟩
      · obtain rfl : k = l.length := by omega
        have e1 : decide ((l.length : Int) < (l.length : Int)) = false := by simp
        have e1' : decide (l.length < l.length) = false := by simp
        have HFEW : Hid (∀ x ∈ l, fewP x.p = true) := by
          have := HA.out
          rwa [List.take_length] at this
        clear HA
        have CN := New_any first (by omega) size wr (HG.out.to HB.out)
        have CRN := fun w => rNew_any first (by omega) size w
        unfold NewR at CN
        unfold RNewR at CRN
        cases hnb : newB first size with
        | false =>
          simp only [hnb, Bool.false_eq_true, if_false] at CN CRN
          clear hnb
          go_wp2_with fail
          with_reducible refine CN.mono ?_
          rintro e w4 ⟨rfl, hb⟩
          have HB4 := hide (below_to HB.out (Nat.le_refl _) hb)
          clear hb CN
          have CRN := CRN w4
          go_wp2_with fail
          with_reducible refine CRN.mono ?_
          rintro e w5 ⟨rfl, hb⟩
          have HB5 := hide (below_to HB4.out (Nat.le_refl _) hb)
          clear hb CRN HB4
          go_wp2_with fail
          go_loopw [21] (fun i wr => ∃ k : Nat, i = .int .i64 (k : Int) ∧ k ≤ l.length ∧ Aside (Below w.heap.size w wr)) (fun i _ => l.length - (intOf i).toNat)
          case atStart => exact ⟨0, rfl, by omega, HB5.out⟩
          case round =>
            clear HB5 HB
            obtain ⟨k, rfl, hk, hB⟩ := hrel
            have HB : Hid (Below w.heap.size w wr) := hB
            clear hB
            by_cases hlt : k < l.length
            · have e1 : decide ((k : Int) < (l.length : Int)) = true := decide_eq_true (by omega)
              have e1' : decide (k < l.length) = true := decide_eq_true hlt
              obtain ⟨x, hx⟩ : ∃ x, l[k]? = some x := ⟨_, List.getElem?_eq_getElem hlt⟩
              have hmem := List.mem_of_getElem? hx
              obtain ⟨p, vi, vp⟩ := x
              have HTI := hide (HVL.out.ti _ hmem)
              have HTP := hide (HVL.out.tp _ hmem)
              have HOK := hide (hok _ hmem)
              obtain ⟨al, e9, hal, q0, q1, q2, q3, q4⟩ := HVL.out.at_ hx
              subst e9
              obtain ⟨Ai, ci, hvi, _⟩ := HTI.out.slice
              obtain ⟨Ap, cp, hvp, _⟩ := HTP.out.slice
              simp only at hvi hvp HTI HTP HOK q0 q1 q2 q3 q4
              subst hvi hvp
              have HPC : Hid (∀ W, Below w.heap.size w W → W.cell? (al.add (k * 5)) = some (.int .i64 p.fr) ∧ W.cell? ⟨(al.add (k * 5)).block, (al.add (k * 5)).off + 1, none⟩ = some (.int .i64 p.size) ∧ W.cell? ⟨(al.add (k * 5)).block, (al.add (k * 5)).off + 2, none⟩ = some (.string (bs p.root)) ∧ W.cell? ⟨(al.add (k * 5)).block, (al.add (k * 5)).off + 3, none⟩ = some (.slice Ai p.items.length ci) ∧ W.cell? ⟨(al.add (k * 5)).block, (al.add (k * 5)).off + 4, none⟩ = some (.slice Ap p.paths.length cp)) := fun W hb => by
                have hbl : (al.add (k * 5)).block < w.heap.size := by rw [block_of_add]; exact hal
                exact ⟨(hb.cell (p := al.add (k * 5)) hbl).trans q0, (hb.cell (p := ⟨(al.add (k * 5)).block, (al.add (k * 5)).off + 1, none⟩) hbl).trans q1, (hb.cell (p := ⟨(al.add (k * 5)).block, (al.add (k * 5)).off + 2, none⟩) hbl).trans q2, (hb.cell (p := ⟨(al.add (k * 5)).block, (al.add (k * 5)).off + 3, none⟩) hbl).trans q3, (hb.cell (p := ⟨(al.add (k * 5)).block, (al.add (k * 5)).off + 4, none⟩) hbl).trans q4⟩
              have HMEM := hide hmem
              have HXI := hide hx
              have i0 : (0 : Int) ≤ (k : Int) := by omega
              have i1 : (k : Int) < (l.length : Int) := by omega
              clear q0 q1 q2 q3 q4 hx hmem hal
              have CG := fun w => Grow_none next more (.slice Ak link.length ck) w
              have CRG := fun w => rGrow_none next more (.slice Ak link.length ck) w
              have g1 : ((1 : Int) != 1) = false := rfl
              have g2 : ((0 : Int) != 0) = false := rfl
              obtain ⟨U, hU, g, u0, e9, hgu, hi⟩ := cls wr
              subst e9
              have CA := cls_call hgu hi (fun w' hw => Accept_none p (.slice Ai p.items.length ci) (.slice Ap p.paths.length cp) w' (HTI.out.to (below_to HB.out (Nat.le_refl _) hw)) (HTP.out.to (below_to HB.out (Nat.le_refl _) hw)))
              have CRA := cls_call hgu hi (fun w' hw => rAccept_none p (.slice Ai p.items.length ci) (.slice Ap p.paths.length cp) w' (HTI.out.to (below_to HB.out (Nat.le_refl _) hw)) (HTP.out.to (below_to HB.out (Nat.le_refl _) hw)))
              have CN := cls_call hgu hi (fun w' hw => (Next_none w').mono (fun e w'' h => (⟨h.1, by rw [h.2]; exact Below.refl _ _⟩ : e = .returned (.int .i64 0) ∧ Below w'.heap.size w' w'')))
              have CRN := cls_call hgu hi (fun w' hw => (rNext_none w').mono (fun e w'' h => (⟨h.1, by rw [h.2]; exact Below.refl _ _⟩ : e = .returned (.int .i64 0) ∧ Below w'.heap.size w' w'')))
              have CI := cls_call hgu hi (fun w' hw => (Items_none w').mono (fun e w'' h => (⟨h.1, by rw [h.2]; exact Below.refl _ _⟩ : e = .returned (.slice none 0 0) ∧ Below w'.heap.size w' w'')))
              have CRI := cls_call hgu hi (fun w' hw => (rItems_none w').mono (fun e w'' h => (⟨h.1, by rw [h.2]; exact Below.refl _ _⟩ : e = .returned (.slice none 0 0) ∧ Below w'.heap.size w' w'')))
              have CSM := cls_call hgu hi (fun w' hw => sameLL (a := []) (by decide) (TextsAt.nil w') (TextsAt.nil w'))
              have Y0 : ∀ u, (g u).cell? (al.add (k * 5)) = some (.int .i64 p.fr) := fun u => (HPC.out _ (below_to HB.out (Nat.le_refl _) (hgu u))).1
              have Y1 : ∀ u, (g u).cell? ⟨(al.add (k * 5)).block, (al.add (k * 5)).off + 1, none⟩ = some (.int .i64 p.size) := fun u => (HPC.out _ (below_to HB.out (Nat.le_refl _) (hgu u))).2.1
              have Y2 : ∀ u, (g u).cell? ⟨(al.add (k * 5)).block, (al.add (k * 5)).off + 2, none⟩ = some (.string (bs p.root)) := fun u => (HPC.out _ (below_to HB.out (Nat.le_refl _) (hgu u))).2.2.1
              have Y3 : ∀ u, (g u).cell? ⟨(al.add (k * 5)).block, (al.add (k * 5)).off + 3, none⟩ = some (.slice Ai p.items.length ci) := fun u => (HPC.out _ (below_to HB.out (Nat.le_refl _) (hgu u))).2.2.2.1
              have Y4 : ∀ u, (g u).cell? ⟨(al.add (k * 5)).block, (al.add (k * 5)).off + 4, none⟩ = some (.slice Ap p.paths.length cp) := fun u => (HPC.out _ (below_to HB.out (Nat.le_refl _) (hgu u))).2.2.2.2
              have HGU := hide hgu
              have HHI := hide hi
              clear hgu hi HPC
              unfold Pg.cs at CA CRA
              have h12 : ((k : Int) == (w12 : Int)) = true ∨ ((k : Int) == (w12 : Int)) = false := by cases ((k : Int) == (w12 : Int)) <;> simp
              rcases h12 with h12 | h12
              all_goals
                go_wp2_with (first | ((with_reducible refine (CG _).mono ?_); rintro e w' ⟨rfl, rfl⟩) | ((with_reducible refine (CRG _).mono ?_); rintro e w' ⟨rfl, rfl⟩))
                refine wp_region_class g (by kernel_rfl) (by kernel_rfl) (HHI.out _ (HGU.out _).drew) ?_
                repeat (go_big_quiet_step (first | with_reducible exact CA _ | with_reducible exact CRA _ | with_reducible exact CN _ | with_reducible exact CRN _ | with_reducible exact CI _ | with_reducible exact CRI _ | with_reducible exact CSM _))
                refine wpQuiet_nil ?_
                intro w5 hw5
                obtain ⟨u, rfl⟩ := hw5
                go_wp2_with fail
                refine ⟨⟨k + 1, by go_num, by omega, below_to HB.out (Nat.le_refl _) (HGU.out u)⟩, ?_⟩
                simp [intOf]; omega
            · obtain rfl : k = l.length := by omega
              have e1 : decide ((l.length : Int) < (l.length : Int)) = false := by simp
              have e1' : decide (l.length < l.length) = false := by simp
              have CG := fun w => Grow_none next more (.slice Ak link.length ck) w
              have CRG := fun w => rGrow_none next more (.slice Ak link.length ck) w
              have g1 : ((1 : Int) == 1) = true := rfl
              go_wp2_with (first | ((with_reducible refine (CG _).mono ?_); rintro e w' ⟨rfl, e9⟩; have e9 := e9.symm; subst e9) | ((with_reducible refine (CRG _).mono ?_); rintro e w' ⟨rfl, e9⟩; have e9 := e9.symm; subst e9))
              go_ret
              exact ⟨rfl, HB.out⟩
        | true =>
          simp only [hnb, if_true] at CN CRN
          clear hnb
          go_wp2_with fail
          with_reducible refine CN.mono ?_
          rintro e w4 ⟨⟨b, rfl, hwb, hc⟩, hb⟩
          have HB4 := hide (below_to HB.out (Nat.le_refl _) hb)
          have HC4 := hide hc
          have hbw : w.heap.size ≤ b := Nat.le_trans HB.out.size hwb
          clear hb CN hc
          have CRN := CRN w4
          unfold cliP at *
          go_wp2_with fail
          with_reducible refine CRN.mono ?_
          rintro e w5 ⟨⟨d, rfl, hwd, hd⟩, hb⟩
          have H5 : Hid (CR w b d first size [] (.slice none 0 0) (.slice none 0 0) w5) := ⟨below_to HB4.out (Nat.le_refl _) hb, HC4.out.to hb, hd, ⟨hbw, by have := HC4.out.blk.lt; omega⟩, by simp [Value.ownBlock], fun g e => by cases e⟩
          clear hb CRN HB4 HC4 hd
          go_wp2_with fail
          go_loopw [21] (fun i wr => ∃ (k : Nat) (R : List UInt8) (size : Int) (its : List (List UInt8)) (v v' : Value), i = .int .i64 (k : Int) ∧ k ≤ l.length ∧ R.length ≤ 60 ∧ its.length ≤ 60 * k ∧ Aside (CR w b d R size its v v' wr)) (fun i _ => l.length - (intOf i).toNat)
          case atStart => exact ⟨0, first, size, [], _, _, rfl, by omega, by omega, by simp, H5.out⟩
          case round =>
            clear H5 HB
            obtain ⟨k, R0, size0, its, v, v', rfl, hk, hR0, hil, hI⟩ := hrel
            have HI : Hid (CR w b d R0 size0 its v v' wr) := hI
            clear hI
            by_cases hlt : k < l.length
            · have e1 : decide ((k : Int) < (l.length : Int)) = true := decide_eq_true (by omega)
              have e1' : decide (k < l.length) = true := decide_eq_true hlt
              obtain ⟨x, hx⟩ : ∃ x, l[k]? = some x := ⟨_, List.getElem?_eq_getElem hlt⟩
              have hmem := List.mem_of_getElem? hx
              obtain ⟨p, vi, vp⟩ := x
              have HTI := hide (HVL.out.ti _ hmem)
              have HTP := hide (HVL.out.tp _ hmem)
              have HOK := hide (hok _ hmem)
              obtain ⟨al, e9, hal, q0, q1, q2, q3, q4⟩ := HVL.out.at_ hx
              subst e9
              obtain ⟨Ai, ci, hvi, _⟩ := HTI.out.slice
              obtain ⟨Ap, cp, hvp, _⟩ := HTP.out.slice
              simp only at hvi hvp HTI HTP HOK q0 q1 q2 q3 q4
              subst hvi hvp
              have HPC : Hid (∀ W, Below w.heap.size w W → W.cell? (al.add (k * 5)) = some (.int .i64 p.fr) ∧ W.cell? ⟨(al.add (k * 5)).block, (al.add (k * 5)).off + 1, none⟩ = some (.int .i64 p.size) ∧ W.cell? ⟨(al.add (k * 5)).block, (al.add (k * 5)).off + 2, none⟩ = some (.string (bs p.root)) ∧ W.cell? ⟨(al.add (k * 5)).block, (al.add (k * 5)).off + 3, none⟩ = some (.slice Ai p.items.length ci) ∧ W.cell? ⟨(al.add (k * 5)).block, (al.add (k * 5)).off + 4, none⟩ = some (.slice Ap p.paths.length cp)) := fun W hb => by
                have hbl : (al.add (k * 5)).block < w.heap.size := by rw [block_of_add]; exact hal
                exact ⟨(hb.cell (p := al.add (k * 5)) hbl).trans q0, (hb.cell (p := ⟨(al.add (k * 5)).block, (al.add (k * 5)).off + 1, none⟩) hbl).trans q1, (hb.cell (p := ⟨(al.add (k * 5)).block, (al.add (k * 5)).off + 2, none⟩) hbl).trans q2, (hb.cell (p := ⟨(al.add (k * 5)).block, (al.add (k * 5)).off + 3, none⟩) hbl).trans q3, (hb.cell (p := ⟨(al.add (k * 5)).block, (al.add (k * 5)).off + 4, none⟩) hbl).trans q4⟩
              have HMEM := hide hmem
              have HXI := hide hx
              have i0 : (0 : Int) ≤ (k : Int) := by omega
              have i1 : (k : Int) < (l.length : Int) := by omega
              clear q0 q1 q2 q3 q4 hx hmem hal
              have hkl12 : k < 12 := by omega
              by_cases hkw : k = w12
              · have h12 : ((k : Int) == (w12 : Int)) = true := by rw [beq_iff_eq]; omega
                clear hkw
                have CG := Grow_any b R0 size0 its v next more link (by omega) (by omega) (by omega) (fun x hx => by have := hlkx x hx; omega) (.slice Ak link.length ck) wr (HG.out.to HI.out.bel) HI.out.cc (HVK.out.to HI.out.bel)
                unfold GrowR cliP at CG
                have CRG := fun (W : World) (h : RCliAt d R0 size0 its v' W) (hb : Below w.heap.size w W) => rGrow_any d R0 size0 its v' next more link (by omega) (by omega) (by omega) (fun x hx => by have := hlkx x hx; omega) (.slice Ak link.length ck) W h (HVK.out.to hb)
                unfold RGrowR cliP at CRG
                obtain ⟨GE, hGE⟩ : ∃ GE, growE R0 size0 next more link = GE := ⟨_, rfl⟩
                have HGE := hide hGE
                rw [hGE] at CG
                have g0 : (GE != GE) = false := by simp
                clear hGE
                go_wp2_with fail
                with_reducible refine CG.mono ?_
                rintro e w7 ⟨rfl, h1, t1⟩
                have hord := HI.out.ord
                have CRG := CRG w7 (HI.out.mid t1) (HI.out.bel.trans (t1.below HI.out.bel.size (by omega) (by omega)))
                rw [HGE.out] at CRG
                go_wp2_with fail
                with_reducible refine CRG.mono ?_
                rintro e w8 ⟨rfl, h2, t2⟩
                have HC8 := hide (HI.out.grow (by rw [HGE.out]; exact h1) t1 (by rw [HGE.out]; exact h2) t2)
                have hR60 : (if growE R0 size0 next more link = 0 then next else R0).length ≤ 60 := by split <;> omega
                generalize (if growE R0 size0 next more link = 0 then next else R0) = R at *
                generalize (if growE R0 size0 next more link = 0 then more else size0) = size at *
                clear CG CRG h1 h2 t1 t2 HI HGE
                go_wp2_with fail
                have HC9 := hide HC8.out
                clear HC8
                have HFT := hide (few_fit (HFEW.out _ HMEM.out) HOK.out.fr HOK.out.sz)
                have hpi : p.items.length ≤ 60 := HFT.out.2.1
                have HFD := hide HC9.out.far_d
                have HFB := hide HC9.out.far_b
                have HLO := hide HC9.out.low
                have hord := HC9.out.ord
                have hb9 : b < w8.heap.size := HC9.out.cc.blk.lt
                have hd9 : d < w8.heap.size := HC9.out.dd.blk.lt
                have HRB : Hid (rowOr v b < w8.heap.size) := by
                  rcases rowOr_cases v b with h | h
                  · show _ < _; omega
                  · exact (HC9.out.cc.lt _ h).2
                have HRD : Hid (rowOr v' d < w8.heap.size) := by
                  rcases rowOr_cases v' d with h | h
                  · show _ < _; omega
                  · exact (HC9.out.dd.lt _ h).2
                have HAC : Hid (∀ W, Below w.heap.size w W → CliAt b R size its v W → Calls Tryz.prog 24 #[.pointer (some ⟨b, 0, none⟩), .agg #[.int .i64 p.fr, .int .i64 p.size, .string (bs p.root), .slice Ai p.items.length ci, .slice Ap p.paths.length cp]] W (AcceptR b R size (accE p R size its) (accV p R size its) v W)) := fun W hb hc => Accept_any b R size its (by omega) v p HFT.out.1 _ _ W (HG.out.to hb) hc (HTI.out.to hb) (HTP.out.to hb) (texts_far HTI.out (by omega)) (fun g e => texts_far HTI.out (by have := (HC9.out.cc.lt g e).1; omega))
                have HRAC : Hid (∀ W, Below w.heap.size w W → RCliAt d R size its v' W → Calls Tryz.prog 36 #[.pointer (some ⟨d, 0, none⟩), .agg #[.int .i64 p.fr, .int .i64 p.size, .string (bs p.root), .slice Ai p.items.length ci, .slice Ap p.paths.length cp]] W fun e w' => ∃ v2, e = .returned (.int .i64 (accE p R size its)) ∧ RCliAt d R size (accV p R size its) v2 w' ∧ Two d (rowOr v' d) W w' ∧ (v2.ownBlock = v'.ownBlock ∨ ∃ g, v2.ownBlock = some g ∧ W.heap.size ≤ g)) := fun W hb hc => rAccept_any d R size its (by omega) v' p HFT.out.1 _ _ W hc (HTI.out.to hb) (HTP.out.to hb) (texts_far HTI.out (by omega)) (fun g e => texts_far HTI.out (by have := (HC9.out.dd.lt g e).1; omega))
                unfold AcceptR at HAC
                have htt := accV_top p R size its
                obtain ⟨TT, hTT⟩ : ∃ TT, accV p R size its = TT := ⟨_, rfl⟩
                obtain ⟨E, hE⟩ : ∃ E, accE p R size its = E := ⟨_, rfl⟩
                rw [hTT] at HAC HRAC htt
                rw [hE] at HAC HRAC
                have g1 : (E != E) = false := by simp
                have g2 : ((TT.length : Int) != (TT.length : Int)) = false := by simp
                have g2' : (TT.length != TT.length) = false := by simp
                clear hTT hE
                apply wp_region_lo4 (C := fun W => Below w.heap.size w W ∧ w8.heap.size ≤ W.heap.size) (V := [some _, some _, some _, some _, some _, none, some _, some _, some _, some _, some _, none, some _, some _, some _, some _, some _, some _, some _, some _, some _, some _, none, some _, none, some _, some _, some _]) (Fs := [(5, fun a W => a.tmps[111]? = some (.int .i64 E) ∧ ∃ v2, CliAt b R size TT v2 W ∧ (v2.ownBlock = v.ownBlock ∨ ∃ g, v2.ownBlock = some g ∧ w8.heap.size ≤ g)), (11, fun a W => a.tmps[117]? = some (.int .i64 E) ∧ ∃ v3, RCliAt d R size TT v3 W ∧ (v3.ownBlock = v'.ownBlock ∨ ∃ g, v3.ownBlock = some g ∧ w8.heap.size ≤ g) ∧ ∀ u, W.cell? ⟨b, 2, none⟩ = some u → ∀ g, u.ownBlock = some g → v3.ownBlock ≠ some g), (22, fun a W => ∃ u, a.tmps[128]? = some u ∧ TextsAt W u TT), (24, fun a W => ∃ u, a.tmps[130]? = some u ∧ TextsAt W u TT)]) (Ns := [(5, fun (_ : Act) W => CliAt b R size its v W), (11, fun (_ : Act) W => RCliAt d R size its v' W ∧ w8.heap.size ≤ W.heap.size ∧ ∃ u, W.cell? ⟨b, 2, none⟩ = some u ∧ ∀ g, u.ownBlock = some g → g < W.heap.size ∧ v'.ownBlock ≠ some g)]) (Rel := fun i a0_ a1_ x x' => if i = 5 then (fun b0 b1 x x' => Two b (rowOr v b) x x' ∧ ∃ u, x'.cell? ⟨b, 2, none⟩ = some u ∧ (u.ownBlock = v.ownBlock ∨ ∃ g, u.ownBlock = some g ∧ x.heap.size ≤ g ∧ g < x'.heap.size)) a0_ a1_ x x' else if i = 11 then (fun b0 b1 x x' => Two d (rowOr v' d) x x') a0_ a1_ x x' else Below x.heap.size x x')
                case hm => kernel_rfl
                case hB => kernel_rfl
                case hCw => exact ⟨HC9.out.bel.drew, Nat.le_refl _⟩
                case hC =>
                  intro i a a' w_ w' hw hr
                  by_cases e5 : i = 5
                  · subst e5
                    have hr' : (fun b0 b1 x x' => Two b (rowOr v b) x x' ∧ ∃ u, x'.cell? ⟨b, 2, none⟩ = some u ∧ (u.ownBlock = v.ownBlock ∨ ∃ g, u.ownBlock = some g ∧ x.heap.size ≤ g ∧ g < x'.heap.size)) a a' w_ w' := hr
                    exact ⟨hw.1.trans (hr'.1.below hw.1.size (by have := HC9.out.ord; omega) HLO.out.1), Nat.le_trans hw.2 hr'.1.size⟩
                  by_cases e11 : i = 11
                  · subst e11
                    have hr' : (fun b0 b1 x x' => Two d (rowOr v' d) x x') a a' w_ w' := hr
                    exact ⟨hw.1.trans (hr'.below hw.1.size (by have := HC9.out.ord; omega) HLO.out.2), Nat.le_trans hw.2 hr'.size⟩
                  have hr' : Below w_.heap.size w_ w' := by simpa [e5, e11] using hr
                  exact ⟨below_to hw.1 (Nat.le_refl _) hr', Nat.le_trans hw.2 hr'.size⟩
                case hst =>
                  refine keeps4_cons (fun i a a' w_ w' hne hwt hs hput hr h => by
                    by_cases e5 : i = 5
                    · exact absurd e5 hne
                    by_cases e11 : i = 11
                    · subst e11
                      have hr' : (fun b0 b1 x x' => Two d (rowOr v' d) x x') a a' w_ w' := hr
                      obtain ⟨h1, v2, h2, h3⟩ := h
                      refine ⟨(hs 111 (by kernel_rfl)).trans h1, v2, h2.far hr' HFD.out.1 HFD.out.2.1 (fun e => ?_) (fun e => ?_), h3⟩
                      · rcases h3 with ho | ⟨g', ho, h4⟩
                        · exact HFD.out.2.2.1 (ho.symm.trans e)
                        · have e3 : g' = d := Option.some.inj (ho.symm.trans e)
                          omega
                      · rcases h3 with ho | ⟨g', ho, h4⟩
                        · exact HFD.out.2.2.2 (ho.symm.trans e)
                        · have e3 : g' = rowOr v' d := Option.some.inj (ho.symm.trans e)
                          have := HRD.out; omega
                    have hr' : Below w_.heap.size w_ w' := by simpa [e5, e11] using hr
                    obtain ⟨h1, v2, h2, h3⟩ := h
                    exact ⟨(hs 111 (by kernel_rfl)).trans h1, v2, h2.to hr', h3⟩) ?_
                  refine keeps4_cons (fun i a a' w_ w' hne hwt hs hput hr h => by
                    by_cases e5 : i = 5
                    · subst e5
                      have hr' : (fun b0 b1 x x' => Two b (rowOr v b) x x' ∧ ∃ u, x'.cell? ⟨b, 2, none⟩ = some u ∧ (u.ownBlock = v.ownBlock ∨ ∃ g, u.ownBlock = some g ∧ x.heap.size ≤ g ∧ g < x'.heap.size)) a a' w_ w' := hr
                      obtain ⟨h1, v3, h2, h3, h4⟩ := h
                      obtain ⟨ht, u, hu, hor⟩ := hr'
                      refine ⟨(hs 117 (by kernel_rfl)).trans h1, v3, h2.far ht HFB.out.1 HFB.out.2.1 (fun e => by have := (h2.lt _ e).1; have := HC9.out.ord; omega) (fun e => ?_), h3, fun u' hu' g e e2 => ?_⟩
                      · rcases h3 with ho | ⟨g', ho, h5⟩
                        · exact HFB.out.2.2.2 (ho.symm.trans e)
                        · have e3 : g' = rowOr v b := Option.some.inj (ho.symm.trans e)
                          have := HRB.out; omega
                      · obtain rfl : u = u' := Option.some.inj (hu.symm.trans hu')
                        rcases hor with ho | ⟨g', ho, h5, h6⟩
                        · have e4 := ho.symm.trans e
                          rcases h3 with ho3 | ⟨g3, ho3, h7⟩
                          · exact HC9.out.s2 g e4 (ho3.symm.trans e2)
                          · have e5 : g3 = g := Option.some.inj (ho3.symm.trans e2)
                            have := (HC9.out.cc.lt g e4).2
                            omega
                        · have e3 : g' = g := Option.some.inj (ho.symm.trans e)
                          have := (h2.lt g e2).2
                          omega
                    by_cases e11 : i = 11
                    · exact absurd e11 hne
                    have hr' : Below w_.heap.size w_ w' := by simpa [e5, e11] using hr
                    obtain ⟨h1, v3, h2, h3, h4⟩ := h
                    exact ⟨(hs 117 (by kernel_rfl)).trans h1, v3, h2.to hr', h3, fun u hu => h4 u ((hr'.cell (p := ⟨b, 2, none⟩) (by show b < _; have := h2.blk.lt; omega)).symm.trans hu)⟩) ?_
                  refine keeps4_cons (fun i a a' w_ w' hne hwt hs hput hr h => by
                    by_cases e5 : i = 5
                    · subst e5
                      exact absurd (hwt.symm.trans (show waitsT .any _ _ 22 5 = true by kernel_rfl)) (by decide)
                    by_cases e11 : i = 11
                    · subst e11
                      exact absurd (hwt.symm.trans (show waitsT .any _ _ 22 11 = true by kernel_rfl)) (by decide)
                    have hr' : Below w_.heap.size w_ w' := by simpa [e5, e11] using hr
                    obtain ⟨u, h1, h2⟩ := h
                    exact ⟨u, (hs 128 (by kernel_rfl)).trans h1, h2.to hr'⟩) ?_
                  refine keeps4_cons (fun i a a' w_ w' hne hwt hs hput hr h => by
                    by_cases e5 : i = 5
                    · subst e5
                      exact absurd (hwt.symm.trans (show waitsT .any _ _ 24 5 = true by kernel_rfl)) (by decide)
                    by_cases e11 : i = 11
                    · subst e11
                      exact absurd (hwt.symm.trans (show waitsT .any _ _ 24 11 = true by kernel_rfl)) (by decide)
                    have hr' : Below w_.heap.size w_ w' := by simpa [e5, e11] using hr
                    obtain ⟨u, h1, h2⟩ := h
                    exact ⟨u, (hs 130 (by kernel_rfl)).trans h1, h2.to hr'⟩) ?_
                  exact keeps4_nil
                case hN0 => exact pre0_cons (⟨HC9.out.cc.blk, HC9.out.cc.own⟩) (pre0_cons (⟨⟨HC9.out.dd.blk, HC9.out.dd.own⟩, Nat.le_refl _, v, HC9.out.cc.blk.cell 2, fun g e => ⟨(HC9.out.cc.lt g e).2, HC9.out.s2 g e⟩⟩) (pre0_nil))
                case hNst =>
                  refine prek_cons3 (fun i a a' w_ w' hne hwt hr h hput => by
                    by_cases e5 : i = 5
                    · exact absurd e5 hne
                    by_cases e11 : i = 11
                    · subst e11
                      have hr' : (fun b0 b1 x x' => Two d (rowOr v' d) x x') a a' w_ w' := hr
                      exact h.far hr' HFD.out.1 HFD.out.2.1 HFD.out.2.2.1 HFD.out.2.2.2
                    have hr' : Below w_.heap.size w_ w' := by simpa [e5, e11] using hr
                    exact h.to hr') ?_
                  refine prek_cons3 (fun i a a' w_ w' hne hwt hr h hput => by
                    by_cases e5 : i = 5
                    · subst e5
                      have hr' : (fun b0 b1 x x' => Two b (rowOr v b) x x' ∧ ∃ u, x'.cell? ⟨b, 2, none⟩ = some u ∧ (u.ownBlock = v.ownBlock ∨ ∃ g, u.ownBlock = some g ∧ x.heap.size ≤ g ∧ g < x'.heap.size)) a a' w_ w' := hr
                      obtain ⟨h1, hsw, u0, h2, h3⟩ := h
                      obtain ⟨ht, u, hu, hor⟩ := hr'
                      refine ⟨h1.far ht HFB.out.1 HFB.out.2.1 HFB.out.2.2.1 HFB.out.2.2.2, Nat.le_trans hsw ht.size, u, hu, fun g e => ?_⟩
                      rcases hor with ho | ⟨g', ho, h4, h5⟩
                      · have := (HC9.out.cc.lt g (ho.symm.trans e)).2
                        have hts := ht.size
                        exact ⟨by omega, HC9.out.s2 g (ho.symm.trans e)⟩
                      · have e3 : g' = g := Option.some.inj (ho.symm.trans e)
                        exact ⟨by omega, fun e2 => by have := (HC9.out.dd.lt g e2).2; omega⟩
                    by_cases e11 : i = 11
                    · exact absurd e11 hne
                    have hr' : Below w_.heap.size w_ w' := by simpa [e5, e11] using hr
                    obtain ⟨h1, hsw, u, h2, h3⟩ := h
                    exact ⟨h1.to hr', Nat.le_trans hsw hr'.size, u, (hr'.cell (p := ⟨b, 2, none⟩) (by show b < _; omega)).trans h2, fun g e => ⟨Nat.lt_of_lt_of_le (h3 g e).1 hr'.size, (h3 g e).2⟩⟩) ?_
                  exact prek_nil3
                case hop =>
                  refine ⟨?_, ?_, ?_, ?_, ?_, ?_, ?_, ?_, ?_, ?_, ?_, ?_, ?_, ?_, ?_, ?_, ?_, ?_, ?_, ?_, ?_, ?_, ?_, ?_, ?_, ?_, ?_, ?_, trivial⟩
                  · intro a w_ K hw hS hd hN hK
                    have s17 := hS.at 17 (by kernel_rfl) rfl
                    rw [if_pos (want_free rfl)]
                    go_simp
                    exact hK _ _ (Below.refl _ _) (vok rfl) (facts_cons (fun h => absurd h (by decide)) (facts_cons (fun h => absurd h (by decide)) (facts_cons (fun h => absurd h (by decide)) (facts_cons (fun h => absurd h (by decide)) facts_nil))))
                  · intro a w_ K hw hS hd hN hK
                    have s2 := hS.at 2 (by kernel_rfl) rfl
                    rw [if_pos (want_free rfl)]
                    go_simp
                    exact hK _ _ (Below.refl _ _) (vok rfl) (facts_cons (fun h => absurd h (by decide)) (facts_cons (fun h => absurd h (by decide)) (facts_cons (fun h => absurd h (by decide)) (facts_cons (fun h => absurd h (by decide)) facts_nil))))
                  · intro a w_ K hw hS hd hN hK
                    have s21 := hS.at 21 (by kernel_rfl) rfl
                    rw [if_pos (want_free rfl)]
                    go_simp
                    exact hK _ _ (Below.refl _ _) (vok rfl) (facts_cons (fun h => absurd h (by decide)) (facts_cons (fun h => absurd h (by decide)) (facts_cons (fun h => absurd h (by decide)) (facts_cons (fun h => absurd h (by decide)) facts_nil))))
                  · intro a w_ K hw hS hd hN hK
                    have s107 := (hd 1 (by kernel_rfl)).at (d := 107) rfl rfl rfl
                    have s108 := (hd 2 (by kernel_rfl)).at (d := 108) rfl rfl rfl
                    rw [if_pos (want_free rfl)]
                    go_simp
                    exact hK _ _ (Below.refl _ _) (vok rfl) (facts_cons (fun h => absurd h (by decide)) (facts_cons (fun h => absurd h (by decide)) (facts_cons (fun h => absurd h (by decide)) (facts_cons (fun h => absurd h (by decide)) facts_nil))))
                  · intro a w_ K hw hS hd hN hK
                    have s109 := (hd 3 (by kernel_rfl)).at (d := 109) rfl rfl rfl
                    rw [if_pos (want_free rfl)]
                    obtain ⟨y0, y1, y2, y3, y4⟩ := HPC.out w_ hw.1
                    go_simp
                    exact hK _ _ (Below.refl _ _) (vok rfl) (facts_cons (fun h => absurd h (by decide)) (facts_cons (fun h => absurd h (by decide)) (facts_cons (fun h => absurd h (by decide)) (facts_cons (fun h => absurd h (by decide)) facts_nil))))
                  · intro a w_ K hw hS hd hN hK
                    have s106 := (hd 0 (by kernel_rfl)).at (d := 106) rfl rfl rfl
                    have s110 := (hd 4 (by kernel_rfl)).at (d := 110) rfl rfl rfl
                    have hPc := hN _ (List.mem_cons_self ..) rfl
                    rw [if_pos (want_free rfl)]
                    go_simp
                    have CA := HAC.out w_ hw.1 hPc
                    with_reducible refine CA.mono ?_
                    rintro e w' ⟨v2, rfl, hc2, ht2, ho2⟩
                    have hss := hw.2
                    exact hK _ _ ⟨ht2, v2, hc2.blk.cell 2, ho2.imp id fun ⟨g, e, hg⟩ => ⟨g, e, hg, (hc2.lt g e).2⟩⟩ (vfree rfl) (facts_cons (fun _ => ⟨hS.put_at (by kernel_rfl) _, v2, hc2, ho2.imp id fun ⟨g, e, hg⟩ => ⟨g, e, by omega⟩⟩) (facts_cons (fun h => absurd h (by decide)) (facts_cons (fun h => absurd h (by decide)) (facts_cons (fun h => absurd h (by decide)) facts_nil))))
                  · intro a w_ K hw hS hd hN hK
                    have s19 := hS.at 19 (by kernel_rfl) rfl
                    rw [if_pos (want_free rfl)]
                    go_simp
                    exact hK _ _ (Below.refl _ _) (vok rfl) (facts_cons (fun h => absurd h (by decide)) (facts_cons (fun h => absurd h (by decide)) (facts_cons (fun h => absurd h (by decide)) (facts_cons (fun h => absurd h (by decide)) facts_nil))))
                  · intro a w_ K hw hS hd hN hK
                    have s2 := hS.at 2 (by kernel_rfl) rfl
                    rw [if_pos (want_free rfl)]
                    go_simp
                    exact hK _ _ (Below.refl _ _) (vok rfl) (facts_cons (fun h => absurd h (by decide)) (facts_cons (fun h => absurd h (by decide)) (facts_cons (fun h => absurd h (by decide)) (facts_cons (fun h => absurd h (by decide)) facts_nil))))
                  · intro a w_ K hw hS hd hN hK
                    have s21 := hS.at 21 (by kernel_rfl) rfl
                    rw [if_pos (want_free rfl)]
                    go_simp
                    exact hK _ _ (Below.refl _ _) (vok rfl) (facts_cons (fun h => absurd h (by decide)) (facts_cons (fun h => absurd h (by decide)) (facts_cons (fun h => absurd h (by decide)) (facts_cons (fun h => absurd h (by decide)) facts_nil))))
                  · intro a w_ K hw hS hd hN hK
                    have s113 := (hd 7 (by kernel_rfl)).at (d := 113) rfl rfl rfl
                    have s114 := (hd 8 (by kernel_rfl)).at (d := 114) rfl rfl rfl
                    rw [if_pos (want_free rfl)]
                    go_simp
                    exact hK _ _ (Below.refl _ _) (vok rfl) (facts_cons (fun h => absurd h (by decide)) (facts_cons (fun h => absurd h (by decide)) (facts_cons (fun h => absurd h (by decide)) (facts_cons (fun h => absurd h (by decide)) facts_nil))))
                  · intro a w_ K hw hS hd hN hK
                    have s115 := (hd 9 (by kernel_rfl)).at (d := 115) rfl rfl rfl
                    rw [if_pos (want_free rfl)]
                    obtain ⟨y0, y1, y2, y3, y4⟩ := HPC.out w_ hw.1
                    go_simp
                    exact hK _ _ (Below.refl _ _) (vok rfl) (facts_cons (fun h => absurd h (by decide)) (facts_cons (fun h => absurd h (by decide)) (facts_cons (fun h => absurd h (by decide)) (facts_cons (fun h => absurd h (by decide)) facts_nil))))
                  · intro a w_ K hw hS hd hN hK
                    have s112 := (hd 6 (by kernel_rfl)).at (d := 112) rfl rfl rfl
                    have s116 := (hd 10 (by kernel_rfl)).at (d := 116) rfl rfl rfl
                    obtain ⟨hPd, _, ub, hub, hus⟩ := hN _ (List.mem_cons_of_mem _ (List.mem_cons_self ..)) rfl
                    rw [if_pos (want_free rfl)]
                    go_simp
                    have CA := HRAC.out w_ hw.1 hPd
                    with_reducible refine CA.mono ?_
                    rintro e w' ⟨v3, rfl, hd3, ht3, ho3⟩
                    have hss := hw.2
                    refine hK _ _ ht3 (vfree rfl) (facts_cons (fun h => absurd h (by decide)) (facts_cons (fun _ => ⟨hS.put_at (by kernel_rfl) _, v3, hd3, ho3.imp id fun ⟨g, e, hg⟩ => ⟨g, e, by omega⟩, fun u hu g e e2 => ?_⟩) (facts_cons (fun h => absurd h (by decide)) (facts_cons (fun h => absurd h (by decide)) facts_nil))))
                    have hu2 : w_.cell? ⟨b, 2, none⟩ = some u := by
                      have hc := ht3.block b (by omega) HFD.out.1 HFD.out.2.1
                      rw [← hu]
                      unfold World.cell?
                      simp only [hc]
                    obtain rfl : ub = u := Option.some.inj (hub.symm.trans hu2)
                    rcases ho3 with ho | ⟨g', ho, hg'⟩
                    · exact (hus g e).2 (ho.symm.trans e2)
                    · have e5 : g' = g := Option.some.inj (ho.symm.trans e2)
                      have := (hus g e).1
                      omega
                  · intro a w_ K hw hS hd hN hK
                    obtain ⟨s111, v2, hc2, ho2⟩ := (hd 5 (by kernel_rfl)).2 _ (List.mem_cons_self ..) rfl
                    obtain ⟨s117, v3, hd3, ho3, hsep⟩ := (hd 11 (by kernel_rfl)).2 _ (List.mem_cons_of_mem _ (List.mem_cons_self ..)) rfl
                    rw [if_pos (want_free rfl)]
                    go_simp
                    exact hK _ _ (Below.refl _ _) (vok rfl) (facts_cons (fun h => absurd h (by decide)) (facts_cons (fun h => absurd h (by decide)) (facts_cons (fun h => absurd h (by decide)) (facts_cons (fun h => absurd h (by decide)) facts_nil))))
                  · intro a w_ K hw hS hd hN hK
                    have s118 := (hd 12 (by kernel_rfl)).at (d := 118) rfl rfl rfl
                    rw [if_pos (want_free rfl)]
                    go_simp
                    exact hK _ _ (Below.refl _ _) (vok rfl) (facts_cons (fun h => absurd h (by decide)) (facts_cons (fun h => absurd h (by decide)) (facts_cons (fun h => absurd h (by decide)) (facts_cons (fun h => absurd h (by decide)) facts_nil))))
                  · intro a w_ K hw hS hd hN hK
                    have s119 := (hd 13 (by kernel_rfl)).at (d := 119) rfl rfl rfl
                    have s17 := hS.at 17 (by kernel_rfl) rfl
                    rw [if_pos (want_yes rfl rfl rfl s119)]
                    go_simp
                    exact hK _ _ (Below.refl _ _) (vok rfl) (facts_cons (fun h => absurd h (by decide)) (facts_cons (fun h => absurd h (by decide)) (facts_cons (fun h => absurd h (by decide)) (facts_cons (fun h => absurd h (by decide)) facts_nil))))
                  · intro a w_ K hw hS hd hN hK
                    have s119 := (hd 13 (by kernel_rfl)).at (d := 119) rfl rfl rfl
                    have s120 := (hd 14 (by kernel_rfl)).at (d := 120) rfl rfl rfl
                    rw [if_pos (want_yes rfl rfl rfl s119)]
                    obtain ⟨_, v2, hc2, _⟩ := (hd 5 (by kernel_rfl)).2 _ (List.mem_cons_self ..) rfl
                    go_simp
                    with_reducible refine (nextB b R size TT (by omega) v2 w_ hc2).mono ?_
                    rintro e w' ⟨rfl, hb⟩
                    exact hK _ _ hb (vok rfl) (facts_cons (fun h => absurd h (by decide)) (facts_cons (fun h => absurd h (by decide)) (facts_cons (fun h => absurd h (by decide)) (facts_cons (fun h => absurd h (by decide)) facts_nil))))
                  · intro a w_ K hw hS hd hN hK
                    have s119 := (hd 13 (by kernel_rfl)).at (d := 119) rfl rfl rfl
                    have s19 := hS.at 19 (by kernel_rfl) rfl
                    rw [if_pos (want_yes rfl rfl rfl s119)]
                    go_simp
                    exact hK _ _ (Below.refl _ _) (vok rfl) (facts_cons (fun h => absurd h (by decide)) (facts_cons (fun h => absurd h (by decide)) (facts_cons (fun h => absurd h (by decide)) (facts_cons (fun h => absurd h (by decide)) facts_nil))))
                  · intro a w_ K hw hS hd hN hK
                    have s119 := (hd 13 (by kernel_rfl)).at (d := 119) rfl rfl rfl
                    have s122 := (hd 16 (by kernel_rfl)).at (d := 122) rfl rfl rfl
                    rw [if_pos (want_yes rfl rfl rfl s119)]
                    obtain ⟨_, v3, hd3, _, _⟩ := (hd 11 (by kernel_rfl)).2 _ (List.mem_cons_of_mem _ (List.mem_cons_self ..)) rfl
                    go_simp
                    with_reducible refine (rNextB d R size TT v3 w_ hd3).mono ?_
                    rintro e w' ⟨rfl, hb⟩
                    exact hK _ _ hb (vok rfl) (facts_cons (fun h => absurd h (by decide)) (facts_cons (fun h => absurd h (by decide)) (facts_cons (fun h => absurd h (by decide)) (facts_cons (fun h => absurd h (by decide)) facts_nil))))
                  · intro a w_ K hw hS hd hN hK
                    have s119 := (hd 13 (by kernel_rfl)).at (d := 119) rfl rfl rfl
                    have s121 := (hd 15 (by kernel_rfl)).at (d := 121) rfl rfl rfl
                    have s123 := (hd 17 (by kernel_rfl)).at (d := 123) rfl rfl rfl
                    rw [if_pos (want_yes rfl rfl rfl s119)]
                    go_simp
                    exact hK _ _ (Below.refl _ _) (vok rfl) (facts_cons (fun h => absurd h (by decide)) (facts_cons (fun h => absurd h (by decide)) (facts_cons (fun h => absurd h (by decide)) (facts_cons (fun h => absurd h (by decide)) facts_nil))))
                  · intro a w_ K hw hS hd hN hK
                    have s119 := (hd 13 (by kernel_rfl)).at (d := 119) rfl rfl rfl
                    have s124 := (hd 18 (by kernel_rfl)).at (d := 124) rfl rfl rfl
                    rw [if_pos (want_free rfl)]
                    go_simp
                    exact hK _ _ (Below.refl _ _) (vok rfl) (facts_cons (fun h => absurd h (by decide)) (facts_cons (fun h => absurd h (by decide)) (facts_cons (fun h => absurd h (by decide)) (facts_cons (fun h => absurd h (by decide)) facts_nil))))
                  · intro a w_ K hw hS hd hN hK
                    have s125 := (hd 19 (by kernel_rfl)).at (d := 125) rfl rfl rfl
                    rw [if_pos (want_free rfl)]
                    go_simp
                    exact hK _ _ (Below.refl _ _) (vok rfl) (facts_cons (fun h => absurd h (by decide)) (facts_cons (fun h => absurd h (by decide)) (facts_cons (fun h => absurd h (by decide)) (facts_cons (fun h => absurd h (by decide)) facts_nil))))
                  · intro a w_ K hw hS hd hN hK
                    have s126 := (hd 20 (by kernel_rfl)).at (d := 126) rfl rfl rfl
                    have s17 := hS.at 17 (by kernel_rfl) rfl
                    rw [if_pos (want_yes rfl rfl rfl s126)]
                    go_simp
                    exact hK _ _ (Below.refl _ _) (vok rfl) (facts_cons (fun h => absurd h (by decide)) (facts_cons (fun h => absurd h (by decide)) (facts_cons (fun h => absurd h (by decide)) (facts_cons (fun h => absurd h (by decide)) facts_nil))))
                  · intro a w_ K hw hS hd hN hK
                    have s126 := (hd 20 (by kernel_rfl)).at (d := 126) rfl rfl rfl
                    have s127 := (hd 21 (by kernel_rfl)).at (d := 127) rfl rfl rfl
                    rw [if_pos (want_yes rfl rfl rfl s126)]
                    obtain ⟨_, v2, hc2, _⟩ := (hd 5 (by kernel_rfl)).2 _ (List.mem_cons_self ..) rfl
                    go_simp
                    have CA := itemsB b R size TT (by omega) v2 w_ hc2
                    with_reducible refine CA.mono ?_
                    rintro e w' ⟨u, rfl, ho, hb⟩
                    exact hK _ _ hb (vfree rfl) (facts_cons (fun h => absurd h (by decide)) (facts_cons (fun h => absurd h (by decide)) (facts_cons (fun _ => ⟨u, hS.put_at (by kernel_rfl) _, ho⟩) (facts_cons (fun h => absurd h (by decide)) facts_nil))))
                  · intro a w_ K hw hS hd hN hK
                    have s126 := (hd 20 (by kernel_rfl)).at (d := 126) rfl rfl rfl
                    have s19 := hS.at 19 (by kernel_rfl) rfl
                    rw [if_pos (want_yes rfl rfl rfl s126)]
                    go_simp
                    exact hK _ _ (Below.refl _ _) (vok rfl) (facts_cons (fun h => absurd h (by decide)) (facts_cons (fun h => absurd h (by decide)) (facts_cons (fun h => absurd h (by decide)) (facts_cons (fun h => absurd h (by decide)) facts_nil))))
                  · intro a w_ K hw hS hd hN hK
                    have s126 := (hd 20 (by kernel_rfl)).at (d := 126) rfl rfl rfl
                    have s129 := (hd 23 (by kernel_rfl)).at (d := 129) rfl rfl rfl
                    rw [if_pos (want_yes rfl rfl rfl s126)]
                    obtain ⟨_, v3, hd3, _, _⟩ := (hd 11 (by kernel_rfl)).2 _ (List.mem_cons_of_mem _ (List.mem_cons_self ..)) rfl
                    go_simp
                    have CA := rItemsB d R size TT (by omega) v3 w_ hd3
                    with_reducible refine CA.mono ?_
                    rintro e w' ⟨u, rfl, ho, hb⟩
                    exact hK _ _ hb (vfree rfl) (facts_cons (fun h => absurd h (by decide)) (facts_cons (fun h => absurd h (by decide)) (facts_cons (fun h => absurd h (by decide)) (facts_cons (fun _ => ⟨u, hS.put_at (by kernel_rfl) _, ho⟩) facts_nil))))
                  · intro a w_ K hw hS hd hN hK
                    have s126 := (hd 20 (by kernel_rfl)).at (d := 126) rfl rfl rfl
                    obtain ⟨u128, s128, t128⟩ := (hd 22 (by kernel_rfl)).2 _ (List.mem_cons_of_mem _ (List.mem_cons_of_mem _ (List.mem_cons_self ..))) rfl
                    obtain ⟨u130, s130, t130⟩ := (hd 24 (by kernel_rfl)).2 _ (List.mem_cons_of_mem _ (List.mem_cons_of_mem _ (List.mem_cons_of_mem _ (List.mem_cons_self ..)))) rfl
                    rw [if_pos (want_yes rfl rfl rfl s126)]
                    go_simp
                    with_reducible refine (sameLL (by omega) t128 t130).mono ?_
                    rintro e w' ⟨rfl, hb⟩
                    exact hK _ _ hb (vok rfl) (facts_cons (fun h => absurd h (by decide)) (facts_cons (fun h => absurd h (by decide)) (facts_cons (fun h => absurd h (by decide)) (facts_cons (fun h => absurd h (by decide)) facts_nil))))
                  · intro a w_ K hw hS hd hN hK
                    have s126 := (hd 20 (by kernel_rfl)).at (d := 126) rfl rfl rfl
                    have s131 := (hd 25 (by kernel_rfl)).at (d := 131) rfl rfl rfl
                    rw [if_pos (want_yes rfl rfl rfl s126)]
                    go_simp
                    exact hK _ _ (Below.refl _ _) (vok rfl) (facts_cons (fun h => absurd h (by decide)) (facts_cons (fun h => absurd h (by decide)) (facts_cons (fun h => absurd h (by decide)) (facts_cons (fun h => absurd h (by decide)) facts_nil))))
                  · intro a w_ K hw hS hd hN hK
                    have s126 := (hd 20 (by kernel_rfl)).at (d := 126) rfl rfl rfl
                    have s132 := (hd 26 (by kernel_rfl)).at (d := 132) rfl rfl rfl
                    rw [if_pos (want_free rfl)]
                    go_simp
                    exact hK _ _ (Below.refl _ _) (vok rfl) (facts_cons (fun h => absurd h (by decide)) (facts_cons (fun h => absurd h (by decide)) (facts_cons (fun h => absurd h (by decide)) (facts_cons (fun h => absurd h (by decide)) facts_nil))))
                case hfin =>
                  intro a w10 hw hS hk
                  have s106 := (hk 0 (by decide)).at (d := 106) rfl rfl rfl
                  have s107 := (hk 1 (by decide)).at (d := 107) rfl rfl rfl
                  have s108 := (hk 2 (by decide)).at (d := 108) rfl rfl rfl
                  have s109 := (hk 3 (by decide)).at (d := 109) rfl rfl rfl
                  have s110 := (hk 4 (by decide)).at (d := 110) rfl rfl rfl
                  obtain ⟨s111, v2, hc2, ho2⟩ := (hk 5 (by decide)).2 _ (List.mem_cons_self ..) rfl
                  have s112 := (hk 6 (by decide)).at (d := 112) rfl rfl rfl
                  have s113 := (hk 7 (by decide)).at (d := 113) rfl rfl rfl
                  have s114 := (hk 8 (by decide)).at (d := 114) rfl rfl rfl
                  have s115 := (hk 9 (by decide)).at (d := 115) rfl rfl rfl
                  have s116 := (hk 10 (by decide)).at (d := 116) rfl rfl rfl
                  obtain ⟨s117, v3, hd3, ho3, hsep⟩ := (hk 11 (by decide)).2 _ (List.mem_cons_of_mem _ (List.mem_cons_self ..)) rfl
                  have s118 := (hk 12 (by decide)).at (d := 118) rfl rfl rfl
                  have s119 := (hk 13 (by decide)).at (d := 119) rfl rfl rfl
                  have s120 := (hk 14 (by decide)).at (d := 120) rfl rfl rfl
                  have s121 := (hk 15 (by decide)).at (d := 121) rfl rfl rfl
                  have s122 := (hk 16 (by decide)).at (d := 122) rfl rfl rfl
                  have s123 := (hk 17 (by decide)).at (d := 123) rfl rfl rfl
                  have s124 := (hk 18 (by decide)).at (d := 124) rfl rfl rfl
                  have s125 := (hk 19 (by decide)).at (d := 125) rfl rfl rfl
                  have s126 := (hk 20 (by decide)).at (d := 126) rfl rfl rfl
                  have s127 := (hk 21 (by decide)).at (d := 127) rfl rfl rfl
                  obtain ⟨u128, s128, t128⟩ := (hk 22 (by decide)).2 _ (List.mem_cons_of_mem _ (List.mem_cons_of_mem _ (List.mem_cons_self ..))) rfl
                  have s129 := (hk 23 (by decide)).at (d := 129) rfl rfl rfl
                  obtain ⟨u130, s130, t130⟩ := (hk 24 (by decide)).2 _ (List.mem_cons_of_mem _ (List.mem_cons_of_mem _ (List.mem_cons_of_mem _ (List.mem_cons_self ..)))) rfl
                  have s131 := (hk 25 (by decide)).at (d := 131) rfl rfl rfl
                  have s132 := (hk 26 (by decide)).at (d := 132) rfl rfl rfl
                  have s133 := (hk 27 (by decide)).at (d := 133) rfl rfl rfl
                  have hlit := hS.lit _ (by kernel_rfl) (lits_cons s106 (lits_cons s107 (lits_cons s108 (lits_cons s109 (lits_cons s110 (lits_cons s111 (lits_cons s112 (lits_cons s113 (lits_cons s114 (lits_cons s115 (lits_cons s116 (lits_cons s117 (lits_cons s118 (lits_cons s119 (lits_cons s120 (lits_cons s121 (lits_cons s122 (lits_cons s123 (lits_cons s124 (lits_cons s125 (lits_cons s126 (lits_cons s127 (lits_cons s128 (lits_cons s129 (lits_cons s130 (lits_cons s131 (lits_cons s132 (lits_cons s133 lits_nil))))))))))))))))))))))))))))
                  rw [hlit]
                  have HC10 : Hid (CR w b d R size TT v2 v3 w10) := ⟨hw.1, hc2, hd3, HC9.out.ord, fun e => by
                      rcases ho2 with ho | ⟨g', ho, h4⟩
                      · exact HC9.out.s1 (ho.symm.trans e)
                      · have e3 : g' = d := Option.some.inj (ho.symm.trans e)
                        omega, fun g e => hsep v2 (hc2.blk.cell 2) g e⟩
                  clear hlit hk hS t128 t130 hw hc2 hd3 ho2 ho3 hsep
                  simp only [litT, List.setIfInBounds_toArray, List.set_cons_succ, List.set_cons_zero]
                  go_wp2_with fail
                  refine ⟨⟨k + 1, R, size, TT, v2, v3, by go_num, by omega, hR60, ?_, HC10.out⟩, ?_⟩
                  · omega
                  · simp [intOf]; omega
              · have h12 : ((k : Int) == (w12 : Int)) = false := by rw [beq_eq_false_iff_ne]; omega
                clear hkw
                have HC8 := hide HI.out
                have hR60 : R0.length ≤ 60 := hR0
                clear HI
                go_wp2_with fail
                have HC9 := hide HC8.out
                clear HC8
                have HFT := hide (few_fit (HFEW.out _ HMEM.out) HOK.out.fr HOK.out.sz)
                have hpi : p.items.length ≤ 60 := HFT.out.2.1
                have HFD := hide HC9.out.far_d
                have HFB := hide HC9.out.far_b
                have HLO := hide HC9.out.low
                have hord := HC9.out.ord
                have hb9 : b < wr.heap.size := HC9.out.cc.blk.lt
                have hd9 : d < wr.heap.size := HC9.out.dd.blk.lt
                have HRB : Hid (rowOr v b < wr.heap.size) := by
                  rcases rowOr_cases v b with h | h
                  · show _ < _; omega
                  · exact (HC9.out.cc.lt _ h).2
                have HRD : Hid (rowOr v' d < wr.heap.size) := by
                  rcases rowOr_cases v' d with h | h
                  · show _ < _; omega
                  · exact (HC9.out.dd.lt _ h).2
                have HAC : Hid (∀ W, Below w.heap.size w W → CliAt b R0 size0 its v W → Calls Tryz.prog 24 #[.pointer (some ⟨b, 0, none⟩), .agg #[.int .i64 p.fr, .int .i64 p.size, .string (bs p.root), .slice Ai p.items.length ci, .slice Ap p.paths.length cp]] W (AcceptR b R0 size0 (accE p R0 size0 its) (accV p R0 size0 its) v W)) := fun W hb hc => Accept_any b R0 size0 its (by omega) v p HFT.out.1 _ _ W (HG.out.to hb) hc (HTI.out.to hb) (HTP.out.to hb) (texts_far HTI.out (by omega)) (fun g e => texts_far HTI.out (by have := (HC9.out.cc.lt g e).1; omega))
                have HRAC : Hid (∀ W, Below w.heap.size w W → RCliAt d R0 size0 its v' W → Calls Tryz.prog 36 #[.pointer (some ⟨d, 0, none⟩), .agg #[.int .i64 p.fr, .int .i64 p.size, .string (bs p.root), .slice Ai p.items.length ci, .slice Ap p.paths.length cp]] W fun e w' => ∃ v2, e = .returned (.int .i64 (accE p R0 size0 its)) ∧ RCliAt d R0 size0 (accV p R0 size0 its) v2 w' ∧ Two d (rowOr v' d) W w' ∧ (v2.ownBlock = v'.ownBlock ∨ ∃ g, v2.ownBlock = some g ∧ W.heap.size ≤ g)) := fun W hb hc => rAccept_any d R0 size0 its (by omega) v' p HFT.out.1 _ _ W hc (HTI.out.to hb) (HTP.out.to hb) (texts_far HTI.out (by omega)) (fun g e => texts_far HTI.out (by have := (HC9.out.dd.lt g e).1; omega))
                unfold AcceptR at HAC
                have htt := accV_top p R0 size0 its
                obtain ⟨TT, hTT⟩ : ∃ TT, accV p R0 size0 its = TT := ⟨_, rfl⟩
                obtain ⟨E, hE⟩ : ∃ E, accE p R0 size0 its = E := ⟨_, rfl⟩
                rw [hTT] at HAC HRAC htt
                rw [hE] at HAC HRAC
                have g1 : (E != E) = false := by simp
                have g2 : ((TT.length : Int) != (TT.length : Int)) = false := by simp
                have g2' : (TT.length != TT.length) = false := by simp
                clear hTT hE
                apply wp_region_lo4 (C := fun W => Below w.heap.size w W ∧ wr.heap.size ≤ W.heap.size) (V := [some _, some _, some _, some _, some _, none, some _, some _, some _, some _, some _, none, some _, some _, some _, some _, some _, some _, some _, some _, some _, some _, none, some _, none, some _, some _, some _]) (Fs := [(5, fun a W => a.tmps[111]? = some (.int .i64 E) ∧ ∃ v2, CliAt b R0 size0 TT v2 W ∧ (v2.ownBlock = v.ownBlock ∨ ∃ g, v2.ownBlock = some g ∧ wr.heap.size ≤ g)), (11, fun a W => a.tmps[117]? = some (.int .i64 E) ∧ ∃ v3, RCliAt d R0 size0 TT v3 W ∧ (v3.ownBlock = v'.ownBlock ∨ ∃ g, v3.ownBlock = some g ∧ wr.heap.size ≤ g) ∧ ∀ u, W.cell? ⟨b, 2, none⟩ = some u → ∀ g, u.ownBlock = some g → v3.ownBlock ≠ some g), (22, fun a W => ∃ u, a.tmps[128]? = some u ∧ TextsAt W u TT), (24, fun a W => ∃ u, a.tmps[130]? = some u ∧ TextsAt W u TT)]) (Ns := [(5, fun (_ : Act) W => CliAt b R0 size0 its v W), (11, fun (_ : Act) W => RCliAt d R0 size0 its v' W ∧ wr.heap.size ≤ W.heap.size ∧ ∃ u, W.cell? ⟨b, 2, none⟩ = some u ∧ ∀ g, u.ownBlock = some g → g < W.heap.size ∧ v'.ownBlock ≠ some g)]) (Rel := fun i a0_ a1_ x x' => if i = 5 then (fun b0 b1 x x' => Two b (rowOr v b) x x' ∧ ∃ u, x'.cell? ⟨b, 2, none⟩ = some u ∧ (u.ownBlock = v.ownBlock ∨ ∃ g, u.ownBlock = some g ∧ x.heap.size ≤ g ∧ g < x'.heap.size)) a0_ a1_ x x' else if i = 11 then (fun b0 b1 x x' => Two d (rowOr v' d) x x') a0_ a1_ x x' else Below x.heap.size x x')
                case hm => kernel_rfl
                case hB => kernel_rfl
                case hCw => exact ⟨HC9.out.bel.drew, Nat.le_refl _⟩
                case hC =>
                  intro i a a' w_ w' hw hr
                  by_cases e5 : i = 5
                  · subst e5
                    have hr' : (fun b0 b1 x x' => Two b (rowOr v b) x x' ∧ ∃ u, x'.cell? ⟨b, 2, none⟩ = some u ∧ (u.ownBlock = v.ownBlock ∨ ∃ g, u.ownBlock = some g ∧ x.heap.size ≤ g ∧ g < x'.heap.size)) a a' w_ w' := hr
                    exact ⟨hw.1.trans (hr'.1.below hw.1.size (by have := HC9.out.ord; omega) HLO.out.1), Nat.le_trans hw.2 hr'.1.size⟩
                  by_cases e11 : i = 11
                  · subst e11
                    have hr' : (fun b0 b1 x x' => Two d (rowOr v' d) x x') a a' w_ w' := hr
                    exact ⟨hw.1.trans (hr'.below hw.1.size (by have := HC9.out.ord; omega) HLO.out.2), Nat.le_trans hw.2 hr'.size⟩
                  have hr' : Below w_.heap.size w_ w' := by simpa [e5, e11] using hr
                  exact ⟨below_to hw.1 (Nat.le_refl _) hr', Nat.le_trans hw.2 hr'.size⟩
                case hst =>
                  refine keeps4_cons (fun i a a' w_ w' hne hwt hs hput hr h => by
                    by_cases e5 : i = 5
                    · exact absurd e5 hne
                    by_cases e11 : i = 11
                    · subst e11
                      have hr' : (fun b0 b1 x x' => Two d (rowOr v' d) x x') a a' w_ w' := hr
                      obtain ⟨h1, v2, h2, h3⟩ := h
                      refine ⟨(hs 111 (by kernel_rfl)).trans h1, v2, h2.far hr' HFD.out.1 HFD.out.2.1 (fun e => ?_) (fun e => ?_), h3⟩
                      · rcases h3 with ho | ⟨g', ho, h4⟩
                        · exact HFD.out.2.2.1 (ho.symm.trans e)
                        · have e3 : g' = d := Option.some.inj (ho.symm.trans e)
                          omega
                      · rcases h3 with ho | ⟨g', ho, h4⟩
                        · exact HFD.out.2.2.2 (ho.symm.trans e)
                        · have e3 : g' = rowOr v' d := Option.some.inj (ho.symm.trans e)
                          have := HRD.out; omega
                    have hr' : Below w_.heap.size w_ w' := by simpa [e5, e11] using hr
                    obtain ⟨h1, v2, h2, h3⟩ := h
                    exact ⟨(hs 111 (by kernel_rfl)).trans h1, v2, h2.to hr', h3⟩) ?_
                  refine keeps4_cons (fun i a a' w_ w' hne hwt hs hput hr h => by
                    by_cases e5 : i = 5
                    · subst e5
                      have hr' : (fun b0 b1 x x' => Two b (rowOr v b) x x' ∧ ∃ u, x'.cell? ⟨b, 2, none⟩ = some u ∧ (u.ownBlock = v.ownBlock ∨ ∃ g, u.ownBlock = some g ∧ x.heap.size ≤ g ∧ g < x'.heap.size)) a a' w_ w' := hr
                      obtain ⟨h1, v3, h2, h3, h4⟩ := h
                      obtain ⟨ht, u, hu, hor⟩ := hr'
                      refine ⟨(hs 117 (by kernel_rfl)).trans h1, v3, h2.far ht HFB.out.1 HFB.out.2.1 (fun e => by have := (h2.lt _ e).1; have := HC9.out.ord; omega) (fun e => ?_), h3, fun u' hu' g e e2 => ?_⟩
                      · rcases h3 with ho | ⟨g', ho, h5⟩
                        · exact HFB.out.2.2.2 (ho.symm.trans e)
                        · have e3 : g' = rowOr v b := Option.some.inj (ho.symm.trans e)
                          have := HRB.out; omega
                      · obtain rfl : u = u' := Option.some.inj (hu.symm.trans hu')
                        rcases hor with ho | ⟨g', ho, h5, h6⟩
                        · have e4 := ho.symm.trans e
                          rcases h3 with ho3 | ⟨g3, ho3, h7⟩
                          · exact HC9.out.s2 g e4 (ho3.symm.trans e2)
                          · have e5 : g3 = g := Option.some.inj (ho3.symm.trans e2)
                            have := (HC9.out.cc.lt g e4).2
                            omega
                        · have e3 : g' = g := Option.some.inj (ho.symm.trans e)
                          have := (h2.lt g e2).2
                          omega
                    by_cases e11 : i = 11
                    · exact absurd e11 hne
                    have hr' : Below w_.heap.size w_ w' := by simpa [e5, e11] using hr
                    obtain ⟨h1, v3, h2, h3, h4⟩ := h
                    exact ⟨(hs 117 (by kernel_rfl)).trans h1, v3, h2.to hr', h3, fun u hu => h4 u ((hr'.cell (p := ⟨b, 2, none⟩) (by show b < _; have := h2.blk.lt; omega)).symm.trans hu)⟩) ?_
                  refine keeps4_cons (fun i a a' w_ w' hne hwt hs hput hr h => by
                    by_cases e5 : i = 5
                    · subst e5
                      exact absurd (hwt.symm.trans (show waitsT .any _ _ 22 5 = true by kernel_rfl)) (by decide)
                    by_cases e11 : i = 11
                    · subst e11
                      exact absurd (hwt.symm.trans (show waitsT .any _ _ 22 11 = true by kernel_rfl)) (by decide)
                    have hr' : Below w_.heap.size w_ w' := by simpa [e5, e11] using hr
                    obtain ⟨u, h1, h2⟩ := h
                    exact ⟨u, (hs 128 (by kernel_rfl)).trans h1, h2.to hr'⟩) ?_
                  refine keeps4_cons (fun i a a' w_ w' hne hwt hs hput hr h => by
                    by_cases e5 : i = 5
                    · subst e5
                      exact absurd (hwt.symm.trans (show waitsT .any _ _ 24 5 = true by kernel_rfl)) (by decide)
                    by_cases e11 : i = 11
                    · subst e11
                      exact absurd (hwt.symm.trans (show waitsT .any _ _ 24 11 = true by kernel_rfl)) (by decide)
                    have hr' : Below w_.heap.size w_ w' := by simpa [e5, e11] using hr
                    obtain ⟨u, h1, h2⟩ := h
                    exact ⟨u, (hs 130 (by kernel_rfl)).trans h1, h2.to hr'⟩) ?_
                  exact keeps4_nil
                case hN0 => exact pre0_cons (⟨HC9.out.cc.blk, HC9.out.cc.own⟩) (pre0_cons (⟨⟨HC9.out.dd.blk, HC9.out.dd.own⟩, Nat.le_refl _, v, HC9.out.cc.blk.cell 2, fun g e => ⟨(HC9.out.cc.lt g e).2, HC9.out.s2 g e⟩⟩) (pre0_nil))
                case hNst =>
                  refine prek_cons3 (fun i a a' w_ w' hne hwt hr h hput => by
                    by_cases e5 : i = 5
                    · exact absurd e5 hne
                    by_cases e11 : i = 11
                    · subst e11
                      have hr' : (fun b0 b1 x x' => Two d (rowOr v' d) x x') a a' w_ w' := hr
                      exact h.far hr' HFD.out.1 HFD.out.2.1 HFD.out.2.2.1 HFD.out.2.2.2
                    have hr' : Below w_.heap.size w_ w' := by simpa [e5, e11] using hr
                    exact h.to hr') ?_
                  refine prek_cons3 (fun i a a' w_ w' hne hwt hr h hput => by
                    by_cases e5 : i = 5
                    · subst e5
                      have hr' : (fun b0 b1 x x' => Two b (rowOr v b) x x' ∧ ∃ u, x'.cell? ⟨b, 2, none⟩ = some u ∧ (u.ownBlock = v.ownBlock ∨ ∃ g, u.ownBlock = some g ∧ x.heap.size ≤ g ∧ g < x'.heap.size)) a a' w_ w' := hr
                      obtain ⟨h1, hsw, u0, h2, h3⟩ := h
                      obtain ⟨ht, u, hu, hor⟩ := hr'
                      refine ⟨h1.far ht HFB.out.1 HFB.out.2.1 HFB.out.2.2.1 HFB.out.2.2.2, Nat.le_trans hsw ht.size, u, hu, fun g e => ?_⟩
                      rcases hor with ho | ⟨g', ho, h4, h5⟩
                      · have := (HC9.out.cc.lt g (ho.symm.trans e)).2
                        have hts := ht.size
                        exact ⟨by omega, HC9.out.s2 g (ho.symm.trans e)⟩
                      · have e3 : g' = g := Option.some.inj (ho.symm.trans e)
                        exact ⟨by omega, fun e2 => by have := (HC9.out.dd.lt g e2).2; omega⟩
                    by_cases e11 : i = 11
                    · exact absurd e11 hne
                    have hr' : Below w_.heap.size w_ w' := by simpa [e5, e11] using hr
                    obtain ⟨h1, hsw, u, h2, h3⟩ := h
                    exact ⟨h1.to hr', Nat.le_trans hsw hr'.size, u, (hr'.cell (p := ⟨b, 2, none⟩) (by show b < _; omega)).trans h2, fun g e => ⟨Nat.lt_of_lt_of_le (h3 g e).1 hr'.size, (h3 g e).2⟩⟩) ?_
                  exact prek_nil3
                case hop =>
                  refine ⟨?_, ?_, ?_, ?_, ?_, ?_, ?_, ?_, ?_, ?_, ?_, ?_, ?_, ?_, ?_, ?_, ?_, ?_, ?_, ?_, ?_, ?_, ?_, ?_, ?_, ?_, ?_, ?_, trivial⟩
                  · intro a w_ K hw hS hd hN hK
                    have s17 := hS.at 17 (by kernel_rfl) rfl
                    rw [if_pos (want_free rfl)]
                    go_simp
                    exact hK _ _ (Below.refl _ _) (vok rfl) (facts_cons (fun h => absurd h (by decide)) (facts_cons (fun h => absurd h (by decide)) (facts_cons (fun h => absurd h (by decide)) (facts_cons (fun h => absurd h (by decide)) facts_nil))))
                  · intro a w_ K hw hS hd hN hK
                    have s2 := hS.at 2 (by kernel_rfl) rfl
                    rw [if_pos (want_free rfl)]
                    go_simp
                    exact hK _ _ (Below.refl _ _) (vok rfl) (facts_cons (fun h => absurd h (by decide)) (facts_cons (fun h => absurd h (by decide)) (facts_cons (fun h => absurd h (by decide)) (facts_cons (fun h => absurd h (by decide)) facts_nil))))
                  · intro a w_ K hw hS hd hN hK
                    have s21 := hS.at 21 (by kernel_rfl) rfl
                    rw [if_pos (want_free rfl)]
                    go_simp
                    exact hK _ _ (Below.refl _ _) (vok rfl) (facts_cons (fun h => absurd h (by decide)) (facts_cons (fun h => absurd h (by decide)) (facts_cons (fun h => absurd h (by decide)) (facts_cons (fun h => absurd h (by decide)) facts_nil))))
                  · intro a w_ K hw hS hd hN hK
                    have s107 := (hd 1 (by kernel_rfl)).at (d := 107) rfl rfl rfl
                    have s108 := (hd 2 (by kernel_rfl)).at (d := 108) rfl rfl rfl
                    rw [if_pos (want_free rfl)]
                    go_simp
                    exact hK _ _ (Below.refl _ _) (vok rfl) (facts_cons (fun h => absurd h (by decide)) (facts_cons (fun h => absurd h (by decide)) (facts_cons (fun h => absurd h (by decide)) (facts_cons (fun h => absurd h (by decide)) facts_nil))))
                  · intro a w_ K hw hS hd hN hK
                    have s109 := (hd 3 (by kernel_rfl)).at (d := 109) rfl rfl rfl
                    rw [if_pos (want_free rfl)]
                    obtain ⟨y0, y1, y2, y3, y4⟩ := HPC.out w_ hw.1
                    go_simp
                    exact hK _ _ (Below.refl _ _) (vok rfl) (facts_cons (fun h => absurd h (by decide)) (facts_cons (fun h => absurd h (by decide)) (facts_cons (fun h => absurd h (by decide)) (facts_cons (fun h => absurd h (by decide)) facts_nil))))
                  · intro a w_ K hw hS hd hN hK
                    have s106 := (hd 0 (by kernel_rfl)).at (d := 106) rfl rfl rfl
                    have s110 := (hd 4 (by kernel_rfl)).at (d := 110) rfl rfl rfl
                    have hPc := hN _ (List.mem_cons_self ..) rfl
                    rw [if_pos (want_free rfl)]
                    go_simp
                    have CA := HAC.out w_ hw.1 hPc
                    with_reducible refine CA.mono ?_
                    rintro e w' ⟨v2, rfl, hc2, ht2, ho2⟩
                    have hss := hw.2
                    exact hK _ _ ⟨ht2, v2, hc2.blk.cell 2, ho2.imp id fun ⟨g, e, hg⟩ => ⟨g, e, hg, (hc2.lt g e).2⟩⟩ (vfree rfl) (facts_cons (fun _ => ⟨hS.put_at (by kernel_rfl) _, v2, hc2, ho2.imp id fun ⟨g, e, hg⟩ => ⟨g, e, by omega⟩⟩) (facts_cons (fun h => absurd h (by decide)) (facts_cons (fun h => absurd h (by decide)) (facts_cons (fun h => absurd h (by decide)) facts_nil))))
                  · intro a w_ K hw hS hd hN hK
                    have s19 := hS.at 19 (by kernel_rfl) rfl
                    rw [if_pos (want_free rfl)]
                    go_simp
                    exact hK _ _ (Below.refl _ _) (vok rfl) (facts_cons (fun h => absurd h (by decide)) (facts_cons (fun h => absurd h (by decide)) (facts_cons (fun h => absurd h (by decide)) (facts_cons (fun h => absurd h (by decide)) facts_nil))))
                  · intro a w_ K hw hS hd hN hK
                    have s2 := hS.at 2 (by kernel_rfl) rfl
                    rw [if_pos (want_free rfl)]
                    go_simp
                    exact hK _ _ (Below.refl _ _) (vok rfl) (facts_cons (fun h => absurd h (by decide)) (facts_cons (fun h => absurd h (by decide)) (facts_cons (fun h => absurd h (by decide)) (facts_cons (fun h => absurd h (by decide)) facts_nil))))
                  · intro a w_ K hw hS hd hN hK
                    have s21 := hS.at 21 (by kernel_rfl) rfl
                    rw [if_pos (want_free rfl)]
                    go_simp
                    exact hK _ _ (Below.refl _ _) (vok rfl) (facts_cons (fun h => absurd h (by decide)) (facts_cons (fun h => absurd h (by decide)) (facts_cons (fun h => absurd h (by decide)) (facts_cons (fun h => absurd h (by decide)) facts_nil))))
                  · intro a w_ K hw hS hd hN hK
                    have s113 := (hd 7 (by kernel_rfl)).at (d := 113) rfl rfl rfl
                    have s114 := (hd 8 (by kernel_rfl)).at (d := 114) rfl rfl rfl
                    rw [if_pos (want_free rfl)]
                    go_simp
                    exact hK _ _ (Below.refl _ _) (vok rfl) (facts_cons (fun h => absurd h (by decide)) (facts_cons (fun h => absurd h (by decide)) (facts_cons (fun h => absurd h (by decide)) (facts_cons (fun h => absurd h (by decide)) facts_nil))))
                  · intro a w_ K hw hS hd hN hK
                    have s115 := (hd 9 (by kernel_rfl)).at (d := 115) rfl rfl rfl
                    rw [if_pos (want_free rfl)]
                    obtain ⟨y0, y1, y2, y3, y4⟩ := HPC.out w_ hw.1
                    go_simp
                    exact hK _ _ (Below.refl _ _) (vok rfl) (facts_cons (fun h => absurd h (by decide)) (facts_cons (fun h => absurd h (by decide)) (facts_cons (fun h => absurd h (by decide)) (facts_cons (fun h => absurd h (by decide)) facts_nil))))
                  · intro a w_ K hw hS hd hN hK
                    have s112 := (hd 6 (by kernel_rfl)).at (d := 112) rfl rfl rfl
                    have s116 := (hd 10 (by kernel_rfl)).at (d := 116) rfl rfl rfl
                    obtain ⟨hPd, _, ub, hub, hus⟩ := hN _ (List.mem_cons_of_mem _ (List.mem_cons_self ..)) rfl
                    rw [if_pos (want_free rfl)]
                    go_simp
                    have CA := HRAC.out w_ hw.1 hPd
                    with_reducible refine CA.mono ?_
                    rintro e w' ⟨v3, rfl, hd3, ht3, ho3⟩
                    have hss := hw.2
                    refine hK _ _ ht3 (vfree rfl) (facts_cons (fun h => absurd h (by decide)) (facts_cons (fun _ => ⟨hS.put_at (by kernel_rfl) _, v3, hd3, ho3.imp id fun ⟨g, e, hg⟩ => ⟨g, e, by omega⟩, fun u hu g e e2 => ?_⟩) (facts_cons (fun h => absurd h (by decide)) (facts_cons (fun h => absurd h (by decide)) facts_nil))))
                    have hu2 : w_.cell? ⟨b, 2, none⟩ = some u := by
                      have hc := ht3.block b (by omega) HFD.out.1 HFD.out.2.1
                      rw [← hu]
                      unfold World.cell?
                      simp only [hc]
                    obtain rfl : ub = u := Option.some.inj (hub.symm.trans hu2)
                    rcases ho3 with ho | ⟨g', ho, hg'⟩
                    · exact (hus g e).2 (ho.symm.trans e2)
                    · have e5 : g' = g := Option.some.inj (ho.symm.trans e2)
                      have := (hus g e).1
                      omega
                  · intro a w_ K hw hS hd hN hK
                    obtain ⟨s111, v2, hc2, ho2⟩ := (hd 5 (by kernel_rfl)).2 _ (List.mem_cons_self ..) rfl
                    obtain ⟨s117, v3, hd3, ho3, hsep⟩ := (hd 11 (by kernel_rfl)).2 _ (List.mem_cons_of_mem _ (List.mem_cons_self ..)) rfl
                    rw [if_pos (want_free rfl)]
                    go_simp
                    exact hK _ _ (Below.refl _ _) (vok rfl) (facts_cons (fun h => absurd h (by decide)) (facts_cons (fun h => absurd h (by decide)) (facts_cons (fun h => absurd h (by decide)) (facts_cons (fun h => absurd h (by decide)) facts_nil))))
                  · intro a w_ K hw hS hd hN hK
                    have s118 := (hd 12 (by kernel_rfl)).at (d := 118) rfl rfl rfl
                    rw [if_pos (want_free rfl)]
                    go_simp
                    exact hK _ _ (Below.refl _ _) (vok rfl) (facts_cons (fun h => absurd h (by decide)) (facts_cons (fun h => absurd h (by decide)) (facts_cons (fun h => absurd h (by decide)) (facts_cons (fun h => absurd h (by decide)) facts_nil))))
                  · intro a w_ K hw hS hd hN hK
                    have s119 := (hd 13 (by kernel_rfl)).at (d := 119) rfl rfl rfl
                    have s17 := hS.at 17 (by kernel_rfl) rfl
                    rw [if_pos (want_yes rfl rfl rfl s119)]
                    go_simp
                    exact hK _ _ (Below.refl _ _) (vok rfl) (facts_cons (fun h => absurd h (by decide)) (facts_cons (fun h => absurd h (by decide)) (facts_cons (fun h => absurd h (by decide)) (facts_cons (fun h => absurd h (by decide)) facts_nil))))
                  · intro a w_ K hw hS hd hN hK
                    have s119 := (hd 13 (by kernel_rfl)).at (d := 119) rfl rfl rfl
                    have s120 := (hd 14 (by kernel_rfl)).at (d := 120) rfl rfl rfl
                    rw [if_pos (want_yes rfl rfl rfl s119)]
                    obtain ⟨_, v2, hc2, _⟩ := (hd 5 (by kernel_rfl)).2 _ (List.mem_cons_self ..) rfl
                    go_simp
                    with_reducible refine (nextB b R0 size0 TT (by omega) v2 w_ hc2).mono ?_
                    rintro e w' ⟨rfl, hb⟩
                    exact hK _ _ hb (vok rfl) (facts_cons (fun h => absurd h (by decide)) (facts_cons (fun h => absurd h (by decide)) (facts_cons (fun h => absurd h (by decide)) (facts_cons (fun h => absurd h (by decide)) facts_nil))))
                  · intro a w_ K hw hS hd hN hK
                    have s119 := (hd 13 (by kernel_rfl)).at (d := 119) rfl rfl rfl
                    have s19 := hS.at 19 (by kernel_rfl) rfl
                    rw [if_pos (want_yes rfl rfl rfl s119)]
                    go_simp
                    exact hK _ _ (Below.refl _ _) (vok rfl) (facts_cons (fun h => absurd h (by decide)) (facts_cons (fun h => absurd h (by decide)) (facts_cons (fun h => absurd h (by decide)) (facts_cons (fun h => absurd h (by decide)) facts_nil))))
                  · intro a w_ K hw hS hd hN hK
                    have s119 := (hd 13 (by kernel_rfl)).at (d := 119) rfl rfl rfl
                    have s122 := (hd 16 (by kernel_rfl)).at (d := 122) rfl rfl rfl
                    rw [if_pos (want_yes rfl rfl rfl s119)]
                    obtain ⟨_, v3, hd3, _, _⟩ := (hd 11 (by kernel_rfl)).2 _ (List.mem_cons_of_mem _ (List.mem_cons_self ..)) rfl
                    go_simp
                    with_reducible refine (rNextB d R0 size0 TT v3 w_ hd3).mono ?_
                    rintro e w' ⟨rfl, hb⟩
                    exact hK _ _ hb (vok rfl) (facts_cons (fun h => absurd h (by decide)) (facts_cons (fun h => absurd h (by decide)) (facts_cons (fun h => absurd h (by decide)) (facts_cons (fun h => absurd h (by decide)) facts_nil))))
                  · intro a w_ K hw hS hd hN hK
                    have s119 := (hd 13 (by kernel_rfl)).at (d := 119) rfl rfl rfl
                    have s121 := (hd 15 (by kernel_rfl)).at (d := 121) rfl rfl rfl
                    have s123 := (hd 17 (by kernel_rfl)).at (d := 123) rfl rfl rfl
                    rw [if_pos (want_yes rfl rfl rfl s119)]
                    go_simp
                    exact hK _ _ (Below.refl _ _) (vok rfl) (facts_cons (fun h => absurd h (by decide)) (facts_cons (fun h => absurd h (by decide)) (facts_cons (fun h => absurd h (by decide)) (facts_cons (fun h => absurd h (by decide)) facts_nil))))
                  · intro a w_ K hw hS hd hN hK
                    have s119 := (hd 13 (by kernel_rfl)).at (d := 119) rfl rfl rfl
                    have s124 := (hd 18 (by kernel_rfl)).at (d := 124) rfl rfl rfl
                    rw [if_pos (want_free rfl)]
                    go_simp
                    exact hK _ _ (Below.refl _ _) (vok rfl) (facts_cons (fun h => absurd h (by decide)) (facts_cons (fun h => absurd h (by decide)) (facts_cons (fun h => absurd h (by decide)) (facts_cons (fun h => absurd h (by decide)) facts_nil))))
                  · intro a w_ K hw hS hd hN hK
                    have s125 := (hd 19 (by kernel_rfl)).at (d := 125) rfl rfl rfl
                    rw [if_pos (want_free rfl)]
                    go_simp
                    exact hK _ _ (Below.refl _ _) (vok rfl) (facts_cons (fun h => absurd h (by decide)) (facts_cons (fun h => absurd h (by decide)) (facts_cons (fun h => absurd h (by decide)) (facts_cons (fun h => absurd h (by decide)) facts_nil))))
                  · intro a w_ K hw hS hd hN hK
                    have s126 := (hd 20 (by kernel_rfl)).at (d := 126) rfl rfl rfl
                    have s17 := hS.at 17 (by kernel_rfl) rfl
                    rw [if_pos (want_yes rfl rfl rfl s126)]
                    go_simp
                    exact hK _ _ (Below.refl _ _) (vok rfl) (facts_cons (fun h => absurd h (by decide)) (facts_cons (fun h => absurd h (by decide)) (facts_cons (fun h => absurd h (by decide)) (facts_cons (fun h => absurd h (by decide)) facts_nil))))
                  · intro a w_ K hw hS hd hN hK
                    have s126 := (hd 20 (by kernel_rfl)).at (d := 126) rfl rfl rfl
                    have s127 := (hd 21 (by kernel_rfl)).at (d := 127) rfl rfl rfl
                    rw [if_pos (want_yes rfl rfl rfl s126)]
                    obtain ⟨_, v2, hc2, _⟩ := (hd 5 (by kernel_rfl)).2 _ (List.mem_cons_self ..) rfl
                    go_simp
                    have CA := itemsB b R0 size0 TT (by omega) v2 w_ hc2
                    with_reducible refine CA.mono ?_
                    rintro e w' ⟨u, rfl, ho, hb⟩
                    exact hK _ _ hb (vfree rfl) (facts_cons (fun h => absurd h (by decide)) (facts_cons (fun h => absurd h (by decide)) (facts_cons (fun _ => ⟨u, hS.put_at (by kernel_rfl) _, ho⟩) (facts_cons (fun h => absurd h (by decide)) facts_nil))))
                  · intro a w_ K hw hS hd hN hK
                    have s126 := (hd 20 (by kernel_rfl)).at (d := 126) rfl rfl rfl
                    have s19 := hS.at 19 (by kernel_rfl) rfl
                    rw [if_pos (want_yes rfl rfl rfl s126)]
                    go_simp
                    exact hK _ _ (Below.refl _ _) (vok rfl) (facts_cons (fun h => absurd h (by decide)) (facts_cons (fun h => absurd h (by decide)) (facts_cons (fun h => absurd h (by decide)) (facts_cons (fun h => absurd h (by decide)) facts_nil))))
                  · intro a w_ K hw hS hd hN hK
                    have s126 := (hd 20 (by kernel_rfl)).at (d := 126) rfl rfl rfl
                    have s129 := (hd 23 (by kernel_rfl)).at (d := 129) rfl rfl rfl
                    rw [if_pos (want_yes rfl rfl rfl s126)]
                    obtain ⟨_, v3, hd3, _, _⟩ := (hd 11 (by kernel_rfl)).2 _ (List.mem_cons_of_mem _ (List.mem_cons_self ..)) rfl
                    go_simp
                    have CA := rItemsB d R0 size0 TT (by omega) v3 w_ hd3
                    with_reducible refine CA.mono ?_
                    rintro e w' ⟨u, rfl, ho, hb⟩
                    exact hK _ _ hb (vfree rfl) (facts_cons (fun h => absurd h (by decide)) (facts_cons (fun h => absurd h (by decide)) (facts_cons (fun h => absurd h (by decide)) (facts_cons (fun _ => ⟨u, hS.put_at (by kernel_rfl) _, ho⟩) facts_nil))))
                  · intro a w_ K hw hS hd hN hK
                    have s126 := (hd 20 (by kernel_rfl)).at (d := 126) rfl rfl rfl
                    obtain ⟨u128, s128, t128⟩ := (hd 22 (by kernel_rfl)).2 _ (List.mem_cons_of_mem _ (List.mem_cons_of_mem _ (List.mem_cons_self ..))) rfl
                    obtain ⟨u130, s130, t130⟩ := (hd 24 (by kernel_rfl)).2 _ (List.mem_cons_of_mem _ (List.mem_cons_of_mem _ (List.mem_cons_of_mem _ (List.mem_cons_self ..)))) rfl
                    rw [if_pos (want_yes rfl rfl rfl s126)]
                    go_simp
                    with_reducible refine (sameLL (by omega) t128 t130).mono ?_
                    rintro e w' ⟨rfl, hb⟩
                    exact hK _ _ hb (vok rfl) (facts_cons (fun h => absurd h (by decide)) (facts_cons (fun h => absurd h (by decide)) (facts_cons (fun h => absurd h (by decide)) (facts_cons (fun h => absurd h (by decide)) facts_nil))))
                  · intro a w_ K hw hS hd hN hK
                    have s126 := (hd 20 (by kernel_rfl)).at (d := 126) rfl rfl rfl
                    have s131 := (hd 25 (by kernel_rfl)).at (d := 131) rfl rfl rfl
                    rw [if_pos (want_yes rfl rfl rfl s126)]
                    go_simp
                    exact hK _ _ (Below.refl _ _) (vok rfl) (facts_cons (fun h => absurd h (by decide)) (facts_cons (fun h => absurd h (by decide)) (facts_cons (fun h => absurd h (by decide)) (facts_cons (fun h => absurd h (by decide)) facts_nil))))
                  · intro a w_ K hw hS hd hN hK
                    have s126 := (hd 20 (by kernel_rfl)).at (d := 126) rfl rfl rfl
                    have s132 := (hd 26 (by kernel_rfl)).at (d := 132) rfl rfl rfl
                    rw [if_pos (want_free rfl)]
                    go_simp
                    exact hK _ _ (Below.refl _ _) (vok rfl) (facts_cons (fun h => absurd h (by decide)) (facts_cons (fun h => absurd h (by decide)) (facts_cons (fun h => absurd h (by decide)) (facts_cons (fun h => absurd h (by decide)) facts_nil))))
                case hfin =>
                  intro a w10 hw hS hk
                  have s106 := (hk 0 (by decide)).at (d := 106) rfl rfl rfl
                  have s107 := (hk 1 (by decide)).at (d := 107) rfl rfl rfl
                  have s108 := (hk 2 (by decide)).at (d := 108) rfl rfl rfl
                  have s109 := (hk 3 (by decide)).at (d := 109) rfl rfl rfl
                  have s110 := (hk 4 (by decide)).at (d := 110) rfl rfl rfl
                  obtain ⟨s111, v2, hc2, ho2⟩ := (hk 5 (by decide)).2 _ (List.mem_cons_self ..) rfl
                  have s112 := (hk 6 (by decide)).at (d := 112) rfl rfl rfl
                  have s113 := (hk 7 (by decide)).at (d := 113) rfl rfl rfl
                  have s114 := (hk 8 (by decide)).at (d := 114) rfl rfl rfl
                  have s115 := (hk 9 (by decide)).at (d := 115) rfl rfl rfl
                  have s116 := (hk 10 (by decide)).at (d := 116) rfl rfl rfl
                  obtain ⟨s117, v3, hd3, ho3, hsep⟩ := (hk 11 (by decide)).2 _ (List.mem_cons_of_mem _ (List.mem_cons_self ..)) rfl
                  have s118 := (hk 12 (by decide)).at (d := 118) rfl rfl rfl
                  have s119 := (hk 13 (by decide)).at (d := 119) rfl rfl rfl
                  have s120 := (hk 14 (by decide)).at (d := 120) rfl rfl rfl
                  have s121 := (hk 15 (by decide)).at (d := 121) rfl rfl rfl
                  have s122 := (hk 16 (by decide)).at (d := 122) rfl rfl rfl
                  have s123 := (hk 17 (by decide)).at (d := 123) rfl rfl rfl
                  have s124 := (hk 18 (by decide)).at (d := 124) rfl rfl rfl
                  have s125 := (hk 19 (by decide)).at (d := 125) rfl rfl rfl
                  have s126 := (hk 20 (by decide)).at (d := 126) rfl rfl rfl
                  have s127 := (hk 21 (by decide)).at (d := 127) rfl rfl rfl
                  obtain ⟨u128, s128, t128⟩ := (hk 22 (by decide)).2 _ (List.mem_cons_of_mem _ (List.mem_cons_of_mem _ (List.mem_cons_self ..))) rfl
                  have s129 := (hk 23 (by decide)).at (d := 129) rfl rfl rfl
                  obtain ⟨u130, s130, t130⟩ := (hk 24 (by decide)).2 _ (List.mem_cons_of_mem _ (List.mem_cons_of_mem _ (List.mem_cons_of_mem _ (List.mem_cons_self ..)))) rfl
                  have s131 := (hk 25 (by decide)).at (d := 131) rfl rfl rfl
                  have s132 := (hk 26 (by decide)).at (d := 132) rfl rfl rfl
                  have s133 := (hk 27 (by decide)).at (d := 133) rfl rfl rfl
                  have hlit := hS.lit _ (by kernel_rfl) (lits_cons s106 (lits_cons s107 (lits_cons s108 (lits_cons s109 (lits_cons s110 (lits_cons s111 (lits_cons s112 (lits_cons s113 (lits_cons s114 (lits_cons s115 (lits_cons s116 (lits_cons s117 (lits_cons s118 (lits_cons s119 (lits_cons s120 (lits_cons s121 (lits_cons s122 (lits_cons s123 (lits_cons s124 (lits_cons s125 (lits_cons s126 (lits_cons s127 (lits_cons s128 (lits_cons s129 (lits_cons s130 (lits_cons s131 (lits_cons s132 (lits_cons s133 lits_nil))))))))))))))))))))))))))))
                  rw [hlit]
                  have HC10 : Hid (CR w b d R0 size0 TT v2 v3 w10) := ⟨hw.1, hc2, hd3, HC9.out.ord, fun e => by
                      rcases ho2 with ho | ⟨g', ho, h4⟩
                      · exact HC9.out.s1 (ho.symm.trans e)
                      · have e3 : g' = d := Option.some.inj (ho.symm.trans e)
                        omega, fun g e => hsep v2 (hc2.blk.cell 2) g e⟩
                  clear hlit hk hS t128 t130 hw hc2 hd3 ho2 ho3 hsep
                  simp only [litT, List.setIfInBounds_toArray, List.set_cons_succ, List.set_cons_zero]
                  go_wp2_with fail
                  refine ⟨⟨k + 1, R0, size0, TT, v2, v3, by go_num, by omega, hR60, ?_, HC10.out⟩, ?_⟩
                  · omega
                  · simp [intOf]; omega
            · obtain rfl : k = l.length := by omega
              have e1 : decide ((l.length : Int) < (l.length : Int)) = false := by simp
              have e1' : decide (l.length < l.length) = false := by simp
              have CG := Grow_any b R0 size0 its v next more link (by omega) (by omega) (by omega) (fun x hx => by have := hlkx x hx; omega) (.slice Ak link.length ck) wr (HG.out.to HI.out.bel) HI.out.cc (HVK.out.to HI.out.bel)
              unfold GrowR cliP at CG
              have CRG := fun (W : World) (h : RCliAt d R0 size0 its v' W) (hb : Below w.heap.size w W) => rGrow_any d R0 size0 its v' next more link (by omega) (by omega) (by omega) (fun x hx => by have := hlkx x hx; omega) (.slice Ak link.length ck) W h (HVK.out.to hb)
              unfold RGrowR cliP at CRG
              obtain ⟨GE, hGE⟩ : ∃ GE, growE R0 size0 next more link = GE := ⟨_, rfl⟩
              have HGE := hide hGE
              rw [hGE] at CG
              have g0 : (GE == GE) = true := by simp
              clear hGE
              go_wp2_with fail
              with_reducible refine CG.mono ?_
              rintro e w7 ⟨rfl, h1, t1⟩
              have hord := HI.out.ord
              have CRG := CRG w7 (HI.out.mid t1) (HI.out.bel.trans (t1.below HI.out.bel.size (by omega) (by omega)))
              rw [HGE.out] at CRG
              go_wp2_with fail
              with_reducible refine CRG.mono ?_
              rintro e w8 ⟨rfl, h2, t2⟩
              have HF := hide ((HI.out.bel.trans (t1.below HI.out.bel.size (by omega) (by omega))).trans (t2.below (Nat.le_trans HI.out.bel.size t1.size) (by omega) (by omega)))
              clear CG CRG h1 h2 t1 t2 HI HGE
              go_wp2_with fail
              go_ret
              exact ⟨rfl, HF.out⟩
  · have hh : (decide (60 < first.length) || (decide (60 < next.length) || (decide (12 < l.length) || (decide (30 < link.length) || !fewT link 60)))) = true := by
      cases hf5 : fewT link 60 with
      | false => simp
      | true =>
        simp only [Bool.or_eq_true, decide_eq_true_eq]
        apply Classical.byContradiction
        intro hn
        apply hall
        refine ⟨?_, ?_, ?_, ?_, hf5⟩ <;> omega
    clear hall
    obtain ⟨b5, e5⟩ : ∃ b, fewT link 60 = !b := ⟨!fewT link 60, by simp⟩
    rw [e5] at CF hh
    rw [Bool.not_not] at hh
    clear e5
    have q1 : decide ((60 : Int) < (first.length : Int)) = decide (60 < first.length) := decide_eq_decide.2 (by omega)
    have q2 : decide ((60 : Int) < (next.length : Int)) = decide (60 < next.length) := decide_eq_decide.2 (by omega)
    have q3 : decide ((12 : Int) < (l.length : Int)) = decide (12 < l.length) := decide_eq_decide.2 (by omega)
    have q4 : decide ((30 : Int) < (link.length : Int)) = decide (30 < link.length) := decide_eq_decide.2 (by omega)
    generalize c1 : decide (60 < first.length) = b1 at *
    generalize c2 : decide (60 < next.length) = b2 at *
    generalize c3 : decide (12 < l.length) = b3 at *
    generalize c4 : decide (30 < link.length) = b4 at *
    cases b1
    cases b2
    cases b3
    cases b4
    cases b5
    · cases hh
    all_goals
      go_enter Tryz.func8, Tryz.ntmps8
      go_wp2_with fail
      refine C1.mono ?_
      rintro e w2 ⟨rfl, hb⟩
      have HB2 := hide hb
      have CF : Calls Tryz.prog 32 #[.slice Ak link.length ck, .int .i64 60] w2 _ := CF w2 hb
      clear hb C1
      go_wp2_with ((with_reducible refine CF.mono ?_); rintro e w3 ⟨rfl, e9⟩; have e9 := e9.symm; subst e9)
      go_ret
      exact ⟨rfl, HB2.out⟩
end Go.Proofs.YtfhanbiifjiklaaGreatDoor
