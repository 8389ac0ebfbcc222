/- Several texts as one, in build order. -/
import Derived.Test.YtnjlefggkfagmaaGreatDoorMD
import Derived.Recover
import Derived.Defers
import Derived.Laws.Pointers
import Derived.Test.YtnjlefggkfagmaaGreatDoorMA
import Derived.Test.YtnjlefggkfagmaaGreatDoorMB
import Derived.Lib.AppendStr
import Derived.OwnWalk
/- Walks of the journal: Append. -/
set_option linter.unusedVariables false
set_option linter.unusedSimpArgs false
namespace Go.Proofs.YtnjlefggkfagmaaGreatDoor
open Go.RowKit Go.Shelf
attribute [local go_sem] Oper.semAt_some

set_option maxRecDepth 100000 in
set_option maxHeartbeats 4000000 in
theorem Append_any (jb b sb ab N c : Nat) (rs news : List (List UInt8)) (vr : Value) (d : Dk) (hon : d.off = false) (hq : d.q = []) (hN : d.ss.length = N) (hn1 : news ≠ []) (hn2 : news.length ≤ 1000) (hx : ∀ x ∈ news, x.length ≤ 20000) (hjl : (joinD news).length ≤ 100000)
    (hfit : 2 + c + (splitV (joinD news)).length ≤ N) (v : Value) (w : World) (hg : Glob w) (hgs : Tryz.prog.globals.size ≤ sb) (hgj : Tryz.prog.globals.size ≤ jb) (hj : JAt jb b N c rs false vr w) (hd : DkAt b sb ab (.slice none 0 0) d w) (hv : TextsAt w v news)
    (s1 : ¬ DB b sb ab jb) (s2 : ∀ g, vr.ownBlock = some g → ¬ DB b sb ab g) (s3 : ∀ g, v.ownBlock = some g → ¬ DB b sb ab g ∧ g ≠ jb ∧ vr.ownBlock ≠ some g) (hrl : rs.length ≤ 1000) (hab : ab < w.heap.size) :
    Calls Tryz.prog 18 #[.pointer (some ⟨jb, 0, none⟩), v] w (AppR jb b sb ab N c rs news vr (wrSteps d (stepsV c (splitV (joinD news)))) w) := by
  have hmf : ∀ (fn : Fn) (first cap : Array Value) (w : World), (Instr.makeFunc fn first cap).run Tryz.prog w = .ok (.func fn first cap) w := fun _ _ _ _ => rfl
  have hN4 := hd.few.1
  rw [hN] at hN4
  have HG := hide hg
  have HJ := hide hj
  have HD := hide hd
  have HV := hide hv
  have HS1 := hide s1
  have HS2 := hide s2
  have HS3 := hide s3
  have HRL := hide hrl
  have hbl := hd.blk.lt
  have hsl := hd.st.lt
  have hord := hd.ord
  have HON := hide hon
  have HQ0 := hide hq
  have HVR := hide hj.lt
  have HDB : Hid (∀ k, DB b sb ab k → k < w.heap.size) := fun k hk => by
    rcases hk with h | h | ⟨h, _⟩ | h
    · omega
    · omega
    · omega
    · cases h
  have HGD : Hid (∀ k, DB b sb ab k → Tryz.prog.globals.size ≤ k) := fun k hk => by
    rcases hk with h | h | ⟨h, h'⟩ | h
    · omega
    · omega
    · omega
    · cases h
  have CC := fun w' (hb : Below w.heap.size w w') => ContainsFunc_str 46 ent_jA1 (fun x => decide (20000 < x.length)) news (by omega) v w' (hv.to hb) (fun x h w'' _ => jA1_any x (by have := hx x h; omega) w'')
  have hany : (news.any fun x => decide (20000 < x.length)) = false := by
    rw [List.any_eq_false]
    intro x h
    have := hx x h
    simp; omega
  rw [hany] at CC
  have CT := fun w' (hb : Below w.heap.size w w') => jtext_any news hn2 (by omega) v w' (hv.to hb) (hg.to hb)
  have CR := fun w' (hb : Below w.heap.size w w') => Room_any jb b N c rs false vr (by omega) (by omega) w' (hj.to hb)
  obtain ⟨A, cv, rfl, _⟩ := hv.slice
  have hnl : 0 < news.length := List.length_pos_iff.2 hn1
  have CSp := fun w' => split_any (joinD news) hjl w'
  unfold TxR at CSp
  have hpl := splitJ_len (joinD news).length (joinD news) (Nat.le_refl _)
  obtain ⟨ps, hps⟩ : ∃ ps, splitV (joinD news) = ps := ⟨_, rfl⟩
  rw [hps] at hfit CSp hpl
  have HPS := hide hps
  have HPL := hide hpl
  obtain ⟨J, hJ⟩ : ∃ J, joinD news = J := ⟨_, rfl⟩
  rw [hJ] at CT CSp
  have x3 : ∀ W, Below w.heap.size w W → W.cell? ⟨jb, 4, none⟩ = some (.bool false) := fun W hb => ((hj.blk.to hb).cell 4).trans rfl
  have f4 : ∀ W, Below w.heap.size w W → W.frozen? ⟨jb, 4, none⟩ = false := fun W hb => (hj.blk.to hb).frozen 4
  have HB1 := hide (below_two w (.cells #[.pointer (some ⟨jb, 0, none⟩)] 29) (.cells #[.int .i64 0] 39))
  have HP2 := hide ((Blk.new w 29 #[.pointer (some ⟨jb, 0, none⟩)]).alloc (.cells #[.int .i64 0] 39))
  have HP4 := hide (Blk.new (w.alloc (.cells #[.pointer (some ⟨jb, 0, none⟩)] 29)) 39 #[.int .i64 0])
  rw [World.size_alloc] at HP4
  have hjlt := hj.blk.lt
  clear hj hd hv s1 s2 s3 hg hn1 hx hany hps hJ hpl hjl hon hq hrl
  go_enter_defers Tryz.func18, Tryz.ntmps18
  have x4 := x3 _ HB1.out
  have y2 := (HP2.out.cell 0).trans (show _ = some (Value.pointer (some ⟨jb, 0, none⟩)) from rfl)
  have CC1 := CC _ HB1.out
  clear x3 f4 CC
  go_wp2_with fail
  refine CC1.mono ?_
  rintro e w1 ⟨rfl, hb⟩
  have HA1 : Hid (ApB w jb 0 w1) := ⟨below_to HB1.out (Nat.le_refl _) hb, HP2.out.to hb, HP4.out.to hb⟩
  have CT1 := CT _ HA1.out.bel
  clear hb CC1 CT x4 y2 HB1 HP2 HP4
  go_wp2_with fail
  refine CT1.mono ?_
  rintro e w2 ⟨rfl, hb⟩
  have HA2 := hide (HA1.out.to hb)
  clear hb CT1 HA1
  have CS2 := CSp w2
  go_wp2_with fail
  refine CS2.mono ?_
  rintro e w3 ⟨vp, rfl, ho, hb⟩
  have HA3 := hide (HA2.out.to hb)
  have HO3 := hide ho
  have hs3 : w2.heap.size ≤ w3.heap.size := hb.size
  have y2 := (HA3.out.b2.cell 0).trans (show _ = some (Value.pointer (some ⟨jb, 0, none⟩)) from rfl)
  have CR3 := CR _ HA3.out.bel
  have hroom : decide (((N - 2 - c : Nat) : Int) < (ps.length : Int)) = false := decide_eq_false (by omega)
  have hroom' : decide (N - 2 - c < ps.length) = false := decide_eq_false (by omega)
  have hnz : ((news.length : Int) == 0) = false := by rw [beq_eq_false_iff_ne]; omega
  obtain ⟨Ap, cp, rfl⟩ := own_sl4 ho
  have hs23 : w.heap.size + 1 < w2.heap.size := HA2.out.b4.lt
  clear hb ho CS2 CSp CR HA2
  generalize hR : ((N - 2 - c : Nat) : Int) = RR at *
  go_wp2_with fail
  refine CR3.mono ?_
  rintro e w4 ⟨rfl, hb⟩
  have HA4 := hide (HA3.out.to hb)
  have HO4 := hide (own_to4 HO3.out hb)
  have hs24 : w2.heap.size ≤ w4.heap.size := Nat.le_trans hs3 hb.size
  clear hb CR3 HA3 HO3 y2
  have ewA := w64 (x := 2 + (c : Int)) (by omega) (by omega)
  have ewB := w64 (x := (c : Int) + (ps.length : Int)) (by omega) (by omega)
  go_wp2_with fail
  apply wp_region_lo4 (C := fun W => Below w4.heap.size w4 W) (V := [some _, some _, some _, some _, some _, some _, some _, some _, some _, some _, some _, some _, none, none, none, none]) (Fs := [(12, NewB1 w4.heap.size 3 6 7), (13, NewB1 w4.heap.size 3 7 6), (14, HasB w4.heap.size 3 6 7 #[.int .i64 (2 + (c : Int))]), (15, HasB w4.heap.size 3 7 6 #[.int .i64 ((c : Int) + (ps.length : Int))])]) (Ns := [(12, OldB 7), (13, OldB 6)]) (Rel := fun i a0_ a1_ x x' => if i = 12 then (RAl 6) a0_ a1_ x x' else if i = 13 then (RAl 7) a0_ a1_ x x' else if i = 14 then (RSt w4.heap.size 3 6 (.int .i64 (2 + (c : Int)))) a0_ a1_ x x' else if i = 15 then (RSt w4.heap.size 3 7 (.int .i64 ((c : Int) + (ps.length : Int)))) a0_ a1_ x x' else Below x.heap.size x x')
  case hm => kernel_rfl
  case hB => kernel_rfl
  case hCw => exact (below_drewN (Below.refl _ w4) 1)
  case hC =>
    intro i a a' w_ w' hw hr
    by_cases e12 : i = 12
    · subst e12
      have hr' : (RAl 6) a a' w_ w' := hr
      exact below_to hw (Nat.le_refl _) hr'.1
    by_cases e13 : i = 13
    · subst e13
      have hr' : (RAl 7) a a' w_ w' := hr
      exact below_to hw (Nat.le_refl _) hr'.1
    by_cases e14 : i = 14
    · subst e14
      have hr' : (RSt w4.heap.size 3 6 (.int .i64 (2 + (c : Int)))) a a' w_ w' := hr
      exact hr'.below hw hw.size
    by_cases e15 : i = 15
    · subst e15
      have hr' : (RSt w4.heap.size 3 7 (.int .i64 ((c : Int) + (ps.length : Int)))) a a' w_ w' := hr
      exact hr'.below hw hw.size
    have hr' : Below w_.heap.size w_ w' := by simpa [e12, e13, e14, e15] using hr
    exact below_to hw (Nat.le_refl _) hr'
  case hst =>
    refine keeps4_cons (fun i a a' w_ w' hne hwt hs hput hr h => by
      by_cases e12 : i = 12
      · exact absurd e12 hne
      by_cases e13 : i = 13
      · subst e13
        have hr' : (RAl 7) a a' w_ w' := hr
        exact h.alloc (hs 6 (by kernel_rfl)) hr'
      by_cases e14 : i = 14
      · subst e14
        have hr' : (RSt w4.heap.size 3 6 (.int .i64 (2 + (c : Int)))) a a' w_ w' := hr
        exact h.st (hs 6 (by kernel_rfl)) (other_slot (d := 7) (k := 13) (by kernel_rfl) hput (by decide)) hr'
      by_cases e15 : i = 15
      · subst e15
        have hr' : (RSt w4.heap.size 3 7 (.int .i64 ((c : Int) + (ps.length : Int)))) a a' w_ w' := hr
        exact h.far (hs 6 (by kernel_rfl)) (other_slot (d := 7) (k := 13) (by kernel_rfl) hput (by decide)) hr'
      have hr' : Below w_.heap.size w_ w' := by simpa [e12, e13, e14, e15] using hr
      exact h.keep (hs 6 (by kernel_rfl)) (other_slot (d := 7) (k := 13) (by kernel_rfl) hput e13) hr') ?_
    refine keeps4_cons (fun i a a' w_ w' hne hwt hs hput hr h => by
      by_cases e12 : i = 12
      · subst e12
        have hr' : (RAl 6) a a' w_ w' := hr
        exact h.alloc (hs 7 (by kernel_rfl)) hr'
      by_cases e13 : i = 13
      · exact absurd e13 hne
      by_cases e14 : i = 14
      · subst e14
        have hr' : (RSt w4.heap.size 3 6 (.int .i64 (2 + (c : Int)))) a a' w_ w' := hr
        exact h.far (hs 7 (by kernel_rfl)) (other_slot (d := 6) (k := 12) (by kernel_rfl) hput (by decide)) hr'
      by_cases e15 : i = 15
      · subst e15
        have hr' : (RSt w4.heap.size 3 7 (.int .i64 ((c : Int) + (ps.length : Int)))) a a' w_ w' := hr
        exact h.st (hs 7 (by kernel_rfl)) (other_slot (d := 6) (k := 12) (by kernel_rfl) hput (by decide)) hr'
      have hr' : Below w_.heap.size w_ w' := by simpa [e12, e13, e14, e15] using hr
      exact h.keep (hs 7 (by kernel_rfl)) (other_slot (d := 6) (k := 12) (by kernel_rfl) hput e12) hr') ?_
    refine keeps4_cons (fun i a a' w_ w' hne hwt hs hput hr h => by
      by_cases e12 : i = 12
      · subst e12
        exact absurd (hwt.symm.trans (show waitsT .any _ _ 14 12 = true by kernel_rfl)) (by decide)
      by_cases e13 : i = 13
      · subst e13
        have hr' : (RAl 7) a a' w_ w' := hr
        exact h.alloc (hs 6 (by kernel_rfl)) hr'
      by_cases e14 : i = 14
      · exact absurd e14 hne
      by_cases e15 : i = 15
      · subst e15
        have hr' : (RSt w4.heap.size 3 7 (.int .i64 ((c : Int) + (ps.length : Int)))) a a' w_ w' := hr
        exact h.far (hs 6 (by kernel_rfl)) (other_slot (d := 7) (k := 13) (by kernel_rfl) hput (by decide)) hr'
      have hr' : Below w_.heap.size w_ w' := by simpa [e12, e13, e14, e15] using hr
      exact h.keep (hs 6 (by kernel_rfl)) (other_slot (d := 7) (k := 13) (by kernel_rfl) hput e13) hr') ?_
    refine keeps4_cons (fun i a a' w_ w' hne hwt hs hput hr h => by
      by_cases e12 : i = 12
      · subst e12
        have hr' : (RAl 6) a a' w_ w' := hr
        exact h.alloc (hs 7 (by kernel_rfl)) hr'
      by_cases e13 : i = 13
      · subst e13
        exact absurd (hwt.symm.trans (show waitsT .any _ _ 15 13 = true by kernel_rfl)) (by decide)
      by_cases e14 : i = 14
      · subst e14
        have hr' : (RSt w4.heap.size 3 6 (.int .i64 (2 + (c : Int)))) a a' w_ w' := hr
        exact h.far (hs 7 (by kernel_rfl)) (other_slot (d := 6) (k := 12) (by kernel_rfl) hput (by decide)) hr'
      by_cases e15 : i = 15
      · exact absurd e15 hne
      have hr' : Below w_.heap.size w_ w' := by simpa [e12, e13, e14, e15] using hr
      exact h.keep (hs 7 (by kernel_rfl)) (other_slot (d := 6) (k := 12) (by kernel_rfl) hput e12) hr') ?_
    exact keeps4_nil
  case hN0 => exact pre0_cons (OldB.start rfl) (pre0_cons (OldB.start rfl) (pre0_nil))
  case hNst =>
    refine prek_cons3 (fun i a a' w_ w' hne hwt hr h hput => by
      by_cases e12 : i = 12
      · exact absurd e12 hne
      by_cases e13 : i = 13
      · subst e13
        have hr' : (RAl 7) a a' w_ w' := hr
        exact OldB.alloc hr'
      by_cases e14 : i = 14
      · subst e14
        exact absurd (hwt.symm.trans (show waitsT .any _ _ 14 12 = true by kernel_rfl)) (by decide)
      by_cases e15 : i = 15
      · subst e15
        have hr' : (RSt w4.heap.size 3 7 (.int .i64 ((c : Int) + (ps.length : Int)))) a a' w_ w' := hr
        exact h.keep (other_slot (d := 7) (k := 13) (by kernel_rfl) hput (by decide)) hr'.size
      have hr' : Below w_.heap.size w_ w' := by simpa [e12, e13, e14, e15] using hr
      exact h.keep (other_slot (d := 7) (k := 13) (by kernel_rfl) hput e13) hr'.size) ?_
    refine prek_cons3 (fun i a a' w_ w' hne hwt hr h hput => by
      by_cases e12 : i = 12
      · subst e12
        have hr' : (RAl 6) a a' w_ w' := hr
        exact OldB.alloc hr'
      by_cases e13 : i = 13
      · exact absurd e13 hne
      by_cases e14 : i = 14
      · subst e14
        have hr' : (RSt w4.heap.size 3 6 (.int .i64 (2 + (c : Int)))) a a' w_ w' := hr
        exact h.keep (other_slot (d := 6) (k := 12) (by kernel_rfl) hput (by decide)) hr'.size
      by_cases e15 : i = 15
      · subst e15
        exact absurd (hwt.symm.trans (show waitsT .any _ _ 15 13 = true by kernel_rfl)) (by decide)
      have hr' : Below w_.heap.size w_ w' := by simpa [e12, e13, e14, e15] using hr
      exact h.keep (other_slot (d := 6) (k := 12) (by kernel_rfl) hput e12) hr'.size) ?_
    exact prek_nil3
  case hop =>
    refine ⟨?_, ?_, ?_, ?_, ?_, ?_, ?_, ?_, ?_, ?_, ?_, ?_, ?_, ?_, ?_, ?_, trivial⟩
    · intro a w_ K hw hS hd hN hK
      have s2 := hS.at 2 (by kernel_rfl) rfl
      rw [if_pos (want_free rfl)]
      have c0 := ((HA4.out.b2.to hw).cell 0).trans (show _ = some (Value.pointer (some ⟨jb, 0, none⟩)) from rfl)
      go_simp
      exact hK _ _ (Below.refl _ _) (vok rfl) (facts_cons (fun h => absurd h (by decide)) (facts_cons (fun h => absurd h (by decide)) (facts_cons (fun h => absurd h (by decide)) (facts_cons (fun h => absurd h (by decide)) facts_nil))))
    · intro a w_ K hw hS hd hN hK
      have s37 := (hd 0 (by kernel_rfl)).at (d := 37) rfl rfl rfl
      rw [if_pos (want_free rfl)]
      go_simp
      exact hK _ _ (Below.refl _ _) (vok rfl) (facts_cons (fun h => absurd h (by decide)) (facts_cons (fun h => absurd h (by decide)) (facts_cons (fun h => absurd h (by decide)) (facts_cons (fun h => absurd h (by decide)) facts_nil))))
    · intro a w_ K hw hS hd hN hK
      have s38 := (hd 1 (by kernel_rfl)).at (d := 38) rfl rfl rfl
      rw [if_pos (want_free rfl)]
      go_simp
      exact hK _ _ (Below.refl _ _) (vok rfl) (facts_cons (fun h => absurd h (by decide)) (facts_cons (fun h => absurd h (by decide)) (facts_cons (fun h => absurd h (by decide)) (facts_cons (fun h => absurd h (by decide)) facts_nil))))
    · intro a w_ K hw hS hd hN hK
      have s39 := (hd 2 (by kernel_rfl)).at (d := 39) rfl rfl rfl
      rw [if_pos (want_free rfl)]
      have c0 := (((HJ.out.blk.to HA4.out.bel).to hw).cell 2).trans (show _ = some (Value.int .i64 (c : Int)) from rfl)
      go_simp
      exact hK _ _ (Below.refl _ _) (vok rfl) (facts_cons (fun h => absurd h (by decide)) (facts_cons (fun h => absurd h (by decide)) (facts_cons (fun h => absurd h (by decide)) (facts_cons (fun h => absurd h (by decide)) facts_nil))))
    · intro a w_ K hw hS hd hN hK
      have s40 := (hd 3 (by kernel_rfl)).at (d := 40) rfl rfl rfl
      rw [if_pos (want_free rfl)]
      have ew := ewA
      go_simp
      exact hK _ _ (Below.refl _ _) (vok rfl) (facts_cons (fun h => absurd h (by decide)) (facts_cons (fun h => absurd h (by decide)) (facts_cons (fun h => absurd h (by decide)) (facts_cons (fun h => absurd h (by decide)) facts_nil))))
    · intro a w_ K hw hS hd hN hK
      have s2 := hS.at 2 (by kernel_rfl) rfl
      rw [if_pos (want_free rfl)]
      have c0 := ((HA4.out.b2.to hw).cell 0).trans (show _ = some (Value.pointer (some ⟨jb, 0, none⟩)) from rfl)
      go_simp
      exact hK _ _ (Below.refl _ _) (vok rfl) (facts_cons (fun h => absurd h (by decide)) (facts_cons (fun h => absurd h (by decide)) (facts_cons (fun h => absurd h (by decide)) (facts_cons (fun h => absurd h (by decide)) facts_nil))))
    · intro a w_ K hw hS hd hN hK
      have s42 := (hd 5 (by kernel_rfl)).at (d := 42) rfl rfl rfl
      rw [if_pos (want_free rfl)]
      go_simp
      exact hK _ _ (Below.refl _ _) (vok rfl) (facts_cons (fun h => absurd h (by decide)) (facts_cons (fun h => absurd h (by decide)) (facts_cons (fun h => absurd h (by decide)) (facts_cons (fun h => absurd h (by decide)) facts_nil))))
    · intro a w_ K hw hS hd hN hK
      have s43 := (hd 6 (by kernel_rfl)).at (d := 43) rfl rfl rfl
      rw [if_pos (want_free rfl)]
      go_simp
      exact hK _ _ (Below.refl _ _) (vok rfl) (facts_cons (fun h => absurd h (by decide)) (facts_cons (fun h => absurd h (by decide)) (facts_cons (fun h => absurd h (by decide)) (facts_cons (fun h => absurd h (by decide)) facts_nil))))
    · intro a w_ K hw hS hd hN hK
      have s44 := (hd 7 (by kernel_rfl)).at (d := 44) rfl rfl rfl
      rw [if_pos (want_free rfl)]
      have c0 := (((HJ.out.blk.to HA4.out.bel).to hw).cell 2).trans (show _ = some (Value.int .i64 (c : Int)) from rfl)
      go_simp
      exact hK _ _ (Below.refl _ _) (vok rfl) (facts_cons (fun h => absurd h (by decide)) (facts_cons (fun h => absurd h (by decide)) (facts_cons (fun h => absurd h (by decide)) (facts_cons (fun h => absurd h (by decide)) facts_nil))))
    · intro a w_ K hw hS hd hN hK
      have s5 := hS.at 5 (by kernel_rfl) rfl
      rw [if_pos (want_free rfl)]
      go_simp
      exact hK _ _ (Below.refl _ _) (vok rfl) (facts_cons (fun h => absurd h (by decide)) (facts_cons (fun h => absurd h (by decide)) (facts_cons (fun h => absurd h (by decide)) (facts_cons (fun h => absurd h (by decide)) facts_nil))))
    · intro a w_ K hw hS hd hN hK
      have s46 := (hd 9 (by kernel_rfl)).at (d := 46) rfl rfl rfl
      rw [if_pos (want_free rfl)]
      go_simp
      exact hK _ _ (Below.refl _ _) (vok rfl) (facts_cons (fun h => absurd h (by decide)) (facts_cons (fun h => absurd h (by decide)) (facts_cons (fun h => absurd h (by decide)) (facts_cons (fun h => absurd h (by decide)) facts_nil))))
    · intro a w_ K hw hS hd hN hK
      have s45 := (hd 8 (by kernel_rfl)).at (d := 45) rfl rfl rfl
      have s47 := (hd 10 (by kernel_rfl)).at (d := 47) rfl rfl rfl
      rw [if_pos (want_free rfl)]
      have ew := ewB
      go_simp
      exact hK _ _ (Below.refl _ _) (vok rfl) (facts_cons (fun h => absurd h (by decide)) (facts_cons (fun h => absurd h (by decide)) (facts_cons (fun h => absurd h (by decide)) (facts_cons (fun h => absurd h (by decide)) facts_nil))))
    · intro a w_ K hw hS hd hN hK
      have hold := hN _ (List.mem_cons_self ..) rfl
      rw [if_pos (want_free rfl)]
      go_simp
      exact hK _ _ ⟨below_one _ _, hS.put_at (by kernel_rfl) _, by simp⟩ (vfree rfl) (facts_cons (fun _ => ⟨_, _, hS.put_at (by kernel_rfl) _, hw.size, Blk.new _ _ _, fun b' hb => Nat.ne_of_lt (hold b' ((put_other (by decide) _).symm.trans hb))⟩) (facts_cons (fun h => absurd h (by decide)) (facts_cons (fun h => absurd h (by decide)) (facts_cons (fun h => absurd h (by decide)) facts_nil))))
    · intro a w_ K hw hS hd hN hK
      have hold := hN _ (List.mem_cons_of_mem _ (List.mem_cons_self ..)) rfl
      rw [if_pos (want_free rfl)]
      go_simp
      exact hK _ _ ⟨below_one _ _, hS.put_at (by kernel_rfl) _, by simp⟩ (vfree rfl) (facts_cons (fun h => absurd h (by decide)) (facts_cons (fun _ => ⟨_, _, hS.put_at (by kernel_rfl) _, hw.size, Blk.new _ _ _, fun b' hb => Nat.ne_of_lt (hold b' ((put_other (by decide) _).symm.trans hb))⟩) (facts_cons (fun h => absurd h (by decide)) (facts_cons (fun h => absurd h (by decide)) facts_nil))))
    · intro a w_ K hw hS hd hN hK
      obtain ⟨b6, x6, s6, l6, r6, g6⟩ := (hd 12 (by kernel_rfl)).2 _ (List.mem_cons_self ..) rfl
      have s41 := (hd 4 (by kernel_rfl)).at (d := 41) rfl rfl rfl
      rw [if_pos (want_free rfl)]
      have c0 := r6.cell 0
      have f0 := r6.frozen 0
      go_simp
      exact hK undef _ ⟨b6, s6, l6, (only_one _ _ _ _), (r6.set_ 0 (.int .i64 (2 + (c : Int))))⟩ (vfree rfl) (facts_cons (fun h => absurd h (by decide)) (facts_cons (fun h => absurd h (by decide)) (facts_cons (fun _ => ⟨b6, s6, l6, (r6.set_ 0 (.int .i64 (2 + (c : Int)))), g6⟩) (facts_cons (fun h => absurd h (by decide)) facts_nil))))
    · intro a w_ K hw hS hd hN hK
      obtain ⟨b7, x7, s7, l7, r7, g7⟩ := (hd 13 (by kernel_rfl)).2 _ (List.mem_cons_of_mem _ (List.mem_cons_self ..)) rfl
      have s48 := (hd 11 (by kernel_rfl)).at (d := 48) rfl rfl rfl
      rw [if_pos (want_free rfl)]
      have c0 := r7.cell 0
      have f0 := r7.frozen 0
      go_simp
      exact hK undef _ ⟨b7, s7, l7, (only_one _ _ _ _), (r7.set_ 0 (.int .i64 ((c : Int) + (ps.length : Int))))⟩ (vfree rfl) (facts_cons (fun h => absurd h (by decide)) (facts_cons (fun h => absurd h (by decide)) (facts_cons (fun h => absurd h (by decide)) (facts_cons (fun _ => ⟨b7, s7, l7, (r7.set_ 0 (.int .i64 ((c : Int) + (ps.length : Int)))), g7⟩) facts_nil))))
  case hfin =>
    intro a w5 hw hS hk
    have s37 := (hk 0 (by decide)).at (d := 37) rfl rfl rfl
    have s38 := (hk 1 (by decide)).at (d := 38) rfl rfl rfl
    have s39 := (hk 2 (by decide)).at (d := 39) rfl rfl rfl
    have s40 := (hk 3 (by decide)).at (d := 40) rfl rfl rfl
    have s41 := (hk 4 (by decide)).at (d := 41) rfl rfl rfl
    have s42 := (hk 5 (by decide)).at (d := 42) rfl rfl rfl
    have s43 := (hk 6 (by decide)).at (d := 43) rfl rfl rfl
    have s44 := (hk 7 (by decide)).at (d := 44) rfl rfl rfl
    have s45 := (hk 8 (by decide)).at (d := 45) rfl rfl rfl
    have s46 := (hk 9 (by decide)).at (d := 46) rfl rfl rfl
    have s47 := (hk 10 (by decide)).at (d := 47) rfl rfl rfl
    have s48 := (hk 11 (by decide)).at (d := 48) rfl rfl rfl
    obtain ⟨b6, x6, s6, l6, r6, g6⟩ := (hk 12 (by decide)).2 _ (List.mem_cons_self ..) rfl
    obtain ⟨b7, x7, s7, l7, r7, g7⟩ := (hk 13 (by decide)).2 _ (List.mem_cons_of_mem _ (List.mem_cons_self ..)) rfl
    obtain ⟨z6, zs6, zl6, zr6, -⟩ := (hk 14 (by decide)).2 _ (List.mem_cons_of_mem _ (List.mem_cons_of_mem _ (List.mem_cons_self ..))) rfl
    obtain ⟨z7, zs7, zl7, zr7, -⟩ := (hk 15 (by decide)).2 _ (List.mem_cons_of_mem _ (List.mem_cons_of_mem _ (List.mem_cons_of_mem _ (List.mem_cons_self ..)))) rfl
    have hlit := hS.lit _ (by kernel_rfl) (lits_cons s37 (lits_cons s38 (lits_cons s39 (lits_cons s40 (lits_cons s41 (lits_cons s42 (lits_cons s43 (lits_cons s44 (lits_cons s45 (lits_cons s46 (lits_cons s47 (lits_cons s48 (lits_cons s6 (lits_cons s7 lits_nil))))))))))))))
    rw [hlit]
    obtain rfl : b6 = z6 := ptr_eq (s6.symm.trans zs6)
    obtain rfl : b7 = z7 := ptr_eq (s7.symm.trans zs7)
    have HR6 := hide zr6
    have HR7 := hide zr7
    have HL6 := hide zl6
    have HL7 := hide zl7
    have HA5 := hide (HA4.out.to hw)
    have HO5 := hide (own_to4 HO4.out hw)
    have hb6 : b6 < w5.heap.size := zr6.lt
    have hb7 : b7 < w5.heap.size := zr7.lt
    have hs45 := hw.size
    clear hlit hk hS s37 s38 s39 s40 s41 s42 s43 s44 s45 s46 s47 s48 s6 s7 zs6 zs7 zl6 zl7 zr6 zr7 l6 l7 r6 r7 g6 g7 hw HA4 HO4 ewA ewB
    simp only [litT, List.setIfInBounds_toArray, List.set_cons_succ, List.set_cons_zero]
    simp only [ptrV]
    have hlt5 : w.heap.size + 1 < w5.heap.size := by omega
    have hb1 := below_two w5 (.cells #[.slice none 0 0] 22) (.cells #[.slice none 0 0] 22)
    have hP8 := (Blk.new w5 22 #[.slice none 0 0]).alloc (.cells #[.slice none 0 0] 22)
    have hP9 := Blk.new (w5.alloc (.cells #[.slice none 0 0] 22)) 22 #[.slice none 0 0]
    rw [World.size_alloc] at hP9
    have HI6 : Hid (LpI w w5 jb c ps 0 0 (.slice none 0 0) (.slice none 0 0) ((w5.alloc (.cells #[.slice none 0 0] 22)).alloc (.cells #[.slice none 0 0] 22))) :=
      ⟨HA5.out.to hb1, hlt5, hb1, hP8, hP9, World.ownsRow_nil _ _ _ _, World.ownsRow_nil _ _ _ _, fun g e => by cases e⟩
    clear hb1 hP8 hP9
    go_wp2_with fail
    generalize (w5.alloc (.cells #[.slice none 0 0] 22)).alloc (.cells #[.slice none 0 0] 22) = w6 at *
    go_loopw [51] (fun i wr => ∃ k : Nat, i = .int .i64 (k : Int) ∧ k ≤ ps.length ∧ ∃ vE vF, Aside (LpI w w5 jb c ps k k vE vF wr)) (fun i _ => ps.length - (intOf i).toNat)
    case atStart => exact ⟨0, rfl, Nat.zero_le _, _, _, HI6.out⟩
    case round =>
      obtain ⟨k, rfl, hk, vE, vF, hI⟩ := hrel
      have HI : Hid (LpI w w5 jb c ps k k vE vF wr) := hI
      clear hI
      by_cases hlt0 : k < ps.length
      · have e1 : decide ((k : Int) < (ps.length : Int)) = true := decide_eq_true (by omega)
        obtain ⟨p, hp⟩ : ∃ p, ps[k]? = some p := ⟨_, List.getElem?_eq_getElem hlt0⟩
        have hp46 := (HPL.out p (List.mem_of_getElem? hp)).2
        have hc0 : ∃ a, Ap = some a ∧ wr.cell? (a.add k) = some (.string (bs p)) := by
          obtain ⟨a, h1, _, h2⟩ := (TextsAt.of_own (own_toB HO5.out HI.out.sav)).at_ hp
          exact ⟨a, h1, h2⟩
        obtain ⟨a, rfl, c0⟩ := hc0
        obtain ⟨LF, hLF⟩ : ∃ LF, Hid ((secsV (2 + c) ps).take k = LF) := ⟨_, rfl⟩
        have hLFl : LF.length = k := by rw [← hLF.out, List.length_take, secsV_len]; omega
        obtain ⟨SE, hSE⟩ : ∃ SE, Hid (sectorV (2 + c + k) p = SE) := ⟨_, rfl⟩
        have hLN : Hid ((secsV (2 + c) ps).take (k + 1) = LF ++ [SE]) := by
          show _ = _
          rw [List.take_add_one, secsV_at ps (2 + c) k p hp, hLF.out, hSE.out]; rfl
        obtain ⟨ZZ, hZZ⟩ : ∃ ZZ, Hid (zeroV = ZZ) := ⟨_, rfl⟩
        have zeroZ : ∀ W : World, Calls Tryz.prog 51 #[] W fun e w' => e = .returned (.string (bs ZZ)) ∧ Below W.heap.size W w' := fun W => by
          have := zero_any W
          rwa [hZZ.out] at this
        obtain ⟨Ae, ce, rfl⟩ := own_sl4 HI.out.oE
        obtain ⟨Af, cf, rfl⟩ := own_sl4 HI.out.oF
        rw [List.length_replicate, hLF.out, hLFl] at HI
        have HoE : Hid (wr.ownsRow (w5.heap.size + 2) 9 1 (.slice Ae k ce) k (flatS (List.replicate k ZZ))) := by
          have := HI.out.oE
          unfold OwnT at this
          rw [List.length_replicate, hZZ.out] at this
          exact this
        have hltE := HI.out.ltE
        have hlt := hltE
        have hbp : w5.heap.size < w5.heap.size + 2 := by omega
        have hbW : w5.heap.size < wr.heap.size := HI.out.b8.lt
        have hBW : w5.heap.size + 2 ≤ wr.heap.size := HI.out.b9.lt
        have ewC := w64 (x := 2 + (c : Int) + (k : Int)) (by omega) (by omega)
        clear hp
        go_upto_region 18 with fail
        apply wp_region_lo4 (C := fun W => Two w5.heap.size (rowOr (.slice Ae k ce) w5.heap.size) wr W) (V := [some _, some _, none, none, none]) (Fs := [(2, fun a W => ∃ g, a.tmps[58]? = some (.slice (some ⟨g, 0, none⟩) 1 1) ∧ Blk W g 9 #[.string (bs ZZ)] ∧ wr.heap.size ≤ g), (3, fun a W => ∃ v2, a.tmps[59]? = some v2 ∧ World.ownsRow W (w5.heap.size + 2) 9 1 v2 (k + 1) ((flatS (List.replicate k ZZ)) ++ [.string (bs ZZ)]) ∧ (v2.ownBlock = Value.ownBlock (.slice Ae k ce) ∨ ∃ g, v2.ownBlock = some g ∧ wr.heap.size ≤ g)), (4, fun a W => ∃ v2, a.tmps[59]? = some v2 ∧ Blk W w5.heap.size 22 #[v2])]) (Ns := [(0, fun (_ : Act) W => Blk W w5.heap.size 22 #[.slice Ae k ce]), (3, fun (_ : Act) W => World.ownsRow W (w5.heap.size + 2) 9 1 (.slice Ae k ce) k (flatS (List.replicate k ZZ)) ∧ wr.heap.size ≤ W.heap.size), (4, fun (_ : Act) W => Blk W w5.heap.size 22 #[.slice Ae k ce])]) (Rel := fun i a0_ a1_ x x' => if i = 3 then (fun b0 b1 x x' => World.grownBy x x' (Value.ownBlock (.slice Ae k ce))) a0_ a1_ x x' else if i = 4 then (fun b0 b1 x x' => ∃ u, x' = World.setCell x ⟨w5.heap.size, 0, none⟩ u) a0_ a1_ x x' else Below x.heap.size x x')
        case hm => kernel_rfl
        case hB => kernel_rfl
        case hCw => exact ((Two.refl w5.heap.size (rowOr (.slice Ae k ce) w5.heap.size) wr).drewN 1)
        case hC =>
          intro i a a' w_ w' hw hr
          by_cases e3 : i = 3
          · subst e3
            have hr' : (fun b0 b1 x x' => World.grownBy x x' (Value.ownBlock (.slice Ae k ce))) a a' w_ w' := hr
            exact Two.trans hw (Two.grown hr')
          by_cases e4 : i = 4
          · subst e4
            have hr' : (fun b0 b1 x x' => ∃ u, x' = World.setCell x ⟨w5.heap.size, 0, none⟩ u) a a' w_ w' := hr
            obtain ⟨u, rfl⟩ := hr'
            exact Two.set1 hw _ u
          have hr' : Below w_.heap.size w_ w' := by simpa [e3, e4] using hr
          exact Two.to hw hr'
        case hst =>
          refine keeps4_cons (fun i a a' w_ w' hne hwt hs hput hr h => by
            by_cases e3 : i = 3
            · subst e3
              have hr' : (fun b0 b1 x x' => World.grownBy x x' (Value.ownBlock (.slice Ae k ce))) a a' w_ w' := hr
              obtain ⟨g, h1, h2, h3⟩ := h
              exact ⟨g, (hs 58 (by kernel_rfl)).trans h1, (hr'.block g h2.lt (fun e => by have := (hlt g e.symm).2; omega)).trans h2, h3⟩
            by_cases e4 : i = 4
            · subst e4
              have hr' : (fun b0 b1 x x' => ∃ u, x' = World.setCell x ⟨w5.heap.size, 0, none⟩ u) a a' w_ w' := hr
              obtain ⟨g, h1, h2, h3⟩ := h
              obtain ⟨u, rfl⟩ := hr'
              exact ⟨g, (hs 58 (by kernel_rfl)).trans h1, h2.far (p := ⟨w5.heap.size, 0, none⟩) (by show g ≠ w5.heap.size; omega) u, h3⟩
            have hr' : Below w_.heap.size w_ w' := by simpa [e3, e4] using hr
            obtain ⟨g, h1, h2, h3⟩ := h
            exact ⟨g, (hs 58 (by kernel_rfl)).trans h1, h2.to hr', h3⟩) ?_
          refine keeps4_cons (fun i a a' w_ w' hne hwt hs hput hr h => by
            by_cases e3 : i = 3
            · exact absurd e3 hne
            by_cases e4 : i = 4
            · subst e4
              have hr' : (fun b0 b1 x x' => ∃ u, x' = World.setCell x ⟨w5.heap.size, 0, none⟩ u) a a' w_ w' := hr
              obtain ⟨g, h1, h2, h3⟩ := h
              obtain ⟨u, rfl⟩ := hr'
              exact ⟨g, (hs 59 (by kernel_rfl)).trans h1, ownsRow_set h2 (fun e => by have := (World.ownsRow.lt h2 _ e).1; omega), h3⟩
            have hr' : Below w_.heap.size w_ w' := by simpa [e3, e4] using hr
            obtain ⟨g, h1, h2, h3⟩ := h
            exact ⟨g, (hs 59 (by kernel_rfl)).trans h1, ownsRow_to h2 hr', h3⟩) ?_
          refine keeps4_cons (fun i a a' w_ w' hne hwt hs hput hr h => by
            by_cases e3 : i = 3
            · subst e3
              exact absurd (hwt.symm.trans (show waitsT .any _ _ 4 3 = true by kernel_rfl)) (by decide)
            by_cases e4 : i = 4
            · exact absurd e4 hne
            have hr' : Below w_.heap.size w_ w' := by simpa [e3, e4] using hr
            obtain ⟨g, h1, h2⟩ := h
            exact ⟨g, (hs 59 (by kernel_rfl)).trans h1, h2.to hr'⟩) ?_
          exact keeps4_nil
        case hN0 => exact pre0_cons ((show Blk wr.drew w5.heap.size 22 _ from HI.out.b8)) (pre0_cons (⟨(show World.ownsRow wr.drew (w5.heap.size + 2) 9 1 _ _ _ from HoE.out), Nat.le_refl _⟩) (pre0_cons ((show Blk wr.drew w5.heap.size 22 _ from HI.out.b8)) (pre0_nil)))
        case hNst =>
          refine prek_cons3 (fun i a a' w_ w' hne hwt hr h hput => by
            by_cases e3 : i = 3
            · subst e3
              exact absurd (hwt.symm.trans (show waitsT .any _ _ 3 0 = true by kernel_rfl)) (by decide)
            by_cases e4 : i = 4
            · subst e4
              exact absurd (hwt.symm.trans (show waitsT .any _ _ 4 0 = true by kernel_rfl)) (by decide)
            have hr' : Below w_.heap.size w_ w' := by simpa [e3, e4] using hr
            exact h.to hr') ?_
          refine prek_cons3 (fun i a a' w_ w' hne hwt hr h hput => by
            by_cases e3 : i = 3
            · exact absurd e3 hne
            by_cases e4 : i = 4
            · subst e4
              exact absurd (hwt.symm.trans (show waitsT .any _ _ 4 3 = true by kernel_rfl)) (by decide)
            have hr' : Below w_.heap.size w_ w' := by simpa [e3, e4] using hr
            exact ⟨ownsRow_to h.1 hr', Nat.le_trans h.2 hr'.size⟩) ?_
          refine prek_cons3 (fun i a a' w_ w' hne hwt hr h hput => by
            by_cases e3 : i = 3
            · subst e3
              have hr' : (fun b0 b1 x x' => World.grownBy x x' (Value.ownBlock (.slice Ae k ce))) a a' w_ w' := hr
              exact (hr'.block w5.heap.size h.lt (fun e => by have := (hlt _ e.symm).1; omega)).trans h
            by_cases e4 : i = 4
            · exact absurd e4 hne
            have hr' : Below w_.heap.size w_ w' := by simpa [e3, e4] using hr
            exact h.to hr') ?_
          exact prek_nil3
        case hop =>
          refine ⟨?_, ?_, ?_, ?_, ?_, trivial⟩
          · intro a w_ K hw hS hd hN hK
            have s8 := hS.at 8 (by kernel_rfl) rfl
            have hBc := hN _ (List.mem_cons_self ..) rfl
            rw [if_pos (want_free rfl)]
            have c0 := (hBc.cell 0).trans (show _ = some (.slice Ae k ce) from rfl)
            go_simp
            exact hK _ _ (Below.refl _ _) (vok rfl) (facts_cons (fun h => absurd h (by decide)) (facts_cons (fun h => absurd h (by decide)) (facts_cons (fun h => absurd h (by decide)) facts_nil)))
          · intro a w_ K hw hS hd hN hK
            rw [if_pos (want_free rfl)]
            go_simp
            with_reducible refine (zeroZ w_).mono ?_
            rintro e w' ⟨rfl, hb⟩
            exact hK _ _ hb (vok rfl) (facts_cons (fun h => absurd h (by decide)) (facts_cons (fun h => absurd h (by decide)) (facts_cons (fun h => absurd h (by decide)) facts_nil)))
          · intro a w_ K hw hS hd hN hK
            have s57 := (hd 1 (by kernel_rfl)).at (d := 57) rfl rfl rfl
            rw [if_pos (want_free rfl)]
            go_simp
            exact hK _ _ (below_one _ _) (vfree rfl) (facts_cons (fun _ => ⟨_, hS.put_at (by kernel_rfl) _, Blk.new _ _ _, (Two.size hw)⟩) (facts_cons (fun h => absurd h (by decide)) (facts_cons (fun h => absurd h (by decide)) facts_nil)))
          · intro a w_ K hw hS hd hN hK
            have s56 := (hd 0 (by kernel_rfl)).at (d := 56) rfl rfl rfl
            obtain ⟨b58, s58, r58, l58⟩ := (hd 2 (by kernel_rfl)).2 _ (List.mem_cons_self ..) rfl
            obtain ⟨hOwn, hSz⟩ := hN _ (List.mem_cons_of_mem _ (List.mem_cons_self ..)) rfl
            rw [if_pos (want_free rfl)]
            obtain ⟨i0, hi0, hz0, hz1, hz2⟩ := info_parts info_str
            refine wp_append_keep w_ (.tmp 56) (.tmp 58) 22 rfl (w5.heap.size + 2) 9 i0 _ 1 16 Tryz.underlying22 hi0 hz0 hz1 hz2 rfl (by decide) (.slice Ae k ce) k _ (eval_at s56) hOwn ⟨b58, 0, none⟩ 1 1 [.string (bs ZZ)] (eval_at s58) rfl (fun j u hj => by
              cases j with
              | zero => simp at hj; subst hj; exact r58.cell 0
              | succ j =>
                simp at hj) (by intro u hu; simp at hu; rcases hu with rfl <;> rfl) (by unfold maxLen; omega) (by omega) (by omega) ?_
            intro v2 w' h2 h3 h4 h5
            exact hK v2 w' h3 (vfree rfl) (facts_cons (fun h => absurd h (by decide)) (facts_cons (fun _ => ⟨v2, hS.put_at (by kernel_rfl) _, h2, h5.imp id fun ⟨g, e, hg⟩ => ⟨g, e, Nat.le_trans hSz hg⟩⟩) (facts_cons (fun h => absurd h (by decide)) facts_nil)))
          · intro a w_ K hw hS hd hN hK
            have s8 := hS.at 8 (by kernel_rfl) rfl
            obtain ⟨v59, s59, o59, k59⟩ := (hd 3 (by kernel_rfl)).2 _ (List.mem_cons_of_mem _ (List.mem_cons_self ..)) rfl
            have hBs := hN _ (List.mem_cons_of_mem _ (List.mem_cons_of_mem _ (List.mem_cons_self ..))) rfl
            rw [if_pos (want_free rfl)]
            obtain ⟨A0, c0', hv0⟩ := own_sl4 ((show World.ownsRow wr.drew (w5.heap.size + 2) 9 1 _ _ _ from HoE.out))
            have c0 := (hBs.cell 0).trans (show _ = some (.slice Ae k ce) from rfl)
            have f0 := hBs.frozen 0
            obtain ⟨A1, c1', rfl⟩ := own_sl4 o59
            try subst hv0
            go_simp
            exact hK undef _ ⟨_, rfl⟩ (vfree rfl) (facts_cons (fun h => absurd h (by decide)) (facts_cons (fun h => absurd h (by decide)) (facts_cons (fun _ => ⟨_, s59, hBs.set_ 0 _⟩) facts_nil)))
        case hfin =>
          intro a w7 hw hS hk
          have s56 := (hk 0 (by decide)).at (d := 56) rfl rfl rfl
          have s57 := (hk 1 (by decide)).at (d := 57) rfl rfl rfl
          obtain ⟨b58, s58, r58, l58⟩ := (hk 2 (by decide)).2 _ (List.mem_cons_self ..) rfl
          obtain ⟨v59, s59, o59, k59⟩ := (hk 3 (by decide)).2 _ (List.mem_cons_of_mem _ (List.mem_cons_self ..)) rfl
          obtain ⟨z59, zs59, zP⟩ := (hk 4 (by decide)).2 _ (List.mem_cons_of_mem _ (List.mem_cons_of_mem _ (List.mem_cons_self ..))) rfl
          have hlit := hS.lit _ (by kernel_rfl) (lits_cons s56 (lits_cons s57 (lits_cons s58 (lits_cons s59 lits_nil))))
          rw [hlit]
          obtain rfl : v59 = z59 := Option.some.inj (s59.symm.trans zs59)
          clear zs59 r58 l58
          have HT7 := hide hw
          have HO7 := hide o59
          have HZ7 := hide zP
          have HK7 := hide k59
          clear hlit hk hS hw o59 zP k59 s56 s57 s58 s59
          have HI7 : Hid (LpI w w5 jb c ps (k + 1) k v59 (.slice Af k cf) w7) := HI.out.stepE HT7.out HZ7.out (by
            have := HO7.out
            show World.ownsRow _ _ _ _ _ _ _
            rw [List.length_replicate, List.replicate_succ', hZZ.out, flatS_snoc]
            exact this) HK7.out
          have hs7 := HT7.out.size
          obtain ⟨Ae7, ce7, rfl⟩ := own_sl4 HO7.out
          clear HT7 HO7 HZ7 HK7 HI hlt hbp hbW hBW hltE
          simp only [litT, List.setIfInBounds_toArray, List.set_cons_succ, List.set_cons_zero]
          go_upto_region 19 with fail
          have HR67 : Hid (Blk w7 b6 3 #[.int .i64 (2 + (c : Int))]) := HR6.out.below HI7.out.sav hb6
          have hlt := HI7.out.ltF
          have hbp : w5.heap.size + 1 < w5.heap.size + 2 := Nat.lt_succ_self _
          have hbW : w5.heap.size + 1 < w7.heap.size := HI7.out.b9.lt
          have hBW : w5.heap.size + 2 ≤ w7.heap.size := hbW
          have HoF : Hid (w7.ownsRow (w5.heap.size + 2) 9 1 (.slice Af k cf) k (flatS LF)) := by
            have := HI7.out.oF
            rw [hLF.out] at this
            unfold OwnT at this
            rw [hLFl] at this
            exact this
          have CSE : ∀ W, Two (w5.heap.size + 1) (rowOr (.slice Af k cf) (w5.heap.size + 1)) w7 W → Calls Tryz.prog 52 #[.int .i64 (2 + (c : Int) + (k : Int)), .string (bs p)] W fun e w' => e = .returned (.string (bs SE)) ∧ Below W.heap.size W w' := fun W hT => by
            have := sector_any (2 + c + k) (by omega) p hp46 W (HG.out.to ((HI7.out.ap.bel).trans (hT.below HI7.out.ap.bel.size (by have := HI7.out.lt; omega) (by
              have := HI7.out.lt
              rcases rowOr_cases (.slice Af k cf) (w5.heap.size + 1) with e | e
              · omega
              · have := (hlt _ e).1; omega))))
            rw [hSE.out, show ((2 + c + k : Nat) : Int) = 2 + (c : Int) + (k : Int) by omega] at this
            exact this
          apply wp_region_lo4 (C := fun W => Two (w5.heap.size + 1) (rowOr (.slice Af k cf) (w5.heap.size + 1)) w7 W) (V := [some _, some _, some _, some _, some _, some _, none, none, none]) (Fs := [(6, fun a W => ∃ g, a.tmps[66]? = some (.slice (some ⟨g, 0, none⟩) 1 1) ∧ Blk W g 9 #[.string (bs SE)] ∧ w7.heap.size ≤ g), (7, fun a W => ∃ v2, a.tmps[67]? = some v2 ∧ World.ownsRow W (w5.heap.size + 2) 9 1 v2 (k + 1) ((flatS LF) ++ [.string (bs SE)]) ∧ (v2.ownBlock = Value.ownBlock (.slice Af k cf) ∨ ∃ g, v2.ownBlock = some g ∧ w7.heap.size ≤ g)), (8, fun a W => ∃ v2, a.tmps[67]? = some v2 ∧ Blk W (w5.heap.size + 1) 22 #[v2])]) (Ns := [(0, fun (_ : Act) W => Blk W (w5.heap.size + 1) 22 #[.slice Af k cf]), (1, fun (_ : Act) W => Blk W b6 3 #[.int .i64 (2 + (c : Int))]), (7, fun (_ : Act) W => World.ownsRow W (w5.heap.size + 2) 9 1 (.slice Af k cf) k (flatS LF) ∧ w7.heap.size ≤ W.heap.size), (8, fun (_ : Act) W => Blk W (w5.heap.size + 1) 22 #[.slice Af k cf])]) (Rel := fun i a0_ a1_ x x' => if i = 7 then (fun b0 b1 x x' => World.grownBy x x' (Value.ownBlock (.slice Af k cf))) a0_ a1_ x x' else if i = 8 then (fun b0 b1 x x' => ∃ u, x' = World.setCell x ⟨(w5.heap.size + 1), 0, none⟩ u) a0_ a1_ x x' else Below x.heap.size x x')
          case hm => kernel_rfl
          case hB => kernel_rfl
          case hCw => exact ((Two.refl (w5.heap.size + 1) (rowOr (.slice Af k cf) (w5.heap.size + 1)) w7).drewN 1)
          case hC =>
            intro i a a' w_ w' hw hr
            by_cases e7 : i = 7
            · subst e7
              have hr' : (fun b0 b1 x x' => World.grownBy x x' (Value.ownBlock (.slice Af k cf))) a a' w_ w' := hr
              exact Two.trans hw (Two.grown hr')
            by_cases e8 : i = 8
            · subst e8
              have hr' : (fun b0 b1 x x' => ∃ u, x' = World.setCell x ⟨(w5.heap.size + 1), 0, none⟩ u) a a' w_ w' := hr
              obtain ⟨u, rfl⟩ := hr'
              exact Two.set1 hw _ u
            have hr' : Below w_.heap.size w_ w' := by simpa [e7, e8] using hr
            exact Two.to hw hr'
          case hst =>
            refine keeps4_cons (fun i a a' w_ w' hne hwt hs hput hr h => by
              by_cases e7 : i = 7
              · subst e7
                have hr' : (fun b0 b1 x x' => World.grownBy x x' (Value.ownBlock (.slice Af k cf))) a a' w_ w' := hr
                obtain ⟨g, h1, h2, h3⟩ := h
                exact ⟨g, (hs 66 (by kernel_rfl)).trans h1, (hr'.block g h2.lt (fun e => by have := (hlt g e.symm).2; omega)).trans h2, h3⟩
              by_cases e8 : i = 8
              · subst e8
                have hr' : (fun b0 b1 x x' => ∃ u, x' = World.setCell x ⟨(w5.heap.size + 1), 0, none⟩ u) a a' w_ w' := hr
                obtain ⟨g, h1, h2, h3⟩ := h
                obtain ⟨u, rfl⟩ := hr'
                exact ⟨g, (hs 66 (by kernel_rfl)).trans h1, h2.far (p := ⟨(w5.heap.size + 1), 0, none⟩) (by show g ≠ (w5.heap.size + 1); omega) u, h3⟩
              have hr' : Below w_.heap.size w_ w' := by simpa [e7, e8] using hr
              obtain ⟨g, h1, h2, h3⟩ := h
              exact ⟨g, (hs 66 (by kernel_rfl)).trans h1, h2.to hr', h3⟩) ?_
            refine keeps4_cons (fun i a a' w_ w' hne hwt hs hput hr h => by
              by_cases e7 : i = 7
              · exact absurd e7 hne
              by_cases e8 : i = 8
              · subst e8
                have hr' : (fun b0 b1 x x' => ∃ u, x' = World.setCell x ⟨(w5.heap.size + 1), 0, none⟩ u) a a' w_ w' := hr
                obtain ⟨g, h1, h2, h3⟩ := h
                obtain ⟨u, rfl⟩ := hr'
                exact ⟨g, (hs 67 (by kernel_rfl)).trans h1, ownsRow_set h2 (fun e => by have := (World.ownsRow.lt h2 _ e).1; omega), h3⟩
              have hr' : Below w_.heap.size w_ w' := by simpa [e7, e8] using hr
              obtain ⟨g, h1, h2, h3⟩ := h
              exact ⟨g, (hs 67 (by kernel_rfl)).trans h1, ownsRow_to h2 hr', h3⟩) ?_
            refine keeps4_cons (fun i a a' w_ w' hne hwt hs hput hr h => by
              by_cases e7 : i = 7
              · subst e7
                exact absurd (hwt.symm.trans (show waitsT .any _ _ 8 7 = true by kernel_rfl)) (by decide)
              by_cases e8 : i = 8
              · exact absurd e8 hne
              have hr' : Below w_.heap.size w_ w' := by simpa [e7, e8] using hr
              obtain ⟨g, h1, h2⟩ := h
              exact ⟨g, (hs 67 (by kernel_rfl)).trans h1, h2.to hr'⟩) ?_
            exact keeps4_nil
          case hN0 => exact pre0_cons ((show Blk w7.drew (w5.heap.size + 1) 22 _ from HI7.out.b9)) (pre0_cons ((show Blk w7.drew b6 3 _ from HR67.out)) (pre0_cons (⟨(show World.ownsRow w7.drew (w5.heap.size + 2) 9 1 _ _ _ from HoF.out), Nat.le_refl _⟩) (pre0_cons ((show Blk w7.drew (w5.heap.size + 1) 22 _ from HI7.out.b9)) (pre0_nil))))
          case hNst =>
            refine prek_cons3 (fun i a a' w_ w' hne hwt hr h hput => by
              by_cases e7 : i = 7
              · subst e7
                exact absurd (hwt.symm.trans (show waitsT .any _ _ 7 0 = true by kernel_rfl)) (by decide)
              by_cases e8 : i = 8
              · subst e8
                exact absurd (hwt.symm.trans (show waitsT .any _ _ 8 0 = true by kernel_rfl)) (by decide)
              have hr' : Below w_.heap.size w_ w' := by simpa [e7, e8] using hr
              exact h.to hr') ?_
            refine prek_cons3 (fun i a a' w_ w' hne hwt hr h hput => by
              by_cases e7 : i = 7
              · subst e7
                exact absurd (hwt.symm.trans (show waitsT .any _ _ 7 1 = true by kernel_rfl)) (by decide)
              by_cases e8 : i = 8
              · subst e8
                exact absurd (hwt.symm.trans (show waitsT .any _ _ 8 1 = true by kernel_rfl)) (by decide)
              have hr' : Below w_.heap.size w_ w' := by simpa [e7, e8] using hr
              exact h.to hr') ?_
            refine prek_cons3 (fun i a a' w_ w' hne hwt hr h hput => by
              by_cases e7 : i = 7
              · exact absurd e7 hne
              by_cases e8 : i = 8
              · subst e8
                exact absurd (hwt.symm.trans (show waitsT .any _ _ 8 7 = true by kernel_rfl)) (by decide)
              have hr' : Below w_.heap.size w_ w' := by simpa [e7, e8] using hr
              exact ⟨ownsRow_to h.1 hr', Nat.le_trans h.2 hr'.size⟩) ?_
            refine prek_cons3 (fun i a a' w_ w' hne hwt hr h hput => by
              by_cases e7 : i = 7
              · subst e7
                have hr' : (fun b0 b1 x x' => World.grownBy x x' (Value.ownBlock (.slice Af k cf))) a a' w_ w' := hr
                exact (hr'.block (w5.heap.size + 1) h.lt (fun e => by have := (hlt _ e.symm).1; omega)).trans h
              by_cases e8 : i = 8
              · exact absurd e8 hne
              have hr' : Below w_.heap.size w_ w' := by simpa [e7, e8] using hr
              exact h.to hr') ?_
            exact prek_nil3
          case hop =>
            refine ⟨?_, ?_, ?_, ?_, ?_, ?_, ?_, ?_, ?_, trivial⟩
            · intro a w_ K hw hS hd hN hK
              have s9 := hS.at 9 (by kernel_rfl) rfl
              have hBc := hN _ (List.mem_cons_self ..) rfl
              rw [if_pos (want_free rfl)]
              have c0 := (hBc.cell 0).trans (show _ = some (.slice Af k cf) from rfl)
              go_simp
              exact hK _ _ (Below.refl _ _) (vok rfl) (facts_cons (fun h => absurd h (by decide)) (facts_cons (fun h => absurd h (by decide)) (facts_cons (fun h => absurd h (by decide)) facts_nil)))
            · intro a w_ K hw hS hd hN hK
              have s6 := hS.at 6 (by kernel_rfl) rfl
              have hBq := hN _ (List.mem_cons_of_mem _ (List.mem_cons_self ..)) rfl
              rw [if_pos (want_free rfl)]
              have e0 := (hBq.cell 0).trans (show _ = some (Value.int .i64 (2 + (c : Int))) from rfl)
              go_simp
              exact hK _ _ (Below.refl _ _) (vok rfl) (facts_cons (fun h => absurd h (by decide)) (facts_cons (fun h => absurd h (by decide)) (facts_cons (fun h => absurd h (by decide)) facts_nil)))
            · intro a w_ K hw hS hd hN hK
              have s10 := hS.at 10 (by kernel_rfl) rfl
              rw [if_pos (want_free rfl)]
              go_simp
              exact hK _ _ (Below.refl _ _) (vok rfl) (facts_cons (fun h => absurd h (by decide)) (facts_cons (fun h => absurd h (by decide)) (facts_cons (fun h => absurd h (by decide)) facts_nil)))
            · intro a w_ K hw hS hd hN hK
              have s61 := (hd 1 (by kernel_rfl)).at (d := 61) rfl rfl rfl
              have s62 := (hd 2 (by kernel_rfl)).at (d := 62) rfl rfl rfl
              rw [if_pos (want_free rfl)]
              have ew := ewC
              go_simp
              exact hK _ _ (Below.refl _ _) (vok rfl) (facts_cons (fun h => absurd h (by decide)) (facts_cons (fun h => absurd h (by decide)) (facts_cons (fun h => absurd h (by decide)) facts_nil)))
            · intro a w_ K hw hS hd hN hK
              have s11 := hS.at 11 (by kernel_rfl) rfl
              rw [if_pos (want_free rfl)]
              go_simp
              exact hK _ _ (Below.refl _ _) (vok rfl) (facts_cons (fun h => absurd h (by decide)) (facts_cons (fun h => absurd h (by decide)) (facts_cons (fun h => absurd h (by decide)) facts_nil)))
            · intro a w_ K hw hS hd hN hK
              have s63 := (hd 3 (by kernel_rfl)).at (d := 63) rfl rfl rfl
              have s64 := (hd 4 (by kernel_rfl)).at (d := 64) rfl rfl rfl
              rw [if_pos (want_free rfl)]
              go_simp
              with_reducible refine (CSE w_ hw).mono ?_
              rintro e w' ⟨rfl, hb⟩
              exact hK _ _ hb (vok rfl) (facts_cons (fun h => absurd h (by decide)) (facts_cons (fun h => absurd h (by decide)) (facts_cons (fun h => absurd h (by decide)) facts_nil)))
            · intro a w_ K hw hS hd hN hK
              have s65 := (hd 5 (by kernel_rfl)).at (d := 65) rfl rfl rfl
              rw [if_pos (want_free rfl)]
              go_simp
              exact hK _ _ (below_one _ _) (vfree rfl) (facts_cons (fun _ => ⟨_, hS.put_at (by kernel_rfl) _, Blk.new _ _ _, (Two.size hw)⟩) (facts_cons (fun h => absurd h (by decide)) (facts_cons (fun h => absurd h (by decide)) facts_nil)))
            · intro a w_ K hw hS hd hN hK
              have s60 := (hd 0 (by kernel_rfl)).at (d := 60) rfl rfl rfl
              obtain ⟨b66, s66, r66, l66⟩ := (hd 6 (by kernel_rfl)).2 _ (List.mem_cons_self ..) rfl
              obtain ⟨hOwn, hSz⟩ := hN _ (List.mem_cons_of_mem _ (List.mem_cons_of_mem _ (List.mem_cons_self ..))) rfl
              rw [if_pos (want_free rfl)]
              obtain ⟨i0, hi0, hz0, hz1, hz2⟩ := info_parts info_str
              refine wp_append_keep w_ (.tmp 60) (.tmp 66) 22 rfl (w5.heap.size + 2) 9 i0 _ 1 16 Tryz.underlying22 hi0 hz0 hz1 hz2 rfl (by decide) (.slice Af k cf) k _ (eval_at s60) hOwn ⟨b66, 0, none⟩ 1 1 [.string (bs SE)] (eval_at s66) rfl (fun j u hj => by
                cases j with
                | zero => simp at hj; subst hj; exact r66.cell 0
                | succ j =>
                  simp at hj) (by intro u hu; simp at hu; rcases hu with rfl <;> rfl) (by unfold maxLen; omega) (by omega) (by omega) ?_
              intro v2 w' h2 h3 h4 h5
              exact hK v2 w' h3 (vfree rfl) (facts_cons (fun h => absurd h (by decide)) (facts_cons (fun _ => ⟨v2, hS.put_at (by kernel_rfl) _, h2, h5.imp id fun ⟨g, e, hg⟩ => ⟨g, e, Nat.le_trans hSz hg⟩⟩) (facts_cons (fun h => absurd h (by decide)) facts_nil)))
            · intro a w_ K hw hS hd hN hK
              have s9 := hS.at 9 (by kernel_rfl) rfl
              obtain ⟨v67, s67, o67, k67⟩ := (hd 7 (by kernel_rfl)).2 _ (List.mem_cons_of_mem _ (List.mem_cons_self ..)) rfl
              have hBs := hN _ (List.mem_cons_of_mem _ (List.mem_cons_of_mem _ (List.mem_cons_of_mem _ (List.mem_cons_self ..)))) rfl
              rw [if_pos (want_free rfl)]
              obtain ⟨A0, c0', hv0⟩ := own_sl4 ((show World.ownsRow w7.drew (w5.heap.size + 2) 9 1 _ _ _ from HoF.out))
              have c0 := (hBs.cell 0).trans (show _ = some (.slice Af k cf) from rfl)
              have f0 := hBs.frozen 0
              obtain ⟨A1, c1', rfl⟩ := own_sl4 o67
              try subst hv0
              go_simp
              exact hK undef _ ⟨_, rfl⟩ (vfree rfl) (facts_cons (fun h => absurd h (by decide)) (facts_cons (fun h => absurd h (by decide)) (facts_cons (fun _ => ⟨_, s67, hBs.set_ 0 _⟩) facts_nil)))
          case hfin =>
            intro a w8 hw hS hk
            have s60 := (hk 0 (by decide)).at (d := 60) rfl rfl rfl
            have s61 := (hk 1 (by decide)).at (d := 61) rfl rfl rfl
            have s62 := (hk 2 (by decide)).at (d := 62) rfl rfl rfl
            have s63 := (hk 3 (by decide)).at (d := 63) rfl rfl rfl
            have s64 := (hk 4 (by decide)).at (d := 64) rfl rfl rfl
            have s65 := (hk 5 (by decide)).at (d := 65) rfl rfl rfl
            obtain ⟨b66, s66, r66, l66⟩ := (hk 6 (by decide)).2 _ (List.mem_cons_self ..) rfl
            obtain ⟨v67, s67, o67, k67⟩ := (hk 7 (by decide)).2 _ (List.mem_cons_of_mem _ (List.mem_cons_self ..)) rfl
            obtain ⟨z67, zs67, zP⟩ := (hk 8 (by decide)).2 _ (List.mem_cons_of_mem _ (List.mem_cons_of_mem _ (List.mem_cons_self ..))) rfl
            have hlit := hS.lit _ (by kernel_rfl) (lits_cons s60 (lits_cons s61 (lits_cons s62 (lits_cons s63 (lits_cons s64 (lits_cons s65 (lits_cons s66 (lits_cons s67 lits_nil))))))))
            rw [hlit]
            obtain rfl : v67 = z67 := Option.some.inj (s67.symm.trans zs67)
            clear zs67 r66 l66
            have HT8 := hide hw
            have HO8 := hide o67
            have HZ8 := hide zP
            have HK8 := hide k67
            clear hlit hk hS hw o67 zP k67 s60 s61 s62 s63 s64 s65 s66 s67
            have HI8 : Hid (LpI w w5 jb c ps (k + 1) (k + 1) (.slice Ae7 (k + 1) ce7) v67 w8) := HI7.out.stepF HT8.out HZ8.out (by
              have := HO8.out
              show World.ownsRow _ _ _ _ _ _ _
              rw [hLN.out, List.length_append, hLFl, flatS_snoc]
              exact this) HK8.out
            obtain ⟨Af8, cf8, rfl⟩ := own_sl4 HO8.out
            clear HT8 HO8 HZ8 HK8 HI7 HR67 hlt hbp hbW hBW CSE HoF
            simp only [litT, List.setIfInBounds_toArray, List.set_cons_succ, List.set_cons_zero]
            go_wp2_with fail
            refine ⟨⟨k + 1, by go_num, by omega, _, _, HI8.out⟩, ?_⟩
            simp [intOf]; omega
      · obtain rfl : k = ps.length := by omega
        have e1 : decide ((ps.length : Int) < (ps.length : Int)) = false := by simp
        have hlp := HI.out
        have HQ := hide (Blk.new wr 96 (fnRow w.heap.size b6 b7 w5.heap.size (w5.heap.size + 1)))
        have hbq := below_one wr (.cells (fnRow w.heap.size b6 b7 w5.heap.size (w5.heap.size + 1)) 96)
        have HC : Hid (ApC w w5 (wr.alloc (.cells (fnRow w.heap.size b6 b7 w5.heap.size (w5.heap.size + 1)) 96)) jb b sb ab c b6 b7 ps vE vF) :=
          ⟨hlp.to hbq, (HR6.out.below hlp.sav hb6).to hbq, (HR7.out.below hlp.sav hb7).to hbq, by have := HL6.out; omega, by have := HL7.out; omega, HDB.out, ((HJ.out.blk.to hlp.ap.bel).to hbq).cell 0, HS1.out, hjlt, HG.out, ⟨HG.out.top, HGD.out⟩, HPL.out⟩
        have HS0 : Hid (StI w (wr.alloc (.cells (fnRow w.heap.size b6 b7 w5.heap.size (w5.heap.size + 1)) 96)) b sb ab N d (stepsV c ps) 0 d (wr.alloc (.cells (fnRow w.heap.size b6 b7 w5.heap.size (w5.heap.size + 1)) 96))) :=
          ⟨(HD.out.to hlp.ap.bel).to hbq, HON.out, HQ0.out, hN, rfl, Sav.refl _ _, hlp.ap.b4.to hbq⟩
        have hqw : w.heap.size + 1 < wr.heap.size := Nat.lt_of_lt_of_le hlp.lt hlp.sav.size
        have HBW := hide (below_to hlp.ap.bel (Nat.le_refl _) hbq)
        clear hlp hbq HI
        have hfr : fnRow w.heap.size b6 b7 w5.heap.size (w5.heap.size + 1) = fnRow w.heap.size b6 b7 w5.heap.size (w5.heap.size + 1) := rfl
        unfold fnRow fnV at hfr
        simp only [List.map_cons, List.map_nil] at hfr
        go_wp2_with fail
        have hWQ : ∃ wq, wr.alloc (.cells (fnRow w.heap.size b6 b7 w5.heap.size (w5.heap.size + 1)) 96) = wq := ⟨_, rfl⟩
        obtain ⟨wq, hWQ⟩ := hWQ
        rw [hWQ] at HQ HC HS0 HBW
        obtain ⟨q, hq⟩ : ∃ q, wr.heap.size = q := ⟨_, rfl⟩
        rw [hq] at HQ hqw
        have hWQ' := hWQ
        unfold fnRow fnV at hWQ'
        simp only [List.map_cons, List.map_nil] at hWQ'
        rw [hWQ', hq]
        clear hWQ hWQ' hq hfr e1
        go_loopw [75] (fun i wr => ∃ (k : Nat) (dk : Dk), i = .int .i64 (k : Int) ∧ k ≤ 4 ∧ Aside (StI w wq b sb ab N d (stepsV c ps) k dk wr)) (fun i _ => 4 - (intOf i).toNat)
        case atStart => exact ⟨0, d, rfl, by omega, HS0.out⟩
        case round =>
          obtain ⟨k, dk, rfl, hk, hS⟩ := hrel
          have HS : Hid (StI w wq b sb ab N d (stepsV c ps) k dk wr) := hS
          clear hS
          have hqF : ¬ (DB b sb ab q ∨ q = w.heap.size + 1) := fun hF => by
            rcases hF with hF | hF
            · have := HDB.out q hF; omega
            · omega
          have HQr := hide (HS.out.sav.blk HQ.out hqF)
          by_cases hk4 : k < 4
          · have e1 : decide ((k : Int) < 4) = true := decide_eq_true (by omega)
            have e2 : decide (k < 4) = true := decide_eq_true hk4
            obtain ⟨F, l, s, h1, h2, h3, h4⟩ := HC.out.step HS.out hk4 hN4 hfit
            have c0 := (HQr.out.cell k).trans h1
            unfold fnV at c0
            have HST := hide h2
            clear h1 h2
            unfold WrR at h4
            have y4 := (HS.out.b4.cell 0).trans (show _ = some (Value.int .i64 0) from rfl)
            have g4 := HS.out.b4.frozen 0
            generalize (l.map fun p => Value.pointer (some ⟨p, 0, none⟩)).toArray = caps at *
            obtain ⟨r, hr⟩ : ∃ r, wrAll dk s.1 s.2 = r := ⟨_, rfl⟩
            rw [hr] at h4
            have HRR := hide hr
            have hfine := wrAll_fine dk HS.out.off HS.out.q s.1 s.2
            rw [hr] at hfine
            have HF := hide hfine
            clear hr hfine
            go_wp2_with fail
            refine h4.mono ?_
            rintro e w2 ⟨rfl, g1, g2⟩
            have G1 := hide g1
            have G2 := hide g2
            have hnd4 : ¬ DB b sb ab (w.heap.size + 1) := fun hF => by have := HDB.out _ hF; omega
            have hb4 := G2.out.blk HS.out.b4 hnd4
            have y4 := (hb4.cell 0).trans (show _ = some (Value.int .i64 0) from rfl)
            have g4 := hb4.frozen 0
            have HB4 := hide hb4
            clear g1 g2 h4 h3 c0 hb4
            rcases HF.out with ⟨h0, _⟩ | h21
            · have hz : (r.1 != 0) = false := by rw [h0]; rfl
              go_wp2_with fail
              have HN := hide (HS.out.next HST.out (by rw [HRR.out]; exact G1.out) G2.out (by rw [HRR.out]; exact h0) ⟨by omega, by omega, fun _ => by omega⟩)
              refine ⟨⟨k + 1, _, by go_num, by omega, HN.out⟩, ?_⟩
              simp [intOf]; omega
            · have hz : (r.1 != 0) = true := by rw [h21]; rfl
              go_wp2_with fail
              have hSS := HS.out.sav.trans (G2.out.mono (F' := fun x => DB b sb ab x ∨ x = w.heap.size + 1) fun _ _ h => .inl h)
              have hn2 : ¬ (DB b sb ab w.heap.size ∨ w.heap.size = w.heap.size + 1) := fun hF => by
                rcases hF with hF | hF
                · have := HDB.out _ hF; omega
                · omega
              have hnj : ¬ (DB b sb ab jb ∨ jb = w.heap.size + 1) := fun hF => by
                rcases hF with hF | hF
                · exact HS1.out hF
                · omega
              have hj1 := hSS.blk (HJ.out.blk.to HBW.out) hnj
              have h21' : (wrAll dk s.1 s.2).1 ≠ 0 := by rw [HRR.out, h21]; decide
              have HEND : wrSteps d (stepsV c (splitV (joinD news))) = r := by rw [HPS.out, HS.out.all, steps_at HST.out, if_neg h21', HRR.out]
              refine app_leave 21 true rfl w.heap.size (w.heap.size + 1) jb _ false rfl (by omega) _ (((hSS.blk HC.out.lp.ap.b2 hn2).far (p := ⟨w.heap.size + 1, 0, none⟩) (by show w.heap.size ≠ w.heap.size + 1; omega) _).far (p := ⟨w.heap.size + 1, 0, none⟩) (by show w.heap.size ≠ w.heap.size + 1; omega) _) ((HB4.out.set_ 0 _).set_ 0 _) ((hj1.far (p := ⟨w.heap.size + 1, 0, none⟩) (by show jb ≠ w.heap.size + 1; omega) _).far (p := ⟨w.heap.size + 1, 0, none⟩) (by show jb ≠ w.heap.size + 1; omega) _) _ ?_ _ rfl
              rw [HEND]
              refine ⟨by rw [h21], ((G1.out.farC hnd4).farC hnd4).farC HS1.out, ?_, fun h0 => by rw [h21] at h0; cases h0⟩
              refine ((((Sav.of HBW.out).join hSS fun x hx hF => ?_).set_ (p := ⟨w.heap.size + 1, 0, none⟩) (fun h => absurd h (by show ¬ (w.heap.size + 1 < w.heap.size); omega)) _).set_ (p := ⟨w.heap.size + 1, 0, none⟩) (fun h => absurd h (by show ¬ (w.heap.size + 1 < w.heap.size); omega)) _).set_ (p := ⟨jb, 4, none⟩) (fun _ => .inr (.inl rfl)) _
              rcases hF with hF | hF
              · exact .inl hF
              · omega
          · obtain rfl : k = 4 := by omega
            have e1 : decide ((4 : Int) < 4) = false := rfl
            have hn2 : ¬ (DB b sb ab w.heap.size ∨ w.heap.size = w.heap.size + 1) := fun hF => by
              rcases hF with hF | hF
              · have := HDB.out _ hF; omega
              · omega
            have hnj : ¬ (DB b sb ab jb ∨ jb = w.heap.size + 1) := fun hF => by
              rcases hF with hF | hF
              · exact HS1.out hF
              · omega
            have hn7 : ¬ (DB b sb ab b7 ∨ b7 = w.heap.size + 1) := fun hF => by
              have := HC.out.l7
              rcases hF with hF | hF
              · have := HDB.out _ hF; omega
              · omega
            have hj1 := HS.out.sav.blk (HJ.out.blk.to HBW.out) hnj
            have hp1 := HS.out.sav.blk HC.out.lp.ap.b2 hn2
            have HSW : Hid (Sav (fun k => DB b sb ab k ∨ k = jb ∨ vr.ownBlock = some k) w wr) := (Sav.of HBW.out).join HS.out.sav fun x hx hF => by
              rcases hF with hF | hF
              · exact .inl hF
              · omega
            have hrow1 : wr.ownsRow (jb + 1) 9 1 vr rs.length (flatS rs) := HS.out.sav.own (own_toB HJ.out.own HBW.out) fun g e hF => by
              rcases hF with hF | hF
              · exact HS2.out g e hF
              · have := HVR.out g e; omega
            have htx1 : TextsAt wr (.slice A news.length cv) news := (HV.out.to HBW.out).sav HS.out.sav fun g e hF => by
              have h3 := HS3.out g e
              rcases hF with hF | hF
              · exact h3.1 hF
              · obtain ⟨A', c', h1, _, _, h5⟩ := HV.out
                obtain ⟨x0, hx0⟩ : ∃ x, news[0]? = some x := ⟨_, List.getElem?_eq_getElem hnl⟩
                obtain ⟨a, ha, hl, _⟩ := h5 0 _ (by rw [List.getElem?_map, hx0]; rfl)
                rw [h1, ha] at e
                have : a.block = g := Option.some.inj e
                omega
            have y2 := (hp1.cell 0).trans (show _ = some (Value.pointer (some ⟨jb, 0, none⟩)) from rfl)
            have y7 := ((HS.out.sav.blk HC.out.r7 hn7).cell 0).trans (show _ = some (Value.int .i64 ((c : Int) + (ps.length : Int))) from rfl)
            have yj := (hj1.cell 2).trans (show _ = some (Value.int .i64 (c : Int)) from rfl)
            have fj := hj1.frozen 2
            have HP1 := hide hp1
            have HJ1 := hide hj1
            have HRW := hide hrow1
            have HTX := hide htx1
            clear hp1 hj1 hrow1 htx1
            go_upto_region 29 with fail
            have hvj : vr.ownBlock ≠ some jb := fun e => by have := HVR.out jb e; omega
            have HJ9 : Hid (Blk (wr.setCell ⟨jb, 2, none⟩ (.int .i64 ((c : Int) + (ps.length : Int)))) jb 90 #[dkP b, .int .i64 (N : Int), .int .i64 ((c : Int) + (ps.length : Int)), vr, .bool false]) := HJ1.out.set_ 2 _
            have HP9 := hide (HP1.out.far (p := ⟨jb, 2, none⟩) (by show w.heap.size ≠ jb; omega) (.int .i64 ((c : Int) + (ps.length : Int))))
            have HRW9 := hide (own_farB HRW.out (p := ⟨jb, 2, none⟩) hvj (.int .i64 ((c : Int) + (ps.length : Int))))
            have HTX9 : Hid (TextsAt (wr.setCell ⟨jb, 2, none⟩ (.int .i64 ((c : Int) + (ps.length : Int)))) (.slice A news.length cv) news) := RowsAt.store HTX.out (p := ⟨jb, 2, none⟩) (fun a ha e => (HS3.out a.block (by rw [ha]; rfl)).2.1 e) _
            have HB9 := hide (HS.out.b4.far (p := ⟨jb, 2, none⟩) (by show w.heap.size + 1 ≠ jb; omega) (.int .i64 ((c : Int) + (ps.length : Int))))
            have HD9 := hide (HS.out.at_.farC (i := 2) (u := .int .i64 ((c : Int) + (ps.length : Int))) HS1.out)
            have HS9 := hide (HSW.out.set_ (p := ⟨jb, 2, none⟩) (fun _ => .inr (.inl rfl)) (.int .i64 ((c : Int) + (ps.length : Int))))
            have HALL : Hid (wrSteps d (stepsV c (splitV (joinD news))) = (0, dk)) := by show _ = _; rw [HPS.out, HS.out.all]; rfl
            clear y2 y7 yj fj HJ1 HP1 HRW HTX HSW HS e1
            generalize wr.setCell ⟨jb, 2, none⟩ (.int .i64 ((c : Int) + (ps.length : Int))) = w9 at *
            obtain ⟨a0, rfl⟩ : ∃ a0, A = some a0 := by
              obtain ⟨x0, hx0⟩ : ∃ x, news[0]? = some x := ⟨_, List.getElem?_eq_getElem hnl⟩
              obtain ⟨a, ha, _⟩ := TextsAt.at_ HTX9.out hx0
              exact ⟨a, ha⟩
            have hlt : ∀ g, vr.ownBlock = some g → jb + 1 ≤ g ∧ g < w9.heap.size := World.ownsRow.lt HRW9.out
            have hnw : ∀ g, vr.ownBlock = some g → g < w.heap.size := fun g e => (HVR.out g e).2
            have hjW : jb < w9.heap.size := HJ9.out.lt
            have hs9 := HS9.out.size
            have hrl := HRL.out
            apply wp_region_lo4 (C := fun W => Two jb (rowOr vr jb) w9 W) (V := [some _, some _, some _, some _, some _, some _, none, some _, some _, none]) (Fs := [(6, fun a W => ∃ v2, a.tmps[95]? = some v2 ∧ World.ownsRow W (jb + 1) 9 1 v2 (rs.length + news.length) (flatS rs ++ flatS news) ∧ (v2.ownBlock = Value.ownBlock vr ∨ ∃ g, v2.ownBlock = some g ∧ w9.heap.size ≤ g)), (9, fun a W => ∃ v2, a.tmps[95]? = some v2 ∧ Blk W jb 90 #[dkP b, .int .i64 (N : Int), .int .i64 ((c : Int) + (ps.length : Int)), v2, .bool false])]) (Ns := [(0, fun (_ : Act) W => Blk W w.heap.size 29 #[.pointer (some ⟨jb, 0, none⟩)]), (1, fun (_ : Act) W => Blk W w.heap.size 29 #[.pointer (some ⟨jb, 0, none⟩)]), (4, fun (_ : Act) W => Blk W jb 90 #[dkP b, .int .i64 (N : Int), .int .i64 ((c : Int) + (ps.length : Int)), vr, .bool false]), (6, fun (_ : Act) W => World.ownsRow W (jb + 1) 9 1 vr rs.length (flatS rs) ∧ TextsAt W (.slice (some a0) news.length cv) news ∧ w9.heap.size ≤ W.heap.size), (9, fun (_ : Act) W => Blk W jb 90 #[dkP b, .int .i64 (N : Int), .int .i64 ((c : Int) + (ps.length : Int)), vr, .bool false])]) (Rel := fun i a0_ a1_ x x' => if i = 6 then (fun b0 b1 x x' => World.grownBy x x' (Value.ownBlock vr)) a0_ a1_ x x' else if i = 9 then (fun b0 b1 x x' => ∃ u, x' = World.setCell x ⟨jb, 3, none⟩ u) a0_ a1_ x x' else Below x.heap.size x x')
            case hm => kernel_rfl
            case hB => kernel_rfl
            case hCw => exact ((Two.refl jb (rowOr vr jb) w9).drewN 1)
            case hC =>
              intro i a a' w_ w' hw hr
              by_cases e6 : i = 6
              · subst e6
                have hr' : (fun b0 b1 x x' => World.grownBy x x' (Value.ownBlock vr)) a a' w_ w' := hr
                exact Two.trans hw (Two.grown hr')
              by_cases e9 : i = 9
              · subst e9
                have hr' : (fun b0 b1 x x' => ∃ u, x' = World.setCell x ⟨jb, 3, none⟩ u) a a' w_ w' := hr
                obtain ⟨u, rfl⟩ := hr'
                exact Two.set1 hw _ u
              have hr' : Below w_.heap.size w_ w' := by simpa [e6, e9] using hr
              exact Two.to hw hr'
            case hst =>
              refine keeps4_cons (fun i a a' w_ w' hne hwt hs hput hr h => by
                by_cases e6 : i = 6
                · exact absurd e6 hne
                by_cases e9 : i = 9
                · subst e9
                  have hr' : (fun b0 b1 x x' => ∃ u, x' = World.setCell x ⟨jb, 3, none⟩ u) a a' w_ w' := hr
                  obtain ⟨g, h1, h2, h3⟩ := h
                  obtain ⟨u, rfl⟩ := hr'
                  exact ⟨g, (hs 95 (by kernel_rfl)).trans h1, ownsRow_set h2 (fun e => by have := (World.ownsRow.lt h2 _ e).1; omega), h3⟩
                have hr' : Below w_.heap.size w_ w' := by simpa [e6, e9] using hr
                obtain ⟨g, h1, h2, h3⟩ := h
                exact ⟨g, (hs 95 (by kernel_rfl)).trans h1, ownsRow_to h2 hr', h3⟩) ?_
              refine keeps4_cons (fun i a a' w_ w' hne hwt hs hput hr h => by
                by_cases e6 : i = 6
                · subst e6
                  exact absurd (hwt.symm.trans (show waitsT .any _ _ 9 6 = true by kernel_rfl)) (by decide)
                by_cases e9 : i = 9
                · exact absurd e9 hne
                have hr' : Below w_.heap.size w_ w' := by simpa [e6, e9] using hr
                obtain ⟨g, h1, h2⟩ := h
                exact ⟨g, (hs 95 (by kernel_rfl)).trans h1, h2.to hr'⟩) ?_
              exact keeps4_nil
            case hN0 => exact pre0_cons ((show Blk w9.drew w.heap.size _ _ from HP9.out)) (pre0_cons ((show Blk w9.drew w.heap.size _ _ from HP9.out)) (pre0_cons ((show Blk w9.drew jb 90 _ from HJ9.out)) (pre0_cons (⟨(show World.ownsRow w9.drew (jb + 1) 9 1 _ _ _ from HRW9.out), (show TextsAt w9.drew _ _ from HTX9.out), Nat.le_refl _⟩) (pre0_cons ((show Blk w9.drew jb 90 _ from HJ9.out)) (pre0_nil)))))
            case hNst =>
              refine prek_cons3 (fun i a a' w_ w' hne hwt hr h hput => by
                by_cases e6 : i = 6
                · subst e6
                  have hr' : (fun b0 b1 x x' => World.grownBy x x' (Value.ownBlock vr)) a a' w_ w' := hr
                  exact (hr'.block w.heap.size h.lt (fun e => by have := hnw _ e.symm; omega)).trans h
                by_cases e9 : i = 9
                · subst e9
                  have hr' : (fun b0 b1 x x' => ∃ u, x' = World.setCell x ⟨jb, 3, none⟩ u) a a' w_ w' := hr
                  obtain ⟨u, rfl⟩ := hr'
                  exact h.far (p := ⟨jb, 3, none⟩) (by show w.heap.size ≠ jb; omega) u
                have hr' : Below w_.heap.size w_ w' := by simpa [e6, e9] using hr
                exact h.to hr') ?_
              refine prek_cons3 (fun i a a' w_ w' hne hwt hr h hput => by
                by_cases e6 : i = 6
                · subst e6
                  have hr' : (fun b0 b1 x x' => World.grownBy x x' (Value.ownBlock vr)) a a' w_ w' := hr
                  exact (hr'.block w.heap.size h.lt (fun e => by have := hnw _ e.symm; omega)).trans h
                by_cases e9 : i = 9
                · subst e9
                  have hr' : (fun b0 b1 x x' => ∃ u, x' = World.setCell x ⟨jb, 3, none⟩ u) a a' w_ w' := hr
                  obtain ⟨u, rfl⟩ := hr'
                  exact h.far (p := ⟨jb, 3, none⟩) (by show w.heap.size ≠ jb; omega) u
                have hr' : Below w_.heap.size w_ w' := by simpa [e6, e9] using hr
                exact h.to hr') ?_
              refine prek_cons3 (fun i a a' w_ w' hne hwt hr h hput => by
                by_cases e6 : i = 6
                · subst e6
                  exact absurd (hwt.symm.trans (show waitsT .any _ _ 6 4 = true by kernel_rfl)) (by decide)
                by_cases e9 : i = 9
                · subst e9
                  exact absurd (hwt.symm.trans (show waitsT .any _ _ 9 4 = true by kernel_rfl)) (by decide)
                have hr' : Below w_.heap.size w_ w' := by simpa [e6, e9] using hr
                exact h.to hr') ?_
              refine prek_cons3 (fun i a a' w_ w' hne hwt hr h hput => by
                by_cases e6 : i = 6
                · exact absurd e6 hne
                by_cases e9 : i = 9
                · subst e9
                  exact absurd (hwt.symm.trans (show waitsT .any _ _ 9 6 = true by kernel_rfl)) (by decide)
                have hr' : Below w_.heap.size w_ w' := by simpa [e6, e9] using hr
                exact ⟨ownsRow_to h.1 hr', h.2.1.to hr', Nat.le_trans h.2.2 hr'.size⟩) ?_
              refine prek_cons3 (fun i a a' w_ w' hne hwt hr h hput => by
                by_cases e6 : i = 6
                · subst e6
                  have hr' : (fun b0 b1 x x' => World.grownBy x x' (Value.ownBlock vr)) a a' w_ w' := hr
                  exact (hr'.block jb h.lt (fun e => by have := (hlt _ e.symm).1; omega)).trans h
                by_cases e9 : i = 9
                · exact absurd e9 hne
                have hr' : Below w_.heap.size w_ w' := by simpa [e6, e9] using hr
                exact h.to hr') ?_
              exact prek_nil3
            case hop =>
              refine ⟨?_, ?_, ?_, ?_, ?_, ?_, ?_, ?_, ?_, ?_, trivial⟩
              · intro a w_ K hw hS hd hN hK
                have s2 := hS.at 2 (by kernel_rfl) rfl
                have hB0 := hN _ (List.mem_cons_self ..) rfl
                rw [if_pos (want_free rfl)]
                have c0 := (hB0.cell 0).trans (show _ = some (Value.pointer (some ⟨jb, 0, none⟩)) from rfl)
                go_simp
                exact hK _ _ (Below.refl _ _) (vok rfl) (facts_cons (fun h => absurd h (by decide)) (facts_cons (fun h => absurd h (by decide)) facts_nil))
              · intro a w_ K hw hS hd hN hK
                have s2 := hS.at 2 (by kernel_rfl) rfl
                have hB1 := hN _ (List.mem_cons_of_mem _ (List.mem_cons_self ..)) rfl
                rw [if_pos (want_free rfl)]
                have c0 := (hB1.cell 0).trans (show _ = some (Value.pointer (some ⟨jb, 0, none⟩)) from rfl)
                go_simp
                exact hK _ _ (Below.refl _ _) (vok rfl) (facts_cons (fun h => absurd h (by decide)) (facts_cons (fun h => absurd h (by decide)) facts_nil))
              · intro a w_ K hw hS hd hN hK
                have s90 := (hd 1 (by kernel_rfl)).at (d := 90) rfl rfl rfl
                rw [if_pos (want_free rfl)]
                go_simp
                exact hK _ _ (Below.refl _ _) (vok rfl) (facts_cons (fun h => absurd h (by decide)) (facts_cons (fun h => absurd h (by decide)) facts_nil))
              · intro a w_ K hw hS hd hN hK
                have s91 := (hd 2 (by kernel_rfl)).at (d := 91) rfl rfl rfl
                rw [if_pos (want_free rfl)]
                go_simp
                exact hK _ _ (Below.refl _ _) (vok rfl) (facts_cons (fun h => absurd h (by decide)) (facts_cons (fun h => absurd h (by decide)) facts_nil))
              · intro a w_ K hw hS hd hN hK
                have s92 := (hd 3 (by kernel_rfl)).at (d := 92) rfl rfl rfl
                have hB4 := hN _ (List.mem_cons_of_mem _ (List.mem_cons_of_mem _ (List.mem_cons_self ..))) rfl
                rw [if_pos (want_free rfl)]
                have c0 := (hB4.cell 3).trans (show _ = some vr from rfl)
                go_simp
                exact hK _ _ (Below.refl _ _) (vok rfl) (facts_cons (fun h => absurd h (by decide)) (facts_cons (fun h => absurd h (by decide)) facts_nil))
              · intro a w_ K hw hS hd hN hK
                have s1 := hS.at 1 (by kernel_rfl) rfl
                rw [if_pos (want_free rfl)]
                go_simp
                exact hK _ _ (Below.refl _ _) (vok rfl) (facts_cons (fun h => absurd h (by decide)) (facts_cons (fun h => absurd h (by decide)) facts_nil))
              · intro a w_ K hw hS hd hN hK
                have s93 := (hd 4 (by kernel_rfl)).at (d := 93) rfl rfl rfl
                have s94 := (hd 5 (by kernel_rfl)).at (d := 94) rfl rfl rfl
                obtain ⟨hOwn, hTx, hSz⟩ := hN _ (List.mem_cons_of_mem _ (List.mem_cons_of_mem _ (List.mem_cons_of_mem _ (List.mem_cons_self ..)))) rfl
                rw [if_pos (want_free rfl)]
                obtain ⟨i0, hi0, hz0, hz1, hz2⟩ := info_parts info_str
                refine wp_append_keep w_ (.tmp 93) (.tmp 94) 22 rfl (jb + 1) 9 i0 _ 1 16 Tryz.underlying22 hi0 hz0 hz1 hz2 rfl (by decide) vr rs.length _ (eval_at s93) hOwn a0 news.length cv (flatS news) (eval_at s94) (by rw [flatS_len, Nat.mul_one]) hTx.cells (by intro u hu; obtain ⟨x, _, rfl⟩ := List.mem_map.1 hu; rfl) (by unfold maxLen; omega) (by omega) (by omega) ?_
                intro v2 w' h2 h3 h4 h5
                exact hK v2 w' h3 (vfree rfl) (facts_cons (fun _ => ⟨v2, hS.put_at (by kernel_rfl) _, h2, h5.imp id fun ⟨g, e, hg⟩ => ⟨g, e, Nat.le_trans hSz hg⟩⟩) (facts_cons (fun h => absurd h (by decide)) facts_nil))
              · intro a w_ K hw hS hd hN hK
                have s89 := (hd 0 (by kernel_rfl)).at (d := 89) rfl rfl rfl
                rw [if_pos (want_free rfl)]
                go_simp
                exact hK _ _ (Below.refl _ _) (vok rfl) (facts_cons (fun h => absurd h (by decide)) (facts_cons (fun h => absurd h (by decide)) facts_nil))
              · intro a w_ K hw hS hd hN hK
                have s96 := (hd 7 (by kernel_rfl)).at (d := 96) rfl rfl rfl
                rw [if_pos (want_free rfl)]
                go_simp
                exact hK _ _ (Below.refl _ _) (vok rfl) (facts_cons (fun h => absurd h (by decide)) (facts_cons (fun h => absurd h (by decide)) facts_nil))
              · intro a w_ K hw hS hd hN hK
                have s97 := (hd 8 (by kernel_rfl)).at (d := 97) rfl rfl rfl
                obtain ⟨v95, s95, o95, k95⟩ := (hd 6 (by kernel_rfl)).2 _ (List.mem_cons_self ..) rfl
                have hBs := hN _ (List.mem_cons_of_mem _ (List.mem_cons_of_mem _ (List.mem_cons_of_mem _ (List.mem_cons_of_mem _ (List.mem_cons_self ..))))) rfl
                rw [if_pos (want_free rfl)]
                have c0 := (hBs.cell 3).trans (show _ = some vr from rfl)
                have f0 := hBs.frozen 3
                obtain ⟨A1, c1', rfl⟩ := own_sl4 o95
                obtain ⟨A0, c0', hv0⟩ := own_sl4 HRW9.out
                subst hv0
                go_simp
                exact hK undef _ ⟨_, rfl⟩ (vfree rfl) (facts_cons (fun h => absurd h (by decide)) (facts_cons (fun _ => ⟨_, s95, hBs.set_ 3 _⟩) facts_nil))
            case hfin =>
              intro a w10 hw hS hk
              have s89 := (hk 0 (by decide)).at (d := 89) rfl rfl rfl
              have s90 := (hk 1 (by decide)).at (d := 90) rfl rfl rfl
              have s91 := (hk 2 (by decide)).at (d := 91) rfl rfl rfl
              have s92 := (hk 3 (by decide)).at (d := 92) rfl rfl rfl
              have s93 := (hk 4 (by decide)).at (d := 93) rfl rfl rfl
              have s94 := (hk 5 (by decide)).at (d := 94) rfl rfl rfl
              obtain ⟨v95, s95, o95, k95⟩ := (hk 6 (by decide)).2 _ (List.mem_cons_self ..) rfl
              have s96 := (hk 7 (by decide)).at (d := 96) rfl rfl rfl
              have s97 := (hk 8 (by decide)).at (d := 97) rfl rfl rfl
              obtain ⟨z95, zs95, zP⟩ := (hk 9 (by decide)).2 _ (List.mem_cons_of_mem _ (List.mem_cons_self ..)) rfl
              have hlit := hS.lit _ (by kernel_rfl) (lits_cons s89 (lits_cons s90 (lits_cons s91 (lits_cons s92 (lits_cons s93 (lits_cons s94 (lits_cons s95 (lits_cons s96 (lits_cons s97 lits_nil)))))))))
              rw [hlit]
              obtain rfl : v95 = z95 := Option.some.inj (s95.symm.trans zs95)
              clear zs95
              have HT10 := hide hw
              have hs99 : w.heap.size + 1 < w9.heap.size := HB9.out.lt
              have HO10 := hide o95
              have HZ10 := hide zP
              have HK10 := hide k95
              clear hlit hk hS hw o95 zP k95 s89 s90 s91 s92 s93 s94 s95 s96 s97
              have hr4 : rowOr vr jb ≠ w.heap.size + 1 ∧ rowOr vr jb ≠ w.heap.size ∧ ¬ DB b sb ab (rowOr vr jb) := by
                rcases rowOr_cases vr jb with e | e
                · rw [e]; exact ⟨by omega, by omega, HS1.out⟩
                · have := hnw _ e
                  exact ⟨by omega, by omega, HS2.out _ e⟩
              have hb4 := HT10.out.blk HB9.out (by omega) (fun e => hr4.1 e.symm)
              have y4 := (hb4.cell 0).trans (show _ = some (Value.int .i64 0) from rfl)
              have g4 := hb4.frozen 0
              have hp2 := HT10.out.blk HP9.out (by omega) (fun e => hr4.2.1 e.symm)
              have HD10 : Hid (DkAt b sb ab (.slice none 0 0) dk w10) := by
                have hd := HD9.out
                have nb : ∀ x, DB b sb ab x → x ≠ jb ∧ x ≠ rowOr vr jb := fun x hx => ⟨fun e => HS1.out (e ▸ hx), fun e => hr4.2.2 (e ▸ hx)⟩
                have n1 := nb b (.inl rfl)
                have n2 := nb sb (.inr (.inl rfl))
                refine ⟨HT10.out.blk hd.blk n1.1 n1.2, HT10.out.blk hd.st n2.1 n2.2, fun a n c e => ?_, hd.ord, (sav_two HT10.out).own hd.q (fun g e => by cases e), hd.l64, hd.qk, hd.few⟩
                obtain ⟨q1, q2, q3, q4⟩ := hd.al a n c e
                have n3 := nb ab (.inr (.inr (.inl ⟨rfl, q2⟩)))
                exact ⟨HT10.out.blk q1 n3.1 n3.2, q2, q3, q4⟩
              have HB10 := hide hb4
              have HP10 := hide hp2
              have HS10 : Hid (Sav (fun k => DB b sb ab k ∨ k = jb ∨ vr.ownBlock = some k) w w10) := HS9.out.join (sav_two HT10.out) fun x _ hF => by
                rcases hF with hF | hF
                · exact .inr (.inl hF)
                · rcases rowOr_cases vr jb with e | e
                  · exact .inr (.inl (hF.trans e))
                  · exact .inr (.inr (by rw [hF]; exact e))
              have hnd4 : ¬ DB b sb ab (w.heap.size + 1) := fun hF => by have := HDB.out _ hF; omega
              clear hb4 hp2 hr4 HT10 HD9 HS9 HB9 HP9 HRW9 HTX9 HJ9
              simp only [litT, List.setIfInBounds_toArray, List.set_cons_succ, List.set_cons_zero]
              go_wp2_with fail
              refine app_leave 0 false rfl w.heap.size (w.heap.size + 1) jb _ false rfl (by omega) _ (HP10.out.far (p := ⟨w.heap.size + 1, 0, none⟩) (by show w.heap.size ≠ w.heap.size + 1; omega) _) (HB10.out.set_ 0 _) (HZ10.out.far (p := ⟨w.heap.size + 1, 0, none⟩) (by show jb ≠ w.heap.size + 1; omega) _) _ ?_ _ rfl
              rw [HALL.out]
              have hv95 : v95.ownBlock ≠ some (w.heap.size + 1) := fun e => by
                rcases HK10.out with h | ⟨g, h, hg⟩
                · have := hnw _ (h.symm.trans e); omega
                · rw [h] at e
                  have := Option.some.inj e
                  omega
              have hv95' : v95.ownBlock ≠ some jb := fun e => by
                have := (World.ownsRow.lt HO10.out _ e).1
                omega
              refine ⟨rfl, (HD10.out.farC hnd4).farC HS1.out, ?_, fun _ => ⟨v95, ⟨?_, ?_⟩, ?_⟩⟩
              · exact (HS10.out.set_ (p := ⟨w.heap.size + 1, 0, none⟩) (fun h => absurd h (by show ¬ (w.heap.size + 1 < w.heap.size); omega)) _).set_ (p := ⟨jb, 4, none⟩) (fun _ => .inr (.inl rfl)) _
              · have h1 := (HZ10.out.far (p := ⟨w.heap.size + 1, 0, none⟩) (by show jb ≠ w.heap.size + 1; omega) (.int .i64 0)).set_ 4 (.bool false)
                have e : (c : Int) + (ps.length : Int) = ((c + ps.length : Nat) : Int) := by omega
                rw [HPS.out, ← e]
                exact h1
              · show World.ownsRow _ _ _ _ _ (rs ++ news).length (flatS (rs ++ news))
                rw [List.length_append, show flatS (rs ++ news) = flatS rs ++ flatS news from List.map_append]
                exact own_farB (own_farB HO10.out (p := ⟨w.heap.size + 1, 0, none⟩) hv95 _) (p := ⟨jb, 4, none⟩) hv95' _
              · rcases HK10.out with h | ⟨g, h, hg⟩
                · exact .inl h
                · exact .inr ⟨g, h, by omega⟩
end Go.Proofs.YtnjlefggkfagmaaGreatDoor

/- The plain side of the journal: what may stand on the disk, what Open makes of it, what Append leaves. No program in sight. -/
set_option linter.unusedVariables false
set_option linter.unusedSimpArgs false
namespace Go.Proofs.YtnjlefggkfagmaaGreatDoor
open Go

/-- what both kinds of disks share: N sectors, of which the pieces ps are written -/
structure BD (N : Nat) (ps ss : List (List UInt8)) : Prop where
  len : ss.length = N
  l64 : All64 ss
  fit : 2 + ps.length ≤ N
  few : N ≤ 4000
  pl : ∀ p ∈ ps, 1 ≤ p.length ∧ p.length ≤ 46
  body : ∀ (i : Nat) (p : List UInt8), ps[i]? = some p → ss[2 + i]? = some (sectorV (2 + i) p)
def goodH (c place : Nat) (s : List UInt8) : Bool := decide (s = headV place c) || (decide (c = 0) && decide (s = zeroV))
/-- a disk whose heads may be torn -/
structure RD (N : Nat) (ps ss : List (List UInt8)) : Prop where
  bd : BD N ps ss
  cnt : max (countV 0 (ss.getD 0 []) ((N - 2 : Nat) : Int)) (countV 1 (ss.getD 1 []) ((N - 2 : Nat) : Int)) = (ps.length : Int)
/-- a disk whose heads are good -/
structure JD (N : Nat) (ps ss : List (List UInt8)) : Prop where
  bd : BD N ps ss
  h0 : goodH ps.length 0 (ss.getD 0 []) = true
  h1 : goodH ps.length 1 (ss.getD 1 []) = true
/-- what Open makes of the head of a place -/
def fixH (c place : Nat) (old : List UInt8) (ss : List (List UInt8)) : List (List UInt8) :=
  if goodH c place old then ss else if c = 0 then setS ss place zeroV else setS (setS ss place zeroV) place (headV place c)
def fixA (c : Nat) (ss : List (List UInt8)) : List (List UInt8) := fixH c 1 (ss.getD 1 []) (fixH c 0 (ss.getD 0 []) ss)
theorem goodH_count {N c place : Nat} {s : List UInt8} (hc : c + 2 ≤ N) (hN : N ≤ 4000) (h : goodH c place s = true) : countV place s ((N - 2 : Nat) : Int) = c := by
  unfold goodH at h
  simp only [Bool.or_eq_true, Bool.and_eq_true, decide_eq_true_eq] at h
  rcases h with rfl | ⟨rfl, rfl⟩
  · exact count_head (by omega) (by omega)
  · exact count_zero _ _
theorem JD.rd {N : Nat} {ps ss : List (List UInt8)} (h : JD N ps ss) : RD N ps ss := by
  have hf := h.bd.fit
  have hN := h.bd.few
  refine ⟨h.bd, ?_⟩
  rw [goodH_count (by omega) hN h.h0, goodH_count (by omega) hN h.h1]
  omega
theorem getD_some {ss : List (List UInt8)} {k : Nat} {s : List UInt8} (h : ss[k]? = some s) : ss.getD k [] = s := by rw [List.getD_eq_getElem?_getD, h]; rfl
theorem setS_full {ss : List (List UInt8)} {k : Nat} {t : List UInt8} (h : All64 ss) (ht : t.length = 64) (hk : k < ss.length) : (setS ss k t)[k]? = some t := by
  rw [setS_at ss k t hk]
  have : (ss.getD k []).length = 64 := by rw [List.getD_eq_getElem?_getD, List.getElem?_eq_getElem hk]; exact h _ (List.getElem_mem hk)
  rw [List.drop_of_length_le (by omega), List.append_nil]
theorem zero_len : zeroV.length = 64 := List.length_replicate
theorem goodH_head (c place : Nat) : goodH c place (headV place c) = true := by unfold goodH; simp
/-- the places from 2 on and the number of sectors are kept -/
theorem BD.heads {N : Nat} {ps ss ss' : List (List UInt8)} (h : BD N ps ss) (hl : ss'.length = ss.length) (h6 : All64 ss') (hs : ∀ i, 2 ≤ i → ss'[i]? = ss[i]?) : BD N ps ss' :=
  ⟨hl.trans h.len, h6, h.fit, h.few, h.pl, fun i p hp => (hs (2 + i) (by omega)).trans (h.body i p hp)⟩
theorem fixH_spec {N c place : Nat} {ss : List (List UInt8)} {old : List UInt8} (hN : 2 + c ≤ N) (h4 : N ≤ 4000) (hl : ss.length = N) (h6 : All64 ss) (hp : place < 2) (ho : ss[place]? = some old) :
    (fixH c place old ss).length = N ∧ All64 (fixH c place old ss) ∧ (∀ i, i ≠ place → (fixH c place old ss)[i]? = ss[i]?) ∧ goodH c place ((fixH c place old ss).getD place []) = true := by
  have hhl := head_len (place := place) (n := c) (by omega)
  unfold fixH
  split
  · rename_i hg
    exact ⟨hl, h6, fun i hi => rfl, by rw [getD_some ho]; exact hg⟩
  · split
    · rename_i hc
      refine ⟨by rw [setS_len, hl], setS_64 h6 (by rw [zero_len]; exact Nat.le_refl _), fun i hi => setS_ne _ _ _ hi, ?_⟩
      rw [getD_some (setS_full h6 zero_len (by omega))]
      unfold goodH
      simp [hc]
    · have h6' : All64 (setS ss place zeroV) := setS_64 h6 (by rw [zero_len]; exact Nat.le_refl _)
      refine ⟨by rw [setS_len, setS_len, hl], setS_64 h6' (by rw [hhl]; exact Nat.le_refl _), fun i hi => (setS_ne _ _ _ hi).trans (setS_ne _ _ _ hi), ?_⟩
      rw [getD_some (setS_full h6' hhl (by rw [setS_len]; omega))]
      exact goodH_head c place
theorem fixA_jd {N : Nat} {ps ss : List (List UInt8)} (h : BD N ps ss) : JD N ps (fixA ps.length ss) := by
  have hf := h.fit
  obtain ⟨a0, h0⟩ : ∃ s, ss[0]? = some s := ⟨_, List.getElem?_eq_getElem (by have := h.len; omega)⟩
  obtain ⟨a1, h1⟩ : ∃ s, ss[1]? = some s := ⟨_, List.getElem?_eq_getElem (by have := h.len; omega)⟩
  obtain ⟨l0, s0, n0, g0⟩ := fixH_spec hf h.few h.len h.l64 (by decide) h0
  have h1' : (fixH ps.length 0 a0 ss)[1]? = some a1 := (n0 1 (by decide)).trans h1
  obtain ⟨l1, s1, n1, g1⟩ := fixH_spec hf h.few l0 s0 (by decide) h1'
  unfold fixA
  rw [getD_some h0, getD_some h1]
  refine ⟨h.heads (l1.trans h.len.symm) s1 fun i hi => (n1 i (by omega)).trans (n0 i (by omega)), ?_, g1⟩
  rw [List.getD_eq_getElem?_getD, n1 0 (by decide), ← List.getD_eq_getElem?_getD]
  exact g0
/-- a torn write of one head -/
theorem torn_rd {N : Nat} {ps qs ss ss' : List (List UInt8)} {place : Nat} (hb : BD N (ps ++ qs) ss) (hp : place < 2) (hold : goodH ps.length place (ss.getD place []) = true) (ht : Torn place (headV place (ps ++ qs).length) ss ss') :
    ss'.length = ss.length ∧ All64 ss' ∧ (∀ i, i ≠ place → ss'[i]? = ss[i]?) ∧ (countV place (ss'.getD place []) ((N - 2 : Nat) : Int) = -1 ∨ countV place (ss'.getD place []) ((N - 2 : Nat) : Int) = ps.length ∨ countV place (ss'.getD place []) ((N - 2 : Nat) : Int) = (ps ++ qs).length) := by
  obtain ⟨b, hb64, rfl⟩ := ht
  have hf := hb.fit
  have h4 := hb.few
  have hl : (ps ++ qs).length = ps.length + qs.length := List.length_append
  have hhl := head_len (place := place) (n := (ps ++ qs).length) (by omega)
  refine ⟨setS_len _ _ _, setS_64 hb.l64 (by rw [List.length_take]; omega), fun i hi => setS_ne _ _ _ hi, ?_⟩
  rw [getD_some (setS_at ss place _ (by have := hb.len; omega))]
  refine torn_count (by omega) (by omega) (by omega) (by omega) ?_
  unfold goodH at hold
  simp only [Bool.or_eq_true, Bool.and_eq_true, decide_eq_true_eq] at hold
  exact hold
end Go.Proofs.YtnjlefggkfagmaaGreatDoor

/- The plain side of the journal: Append writes all, or leaves what Open mends. No program in sight. -/
set_option linter.unusedVariables false
set_option linter.unusedSimpArgs false
namespace Go.Proofs.YtnjlefggkfagmaaGreatDoor
open Go

theorem BD.less {N : Nat} {ps qs ss : List (List UInt8)} (h : BD N (ps ++ qs) ss) : BD N ps ss := by
  have hf := h.fit
  rw [List.length_append] at hf
  refine ⟨h.len, h.l64, by omega, h.few, fun p hp => h.pl p (by simp [hp]), fun i p hp => h.body i p ?_⟩
  have hi := (List.getElem?_eq_some_iff.1 hp).1
  rw [List.getElem?_append_left hi]; exact hp
theorem BD.keep {N n : Nat} {ps ss ss' : List (List UInt8)} (h : BD N ps ss) (ho : OthS (2 + ps.length) n ss ss') (h6 : All64 ss') : BD N ps ss' := by
  refine ⟨ho.1.trans h.len, h6, h.fit, h.few, h.pl, fun i p hp => ?_⟩
  have hi := (List.getElem?_eq_some_iff.1 hp).1
  rw [ho.2 (2 + i) (.inl (by omega))]
  exact h.body i p hp
theorem head_keep {c n : Nat} {ss ss' : List (List UInt8)} (ho : OthS (2 + c) n ss ss') {k : Nat} (hk : k < 2) : ss'.getD k [] = ss.getD k [] := by
  rw [List.getD_eq_getElem?_getD, List.getD_eq_getElem?_getD, ho.2 k (.inl (by omega))]
theorem JD.keep {N n : Nat} {ps ss ss' : List (List UInt8)} (h : JD N ps ss) (ho : OthS (2 + ps.length) n ss ss') (h6 : All64 ss') : JD N ps ss' :=
  ⟨h.bd.keep ho h6, by rw [head_keep ho (by decide)]; exact h.h0, by rw [head_keep ho (by decide)]; exact h.h1⟩
theorem waits_oth (k : Nat) (l ss : List (List UInt8)) : OthS k l.length ss (settleS ss (waits k l)) := settle_oth l k ss fun p hp => by
  have := waits_mem _ _ _ hp
  exact ⟨this.1, this.2.1⟩
theorem waits_64 {k : Nat} {l ss : List (List UInt8)} (h : All64 ss) (hl : ∀ t ∈ l, t.length = 64) : All64 (settleS ss (waits k l)) := settle_64 _ h fun p hp => by
  have := hl _ (waits_mem _ _ _ hp).2.2
  omega
theorem fail_form (d : Dk) (n b : Int) : dFail d n b = ⟨(dFail d n b).ss, [], true, none⟩ := rfl
theorem getD_ne {ss ss' : List (List UInt8)} {p k : Nat} (h : ∀ i, i ≠ p → ss'[i]? = ss[i]?) (hk : k ≠ p) : ss'.getD k [] = ss.getD k [] := by
  rw [List.getD_eq_getElem?_getD, List.getD_eq_getElem?_getD, h k hk]
theorem fail_one' {ss : List (List UInt8)} {k : Nat} {t : List UInt8} (ht : t.length = 64) (m : Nat) (off : Bool) (arm : Option (Int × Int × Int)) (n b : Int) :
    ∃ sF, dFail ⟨ss, waits k ([t].take m), off, arm⟩ n b = ⟨sF, [], true, none⟩ ∧ Torn k t ss sF := ⟨_, rfl, fail_one ht m off arm n b⟩
theorem max_last {x : Int} {c n : Nat} (h : x = -1 ∨ x = (c : Int) ∨ x = (n : Int)) (hn : c ≤ n) : max x (n : Int) = (n : Int) := by omega
theorem max_none (c : Nat) : max (c : Int) (-1) = (c : Int) := by omega
theorem max_same (c : Nat) : max (c : Int) (c : Int) = (c : Int) := by omega
theorem max_more {c n : Nat} (h : c ≤ n) : max (c : Int) (n : Int) = (n : Int) := by omega
theorem ne_two {i p : Nat} (h : 2 ≤ i) (hp : p < 2) : i ≠ p := by omega
def OutJ (N : Nat) (ps qs : List (List UInt8)) (r : Int × Dk) : Prop :=
  (r.1 = 0 ∧ ∃ ss' a, r.2 = ⟨ss', [], false, a⟩ ∧ JD N (ps ++ qs) ss') ∨ (r.1 = 21 ∧ ∃ ss', r.2 = ⟨ss', [], true, none⟩ ∧ (RD N ps ss' ∨ RD N (ps ++ qs) ss'))
set_option maxHeartbeats 2000000 in
theorem append_out {N : Nat} {ps qs ss : List (List UInt8)} (h : JD N ps ss) (hq : ∀ p ∈ qs, 1 ≤ p.length ∧ p.length ≤ 46) (hfit : 2 + ps.length + qs.length ≤ N) (arm : Option (Int × Int × Int)) :
    OutJ N ps qs (wrSteps ⟨ss, [], false, arm⟩ (stepsV ps.length qs)) := by
  have hN := h.bd.few
  have hz : ∀ t ∈ List.replicate qs.length zeroV, t.length = 64 := fun t ht => by rw [List.eq_of_mem_replicate ht]; exact zero_len
  have hzl : (List.replicate qs.length zeroV).length = qs.length := List.length_replicate
  have hs6 := secsV_64 (k := 2 + ps.length) hq
  have hsl := secsV_len qs (2 + ps.length)
  have hal : (ps ++ qs).length = ps.length + qs.length := List.length_append
  have hA1 : (ps ++ qs).length < 100000000 := by omega
  have hA2 : ((ps ++ qs).length : Int) ≤ ((N - 2 : Nat) : Int) := by omega
  have hA3 : ps.length ≤ (ps ++ qs).length := by omega
  have hC : ps.length + 2 ≤ N := by omega
  unfold stepsV
  unfold wrSteps
  rcases wrAll_cases ss (2 + ps.length) false (List.replicate qs.length zeroV) arm with ⟨a1, e1⟩ | ⟨m, n, b, a1, hm, e1⟩
  · -- the zeros are there
    have j1 : JD N ps (settleS ss (waits (2 + ps.length) (List.replicate qs.length zeroV))) := h.keep (waits_oth _ _ _) (waits_64 h.bd.l64 hz)
    generalize settleS ss (waits (2 + ps.length) (List.replicate qs.length zeroV)) = s1 at *
    simp only [e1, if_true]
    unfold wrSteps
    rcases wrAll_cases s1 (2 + ps.length) false (secsV (2 + ps.length) qs) a1 with ⟨a2, e2⟩ | ⟨m, n, b, a2, hm, e2⟩
    · -- the pieces are there
      have j2 : JD N ps (settleS s1 (waits (2 + ps.length) (secsV (2 + ps.length) qs))) := j1.keep (waits_oth _ _ _) (waits_64 j1.bd.l64 hs6)
      have b2 : BD N (ps ++ qs) (settleS s1 (waits (2 + ps.length) (secsV (2 + ps.length) qs))) := by
        refine ⟨j2.bd.len, j2.bd.l64, by omega, hN, fun p hp => ?_, fun i p hp => ?_⟩
        · rcases List.mem_append.1 hp with hp | hp
          · exact h.bd.pl p hp
          · exact hq p hp
        · rcases Nat.lt_or_ge i ps.length with hi | hi
          · rw [List.getElem?_append_left hi] at hp
            exact j2.bd.body i p hp
          · rw [List.getElem?_append_right hi] at hp
            have hi2 := (List.getElem?_eq_some_iff.1 hp).1
            have := settle_waits_at (secsV (2 + ps.length) qs) (2 + ps.length) s1 (by rw [hsl, j1.bd.len]; omega) j1.bd.l64 hs6 (i - ps.length) (by rw [hsl]; exact hi2)
            rw [show 2 + i = 2 + ps.length + (i - ps.length) by omega, this]
            exact secsV_at qs (2 + ps.length) (i - ps.length) p hp
      generalize settleS s1 (waits (2 + ps.length) (secsV (2 + ps.length) qs)) = s2 at *
      simp only [e2, if_true]
      unfold wrSteps
      have hh1 : ∀ t ∈ [headV 1 (ps.length + qs.length)], t.length = 64 := fun t ht => by rw [List.mem_singleton.1 ht]; exact head_len (by omega)
      have hh0 : ∀ t ∈ [headV 0 (ps.length + qs.length)], t.length = 64 := fun t ht => by rw [List.mem_singleton.1 ht]; exact head_len (by omega)
      have c0 := goodH_count hC hN j2.h0
      have c1 := goodH_count hC hN j2.h1
      rcases wrAll_cases s2 1 false [headV 1 (ps.length + qs.length)] a2 with ⟨a3, e3⟩ | ⟨m, n, b, a3, hm, e3⟩
      · -- the second head is there
        have n3 : ∀ i, i ≠ 1 → (settleS s2 (waits 1 [headV 1 (ps.length + qs.length)]))[i]? = s2[i]? := fun i hi => (waits_oth 1 [headV 1 (ps.length + qs.length)] s2).2 i (by simp; omega)
        have l3 : (settleS s2 (waits 1 [headV 1 (ps.length + qs.length)])).length = s2.length := settle_len _ _
        have a64 : All64 (settleS s2 (waits 1 [headV 1 (ps.length + qs.length)])) := waits_64 j2.bd.l64 hh1
        have b3 := b2.heads l3 a64 fun i hi => n3 i (by omega)
        have g3 : (settleS s2 (waits 1 [headV 1 (ps.length + qs.length)])).getD 1 [] = headV 1 (ps.length + qs.length) := getD_some (setS_full j2.bd.l64 (hh1 _ (by simp)) (by rw [j2.bd.len]; omega))
        have g30 := getD_ne (k := 0) n3 (by decide)
        generalize settleS s2 (waits 1 [headV 1 (ps.length + qs.length)]) = s3 at *
        simp only [e3, if_true]
        unfold wrSteps
        rcases wrAll_cases s3 0 false [headV 0 (ps.length + qs.length)] a3 with ⟨a4, e4⟩ | ⟨m, n, b, a4, hm, e4⟩
        · have n4 : ∀ i, i ≠ 0 → (settleS s3 (waits 0 [headV 0 (ps.length + qs.length)]))[i]? = s3[i]? := fun i hi => (waits_oth 0 [headV 0 (ps.length + qs.length)] s3).2 i (by simp; omega)
          have l4 : (settleS s3 (waits 0 [headV 0 (ps.length + qs.length)])).length = s3.length := settle_len _ _
          have a644 : All64 (settleS s3 (waits 0 [headV 0 (ps.length + qs.length)])) := waits_64 b3.l64 hh0
          have b4 := b3.heads l4 a644 fun i hi => n4 i (by omega)
          have g4 : (settleS s3 (waits 0 [headV 0 (ps.length + qs.length)])).getD 0 [] = headV 0 (ps.length + qs.length) := getD_some (setS_full b3.l64 (hh0 _ (by simp)) (by rw [b3.len]; omega))
          have g41 := getD_ne (k := 1) n4 (by decide)
          generalize settleS s3 (waits 0 [headV 0 (ps.length + qs.length)]) = s4 at *
          simp only [e4, if_true]
          unfold wrSteps
          refine .inl ⟨rfl, s4, a4, rfl, b4, ?_, ?_⟩
          · rw [g4, hal]; exact goodH_head _ _
          · rw [g41, g3, hal]; exact goodH_head _ _
        · obtain ⟨sF, hF, hT⟩ := fail_one' (ss := s3) (k := 0) (t := headV 0 (ps.length + qs.length)) (hh0 _ (by simp)) m false a4 n b
          simp only [e4, hF]
          rw [if_neg (by decide)]
          refine .inr ⟨rfl, sF, rfl, .inr ?_⟩
          rw [← hal] at hT
          obtain ⟨t1, t2, t3, t4⟩ := torn_rd b3 (by decide) (by rw [g30]; exact j2.h0) hT
          refine ⟨b3.heads t1 t2 fun i hi => t3 i (ne_two hi (by decide)), ?_⟩
          rw [getD_ne (k := 1) t3 (by decide), g3, ← hal, count_head (place := 1) hA1 hA2]
          exact max_last t4 hA3
      · obtain ⟨sF, hF, hT⟩ := fail_one' (ss := s2) (k := 1) (t := headV 1 (ps.length + qs.length)) (hh1 _ (by simp)) m false a3 n b
        simp only [e3, hF]
        rw [if_neg (by decide)]
        rw [← hal] at hT
        obtain ⟨t1, t2, t3, t4⟩ := torn_rd b2 (by decide) j2.h1 hT
        have b3 := b2.heads t1 t2 fun i hi => t3 i (ne_two hi (by decide))
        have q0 := getD_ne (k := 0) t3 (by decide)
        rcases t4 with t4 | t4 | t4
        · refine .inr ⟨rfl, sF, rfl, .inl ⟨?_, ?_⟩⟩
          · exact b3.less
          · rw [q0, c0, t4]; exact max_none _
        · refine .inr ⟨rfl, sF, rfl, .inl ⟨?_, ?_⟩⟩
          · exact b3.less
          · rw [q0, c0, t4]; exact max_same _
        · refine .inr ⟨rfl, sF, rfl, .inr ⟨?_, ?_⟩⟩
          · exact b3
          · rw [q0, c0, t4]; exact max_more hA3
    · obtain ⟨f1, f2⟩ := fail_waits (k := 2 + ps.length) j1.bd.l64 hm hs6 false a2 n b
      simp only [e2]
      rw [if_neg (by decide)]
      exact .inr ⟨rfl, _, fail_form _ _ _, .inl (j1.keep f2 f1).rd⟩
  · obtain ⟨f1, f2⟩ := fail_waits (k := 2 + ps.length) h.bd.l64 hm hz false a1 n b
    simp only [e1]
    rw [if_neg (by decide)]
    exact .inr ⟨rfl, _, fail_form _ _ _, .inl (h.keep f2 f1).rd⟩
end Go.Proofs.YtnjlefggkfagmaaGreatDoor

/- Walks of the journal: Open. -/
set_option linter.unusedVariables false
set_option linter.unusedSimpArgs false
namespace Go.Proofs.YtnjlefggkfagmaaGreatDoor
open Go.RowKit Go.Shelf
attribute [local go_sem] Oper.semAt_some

def OpenR (b sb ab N : Nat) (ps rs ss : List (List UInt8)) (w : World) (e : Ending) (w' : World) : Prop :=
  ∃ jb vr v, e = .returned (.tuple #[.pointer (some ⟨jb, 0, none⟩), v, .int .i64 0]) ∧ w.heap.size ≤ jb ∧ JAt jb b N ps.length rs false vr w' ∧ OwnT w' w.heap.size v rs ∧
    DkAt b sb ab (.slice none 0 0) ⟨fixA ps.length ss, [], false, none⟩ w' ∧ Sav (DB b sb ab) w w'
theorem read_yes {ss : List (List UInt8)} {k : Nat} {s : List UInt8} (h : ss[k]? = some s) : readV ss k = .tuple #[.string (bs s), .int .i64 0] := by
  unfold readV
  rw [getD_some h, if_pos (List.getElem?_eq_some_iff.1 h).1]
theorem read_no {ss : List (List UInt8)} : readV ss ss.length = .tuple #[.string (bs []), .int .i64 1] := by
  unfold readV
  rw [if_neg (by omega), List.getD_eq_getElem?_getD, List.getElem?_eq_none (by omega)]; rfl
theorem run_cutT {gA N co c : Nat} (h1 : 2 + c ≤ N) (h2 : N ≤ co) (h3 : 3 ≤ N) (w : World) : (Instr.slice 22 (.slice (some ⟨gA, 0, none⟩) N co) (some (.int .i64 2)) (some (.int .i64 (2 + (c : Int)))) none).run Tryz.prog w = .ok (.slice (some ⟨gA, 2, none⟩) c (co - 2)) w := by
  have hsz : ∀ w, (sizeOf 9).run Tryz.prog w = .ok 1 w := fun w => by kernel_rfl
  have he : Tryz.prog.elem 22 = 9 := by kernel_rfl
  have hu : Tryz.prog.underlying 22 = some (.slice (Tryz.prog.elem 22)) := by rw [he]; exact Tryz.underlying22
  rw [run_slice_lh (P := Tryz.prog) (w := w) 22 _ _ _ hu _ _ _ _ (by omega) (by omega) (by omega), he, hsz]
  have e1 : ((2 : Int) + (c : Int)).toNat = 2 + c := by omega
  have e2 : (2 : Int).toNat = 2 := rfl
  simp only [Result.andThen, sliced, e1, e2]
  have h5 : ¬ (co = 2) := by omega
  simp [h5, Addr.add]
theorem sector_num {p : List UInt8} (h : 1 ≤ p.length ∧ p.length ≤ 46) (k : Nat) : ((sectorV k p).drop 16).take 2 = digitsV p.length 2 := by
  unfold sectorV
  rw [sealV_drop]
  exact fillV_take (digits_2 (by omega)) _
theorem sector_piece {p : List UInt8} (h : 1 ≤ p.length ∧ p.length ≤ 46) (k : Nat) : ((sectorV k p).drop 18).take p.length = p := by
  have e : (sectorV k p).drop 18 = ((sectorV k p).drop 16).drop 2 := by rw [List.drop_drop]
  rw [e]
  unfold sectorV
  rw [sealV_drop]
  unfold fillV
  have h2 := digits_2 (n := p.length) (by omega)
  rw [List.append_assoc, List.drop_append_of_le_length (by omega), List.drop_of_length_le (by omega), List.nil_append, List.take_append_of_le_length (Nat.le_refl _), List.take_length]
theorem sector_len {p : List UInt8} (h : 1 ≤ p.length ∧ p.length ≤ 46) (k : Nat) : (sectorV k p).length = 64 := sealV_len (by rw [List.length_append, digits_2 (by omega)]; omega)
theorem flat_bound : ∀ (l : List (List UInt8)), (∀ q ∈ l, q.length ≤ 46) → l.flatten.length ≤ 46 * l.length
  | [], _ => by simp
  | x :: l, h => by
    have := flat_bound l fun q hq => h q (by simp [hq])
    have := h x (by simp)
    rw [List.flatten_cons, List.length_append, List.length_cons]; omega
/-- the sectors behind i places -/
def fxV (c : Nat) (ss : List (List UInt8)) : Nat → List (List UInt8)
  | 0 => ss
  | 1 => fixH c 0 (ss.getD 0 []) ss
  | _ => fixA c ss
theorem fxV_next {c : Nat} {ss : List (List UInt8)} {i : Nat} (h : i < 2) : fxV c ss (i + 1) = fixH c i (ss.getD i []) (fxV c ss i) := by
  obtain rfl | rfl : i = 0 ∨ i = 1 := by omega
  · rfl
  · rfl
/-- between two places -/
structure PlI (b sb ab c : Nat) (ss : List (List UInt8)) (w9 : World) (i : Nat) (W : World) : Prop where
  at_ : DkAt b sb ab (.slice none 0 0) ⟨fxV c ss i, [], false, none⟩ W
  sav : Sav (DB b sb ab) w9 W
theorem fxV_len {c : Nat} {ss : List (List UInt8)} (i : Nat) : (fxV c ss i).length = ss.length := by
  have h : ∀ (p : Nat) (o : List UInt8) (s : List (List UInt8)), (fixH c p o s).length = s.length := fun p o s => by
    unfold fixH
    split
    · rfl
    · split
      · exact setS_len _ _ _
      · rw [setS_len, setS_len]
  match i with
  | 0 => rfl
  | 1 => exact h _ _ _
  | i + 2 => show (fixA c ss).length = _; unfold fixA; rw [h, h]
theorem wr_one (ss : List (List UInt8)) (k : Nat) (t : List UInt8) : wrAll ⟨ss, [], false, none⟩ k [t] = (0, ⟨setS ss k t, [], false, none⟩) := wrAll_none ss k false [t]
theorem own_lessB {w : World} {B B' : Nat} {e : TypeId} {s n : Nat} {v : Value} {xs : List Value} (h : w.ownsRow B e s v n xs) (hB : B' ≤ B) : w.ownsRow B' e s v n xs := by
  obtain ⟨h1, h2⟩ := h
  refine ⟨h1, ?_⟩
  rcases h2 with h2 | ⟨g, cap, cur, hv, hg, hr⟩
  · exact .inl h2
  · exact .inr ⟨g, cap, cur, hv, by omega, hr⟩
theorem fix_good {c p : Nat} {o : List UInt8} {ss : List (List UInt8)} (h : goodH c p o = true) : fixH c p o ss = ss := by unfold fixH; rw [if_pos h]
theorem fix_zero {p : Nat} {o : List UInt8} {ss : List (List UInt8)} (h : goodH 0 p o = false) : fixH 0 p o ss = setS ss p zeroV := by unfold fixH; rw [if_neg (by rw [h]; decide), if_pos rfl]
theorem fix_bad {c p : Nat} {o : List UInt8} {ss : List (List UInt8)} (h : goodH c p o = false) (hc : c ≠ 0) : fixH c p o ss = setS (setS ss p zeroV) p (headV p c) := by unfold fixH; rw [if_neg (by rw [h]; decide), if_neg hc]
def LpB (ps : List (List UInt8)) (B : Nat) (w6 wr : World) (i : Value) : Prop := ∃ k : Nat, k ≤ ps.length ∧ i = .int .i64 (k : Int) ∧ Lib.IsBuilder 79 5 B B (Lib.byteCells (ps.take k).flatten) wr ∧ Below B w6 wr
set_option maxRecDepth 100000 in
set_option maxHeartbeats 4000000 in
theorem Open_any (b sb ab N : Nat) (ps rs ss : List (List UInt8)) (hR : RD N ps ss) (hf : ps.flatten = joinD rs) (hrn : rs.length ≤ 1000) (hrx : ∀ x ∈ rs, x.length ≤ 20000) (hN3 : 3 ≤ N) (w : World) (hg : Glob w) (hgs : Tryz.prog.globals.size ≤ sb) (hd : DkAt b sb ab (.slice none 0 0) ⟨ss, [], false, none⟩ w) (hab : ab < w.heap.size) :
    Calls Tryz.prog 24 #[dkP b] w (OpenR b sb ab N ps rs ss w) := by
  obtain ⟨i0, hi0, hz0, hz1, hz2⟩ := info_parts info_str
  have HG := hide hg
  have HD := hide hd
  have HR := hide hR
  have HF := hide hf
  have HX := hide hrx
  have hbl := hd.blk.lt
  have hsl := hd.st.lt
  have hord := hd.ord
  have hlen := hR.bd.len
  have h4 := hR.bd.few
  have hfit := hR.bd.fit
  clear hg hd hR hf hrx
  unfold dkP
  go_enter Tryz.func24, Tryz.ntmps24
  go_wp2_with fail
  go_loopw [5] (fun o wr => ∃ k : Nat, k ≤ N ∧ lenOf o = k ∧ Aside (OwnT wr w.heap.size o (ss.take k)) ∧ Aside (Below w.heap.size w wr)) (fun o _ => N - lenOf o)
  case atStart => exact ⟨0, Nat.zero_le _, rfl, World.ownsRow_nil _ _ _ _, Below.refl _ _⟩
  case round =>
    obtain ⟨k, hk, hlo, hO, hB⟩ := hrel
    have HO : Hid (OwnT wr w.heap.size _ (ss.take k)) := hO
    have HB : Hid (Below w.heap.size w wr) := hB
    have htl : (ss.take k).length = k := by rw [List.length_take]; omega
    obtain ⟨Ao, co, rfl⟩ := own_sl4 hO
    clear hO hB
    rw [htl] at HO ⊢
    clear hlo
    have HD2 := hide (HD.out.to HB.out)
    have CRd := Read_any b sb ab ss none k (by omega) wr HD2.out
    unfold dkP at CRd
    by_cases hlt : k < N
    · obtain ⟨s, hs⟩ : ∃ s, ss[k]? = some s := ⟨_, List.getElem?_eq_getElem (by omega)⟩
      rw [read_yes hs] at CRd
      have HSN : Hid (ss.take (k + 1) = ss.take k ++ [s]) := by show _ = _; rw [List.take_add_one, hs]; rfl
      have HO1 : Hid (wr.ownsRow w.heap.size 9 1 (.slice Ao k co) k (flatS (ss.take k))) := by
        have := HO.out
        unfold OwnT at this
        rw [htl] at this
        exact this
      generalize ss.take k = L at *
      clear hs HO HD2
      go_wp2_with fail
      refine CRd.mono ?_
      rintro e w2 ⟨rfl, hb⟩
      have HB2 := hide (below_to HB.out (Nat.le_refl _) hb)
      have HO2 := hide (own_to4 HO1.out hb)
      have HSZ2 : Hid (w.heap.size ≤ w2.heap.size) := HB2.out.size
      clear hb CRd
      go_wp2_with (at_builtin; refine wpList_append_own _ rfl (.tmp 32) (.tmp 34) _ rfl w.heap.size 9 i0 (.string ⟨#[]⟩) 1 16 Tryz.underlying22 hi0 hz0 hz1 hz2 rfl (by omega) _ k (flatS L) rfl ?c0 ⟨_, 0, none⟩ 1 1 [.string (bs s)] rfl rfl ?c1 ?c2 ?c4 ?c5 ?c3 ?_)
      case c0 => exact own_to4 HO2.out (below_one _ _)
      case c1 => exact cells_new4 (xs := [.string (bs s)]) (by simp)
      case c2 => intro u hu; simp only [List.mem_cons, List.not_mem_nil, or_false] at hu; rcases hu with rfl; rfl
      case c4 => simp only [maxLen]; omega
      case c5 => omega
      case c3 => have := HSZ2.out; simp; omega
      intro v' w6 hown6 hgr6 _
      have HB6 := hide ((below_alloc HB2.out (Nat.le_refl _) _).grown hgr6 (by have := HSZ2.out; simp; omega) (fun b hb => (HO2.out.lt b hb).1))
      have HO6 : Hid (OwnT w6 w.heap.size v' (ss.take (k + 1))) := by
        rw [HSN.out]
        show World.ownsRow _ _ _ _ _ _ _
        rw [flatS_snoc, List.length_append, htl]
        exact hown6
      obtain ⟨A6, c6, rfl⟩ := own_sl4 hown6
      clear hown6 hgr6
      go_wp2_with fail
      refine ⟨⟨k + 1, by omega, rfl, HO6.out, HB6.out⟩, ?_⟩
      simp only [lenOf]; omega
    · obtain rfl : k = N := by omega
      have CRn : Calls Tryz.prog 62 #[.pointer (some ⟨b, 0, none⟩), .int .i64 (k : Int)] wr fun e w' => e = .returned (.tuple #[.string (bs []), .int .i64 1]) ∧ Below wr.heap.size wr w' := by
        have h1 := @read_no ss
        rw [hlen] at h1
        rw [← h1]; exact CRd
      have HO1 : Hid (OwnT wr w.heap.size (.slice Ao k co) ss) := by
        have := HO.out
        rwa [List.take_of_length_le (by omega)] at this
      clear CRd HO htl HD2
      go_wp2_with fail
      refine CRn.mono ?_
      rintro e w2 ⟨rfl, hb⟩
      have HB2 := hide (below_to HB.out (Nat.le_refl _) hb)
      have HO2 := hide (own_to4 HO1.out hb)
      clear hb CRn HB HO1
      have e3 : decide ((k : Int) < 3) = false := decide_eq_false (by omega)
      have e3' : decide (k < 3) = false := decide_eq_false (by omega)
      obtain ⟨s0, hs0⟩ : ∃ s, ss[0]? = some s := ⟨_, List.getElem?_eq_getElem (by omega)⟩
      obtain ⟨s1, hs1⟩ : ∃ s, ss[1]? = some s := ⟨_, List.getElem?_eq_getElem (by omega)⟩
      have hmax := HR.out.cnt
      rw [getD_some hs0, getD_some hs1] at hmax
      have HOk : Hid (w2.ownsRow w.heap.size 9 1 (.slice Ao k co) k (flatS ss)) := by
        have := HO2.out
        unfold OwnT at this
        rwa [hlen] at this
      have HMX := hide hmax
      clear hmax
      obtain ⟨gA, rfl, hgA, cur, hcur, _⟩ := own_blk4 HOk.out (by omega)
      have hcap : k ≤ co := by
        rcases HOk.out.2 with ⟨h1, _⟩ | ⟨_, _, _, h1, _, _, h5, _⟩
        · cases h1
        · injection h1 with _ _ e3; omega
      have hOO : OwnT w2 w.heap.size (.slice (some ⟨gA, 0, none⟩) k co) ss := HO2.out
      have hb3 := below_one w2 (.cells #[.pointer (some ⟨b, 0, none⟩), .int .i64 (k : Int), .int .i64 0, .slice none 0 0, .bool false] 90)
      have hJ3 := Blk.new w2 90 #[.pointer (some ⟨b, 0, none⟩), .int .i64 (k : Int), .int .i64 0, .slice none 0 0, .bool false]
      have HJ3 := hide hJ3
      have hgl : gA < w2.heap.size := (World.ownsRow.lt HOk.out gA rfl).2
      have HO3 : Hid (OwnT _ w.heap.size (.slice (some ⟨gA, 0, none⟩) k co) ss) := own_to4 hOO hb3
      have HB3 := hide (below_to HB2.out (Nat.le_refl _) hb3)
      have hw2 : w.heap.size ≤ w2.heap.size := HB2.out.size
      have hcr : ((k - 2 : Nat) : Int) = (k : Int) - 2 := by omega
      have CN : ∀ (p : Nat) (s : List UInt8), p ≤ 10 → s.length = 64 → ∀ W : World, Below w.heap.size w W → Calls Tryz.prog 63 #[.int .i64 (p : Int), .string (bs s), .int .i64 ((k : Int) - 2)] W fun e w' => e = .returned (.int .i64 (countV p s ((k - 2 : Nat) : Int))) ∧ Below W.heap.size W w' := fun p s hp hs W hb => by
        have := jcount_any p (by omega) s hs (k - 2) (by omega) W (HG.out.belowB hb HG.out.top)
        rwa [hcr] at this ⊢
      have CN0 := CN 0 s0 (by omega) (HR.out.bd.l64 s0 (List.mem_of_getElem? hs0))
      have CN1 := CN 1 s1 (by omega) (HR.out.bd.l64 s1 (List.mem_of_getElem? hs1))
      have CN0 : ∀ W : World, Below w.heap.size w W → Calls Tryz.prog 63 #[.int .i64 0, .string (bs s0), .int .i64 ((k : Int) - 2)] W fun e w' => e = .returned (.int .i64 (countV 0 s0 ((k - 2 : Nat) : Int))) ∧ Below W.heap.size W w' := CN0
      have CN1 : ∀ W : World, Below w.heap.size w W → Calls Tryz.prog 63 #[.int .i64 1, .string (bs s1), .int .i64 ((k : Int) - 2)] W fun e w' => e = .returned (.int .i64 (countV 1 s1 ((k - 2 : Nat) : Int))) ∧ Below W.heap.size W w' := CN1
      obtain ⟨x0, hx0⟩ : ∃ x, countV 0 s0 ((k - 2 : Nat) : Int) = x := ⟨_, rfl⟩
      obtain ⟨x1, hx1⟩ : ∃ x, countV 1 s1 ((k - 2 : Nat) : Int) = x := ⟨_, rfl⟩
      have hmax := HMX.out
      rw [hx0] at CN0 hmax
      rw [hx1] at CN1 hmax
      have HS0 := hide hs0
      have HS1 := hide hs1
      have ew := w64 (x := (k : Int) - 2) (by omega) (by omega)
      clear CN hcr hx0 hx1 hb3 hJ3 hcur hOO HO2 hs0 hs1 HMX HOk
      go_upto_region 12 with fail
      generalize hw3 : w2.alloc (.cells #[.pointer (some ⟨b, 0, none⟩), .int .i64 (k : Int), .int .i64 0, .slice none 0 0, .bool false] 90) = w3 at *
      obtain ⟨U, hU, g, u0, e9, hgu, hi⟩ := cls w3
      subst e9
      clear hw3
      have X0 : ∀ u, (g u).cell? ⟨gA, 0, none⟩ = some (.string (bs s0)) := fun u => own_cell4 (own_to4 HO3.out (hgu u)) HS0.out
      have X1 : ∀ u, (g u).cell? ⟨gA, 1, none⟩ = some (.string (bs s1)) := fun u => own_cell4 (own_to4 HO3.out (hgu u)) HS1.out
      have C0 := cls_call hgu hi (fun W hb => CN0 W (below_to HB3.out (Nat.le_refl _) hb))
      have C1 := cls_call hgu hi (fun W hb => CN1 W (below_to HB3.out (Nat.le_refl _) hb))
      have l1 : (1 : Nat) < k := by omega
      have l0 : (0 : Nat) < k := by omega
      have HGU := hide hgu
      have HHI := hide hi
      clear hgu hi CN0 CN1
      refine wp_region_class_tail g 16 (by kernel_rfl) (by kernel_rfl) (HHI.out _ (HGU.out _).drew) ?_
      simp only [List.take_succ_cons, List.take_zero, List.drop_succ_cons, List.drop_zero]
      repeat (go_big_quiet_step (first | with_reducible exact C0 _ | with_reducible exact C1 _))
      refine wpQuiet_nil ?_
      intro w4 hw4
      obtain ⟨u, rfl⟩ := hw4
      have hJ4 := HJ3.out.to (HGU.out u)
      have y2 := (hJ4.cell 2).trans (show _ = some (Value.int .i64 0) from rfl)
      have f2 := hJ4.frozen 2
      have HJ4 := hide hJ4
      have HO4 : Hid (OwnT (g u) w.heap.size (.slice (some ⟨gA, 0, none⟩) k co) ss) := own_to4 HO3.out (HGU.out u)
      have HB4 := hide (below_to HB3.out (Nat.le_refl _) (HGU.out u))
      clear hJ4 X0 X1 C0 C1
      generalize g u = w4 at *
      have hgAj : gA ≠ w2.heap.size := by omega
      have hj4 : w2.heap.size < w4.heap.size := HJ4.out.lt
      have hjn4 : w2.heap.size ≠ w4.heap.size := Nat.ne_of_lt hj4
      have SL := fun W => run_cutT (gA := gA) (N := k) (co := co) (c := ps.length) hfit hcap hN3 W
      obtain ⟨jb, hjb⟩ : ∃ jb, w2.heap.size = jb := ⟨_, rfl⟩
      rw [hjb] at HJ4 hgl hgAj hj4 hjn4 hw2 y2 f2 ⊢
      have en : decide ((ps.length : Int) < 0) = false := decide_eq_false (by omega)
      have ewp := w64 (x := 2 + (ps.length : Int)) (by omega) (by omega)
      clear HJ3 HO3 HB3 HB2
      go_wp2_with fail
      have HJ5 := hide (HJ4.out.set_ 2 (.int .i64 (ps.length : Int)))
      have HB5 := hide (HB4.out.setCell (p := ⟨jb, 2, none⟩) (by show w.heap.size ≤ jb; exact hw2) (.int .i64 (ps.length : Int)))
      have HO5 : Hid (OwnT (w4.setCell ⟨jb, 2, none⟩ (.int .i64 (ps.length : Int))) w.heap.size (.slice (some ⟨gA, 0, none⟩) k co) ss) := own_farB HO4.out (p := ⟨jb, 2, none⟩) (fun e => by have : gA = jb := Option.some.inj e; omega) _
      have hs5 : (w4.setCell ⟨jb, 2, none⟩ (.int .i64 (ps.length : Int))).heap.size = w4.heap.size := by simp [World.setCell]
      have hI0 := Lib.fresh_isBuilder 79 5 (w4.setCell ⟨jb, 2, none⟩ (.int .i64 (ps.length : Int)))
      have hB6 := below_one (w4.setCell ⟨jb, 2, none⟩ (.int .i64 (ps.length : Int))) (.cells #[.pointer none, .slice none 0 0] 79)
      rw [hs5] at hI0 hB6
      have HI0 := hide hI0
      have HB6 := hide hB6
      generalize w4.setCell ⟨jb, 2, none⟩ (.int .i64 (ps.length : Int)) = w5 at *
      have HLT := hide hj4
      clear hI0 hB6 HJ4 HO4 HB4 y2 f2 hjb SL en hmax e3 e3'
      rw [← hs5] at HI0 HB6 ⊢
      generalize hw6 : w5.alloc (.cells #[.pointer none, .slice none 0 0] 79) = w6 at *
      have hjl5 : jb < w5.heap.size := by rw [hs5]; exact HLT.out
      clear hw6 hs5 hj4 hjn4 HLT
      obtain ⟨B, hB⟩ : ∃ B, w5.heap.size = B := ⟨_, rfl⟩
      rw [hB] at HI0 HB6 ⊢
      have hBw : B ≤ w6.heap.size := by rw [← hB]; exact HB6.out.size
      have HBE := hide hB
      clear hB
      go_loopw [75] (fun i wr => LpB ps B w6 wr i) (fun i _ => ps.length - (intOf i).toNat)
      case atStart => exact ⟨0, Nat.zero_le _, rfl, HI0.out, Below.refl _ _⟩
      case round =>
        obtain ⟨i, hi, rfl, hI, hBr⟩ := hrel
        have HI := hide hI
        have HBR := hide (HB6.out.trans hBr)
        have HBL := hide hBr
        clear hI hBr
        by_cases hip : i < ps.length
        · have e1 : decide ((i : Int) < (ps.length : Int)) = true := decide_eq_true (by omega)
          obtain ⟨p, hp⟩ : ∃ p, ps[i]? = some p := ⟨_, List.getElem?_eq_getElem hip⟩
          have hpl := HR.out.bd.pl p (List.mem_of_getElem? hp)
          have hsec := HR.out.bd.body i p hp
          have hslen := sector_len hpl (2 + i)
          have hcut1 : (bs (sectorV (2 + i) p)).extract 16 18 = bs (digitsV p.length 2) := by rw [bs_cut, sector_num hpl]
          have hcut2 : (bs (sectorV (2 + i) p)).extract 18 (18 + p.length) = bs p := by rw [bs_cut, show 18 + p.length - 18 = p.length by omega, sector_piece hpl]
          have hat := atoi_digits (n := p.length) (w := 2) (by omega)
          have hdl := digits_40 p.length 2 (by omega) (by omega)
          have HSec := fun W hb => sector_any (2 + i) (by omega) p (by omega) W (HG.out.belowB (B := w.heap.size) hb HG.out.top)
          have hci : ((2 + i : Nat) : Int) = 2 + (i : Int) := by omega
          rw [hci] at HSec
          have c0 : wr.cell? ⟨gA, 2 + i, none⟩ = some (.string (bs (sectorV (2 + i) p))) := ((HBR.out.cell (p := ⟨gA, 2 + i, none⟩) (by show gA < B; rw [← HBE.out]; exact (World.ownsRow.lt HO5.out gA rfl).2))).trans (own_cell4 HO5.out hsec)
          have HFl : Hid ((ps.take (i + 1)).flatten = (ps.take i).flatten ++ p) := by show _ = _; rw [List.take_add_one, hp]; simp
          have hfl : (ps.take i).flatten.length ≤ 46 * 4000 := by
            have h1 := flat_bound (ps.take i) (fun q hq => (HR.out.bd.pl q (List.mem_of_mem_take hq)).2)
            rw [List.length_take] at h1
            omega
          generalize sectorV (2 + i) p = s at *
          generalize digitsV p.length 2 = D at *
          generalize (ps.take i).flatten = FL at *
          have hss : (bs s).size = 64 := by rw [bs_size, hslen]
          have HBW := hide (HB5.out.trans ((HBR.out.mono (show w.heap.size ≤ B by rw [← HBE.out]; exact HB5.out.size))))
          clear hci hsec hp
          have n1 : decide ((p.length : Int) < 1) = false := decide_eq_false (by omega)
          have n1' : decide (p.length < 1) = false := decide_eq_false (by omega)
          have n2 : decide ((46 : Int) < (p.length : Int)) = false := decide_eq_false (by omega)
          have n2' : decide (46 < p.length) = false := decide_eq_false (by omega)
          have n3 : (!((bs s).toList == (bs s).toList)) = false := by simp
          have ewi := w64 (x := 2 + (i : Int)) (by omega) (by omega)
          have ewn := w64 (x := 18 + (p.length : Int)) (by omega) (by omega)
          go_wp2_with fail
          have CAt : Calls Tryz.prog 64 #[.string (bs D)] wr fun e w' => e = .returned (.tuple #[.int .i64 (p.length : Int), .nilIface]) ∧ Below wr.heap.size wr w' := by
            refine (Atoi_any D (by omega) wr (HG.out.belowB HBW.out HG.out.top)).mono ?_
            rintro e w' ⟨hv, hb⟩
            refine ⟨?_, hb⟩
            rcases hv with ⟨v, hv, rfl⟩ | ⟨hv, _⟩
            · rw [hat] at hv
              injection hv with hv
              rw [hv]
            · exact absurd hat (hv _)
          refine CAt.mono ?_
          rintro e w7 ⟨rfl, hb⟩
          have HI7 := hide (IsBuilder_to HI.out hb)
          have HBL7 := hide (HBL.out.trans (hb.mono (Nat.le_trans hBw HBL.out.size)))
          have HBW7 := hide (below_to HBW.out (Nat.le_refl _) hb)
          have CSe := HSec w7 HBW7.out
          have HPL := hide hpl
          have HLT2 := hide hip
          clear hb CAt hat HSec HI HBR HBL HBW c0 hdl hcut1
          go_wp2_with fail
          refine CSe.mono ?_
          rintro e w8 ⟨rfl, hb⟩
          have HI8 := hide (IsBuilder_to HI7.out hb)
          have HBL8 := hide (HBL7.out.trans (hb.mono (Nat.le_trans hBw HBL7.out.size)))
          have hpsz := bs_size p
          clear hb CSe HI7 HBL7 HBW7
          go_wp2_with fail
          refine (Tryz.Builder_WriteString _ _ _ (bs p) _ HI8.out (by rw [Lib.byteCells_length, bs_size]; omega) (Nat.le_trans hBw HBL8.out.size)).mono ?_
          rintro e w9 ⟨rfl, hat, hb⟩
          rw [strCells_bs, ← byteCells_app, ← HFl.out] at hat
          have HI9 : Hid (Lib.IsBuilder 79 5 B B (Lib.byteCells (ps.take (i + 1)).flatten) w9) := .inr hat
          have HBL9 := hide (HBL8.out.trans hb)
          clear hat hb
          go_wp2_with fail
          refine ⟨?_, ?_⟩
          · exact ⟨i + 1, by have := HLT2.out; omega, by go_num, HI9.out, HBL9.out⟩
          · have := HLT2.out
            simp [intOf]; omega
        · obtain rfl : i = ps.length := by omega
          have e1 : decide ((ps.length : Int) < (ps.length : Int)) = false := by simp
          rw [List.take_length, HF.out] at HI
          have hBw2 : B ≤ wr.heap.size := Nat.le_trans hBw HBL.out.size
          go_wp2_with fail
          refine (Tryz.Builder_String_any B B (joinD rs) _ HI.out hBw2).mono ?_
          rintro e w7 ⟨rfl, hb⟩
          have HBR7 := hide (HBR.out.trans hb)
          have hwB : w.heap.size ≤ B := by rw [← HBE.out]; exact HB5.out.size
          have HB7 := hide (HB5.out.trans (HBR7.out.mono hwB))
          have CP := jparse_any rs hrn HX.out w7 (HG.out.belowB HB7.out HG.out.top)
          unfold ParR at CP
          rw [show ByteArray.mk (joinD rs).toArray = bs (joinD rs) from rfl]
          clear hb HI HBR HBL
          go_wp2_with fail
          refine CP.mono ?_
          rintro e w8 ⟨v, rfl, ho, hb⟩
          have hjB : jb < B := by rw [← HBE.out]; exact hjl5
          have hw7 : B ≤ w7.heap.size := by rw [← HBE.out]; exact HBR7.out.size
          have hBR8 := HBR7.out.trans (hb.mono hw7)
          have hj8 := HJ5.out.below hBR8 hjB
          have y3 := (hj8.cell 3).trans (show _ = some (Value.slice none 0 0) from rfl)
          have f3 := hj8.frozen 3
          have hgB : gA < B := by omega
          have HV8 := hide ho
          obtain ⟨Av, cv, rfl⟩ := own_sl4 ho
          have hvj : (Value.slice Av rs.length cv).ownBlock ≠ some jb := fun e => by have := (World.ownsRow.lt ho jb e).1; omega
          have HJ8 := hide hj8
          have HB8 := hide (below_to HB7.out (Nat.le_refl _) hb)
          have HO8 : Hid (OwnT w8 w.heap.size (.slice (some ⟨gA, 0, none⟩) k co) ss) := by
            have h := HO5.out
            obtain ⟨h1, h2⟩ := h
            refine ⟨h1, ?_⟩
            rcases h2 with ⟨h2, _⟩ | ⟨g, cap, cur, hv, hBg, hg, hr⟩
            · cases h2
            · refine .inr ⟨g, cap, cur, hv, hBg, ?_, hr⟩
              have e : gA = g := by injection hv with e1; injection e1 with e2; injection e2
              subst e
              rw [hBR8.block gA hgB]; exact hg
          clear ho hb CP hj8 hBR8 HJ5 HO5 HBR7 HB7 HB5 HI0 HB6
          go_wp2_with fail
          have HJ9 : Hid (Blk (w8.setCell ⟨jb, 3, none⟩ (.slice Av rs.length cv)) jb 90 #[dkP b, .int .i64 (k : Int), .int .i64 (ps.length : Int), .slice Av rs.length cv, .bool false]) := HJ8.out.set_ 3 _
          have HB9 := hide (HB8.out.setCell (p := ⟨jb, 3, none⟩) hw2 (.slice Av rs.length cv))
          have HO9 : Hid (OwnT (w8.setCell ⟨jb, 3, none⟩ (.slice Av rs.length cv)) w.heap.size (.slice (some ⟨gA, 0, none⟩) k co) ss) := own_farB HO8.out (p := ⟨jb, 3, none⟩) (fun e => by have : gA = jb := Option.some.inj e; omega) _
          have HV9 : Hid (OwnT (w8.setCell ⟨jb, 3, none⟩ (.slice Av rs.length cv)) (jb + 1) (.slice Av rs.length cv) rs) := own_farB (own_lessB HV8.out (by omega)) (p := ⟨jb, 3, none⟩) hvj _
          have HD9 : Hid (DkAt b sb ab (.slice none 0 0) ⟨ss, [], false, none⟩ (w8.setCell ⟨jb, 3, none⟩ (.slice Av rs.length cv))) := by
            have hnd : ¬ DB b sb ab jb := fun h => by
              rcases h with h | h | ⟨h, _⟩ | h
              · omega
              · omega
              · omega
              · cases h
            exact (HD.out.to HB8.out).farC hnd
          clear HJ8 HB8 HO8 HV8 y3 f3
          generalize w8.setCell ⟨jb, 3, none⟩ (.slice Av rs.length cv) = w9 at *
          have hnd : ∀ x, w.heap.size ≤ x → ¬ DB b sb ab x := fun x hx h => by
            rcases h with h | h | ⟨h, _⟩ | h
            · omega
            · omega
            · omega
            · cases h
          have hww9 := HB9.out.size
          have HP0 : Hid (PlI b sb ab ps.length ss w9 0 w9) := ⟨HD9.out, Sav.refl _ _⟩
          go_loopw [119] (fun i wr => ∃ q : Nat, i = .int .i64 (q : Int) ∧ q ≤ 2 ∧ Aside (PlI b sb ab ps.length ss w9 q wr)) (fun i _ => 2 - (intOf i).toNat)
          case atStart => exact ⟨0, rfl, by omega, HP0.out⟩
          case round =>
            obtain ⟨q, rfl, hq, hP⟩ := hrel
            have HP : Hid (PlI b sb ab ps.length ss w9 q wr) := hP
            clear hP
            have hj9 := HP.out.sav.blk HJ9.out (hnd jb hw2)
            have HOq : Hid (OwnT wr w.heap.size (.slice (some ⟨gA, 0, none⟩) k co) ss) := HP.out.sav.own HO9.out fun g e => by
              obtain rfl : gA = g := Option.some.inj e
              exact hnd _ hgA
            have y2 := (hj9.cell 2).trans (show _ = some (Value.int .i64 (ps.length : Int)) from rfl)
            have HJq := hide hj9
            clear hj9
            by_cases hq2 : q < 2
            · have e1 : decide ((q : Int) < 2) = true := decide_eq_true (by omega)
              have e2 : decide (q < 2) = true := decide_eq_true hq2
              obtain ⟨s, hs⟩ : ∃ s, ss[q]? = some s := ⟨_, List.getElem?_eq_getElem (by omega)⟩
              have hsl64 := HR.out.bd.l64 s (List.mem_of_getElem? hs)
              have c0 := own_cell4 HOq.out hs
              have HBq : ∀ W, Sav (DB b sb ab) wr W → Glob W := fun W hS => by
                have h1 : Below Tryz.prog.globals.size w9 W := (HP.out.sav.trans hS).below (Nat.le_trans HG.out.top hww9) fun x hx h => by
                  rcases h with h | h | ⟨h, _⟩ | h
                  · omega
                  · omega
                  · omega
                  · cases h
                exact HG.out.belowB ((HB9.out.mono HG.out.top).trans h1) (Nat.le_refl _)
              have CH := jhead_any q ps.length (by omega) (by omega) wr (HBq wr (Sav.refl _ _))
              have HFX := hide (fxV_next (c := ps.length) (ss := ss) hq2)
              rw [getD_some hs] at HFX
              obtain ⟨H, hH⟩ : ∃ H, headV q ps.length = H := ⟨_, rfl⟩
              have hHl : H.length = 64 := by rw [← hH]; exact head_len (by omega)
              rw [hH] at CH
              have HHH := hide hH
              have hs0q := hs
              clear hH hs
              go_wp2_with fail
              refine CH.mono ?_
              rintro e w10 ⟨rfl, hb⟩
              have HP10 : Hid (PlI b sb ab ps.length ss w9 q w10) := ⟨HP.out.at_.to hb, HP.out.sav.to hb⟩
              have hj10 := HJq.out.to hb
              have HO10 : Hid (OwnT w10 w.heap.size (.slice (some ⟨gA, 0, none⟩) k co) ss) := own_to4 HOq.out hb
              have HSS := hide hs0q
              obtain ⟨ZZ, hZZ⟩ : ∃ ZZ, zeroV = ZZ := ⟨_, rfl⟩
              have hZl : ZZ.length = 64 := by rw [← hZZ]; exact zero_len
              have HP10 := hide HP10.out
              clear HP HJq HOq c0 y2
              by_cases hsH : s = H
              · have e5 : ((bs s).toList == (bs H).toList) = true := by rw [hsH]; simp
                have hgood : goodH ps.length q s = true := by rw [hsH, ← HHH.out]; exact goodH_head _ _
                clear hsH
                obtain ⟨U, hU, g, u0, e9, hgu, hi⟩ := cls w10
                subst e9
                have X5 : ∀ u, (g u).cell? ⟨gA, q, none⟩ = some (.string (bs s)) := fun u => own_cell4 (own_to4 HO10 (hgu u)) HSS.out
                have X2 : ∀ u, (g u).cell? ⟨jb, 2, none⟩ = some (.int .i64 (ps.length : Int)) := blk_all hgu hj10 2 rfl
                have CZ := cls_call hgu hi (fun W _ => zero_any W)
                rw [hZZ] at CZ
                have HGU := hide hgu
                have HHI := hide hi
                have HJ10 := hide hj10
                clear hgu hi hj10
                go_upto_region 32 with fail
                refine wp_region_class g (by kernel_rfl) (by kernel_rfl) (HHI.out _ (HGU.out _).drew) ?_
                repeat (go_big_quiet_step (with_reducible exact CZ _))
                refine wpQuiet_nil ?_
                intro w11 hw11
                obtain ⟨u, rfl⟩ := hw11
                have HP11 : Hid (PlI b sb ab ps.length ss w9 q (g u)) := ⟨HP10.out.at_.to (HGU.out u), HP10.out.sav.to (HGU.out u)⟩
                have HJ11 := hide (HJ10.out.to (HGU.out u))
                clear X5 X2 CZ HP10 HJ10 HO10 hb
                have HG1 := hide (fix_good (ss := fxV ps.length ss q) hgood)
                clear hgood
                generalize g u = w11 at *
                go_wp2_with fail
                refine ⟨⟨q + 1, by go_num, by omega, ?_, HP11.out.sav⟩, ?_⟩
                · rw [HFX.out, HG1.out]; exact HP11.out.at_
                · simp [intOf]; omega
              · have e5 : ((bs s).toList == (bs H).toList) = false := by rw [bs_toList, bs_toList, beq_eq_false_iff_ne]; exact hsH
                by_cases hc0 : ps.length = 0
                · have e6 : ((ps.length : Int) == 0) = true := by rw [hc0]; rfl
                  by_cases hsZ : s = ZZ
                  · have e7 : ((bs s).toList == (bs ZZ).toList) = true := by rw [hsZ]; simp
                    have hgood : goodH ps.length q s = true := by unfold goodH; rw [hc0, hsZ, hZZ]; simp
                    have HC0 := hide hc0
                    clear hsH hsZ hc0
                    obtain ⟨U, hU, g, u0, e9, hgu, hi⟩ := cls w10
                    subst e9
                    have X5 : ∀ u, (g u).cell? ⟨gA, q, none⟩ = some (.string (bs s)) := fun u => own_cell4 (own_to4 HO10 (hgu u)) HSS.out
                    have X2 : ∀ u, (g u).cell? ⟨jb, 2, none⟩ = some (.int .i64 (ps.length : Int)) := blk_all hgu hj10 2 rfl
                    have CZ := cls_call hgu hi (fun W _ => zero_any W)
                    rw [hZZ] at CZ
                    have HGU := hide hgu
                    have HHI := hide hi
                    have HJ10 := hide hj10
                    clear hgu hi hj10
                    go_upto_region 32 with fail
                    refine wp_region_class g (by kernel_rfl) (by kernel_rfl) (HHI.out _ (HGU.out _).drew) ?_
                    repeat (go_big_quiet_step (with_reducible exact CZ _))
                    refine wpQuiet_nil ?_
                    intro w11 hw11
                    obtain ⟨u, rfl⟩ := hw11
                    have HP11 : Hid (PlI b sb ab ps.length ss w9 q (g u)) := ⟨HP10.out.at_.to (HGU.out u), HP10.out.sav.to (HGU.out u)⟩
                    have HJ11 := hide (HJ10.out.to (HGU.out u))
                    clear X5 X2 CZ HP10 HJ10 HO10 hb
                    have HG1 := hide (fix_good (ss := fxV ps.length ss q) hgood)
                    clear hgood
                    generalize g u = w11 at *
                    go_wp2_with fail
                    refine ⟨⟨q + 1, by go_num, by omega, ?_, HP11.out.sav⟩, ?_⟩
                    · rw [HFX.out, HG1.out]; exact HP11.out.at_
                    · simp [intOf]; omega
                  · have e7 : ((bs s).toList == (bs ZZ).toList) = false := by rw [bs_toList, bs_toList, beq_eq_false_iff_ne]; exact hsZ
                    have hgood : goodH ps.length q s = false := by unfold goodH; rw [HHH.out, hZZ, decide_eq_false hsH, decide_eq_false hsZ]; simp
                    have HB1 : Hid (fixH ps.length q s (fxV ps.length ss q) = setS (fxV ps.length ss q) q ZZ) := by
                      show _ = _
                      rw [← hZZ]
                      rw [hc0] at hgood ⊢
                      exact fix_zero hgood
                    have e8 : decide (0 < (ps.length : Int)) = false := decide_eq_false (by omega)
                    have e8' : decide (0 < ps.length) = false := decide_eq_false (by omega)
                    clear hsH hsZ hc0 hgood
                    obtain ⟨U, hU, g, u0, e9, hgu, hi⟩ := cls w10
                    subst e9
                    have X5 : ∀ u, (g u).cell? ⟨gA, q, none⟩ = some (.string (bs s)) := fun u => own_cell4 (own_to4 HO10 (hgu u)) HSS.out
                    have X2 : ∀ u, (g u).cell? ⟨jb, 2, none⟩ = some (.int .i64 (ps.length : Int)) := blk_all hgu hj10 2 rfl
                    have CZ := cls_call hgu hi (fun W _ => zero_any W)
                    rw [hZZ] at CZ
                    have HGU := hide hgu
                    have HHI := hide hi
                    have HJ10 := hide hj10
                    clear hgu hi hj10
                    go_upto_region 32 with fail
                    refine wp_region_class g (by kernel_rfl) (by kernel_rfl) (HHI.out _ (HGU.out _).drew) ?_
                    repeat (go_big_quiet_step (with_reducible exact CZ _))
                    refine wpQuiet_nil ?_
                    intro w11 hw11
                    obtain ⟨u, rfl⟩ := hw11
                    have HP11 : Hid (PlI b sb ab ps.length ss w9 q (g u)) := ⟨HP10.out.at_.to (HGU.out u), HP10.out.sav.to (HGU.out u)⟩
                    have HJ11 := hide (HJ10.out.to (HGU.out u))
                    clear X5 X2 CZ HP10 HJ10 HO10 hb
                    have y2 := (HJ11.out.cell 2).trans (show _ = some (Value.int .i64 (ps.length : Int)) from rfl)
                    have x0 : (g u).cell? ⟨jb, 0, none⟩ = some (dkP b) := (HJ11.out.cell 0).trans rfl
                    have CZ := zero_any (g u)
                    rw [hZZ] at CZ
                    generalize g u = w11 at *
                    go_wp2_with fail
                    refine CZ.mono ?_
                    rintro e w12 ⟨rfl, hb⟩
                    have hb13 := below_one w12 (.cells #[.string (bs ZZ)] 9)
                    have hB13 := below_to hb (Nat.le_refl _) hb13
                    have HP13 : Hid (PlI b sb ab ps.length ss w9 q (w12.alloc (.cells #[.string (bs ZZ)] 9))) := ⟨HP11.out.at_.to hB13, HP11.out.sav.to hB13⟩
                    have hj13 := HJ11.out.to hB13
                    have hT13 : TextsAt (w12.alloc (.cells #[.string (bs ZZ)] 9)) (.slice (some ⟨w12.heap.size, 0, none⟩) 1 1) [ZZ] := TextsAt.one (Blk.new w12 _ _)
                    have hw12 : w.heap.size ≤ w12.heap.size := Nat.le_trans hww9 (Nat.le_trans HP11.out.sav.size hb.size)
                    have CW := jwrite_any jb b sb ab ⟨fxV ps.length ss q, [], false, none⟩ rfl rfl q [ZZ] (by intro t ht; rw [List.mem_singleton.1 ht]; exact hZl) (by show q + 1 ≤ (fxV ps.length ss q).length; rw [fxV_len]; omega) (.slice (some ⟨w12.heap.size, 0, none⟩) 1 1) _ ((hj13.cell 0).trans rfl) (hnd jb hw2) HP13.out.at_ hT13 (fun g e => by obtain rfl : w12.heap.size = g := Option.some.inj e; exact hnd _ hw12)
                    rw [wr_one] at CW
                    unfold WrR at CW
                    clear hT13 hb13 hB13 hb CZ HP11 HJ11
                    go_wp2_with fail
                    refine CW.mono ?_
                    rintro e w14 ⟨rfl, hd14, hs14⟩
                    have HD14 := hide hd14
                    have HS14 := hide (HP13.out.sav.trans hs14)
                    have hj14 := hs14.blk hj13 (hnd jb hw2)
                    have y2 := (hj14.cell 2).trans (show _ = some (Value.int .i64 (ps.length : Int)) from rfl)
                    have HJ14 := hide hj14
                    clear CW hd14 hs14 hj13 hj14 HP13 x0
                    go_wp2_with fail
                    refine ⟨⟨q + 1, by go_num, by omega, ?_, HS14.out⟩, ?_⟩
                    · rw [HFX.out, HB1.out]; exact HD14.out
                    · simp [intOf]; omega
                · have e6 : ((ps.length : Int) == 0) = false := by rw [beq_eq_false_iff_ne]; omega
                  have hgood : goodH ps.length q s = false := by unfold goodH; rw [HHH.out, decide_eq_false hsH, decide_eq_false hc0]; simp
                  have HB1 : Hid (fixH ps.length q s (fxV ps.length ss q) = setS (setS (fxV ps.length ss q) q ZZ) q H) := by
                    show _ = _
                    rw [fix_bad hgood hc0, hZZ, HHH.out]
                  have e8 : decide (0 < (ps.length : Int)) = true := decide_eq_true (by omega)
                  have e8' : decide (0 < ps.length) = true := decide_eq_true (by omega)
                  clear hsH hgood hc0
                  obtain ⟨U, hU, g, u0, e9, hgu, hi⟩ := cls w10
                  subst e9
                  have X5 : ∀ u, (g u).cell? ⟨gA, q, none⟩ = some (.string (bs s)) := fun u => own_cell4 (own_to4 HO10 (hgu u)) HSS.out
                  have X2 : ∀ u, (g u).cell? ⟨jb, 2, none⟩ = some (.int .i64 (ps.length : Int)) := blk_all hgu hj10 2 rfl
                  have CZ := cls_call hgu hi (fun W _ => zero_any W)
                  rw [hZZ] at CZ
                  have HGU := hide hgu
                  have HHI := hide hi
                  have HJ10 := hide hj10
                  clear hgu hi hj10
                  go_upto_region 32 with fail
                  refine wp_region_class g (by kernel_rfl) (by kernel_rfl) (HHI.out _ (HGU.out _).drew) ?_
                  repeat (go_big_quiet_step (with_reducible exact CZ _))
                  refine wpQuiet_nil ?_
                  intro w11 hw11
                  obtain ⟨u, rfl⟩ := hw11
                  have HP11 : Hid (PlI b sb ab ps.length ss w9 q (g u)) := ⟨HP10.out.at_.to (HGU.out u), HP10.out.sav.to (HGU.out u)⟩
                  have HJ11 := hide (HJ10.out.to (HGU.out u))
                  clear X5 X2 CZ HP10 HJ10 HO10 hb
                  have y2 := (HJ11.out.cell 2).trans (show _ = some (Value.int .i64 (ps.length : Int)) from rfl)
                  have x0 : (g u).cell? ⟨jb, 0, none⟩ = some (dkP b) := (HJ11.out.cell 0).trans rfl
                  have CZ := zero_any (g u)
                  rw [hZZ] at CZ
                  generalize g u = w11 at *
                  go_wp2_with fail
                  refine CZ.mono ?_
                  rintro e w12 ⟨rfl, hb⟩
                  have hb13 := below_one w12 (.cells #[.string (bs ZZ)] 9)
                  have hB13 := below_to hb (Nat.le_refl _) hb13
                  have HP13 : Hid (PlI b sb ab ps.length ss w9 q (w12.alloc (.cells #[.string (bs ZZ)] 9))) := ⟨HP11.out.at_.to hB13, HP11.out.sav.to hB13⟩
                  have hj13 := HJ11.out.to hB13
                  have hT13 : TextsAt (w12.alloc (.cells #[.string (bs ZZ)] 9)) (.slice (some ⟨w12.heap.size, 0, none⟩) 1 1) [ZZ] := TextsAt.one (Blk.new w12 _ _)
                  have hw12 : w.heap.size ≤ w12.heap.size := Nat.le_trans hww9 (Nat.le_trans HP11.out.sav.size hb.size)
                  have CW := jwrite_any jb b sb ab ⟨fxV ps.length ss q, [], false, none⟩ rfl rfl q [ZZ] (by intro t ht; rw [List.mem_singleton.1 ht]; exact hZl) (by show q + 1 ≤ (fxV ps.length ss q).length; rw [fxV_len]; omega) (.slice (some ⟨w12.heap.size, 0, none⟩) 1 1) _ ((hj13.cell 0).trans rfl) (hnd jb hw2) HP13.out.at_ hT13 (fun g e => by obtain rfl : w12.heap.size = g := Option.some.inj e; exact hnd _ hw12)
                  rw [wr_one] at CW
                  unfold WrR at CW
                  clear hT13 hb13 hB13 hb CZ HP11 HJ11
                  go_wp2_with fail
                  refine CW.mono ?_
                  rintro e w14 ⟨rfl, hd14, hs14⟩
                  have HD14 := hide hd14
                  have HS14 := hide (HP13.out.sav.trans hs14)
                  have hj14 := hs14.blk hj13 (hnd jb hw2)
                  have y2 := (hj14.cell 2).trans (show _ = some (Value.int .i64 (ps.length : Int)) from rfl)
                  have HJ14 := hide hj14
                  clear CW hd14 hs14 hj13 hj14 HP13 x0
                  have hT15 : TextsAt (w14.alloc (.cells #[.string (bs H)] 9)) (.slice (some ⟨w14.heap.size, 0, none⟩) 1 1) [H] := TextsAt.one (Blk.new w14 _ _)
                  have hb15 := below_one w14 (.cells #[.string (bs H)] 9)
                  have hw14 : w.heap.size ≤ w14.heap.size := Nat.le_trans hww9 HS14.out.size
                  have CW := jwrite_any jb b sb ab ⟨setS (fxV ps.length ss q) q ZZ, [], false, none⟩ rfl rfl q [H] (by intro t ht; rw [List.mem_singleton.1 ht]; exact hHl) (by show q + 1 ≤ (setS (fxV ps.length ss q) q ZZ).length; rw [setS_len, fxV_len]; omega) (.slice (some ⟨w14.heap.size, 0, none⟩) 1 1) _ (((HJ14.out.to hb15).cell 0).trans rfl) (hnd jb hw2) (HD14.out.to hb15) hT15 (fun g e => by obtain rfl : w14.heap.size = g := Option.some.inj e; exact hnd _ hw14)
                  rw [wr_one] at CW
                  unfold WrR at CW
                  have HS15 := hide (HS14.out.to hb15)
                  clear hT15 hb15
                  go_wp2_with fail
                  refine CW.mono ?_
                  rintro e w16 ⟨rfl, hd16, hs16⟩
                  have HD16 := hide hd16
                  have HS16 := hide (HS15.out.trans hs16)
                  clear CW hd16 hs16
                  go_wp2_with fail
                  refine ⟨⟨q + 1, by go_num, by omega, ?_, HS16.out⟩, ?_⟩
                  · rw [HFX.out, HB1.out]; exact HD16.out
                  · simp [intOf]; omega
            · obtain rfl : q = 2 := by omega
              have e1 : decide ((2 : Int) < 2) = false := rfl
              have HVq : Hid (OwnT wr (jb + 1) (.slice Av rs.length cv) rs) := HP.out.sav.own HV9.out fun g e => hnd g (by have := (World.ownsRow.lt HV9.out g e).1; omega)
              have CC := Clone_any rs (by omega) (.slice Av rs.length cv) wr (TextsAt.of_own HVq.out)
              unfold CloneR at CC
              have y3 := (HJq.out.cell 3).trans (show _ = some (Value.slice Av rs.length cv) from rfl)
              go_wp2_with fail
              refine CC.mono ?_
              rintro e w10 ⟨v', rfl, ho, hb⟩
              obtain ⟨A', c', rfl⟩ := own_sl4 ho
              have hww : w.heap.size ≤ wr.heap.size := Nat.le_trans hww9 HP.out.sav.size
              have hres : OpenR b sb ab k ps rs ss w (.returned (.tuple #[.pointer (some ⟨jb, 0, none⟩), .slice A' rs.length c', .int .i64 0])) w10 := by
                refine ⟨jb, .slice Av rs.length cv, _, rfl, hw2, ⟨HJq.out.to hb, own_to4 HVq.out hb⟩, own_lessB ho hww, HP.out.at_.to hb, ?_⟩
                exact ((Sav.of HB9.out).trans HP.out.sav).to hb
              go_wp2_with fail
              go_ret3
              exact hres
end Go.Proofs.YtnjlefggkfagmaaGreatDoor

/- A name that other texts import. -/
set_option linter.unusedVariables false
set_option linter.unusedSimpArgs false
namespace Go.Proofs.YtnjlefggkfagmaaGreatDoor
/-- sizes that came in -/
structure Pg.wide (p : Pg) : Prop where
  ni : p.items.length ≤ 8796093022208
  li : ∀ x ∈ p.items, x.length ≤ 140737488355328
  np : p.paths.length ≤ 8796093022208
  nq : ∀ q ∈ p.paths, q.length ≤ 8796093022208
  lq : ∀ q ∈ p.paths, ∀ x ∈ q, x.length ≤ 140737488355328
  lr : p.root.length ≤ 140737488355328
end Go.Proofs.YtnjlefggkfagmaaGreatDoor

/- A name that other texts import. -/
set_option linter.unusedVariables false
set_option linter.unusedSimpArgs false

/- The walk of the statements' examples: head. -/
set_option linter.unusedVariables false
set_option linter.unusedSimpArgs false
namespace Go.Proofs.YtnjlefggkfagmaaGreatDoor
open Go.RowKit

def abc : List (List UInt8) := [[97], [98], [99]]
def hP : Pg := pageV abc 1 1
def hQ : Pg := pageV abc 0 2
def hR : List UInt8 := totalT (leavesV abc)
def hF : Pg := { hP with items := [[120]] }
end Go.Proofs.YtnjlefggkfagmaaGreatDoor

/- The walk of the statements' examples: head. -/
set_option linter.unusedVariables false
set_option linter.unusedSimpArgs false
namespace Go.Proofs.YtnjlefggkfagmaaGreatDoor
open Go.RowKit

/-- what the examples keep -/
structure HdI (w : World) (bP bQ b lo1 hi1 lo2 hi2 : Nat) (vi vp ui up : Value) (its : List (List UInt8)) (v : Value) (W : World) : Prop where
  bel : Below w.heap.size w W
  boxP : Blk W bP 38 (hP.cs vi vp)
  boxQ : Blk W bQ 38 (hQ.cs ui up)
  pgP : PgAt lo1 hi1 W vi vp hP
  pgQ : PgAt lo2 hi2 W ui up hQ
  cli : CliAt b hR 3 its v W
  ord : w.heap.size ≤ b ∧ bP < b ∧ bQ < b ∧ hi1 ≤ b ∧ hi2 ≤ b
section
variable {w W W' : World} {bP bQ b lo1 hi1 lo2 hi2 : Nat} {vi vp ui up v v' : Value} {its its' : List (List UInt8)}
theorem HdI.to (h : HdI w bP bQ b lo1 hi1 lo2 hi2 vi vp ui up its v W) (hb : Below W.heap.size W W') : HdI w bP bQ b lo1 hi1 lo2 hi2 vi vp ui up its v W' :=
  ⟨below_to h.bel (Nat.le_refl _) hb, h.boxP.to hb, h.boxQ.to hb, h.pgP.to hb, h.pgQ.to hb, h.cli.to hb, h.ord⟩
theorem rowOr_le {v : Value} {b n : Nat} (h : ∀ g, v.ownBlock = some g → n ≤ g) (hb : n ≤ b) : n ≤ rowOr v b := by
  unfold rowOr
  cases e : v.ownBlock with
  | none => exact hb
  | some g => exact h g e
theorem HdI.acc (h : HdI w bP bQ b lo1 hi1 lo2 hi2 vi vp ui up its v W) (hT : Two b (rowOr v b) W W') (hc : CliAt b hR 3 its' v' W') : HdI w bP bQ b lo1 hi1 lo2 hi2 vi vp ui up its' v' W' := by
  have ho := h.ord
  have hr : b ≤ rowOr v b := rowOr_le (fun g e => by have := (h.cli.lt g e).1; omega) (Nat.le_refl _)
  exact ⟨h.bel.trans (hT.below h.bel.size ho.1 (Nat.le_trans ho.1 hr)), hT.blk h.boxP (by omega) (by omega), hT.blk h.boxQ (by omega) (by omega), h.pgP.two hT (.inr ho.2.2.2.1) (.inr (by omega)), h.pgQ.two hT (.inr ho.2.2.2.2) (.inr (by omega)), hc, ho⟩
end
end Go.Proofs.YtnjlefggkfagmaaGreatDoor

/- Plain facts of formed pages: sizes. -/
set_option linter.unusedVariables false
set_option linter.unusedSimpArgs false
namespace Go.Proofs.YtnjlefggkfagmaaGreatDoor
open Go.RowKit

theorem page_cells {W : World} {b : Nat} {p : Pg} {vi vp : Value} (h : Blk W b 38 (p.cs vi vp)) : W.cell? ⟨b, 0, none⟩ = some (.int .i64 p.fr) ∧ W.cell? ⟨b, 1, none⟩ = some (.int .i64 p.size) ∧ W.cell? ⟨b, 2, none⟩ = some (.string (bs p.root)) ∧ W.cell? ⟨b, 3, none⟩ = some vi ∧ W.cell? ⟨b, 4, none⟩ = some vp :=
  ⟨(h.cell 0).trans rfl, (h.cell 1).trans rfl, (h.cell 2).trans rfl, (h.cell 3).trans rfl, (h.cell 4).trans rfl⟩
theorem formed_len {p : Pg} (h : formedB p = true) : (∀ q ∈ p.paths, q.length ≤ 20 ∧ ∀ x ∈ q, x.length = 16) ∧ (∀ x ∈ p.items, x.length ≤ 20000) := by
  obtain ⟨⟨hf, hs, hr, hn, hl⟩, hp⟩ := formed_spec h
  refine ⟨fun q hq => ?_, fun x hx => ?_⟩
  · obtain ⟨k, hk, rfl⟩ := List.getElem_of_mem hq
    have := okPart_spec (hp k (by omega))
    rw [show p.paths.getD k [] = p.paths[k] by simp [hk]] at this
    exact ⟨this.2.1, fun x hx => isD_len (this.1 x hx)⟩
  · obtain ⟨k, hk, rfl⟩ := List.getElem_of_mem hx
    exact (okPart_spec (hp k hk)).2.2
theorem formed_fit {p : Pg} (h : formedB p = true) : p.fit := by
  obtain ⟨⟨hf, hs, hr, hn, hl⟩, hp⟩ := formed_spec h
  obtain ⟨h1, h2⟩ := formed_len h
  have := isD_len hr
  exact ⟨by omega, fun x hx => by have := h2 x hx; omega, by omega, fun q hq => by have := (h1 q hq).1; omega, fun q hq x hx => by have := (h1 q hq).2 x hx; omega, by omega, by omega, by omega⟩
theorem line_len60 (x : List UInt8) (q : List (List UInt8)) (hx : x.length ≤ 60) (hn : q.length ≤ 20) (hq : ∀ y ∈ q, y.length ≤ 16) : (lineT x q).length ≤ 500 := by
  unfold lineT
  rw [Lib.join_cons]
  have h1 := itoa_len x.length (by omega)
  have h2 := tail_len 16 q hq
  have h3 : q.length * (16 + 1) ≤ 20 * 17 := Nat.mul_le_mul hn (Nat.le_refl _)
  simp only [List.length_append, List.length_cons, List.length_nil]
  omega
end Go.Proofs.YtnjlefggkfagmaaGreatDoor

/- Plain laws of served pages: they are formed, and the client that trusts the log takes them over. -/
set_option linter.unusedVariables false
set_option linter.unusedSimpArgs false
namespace Go.Proofs.YtnjlefggkfagmaaGreatDoor
open Go.RowKit

theorem upG_of {leaf : List UInt8} : ∀ (f n i : Nat) (st : List (List UInt8)) (r : List UInt8) (rest : List (List UInt8)), upF f n i leaf st = some (r, rest) → (∀ d ∈ st, d ≠ []) → upG leaf f n i st false = (r, rest, false)
  | 0, n, i, st, r, rest, h, _ => by simp [upF] at h
  | f + 1, n, i, st, r, rest, h, hd => by
    unfold upF at h
    by_cases h1 : n = 1
    · rw [if_pos h1] at h
      subst h1
      rw [upG_one]
      cases h
      rfl
    · rw [if_neg h1] at h
      match st, h, hd with
      | [], h, _ => simp at h
      | side :: st, h, hd =>
        have hne : side ≠ [] := hd side (by simp)
        have hsh : nextS (side :: st) false = false := by
          unfold nextS
          cases side with
          | nil => exact absurd rfl hne
          | cons _ _ => rfl
        simp only [] at h
        by_cases hi : i < halfN n
        · rw [if_pos hi] at h
          cases hu : upF f (halfN n) i leaf st with
          | none => rw [hu] at h; cases h
          | some v =>
            obtain ⟨r', rest'⟩ := v
            have ih := upG_of f (halfN n) i st r' rest' hu (fun d h => hd d (by simp [h]))
            rw [hu] at h
            simp only [Option.map_some, Option.some.injEq, Prod.mk.injEq] at h
            rw [upG_lt leaf h1 hi, hsh]
            show (nodeD (upG leaf f (halfN n) i st false).1 side, (upG leaf f (halfN n) i st false).2) = _
            rw [ih, ← h.1, ← h.2]
        · rw [if_neg hi] at h
          cases hu : upF f (n - halfN n) (i - halfN n) leaf st with
          | none => rw [hu] at h; cases h
          | some v =>
            obtain ⟨r', rest'⟩ := v
            have ih := upG_of f (n - halfN n) (i - halfN n) st r' rest' hu (fun d h => hd d (by simp [h]))
            rw [hu] at h
            simp only [Option.map_some, Option.some.injEq, Prod.mk.injEq] at h
            rw [upG_ge leaf h1 hi, hsh]
            show (nodeD side (upG leaf f (n - halfN n) (i - halfN n) st false).1, (upG leaf f (n - halfN n) (i - halfN n) st false).2) = _
            rw [ih, ← h.1, ← h.2]
theorem pathF_len : ∀ (f : Nat) (l : List (List UInt8)) (i : Nat), (pathF f l i).length ≤ f
  | 0, l, i => by simp [pathF]
  | f + 1, l, i => by
    unfold pathF
    split
    · simp
    · split
      · rw [List.length_cons]; exact Nat.succ_le_succ (pathF_len f _ _)
      · rw [List.length_cons]; exact Nat.succ_le_succ (pathF_len f _ _)
theorem pathV_isD {L : List (List UInt8)} (h : properT L = true) (k : Nat) : ∀ d ∈ pathV L k, isD d = true := fun d hd => by
  unfold pathV at hd
  exact path_isD L.length L k h d (by simpa using hd)
theorem check_path {L : List (List UInt8)} (hp : properT L = true) (hl : L.length ≤ 1000000) {k : Nat} {x : List UInt8} (hx : L[k]? = some x) : checkV (totalT L) (L.length : Int) (k : Int) x (pathV L k) = true := by
  have hk : k < L.length := (List.getElem?_eq_some_iff.1 hx).1
  have hxd : isD x = true := by unfold properT at hp; exact List.all_eq_true.1 hp x (List.mem_of_getElem? hx)
  have hpp : properT (pathV L k) = true := by unfold properT; rw [List.all_eq_true]; exact pathV_isD hp k
  unfold checkV
  rw [if_pos ⟨by omega, by omega, by omega, hpp, hxd⟩, Int.toNat_natCast, Int.toNat_natCast]
  have hu := up_path L.length L k x [] (Nat.le_refl _) hx
  rw [List.append_nil] at hu
  have hne : ∀ d ∈ pathF L.length L k, d ≠ [] := fun d hd e => by
    have := path_isD L.length L k hp d hd
    rw [e] at this
    exact absurd this (by decide)
  have hg := upG_of L.length L.length k _ _ _ hu hne
  unfold upV
  rw [show (pathV L k).reverse = pathF L.length L k by unfold pathV; rw [List.reverse_reverse], hg]
  simp
/-- a log of the statements' size -/
structure Lg (items : List (List UInt8)) : Prop where
  len : items.length ≤ 12
  lx : ∀ x ∈ items, x.length ≤ 60
theorem Lg.take {items : List (List UInt8)} (h : Lg items) (k : Nat) : Lg (items.take k) := ⟨by have := h.len; rw [List.length_take]; omega, fun x hx => h.lx x (List.mem_of_mem_take hx)⟩
theorem Lg.big {items : List (List UInt8)} (h : Lg items) : items.length ≤ 1000 ∧ ∀ x ∈ items, x.length ≤ 100000 := ⟨by have := h.len; omega, fun x hx => by have := h.lx x hx; omega⟩
def rootL (items : List (List UInt8)) : List UInt8 := totalT (leavesV items)
theorem leaves_proper (items : List (List UInt8)) : properT (leavesV items) = true := (leaves_ok items).1
theorem leaves_len (items : List (List UInt8)) : (leavesV items).length = items.length := (leaves_ok items).2.2
theorem root_isD (items : List (List UInt8)) : isD (rootL items) = true := total_isD _ (leaves_proper items)
theorem serve_yes {items : List (List UInt8)} (h : Lg items) {F M : Nat} (hF : F ≤ items.length) (h1 : 1 ≤ M) (h2 : M ≤ 50) : serveB items F M = true := by
  have hl := h.len
  unfold serveB logB
  simp only [Bool.and_eq_true, Bool.not_eq_true', List.any_eq_false, decide_eq_true_eq]
  exact ⟨⟨fun x hx => by have := h.lx x hx; simp; omega, by omega⟩, by omega, by omega⟩
theorem page_items (items : List (List UInt8)) (F M : Nat) : (pageV items F M).items = (items.drop F).take M := rfl
theorem page_ilen (items : List (List UInt8)) (F M : Nat) : (pageV items F M).items.length = min M (items.length - F) := by rw [page_items, List.length_take, List.length_drop]
theorem page_path {items : List (List UInt8)} {F M k : Nat} (hk : k < (pageV items F M).items.length) : (pageV items F M).paths.getD k [] = pathV (leavesV items) (F + k) := by
  have hk' : k < ((items.drop F).take M).length := hk
  show ((List.range ((items.drop F).take M).length).map fun i => pathV (leavesV items) (F + i)).getD k [] = _
  rw [List.getD_eq_getElem?_getD, List.getElem?_map, List.getElem?_range hk']
  rfl
theorem page_plen (items : List (List UInt8)) (F M : Nat) : (pageV items F M).paths.length = (pageV items F M).items.length := by
  show ((List.range ((items.drop F).take M).length).map fun i => pathV (leavesV items) (F + i)).length = _
  simp [page_items]
theorem pathV_len (L : List (List UInt8)) (i : Nat) : (pathV L i).length ≤ L.length := by
  unfold pathV
  rw [List.length_reverse]
  exact pathF_len _ _ _
theorem page_formed {items : List (List UInt8)} (h : Lg items) {F M : Nat} (hF : F ≤ items.length) (h2 : M ≤ 50) : formedB (pageV items F M) = true := by
  have hl := h.len
  have e1 := page_ilen items F M
  have e2 := page_plen items F M
  unfold formedB
  rw [Bool.and_eq_true]
  refine ⟨?_, List.all_eq_true.2 fun k _ => ?_⟩
  · unfold headB
    simp only [Bool.and_eq_true, decide_eq_true_eq]
    have f0 : (pageV items F M).fr = (F : Int) := rfl
    have s0 : (pageV items F M).size = (items.length : Int) := rfl
    exact ⟨by omega, by omega, root_isD items, by omega, e2⟩
  · unfold Pg.okAt
    rw [page_path k.2]
    unfold okPart pathB
    simp only [Bool.and_eq_true, Bool.not_eq_true', decide_eq_true_eq, List.any_eq_false]
    refine ⟨⟨fun x hx => by rw [pathV_isD (leaves_proper items) _ x hx]; simp, ?_⟩, ?_⟩
    · have := pathV_len (leavesV items) (F + (k : Nat))
      rw [leaves_len] at this
      omega
    · have hm : (pageV items F M).items[k] ∈ items := List.mem_of_mem_drop (List.mem_of_mem_take (List.getElem_mem (l := (items.drop F).take M) k.2))
      have := h.lx _ hm
      omega
theorem page_at {items : List (List UInt8)} {F M k : Nat} (hk : k < (pageV items F M).items.length) : items[F + k]? = some (pageV items F M).items[k] := by
  have hk' : k < ((items.drop F).take M).length := hk
  have hm : k < M := by rw [List.length_take] at hk'; omega
  have := List.getElem?_eq_getElem hk'
  rw [List.getElem?_take_of_lt hm, List.getElem?_drop] at this
  exact this
theorem page_held {items : List (List UInt8)} (h : Lg items) {F M : Nat} (hF : F ≤ items.length) : heldB (pageV items F M) (rootL items) items.length = true := by
  have hl := h.len
  have e1 := page_ilen items F M
  unfold heldB
  rw [Bool.and_eq_true]
  refine ⟨?_, List.all_eq_true.2 fun k _ => ?_⟩
  · unfold sameB
    simp only [Bool.and_eq_true, decide_eq_true_eq]
    have f0 : (pageV items F M).fr = (F : Int) := rfl
    exact ⟨rfl, rfl, by show (pageV items F M).fr ≤ (items.length : Int) - ((pageV items F M).items.length : Int); omega⟩
  · unfold Pg.checkAt
    rw [page_path k.2]
    have hx : (leavesV items)[F + (k : Nat)]? = some (leafD (pageV items F M).items[k]) := by
      unfold leavesV
      rw [List.getElem?_map, page_at k.2]; rfl
    have := check_path (leaves_proper items) (by rw [leaves_len]; omega) hx
    rw [leaves_len] at this
    have f0 : (pageV items F M).fr + ((k : Nat) : Int) = ((F + (k : Nat) : Nat) : Int) := by show (F : Int) + _ = _; omega
    rw [f0]
    exact this
theorem page_accE {items : List (List UInt8)} (h : Lg items) {F M k : Nat} (hF : F ≤ items.length) (h2 : M ≤ 50) (hk : k ≤ items.length) : accE (pageV items F M) (rootL items) items.length (items.take k) = if k < F then 13 else 0 := by
  unfold accE
  rw [page_formed h hF h2, page_held h hF, if_pos rfl, if_pos rfl]
  have f0 : (pageV items F M).fr = (F : Int) := rfl
  rw [f0, List.length_take]
  by_cases hc : k < F
  · rw [if_pos (by omega), if_pos hc]
  · rw [if_neg (by omega), if_neg hc]
theorem take_more {α : Type} (l : List α) {k F M : Nat} (hk : k ≤ l.length) (hF : F ≤ k) : l.take k ++ ((l.drop F).take M).drop (k - F) = l.take (max k (min (F + M) l.length)) := by
  have e : ((l.drop F).take M).drop (k - F) = (l.drop k).take (M - (k - F)) := by
    rw [List.drop_take, List.drop_drop, show F + (k - F) = k by omega]
  rw [e]
  rcases Nat.lt_or_ge (F + M) k with hc | hc
  · rw [show M - (k - F) = 0 by omega, List.take_zero, List.append_nil]
    congr 1; omega
  · rcases Nat.lt_or_ge (F + M) l.length with hd | hd
    · rw [show max k (min (F + M) l.length) = k + (M - (k - F)) by omega, List.take_add]
    · rw [show max k (min (F + M) l.length) = l.length by omega, List.take_length, List.take_of_length_le (l := l.drop k) (by rw [List.length_drop]; omega), List.take_append_drop]
theorem page_accV {items : List (List UInt8)} (h : Lg items) {F M k : Nat} (hF : F ≤ items.length) (h2 : M ≤ 50) (hk : k ≤ items.length) : accV (pageV items F M) (rootL items) items.length (items.take k) = items.take (if k < F then k else max k (min (F + M) items.length)) := by
  unfold accV
  rw [page_accE h hF h2 hk]
  by_cases hc : k < F
  · rw [if_pos hc, if_neg (by decide), if_pos hc]
  · rw [if_neg hc, if_pos rfl, if_neg hc, page_items]
    have f0 : (pageV items F M).fr.toNat = F := rfl
    rw [f0, List.length_take, Nat.min_eq_left hk]
    exact take_more items hk (by omega)
theorem page_fit {items : List (List UInt8)} (h : Lg items) {F M : Nat} (hF : F ≤ items.length) (h2 : M ≤ 50) : (pageV items F M).fit := formed_fit (page_formed h hF h2)
theorem new_yes {items : List (List UInt8)} (h : Lg items) : newB (rootL items) items.length = true := by
  have hl := h.len
  unfold newB
  rw [root_isD, decide_eq_true (by omega : (0 : Int) ≤ (items.length : Int)), decide_eq_true (by omega : (items.length : Int) ≤ 10000)]
  simp only [Bool.true_and, Bool.not_eq_true', Bool.and_eq_false_iff, decide_eq_false_iff_not, Bool.not_eq_false', decide_eq_true_eq]
  by_cases h0 : items.length = 0
  · right
    rw [List.eq_nil_of_length_eq_zero h0]
    rfl
  · left; omega
/-! slices of small numbers -/
def U8sAt (w : World) (v : Value) (zs : List Nat) : Prop := RowsAt w 1 v (zs.map fun z : Nat => [Value.int .u8 (z : Int)])
theorem U8sAt.to {w w' : World} {v : Value} {zs : List Nat} (h : U8sAt w v zs) (hb : Below w.heap.size w w') : U8sAt w' v zs := RowsAt.to h hb
theorem U8sAt.slice {w : World} {v : Value} {zs : List Nat} (h : U8sAt w v zs) : ∃ A c, v = .slice A zs.length c ∧ zs.length ≤ c := by
  obtain ⟨A, c, h1, h2, _⟩ := h
  exact ⟨A, c, by rw [h1, List.length_map], by simpa using h2⟩
theorem U8sAt.at_ {w : World} {A : Option Addr} {n c : Nat} {zs : List Nat} (h : U8sAt w (.slice A n c) zs) {k z : Nat} (hz : zs[k]? = some z) : ∃ a, A = some a ∧ a.block < w.heap.size ∧ w.cell? (a.add k) = some (.int .u8 (z : Int)) := by
  obtain ⟨a, c', h1, _, h3, _, h5⟩ := RowsAt.at_ h (k := k) (x := [Value.int .u8 (z : Int)]) (by rw [List.getElem?_map, hz]; rfl)
  injection h1 with e1
  refine ⟨a, e1, h3, ?_⟩
  have := h5 0 _ rfl
  rwa [add_of_add, Nat.add_zero, Nat.mul_one] at this
end Go.Proofs.YtnjlefggkfagmaaGreatDoor

/- A name that other texts import. -/
set_option linter.unusedVariables false
set_option linter.unusedSimpArgs false

/- The walk of PageComplete. -/
set_option linter.unusedVariables false
set_option linter.unusedSimpArgs false
namespace Go.Proofs.YtnjlefggkfagmaaGreatDoor
open Go.RowKit

theorem NewL {items : List (List UInt8)} (h : Lg items) (w : World) (hg : Glob w) : Calls Tryz.prog 25 #[.string (bs (rootL items)), .int .i64 (items.length : Int)] w fun e w' => ∃ b, e = .returned (.tuple #[cliP b, .int .i64 0]) ∧ w.heap.size ≤ b ∧ CliAt b (rootL items) items.length [] (.slice none 0 0) w' ∧ Below w.heap.size w w' := by
  have := New_any (rootL items) (by rw [isD_len (root_isD items)]; decide) items.length w hg
  unfold NewR at this
  simp only [new_yes h, if_true] at this
  refine this.mono ?_
  rintro e w' ⟨⟨b, h1, h2, h3⟩, h4⟩
  exact ⟨b, h1, h2, h3, h4⟩
/-- what a client keeps between two pages -/
structure CoI (w : World) (b : Nat) (items : List (List UInt8)) (k : Nat) (v : Value) (W : World) : Prop where
  bel : Below w.heap.size w W
  cli : CliAt b (rootL items) items.length (items.take k) v W
  ord : w.heap.size ≤ b
  le : k ≤ items.length
theorem CoI.to {w W W' : World} {b k : Nat} {items : List (List UInt8)} {v : Value} (h : CoI w b items k v W) (hb : Below W.heap.size W W') : CoI w b items k v W' := ⟨below_to h.bel (Nat.le_refl _) hb, h.cli.to hb, h.ord, h.le⟩
theorem CoI.acc {w W W' : World} {b k k' : Nat} {items : List (List UInt8)} {v v' : Value} (h : CoI w b items k v W) (hT : Two b (rowOr v b) W W') (hc : CliAt b (rootL items) items.length (items.take k') v' W') (hk : k' ≤ items.length) : CoI w b items k' v' W' := by
  have hr : b ≤ rowOr v b := rowOr_le (fun g e => by have := (h.cli.lt g e).1; omega) (Nat.le_refl _)
  exact ⟨h.bel.trans (hT.below h.bel.size h.ord (Nat.le_trans h.ord hr)), hc, h.ord, hk⟩
theorem CoI.next {w W : World} {b k : Nat} {items : List (List UInt8)} {v : Value} (h : CoI w b items k v W) (hl : Lg items) : Calls Tryz.prog 9 #[.pointer (some ⟨b, 0, none⟩)] W fun e w' => e = .returned (.int .i64 (k : Int)) ∧ Below W.heap.size W w' := by
  have := Next_any b _ _ (items.take k) (by have := hl.big.1; rw [List.length_take]; omega) v W h.cli
  rw [List.length_take, Nat.min_eq_left h.le] at this
  exact this
theorem CoI.its {w W : World} {b k : Nat} {items : List (List UInt8)} {v : Value} (h : CoI w b items k v W) (hl : Lg items) : Calls Tryz.prog 21 #[.pointer (some ⟨b, 0, none⟩)] W (ItemsR (items.take k) W) :=
  Items_any b _ _ (items.take k) (by have := hl.big.1; rw [List.length_take]; omega) v W h.cli
/-- a page of the log, wherever its arrays lie behind the client -/
theorem CoI.accept {w W : World} {b k F M lo hi : Nat} {items : List (List UInt8)} {v vi vp : Value} (h : CoI w b items k v W) (hl : Lg items) (hF : F ≤ items.length) (h2 : M ≤ 50) (hg : Glob w) (hp : PgAt lo hi W vi vp (pageV items F M)) (hlo : b < lo) (hv : ∀ g, v.ownBlock = some g → g < lo) :
    Calls Tryz.prog 11 #[.pointer (some ⟨b, 0, none⟩), .agg ((pageV items F M).cs vi vp)] W fun e w' => ∃ v', e = .returned (.int .i64 (if k < F then 13 else 0)) ∧ CoI w b items (if k < F then k else max k (min (F + M) items.length)) v' w' ∧ Two b (rowOr v b) W w' := by
  have C := Accept_any b (rootL items) items.length (items.take k) (by have := hl.big.1; rw [List.length_take]; omega) v (pageV items F M) (page_fit hl hF h2) vi vp W (hg.to h.bel) h.cli hp.ti hp.tp (fun _ e => by have := hp.bi b e; omega) (fun g e _ e2 => by have := hp.bi g e2; have := hv g e; omega)
  rw [page_accE hl hF h2 h.le, page_accV hl hF h2 h.le] at C
  refine C.mono ?_
  rintro e w' ⟨v', h1, h2, h3, _⟩
  exact ⟨v', h1, h.acc h3 h2 (by have := h.le; split <;> omega), h3⟩
end Go.Proofs.YtnjlefggkfagmaaGreatDoor

/- Walks of the statement's helpers: the root of a log. -/
set_option linter.unusedVariables false
set_option linter.unusedSimpArgs false
namespace Go.Proofs.YtnjlefggkfagmaaGreatDoor
open Go.RowKit

set_option maxRecDepth 100000 in
set_option maxHeartbeats 2000000 in
theorem w09Root_any (items : List (List UInt8)) (hn : items.length ≤ 1000) (hx : ∀ x ∈ items, x.length ≤ 100000) (v : Value) (w : World) (hv : TextsAt w v items) (hg : Glob w) :
    Calls Tryz.prog 6 #[v] w fun e w' => e = .returned (.string (bs (totalT (leavesV items)))) ∧ Below w.heap.size w w' := by
  obtain ⟨A, c, rfl, _⟩ := hv.slice
  have HS := hide hv
  have HX := hide hx
  have HG := hide hg
  obtain ⟨i0, hi0, hz0, hz1, hz2⟩ := info_parts info_str
  clear hv hx hg
  go_enter Tryz.func6, Tryz.ntmps6
  go_wp2_with fail
  go_loopw [3, 4] (fun o i wr => ∃ k : Nat, i = .int .i64 (k : Int) ∧ k ≤ items.length ∧ Aside (OwnT wr w.heap.size o ((leavesV items).take k)) ∧ Aside (Below w.heap.size w wr)) (fun _ i _ => items.length - (intOf i).toNat)
  case atStart => exact ⟨0, rfl, by omega, World.ownsRow_nil _ _ _ _, Below.refl _ _⟩
  case round =>
    obtain ⟨k, rfl, hk, hO, hB⟩ := hrel
    have HO : Hid (OwnT wr w.heap.size _ ((leavesV items).take k)) := hO
    have HB : Hid (Below w.heap.size w wr) := hB
    have htl : ((leavesV items).take k).length = k := by rw [List.length_take]; simp [leavesV]; omega
    obtain ⟨Ao, co, rfl⟩ := own_sl4 hO
    clear hO hB
    rw [htl] at HO ⊢
    by_cases hlt : k < items.length
    · have e1 : decide ((k : Int) < (items.length : Int)) = true := decide_eq_true (by omega)
      obtain ⟨x, hx⟩ : ∃ x, items[k]? = some x := ⟨_, List.getElem?_eq_getElem hlt⟩
      obtain ⟨a, rfl, ha, c0⟩ := (HS.out.to HB.out).at_ hx
      have hxl := HX.out x (List.mem_of_getElem? hx)
      have CL := Leaf_any x (by omega) wr (HG.out.to HB.out)
      have HSN : Hid ((leavesV items).take (k + 1) = (leavesV items).take k ++ [leafD x]) := by show _ = _; unfold leavesV; rw [List.take_add_one, List.getElem?_map, hx]; rfl
      have HO1 : Hid (wr.ownsRow w.heap.size 9 1 (.slice Ao k co) k (flatS ((leavesV items).take k))) := by
        have := HO.out
        unfold OwnT at this
        rw [htl] at this
        exact this
      generalize leafD x = d at *
      generalize (leavesV items).take k = L at *
      clear hx HO
      go_wp2_with fail
      refine CL.mono ?_
      rintro e w4 ⟨rfl, hb4⟩
      have HO4 := hide (own_to4 HO1.out hb4)
      have HB4 := hide (below_to HB.out (Nat.le_refl _) hb4)
      have HSZ : Hid (w.heap.size ≤ w4.heap.size) := HB4.out.size
      clear hb4 CL HO1
      go_wp2_with (at_builtin; refine wpList_append_own _ rfl (.tmp 13) (.tmp 19) _ rfl w.heap.size 9 i0 (.string ⟨#[]⟩) 1 16 Tryz.underlying22 hi0 hz0 hz1 hz2 rfl (by omega) _ k (flatS L) rfl ?c0 ⟨_, 0, none⟩ 1 1 [.string (bs d)] rfl rfl ?c1 ?c2 ?c4 ?c5 ?c3 ?_)
      case c0 => exact own_to4 HO4.out (below_one _ _)
      case c1 => exact cells_new4 (xs := [.string (bs d)]) (by simp)
      case c2 => intro u hu; simp only [List.mem_cons, List.not_mem_nil, or_false] at hu; rcases hu with rfl; rfl
      case c4 => simp only [maxLen]; omega
      case c5 => omega
      case c3 => have := HSZ.out; simp; omega
      intro v' w6 hown6 hgr6 _
      have HB6 := hide ((below_alloc HB4.out (Nat.le_refl _) _).grown hgr6 (by have := HSZ.out; simp; omega) (fun b hb => (HO4.out.lt b hb).1))
      have HO6 : Hid (OwnT w6 w.heap.size v' ((leavesV items).take (k + 1))) := by
        rw [HSN.out]
        show World.ownsRow _ _ _ _ _ _ _
        rw [flatS_snoc, List.length_append, htl]
        exact hown6
      clear hown6 hgr6
      go_wp2_with fail
      refine ⟨⟨k + 1, by go_num, by omega, HO6.out, HB6.out⟩, ?_⟩
      simp [intOf]; omega
    · obtain rfl : k = items.length := by omega
      have e1 : decide ((items.length : Int) < (items.length : Int)) = false := by simp
      have HOx : Hid (OwnT wr w.heap.size (.slice Ao items.length co) (leavesV items)) := by
        have := HO.out
        rwa [List.take_of_length_le (by simp [leavesV])] at this
      have CR := root_leaves items hn (.slice Ao items.length co) wr (TextsAt.of_own HOx.out) (HG.out.to HB.out)
      obtain ⟨R, HR⟩ : ∃ R, Hid (totalT (leavesV items) = R) := ⟨_, rfl⟩
      rw [HR.out] at CR
      clear HO HOx
      go_wp2_with fail
      refine CR.mono ?_
      rintro e w3 ⟨rfl, hb⟩
      go_wp2_with fail
      go_ret
      exact ⟨by rw [HR.out]; rfl, below_to HB.out (Nat.le_refl _) hb⟩
end Go.Proofs.YtnjlefggkfagmaaGreatDoor

/- Walks of the reference of layer 1: mix, Sum. -/
set_option linter.unusedVariables false
set_option linter.unusedSimpArgs false
namespace Go.Proofs.YtnjlefggkfagmaaGreatDoor
open Go.RowKit

set_option maxHeartbeats 1000000 in
theorem rmix_any (X : Nat) (hX : X < 18446744073709551616) (w : World) : Calls Tryz.prog 84 #[.int .u64 (X : Int)] w fun e w' => e = .returned (.int .u64 ((mixN X : Nat) : Int)) ∧ w' = w := by
  have HM := hide (mix_val X hX)
  have hx := hX
  clear hX
  go_enter Tryz.func84, Tryz.ntmps84
  go_wp2_with fail
  go_ret
  exact ⟨congrArg (fun z => Ending.returned (Value.int .u64 z)) HM.out, rfl⟩
def hexS : List UInt8 := [48, 49, 50, 51, 52, 53, 54, 55, 56, 57, 97, 98, 99, 100, 101, 102]
theorem hexS_cut : ∀ m, m < 16 → (hexS.drop m).take (m + 1 - m) = [hexC m] := by decide
theorem hexS_ext (m : Nat) (h : m < 16) : (⟨#[48, 49, 50, 51, 52, 53, 54, 55, 56, 57, 97, 98, 99, 100, 101, 102]⟩ : ByteArray).extract m (m + 1) = bs [hexC m] := by
  have := bs_cut hexS m (m + 1)
  rw [hexS_cut m h] at this
  exact this
theorem pad8_at (l : List UInt8) (j : Nat) (hj : j < 8) : (pad8 l)[j]? = some (l.getD j 0) := by
  unfold pad8
  rcases Nat.lt_or_ge j l.length with h | h
  · rw [List.getElem?_append_left (by rw [List.length_take]; omega), List.getElem?_take_of_lt hj, List.getD_eq_getElem?_getD, List.getElem?_eq_getElem h]; rfl
  · rw [List.getElem?_append_right (by rw [List.length_take]; omega), List.getElem?_replicate, if_pos (by rw [List.length_take]; omega), List.getD_eq_getElem?_getD, List.getElem?_eq_none h]; rfl
def InI (P : List UInt8) (a : Nat) (w wr : World) (b i : Value) : Prop := ∃ j : Nat, j ≤ 8 ∧ i = .int .i64 ((a : Int) + (j : Int)) ∧ b = .int .u64 ((packN (P.take j) : Nat) : Int) ∧ wr = w
def OutI (l : List UInt8) (w wr : World) (st fr : Value) : Prop := ∃ k a : Nat, (k ≤ l.length / 8 + 1 ∧ a ≤ l.length + 8) ∧ Hid (8 * k = a) ∧ fr = .int .i64 (a : Int) ∧ st = .int .u64 ((stN l k : Nat) : Int) ∧ wr = w
def HexI (N : Nat) (w wr : World) (st s i : Value) : Prop := ∃ (j u : Nat) (S : List UInt8), j ≤ 16 ∧ i = .int .i64 (j : Int) ∧ st = .int .u64 (u : Int) ∧ u < 18446744073709551616 ∧ s = .string (bs S) ∧ S.length ≤ 16 ∧ Hid (S.length = j) ∧ Hid (hexN (16 - j) u ++ S = hexN 16 N) ∧ wr = w
set_option maxRecDepth 100000 in
set_option maxHeartbeats 1000000 in
theorem rSum_any (l : List UInt8) (hl : l.length ≤ 140737488355328) (w : World) : Calls Tryz.prog 36 #[.string (bs l)] w fun e w' => e = .returned (.string (bs (sumD l))) ∧ w' = w := by
  have hsz : (bs l).size = l.length := bs_size l
  have HX := hide (u64_xor_nat 7640891576956012809 l.length (by decide) (by omega))
  have z0 : IntKind.u64.wrap (l.length : Int) = (l.length : Int) := by rw [IntKind.wrap_u64]; omega
  go_enter Tryz.func36, Tryz.ntmps36
  go_wp2_with fail
  go_loopw [3, 4, 5, 6] (fun st fr _ _ wr => OutI l w wr st fr) (fun _ fr _ _ _ => l.length + 9 - (intOf fr).toNat)
  case atStart => exact ⟨0, 0, ⟨by omega, by omega⟩, rfl, rfl, congrArg (fun z => Value.int .u64 z) HX.out, rfl⟩
  case round =>
    obtain ⟨k, a, ⟨hk, ha⟩, HK, rfl, rfl, rfl⟩ := hrel
    have hst := stN_lt (l := l) (by omega) k
    clear HX
    by_cases hlt : a ≤ l.length
    · have e1 : decide ((a : Int) ≤ (l.length : Int)) = true := decide_eq_true (by omega)
      have HKs : Hid (stN l (k + 1) = mixN (stN l k ^^^ packN (pad8 (l.drop a)))) := by show _ = _; rw [← HK.out]; rfl
      have HPl := hide (pad8_len (l.drop a))
      have HPa : Hid (∀ j, j < 8 → (pad8 (l.drop a))[j]? = some (l.getD (a + j) 0)) := fun j hj => by rw [pad8_at _ j hj, List.getD_eq_getElem?_getD, List.getElem?_drop, ← List.getD_eq_getElem?_getD]
      generalize pad8 (l.drop a) = P at *
      generalize stN l k = s at *
      go_wp2_with fail
      go_loopw [5, 6] (fun b i wr2 => InI P a wr wr2 b i) (fun _ i _ => a + 8 - (intOf i).toNat)
      case atStart => exact ⟨0, by omega, by simp, rfl, rfl⟩
      case round =>
        obtain ⟨j, hj, rfl, rfl, rfl⟩ := hrel
        by_cases hj8 : j < 8
        · have e2 : decide ((a : Int) + (j : Int) < (a : Int) + 8) = true := decide_eq_true (by omega)
          have hN : packN (P.take j) < 72057594037927936 := by
            have h1 := packN_lt (P.take j)
            have h2 : 256 ^ (P.take j).length ≤ 256 ^ 7 := Nat.pow_le_pow_right (by decide) (by rw [List.length_take]; omega)
            omega
          have HN : Hid (packN (P.take (j + 1)) = packN (P.take j) * 256 + (l.getD (a + j) 0).toNat) := by
            show _ = _
            rw [List.take_add_one, HPa.out j hj8]
            exact packN_snoc _ _
          generalize packN (P.take j) = N at *
          by_cases hin : a + j < l.length
          · have e3 : decide ((a : Int) + (j : Int) < (l.length : Int)) = true := decide_eq_true (by omega)
            obtain ⟨c, hc⟩ : ∃ c, l[a + j]? = some c := ⟨_, List.getElem?_eq_getElem hin⟩
            have ci0 := index_bs l (a + j) c hc
            have ci : ∀ w, (Instr.index 9 (.string (bs l)) (.int .i64 ((a : Int) + (j : Int)))).run Tryz.prog w = .ok (.int .u8 (c.toNat : Int)) w := by
              rw [show (a : Int) + (j : Int) = ((a + j : Nat) : Int) by omega]
              exact ci0 
            clear ci0
            have c8 := c.toNat_lt
            rw [show l.getD (a + j) 0 = c by rw [List.getD_eq_getElem?_getD, hc]; rfl] at HN
            clear hc
            go_wp2_with fail
            refine ⟨⟨j + 1, by omega, by go_num, by rw [HN.out]; go_num, rfl⟩, ?_⟩
            simp [intOf]; omega
          · have e3 : decide ((a : Int) + (j : Int) < (l.length : Int)) = false := decide_eq_false (by omega)
            rw [show l.getD (a + j) 0 = 0 by rw [List.getD_eq_getElem?_getD, List.getElem?_eq_none (by omega)]; rfl] at HN
            go_wp2_with fail
            refine ⟨⟨j + 1, by omega, by go_num, by rw [HN.out]; simp, rfl⟩, ?_⟩
            simp [intOf]; omega
        · obtain rfl : j = 8 := by omega
          have e2 : decide ((a : Int) + (8 : Int) < (a : Int) + 8) = false := decide_eq_false (by omega)
          have HP8 : Hid (packN (P.take 8) = packN P) := by show _ = _; rw [List.take_of_length_le (by have := HPl.out; omega)]
          rw [HP8.out]
          have hN : packN P < 18446744073709551616 := packN_lt64 (by have := HPl.out; omega)
          generalize packN P = N at *
          have hx := u64_xor_nat s N hst hN
          have CM := fun w => rmix_any (s ^^^ N) (xor_lt64 hst hN) w
          generalize s ^^^ N = X at *
          go_wp2_with ((with_reducible refine (CM _).mono ?_); rintro e w' ⟨rfl, rfl⟩)
          refine ⟨⟨k + 1, a + 8, ⟨by have := HK.out; omega, by omega⟩, by have := HK.out; show _ = _; omega, by go_num, by rw [HKs.out], rfl⟩, ?_⟩
          simp [intOf]; omega
    · have e1 : decide ((a : Int) ≤ (l.length : Int)) = false := decide_eq_false (by omega)
      have HS : Hid (stN l k = sumN l) := by
        show _ = _
        have := HK.out
        rw [sumN_st, show k = l.length / 8 + 1 by omega]
      have hs : sumN l < 18446744073709551616 := by rw [← HS.out]; exact hst
      rw [HS.out]
      have HD : Hid (sumD l = hexN 16 (sumN l)) := rfl
      generalize sumN l = N at *
      clear HS hst
      go_wp2_with fail
      go_loopw [3, 7, 8] (fun st s i wr2 => HexI N wr wr2 st s i) (fun _ _ i _ => 16 - (intOf i).toNat)
      case atStart => exact ⟨0, N, [], by omega, rfl, rfl, hs, rfl, by simp, rfl, by show _ = _; simp, rfl⟩
      case round =>
        obtain ⟨j, u, S, hj, rfl, rfl, hu, rfl, hS, HSl, HE, rfl⟩ := hrel
        have hz : (bs S).size = S.length := bs_size S
        by_cases hj16 : j < 16
        · have e2 : decide ((j : Int) < 16) = true := decide_eq_true (by omega)
          obtain ⟨m, hm, hm16⟩ : ∃ m, u % 16 = m ∧ m < 16 := ⟨_, rfl, by omega⟩
          have h1 : (u : Int).tmod 16 = (m : Int) := by rw [Int.tmod_eq_emod_of_nonneg (by omega), ← hm, Int.natCast_emod]; rfl
          have hx := hexS_ext m hm16
          have hz1 : (bs [hexC m]).size = 1 := rfl
          have H2 : Hid ((u : Int) / 16 = ((u / 16 : Nat) : Int)) := by show _ = _; rw [Int.natCast_ediv]; rfl
          have HN : Hid (hexN (16 - (j + 1)) (u / 16) ++ ([hexC m] ++ S) = hexN 16 N) := by
            show _ = _
            rw [← HE.out, show 16 - j = (16 - (j + 1)) + 1 by omega, hexN, hm, List.append_assoc]
          clear hm
          go_wp2_with fail
          refine ⟨⟨j + 1, u / 16, [hexC m] ++ S, by omega, by go_num, by rw [H2.out], by omega, by rw [← bs_app], by have := HSl.out; rw [List.length_append, List.length_cons, List.length_nil]; omega, by show _ = _; have := HSl.out; rw [List.length_append, List.length_cons, List.length_nil]; omega, HN.out, rfl⟩, ?_⟩
          simp [intOf]; omega
        · obtain rfl : j = 16 := by omega
          have e2 : decide (((16 : Nat) : Int) < 16) = false := by decide
          have HF : Hid (S = sumD l) := by show _ = _; rw [HD.out, ← HE.out]; rfl
          go_wp2_with fail
          go_ret
          exact ⟨ret_str' (by rw [HF.out]), rfl⟩
end Go.Proofs.YtnjlefggkfagmaaGreatDoor

/- Walks of the reference of layer 1: Joined, List, Digit, Is. -/
set_option linter.unusedVariables false
set_option linter.unusedSimpArgs false
namespace Go.Proofs.YtnjlefggkfagmaaGreatDoor
open Go.RowKit

def lenS (ls : List (List UInt8)) : Nat := (ls.map List.length).sum
theorem lenS_snoc {ls : List (List UInt8)} {k : Nat} {x : List UInt8} (h : ls[k]? = some x) : lenS (ls.take (k + 1)) = lenS (ls.take k) + x.length := by unfold lenS; rw [List.take_add_one, h]; simp
theorem lenS_le (ls : List (List UInt8)) (k : Nat) : lenS (ls.take k) ≤ lenS ls := by
  have : lenS ls = lenS (ls.take k) + lenS (ls.drop k) := by unfold lenS; rw [← List.sum_append_nat, ← List.map_append, List.take_append_drop]
  omega
def JoB (w : World) (B : Nat) (v : Value) (J : List UInt8) : Prop := w.ownsRow B 5 1 v J.length (Lib.byteCells J)
set_option maxRecDepth 100000 in
set_option maxHeartbeats 300000 in
theorem rJoined_any (ls : List (List UInt8)) (hn : ls.length ≤ 1000) (hs : lenS ls ≤ 100000000000) (hl : (joinD ls).length ≤ 140737488355328) (v : Value) (w : World) (hv : TextsAt w v ls) :
    Calls Tryz.prog 39 #[v] w fun e w' => e = .returned (.string (bs (joinD ls))) ∧ Below w.heap.size w w' := by
  obtain ⟨A, c, rfl, _⟩ := hv.slice
  obtain ⟨i0, hi0, hz0, hz1, hz2⟩ := info_parts (show (Tryz.prog.info? 5).map (fun i => (i.zero, i.size, i.bytes)) = some (some (.int .u8 0), 1, 1) by kernel_rfl)
  have HS := hide hv
  have HT := hide hl
  clear hv hl
  go_enter Tryz.func39, Tryz.ntmps39
  go_wp2_with fail
  go_loopw [3, 4] (fun n i wr => ∃ k m : Nat, i = .int .i64 (k : Int) ∧ n = .int .i64 (m : Int) ∧ (k ≤ ls.length ∧ m ≤ 100000021000) ∧ Hid (m = lenS (ls.take k) + 21 * k) ∧ wr = w) (fun _ i _ => ls.length - (intOf i).toNat)
  case atStart => exact ⟨0, 0, rfl, rfl, ⟨by omega, by omega⟩, rfl, rfl⟩
  case round =>
    obtain ⟨k, m, rfl, rfl, ⟨hk, hm⟩, HM, hw⟩ := hrel
    obtain rfl : w = wr := hw.symm
    clear hw
    by_cases hlt : k < ls.length
    · have e1 : decide ((k : Int) < (ls.length : Int)) = true := decide_eq_true (by omega)
      obtain ⟨x, hx⟩ : ∃ x, ls[k]? = some x := ⟨_, List.getElem?_eq_getElem hlt⟩
      obtain ⟨a, rfl, ha, c0⟩ := HS.out.at_ hx
      have hz : (bs x).size = x.length := bs_size _
      have HL := hide (lenS_snoc hx)
      have HLE := hide (lenS_le ls (k + 1))
      have hxl : x.length ≤ 100000000000 := by have h1 := HL.out; have h2 := HLE.out; omega
      clear hx
      go_wp2_with fail
      refine ⟨⟨k + 1, m + (x.length + 21), by go_num, by go_num, ⟨by omega, ?_⟩, ?_, trivial⟩, ?_⟩
      · have h1 := HL.out; have h2 := HLE.out; have h3 := HM.out; omega
      · show _ = _
        have h1 := HL.out; have h3 := HM.out; omega
      · simp [intOf]; omega
    · obtain rfl : k = ls.length := by omega
      have e1 : decide ((ls.length : Int) < (ls.length : Int)) = false := by simp
      go_wp2_with (refine wpList_make_own _ rfl (.const (.int .i64 0)) (.tmp 21) 56 rfl w.heap.size 5 i0 (.int .u8 0) 1 Tryz.underlying56 hi0 hz0 hz1 .i64 .i64 (m : Int) m rfl rfl rfl (by rw [hz2]; omega) (by simp only [maxLen]; omega) (Nat.le_refl _) ?_; intro w2 hown2 hgr2)
      have HO2 := hide hown2
      have HB2 : Hid (Below w.heap.size w w2) := (Below.refl _ _).grown hgr2 (Nat.le_refl _) (fun k h => by cases h)
      clear hown2 hgr2
      have hne0 : Value.slice (some ⟨w.heap.size, 0, none⟩) 0 m ≠ .slice none 0 0 := by intro h; injection h with h; cases h
      generalize Value.slice (some ⟨w.heap.size, 0, none⟩) 0 m = out0 at *
      go_loopw [5, 6] (fun out i w3 => ∃ k : Nat, i = .int .i64 (k : Int) ∧ k ≤ ls.length ∧ Aside (Below w.heap.size w w3) ∧ Aside (JoB w3 w.heap.size out (joinD (ls.take k))) ∧ Aside (out ≠ .slice none 0 0)) (fun _ i _ => ls.length - (intOf i).toNat)
      case atStart => exact ⟨0, rfl, by omega, HB2.out, HO2.out, hne0⟩
      case round =>
        obtain ⟨k, rfl, hk2, hB, hO, hne⟩ := hrel
        have HB : Hid (Below w.heap.size w wr) := hB
        have HO : Hid (wr.ownsRow w.heap.size 5 1 _ (joinD (ls.take k)).length (Lib.byteCells (joinD (ls.take k)))) := hO
        have HNE : Hid (_ ≠ Value.slice none 0 0) := hne
        clear hB hO hne hne0 HO2 HB2
        by_cases hlt : k < ls.length
        · have e1 : decide ((k : Int) < (ls.length : Int)) = true := decide_eq_true (by omega)
          obtain ⟨x, hx⟩ : ∃ x, ls[k]? = some x := ⟨_, List.getElem?_eq_getElem hlt⟩
          obtain ⟨a, rfl, ha, c0⟩ := (TextsAt.to HS.out HB.out).at_ hx
          have hz : (bs x).size = x.length := bs_size _
          have HJ : Hid (joinD (ls.take (k + 1)) = joinD (ls.take k) ++ (Lib.decDigits x.length ++ [58] ++ x)) := by
            show _ = _
            rw [List.take_add_one, hx]
            have h := joinD_snoc (ls.take k) x
            rw [show Lib.itoa (x.length : Int) = Lib.decDigits x.length by unfold Lib.itoa; rw [if_neg (by omega)]; simp] at h
            exact h
          have HLN : Hid ((joinD (ls.take k)).length + ((Lib.decDigits x.length).length + 1 + x.length) ≤ 140737488355328) := by
            have h1 : joinD ls = joinD (ls.take (k + 1)) ++ joinD (ls.drop (k + 1)) := by unfold joinD; rw [← List.flatMap_append, List.take_append_drop]
            have h2 := HT.out
            rw [h1, HJ.out] at h2
            simp only [List.length_append, List.length_cons, List.length_nil] at h2
            show _ ≤ _
            omega
          have hxl : x.length ≤ 9223372036854775807 := by have := HLN.out; omega
          have CD := fun w => rDecimal_any x.length hxl w
          have hz2' : (bs (Lib.decDigits x.length)).size = (Lib.decDigits x.length).length := bs_size _
          have HXx := hide hx
          clear hx
          generalize joinD (ls.take k) = J at *
          generalize Lib.decDigits x.length = D at *
          have b0 : J.length + (bs D).size ≤ 140737488355328 := by have := HLN.out; rw [hz2']; omega
          have b1 : J.length + (bs D).size + 1 ≤ 140737488355328 := by have := HLN.out; rw [hz2']; omega
          have b2 : J.length + (bs D).size + 1 + (bs x).size ≤ 140737488355328 := by have := HLN.out; rw [hz2', hz]; omega
          have b3 : w.heap.size ≤ wr.heap.size := HB.out.size
          have HB0 := hide b0
          have HB1 := hide b1
          have HB2 := hide b2
          have HB3 := hide b3
          clear b0 b1 b2 b3 hz2'
          go_wp2_with (first | ((with_reducible refine (CD _).mono ?_); rintro e w' ⟨rfl, rfl⟩) | (at_builtin; (refine Lib.wpList_append_own_string _ rfl (.tmp 29) (.tmp 35) 56 9 rfl w.heap.size 5 i0 Tryz.underlying56 Tryz.underlying9 hi0 hz0 hz1 hz2 _ J.length (Lib.byteCells J) rfl HO.out (bs D) rfl (by have := HB0.out; simp only [maxLen]; omega) (by have := HB0.out; omega) HB3.out ?_); intro v1 w11 hown1 hgr1 hiff1) | (at_builtin; (refine wpList_append_own _ rfl (.tmp 37) (.tmp 38) _ rfl w.heap.size 5 i0 (.int .u8 0) 1 1 Tryz.underlying56 hi0 hz0 hz1 hz2 rfl (by omega) _ (J.length + (bs D).size) (Lib.byteCells J ++ Lib.strCells (bs D)) rfl (own_to4 hown1 (below_one _ _)) ⟨_, 0, none⟩ 1 1 [.int .u8 58] rfl rfl (cells_new4 (xs := [.int .u8 58]) rfl) (by intro u hu; rw [List.mem_singleton.1 hu]; rfl) (by have := HB1.out; simp only [maxLen]; omega) (by have := HB1.out; omega) (Nat.le_trans HB3.out (Nat.le_trans hgr1.size (below_one _ _).size)) ?_); intro v2 w12 hown2 hgr2 hiff2; have HB11 := hide (HB.out.grown hgr1 HB3.out (fun k h => (HO.out.lt k h).1)); have HB12 := hide ((below_alloc HB11.out (Nat.le_refl _) (.cells #[.int .u8 58] 5)).grown hgr2 (Nat.le_trans HB11.out.size (below_one _ _).size) (fun k h => (hown1.lt k h).1)); obtain ⟨a2, ea2, _, hcx⟩ := (TextsAt.to HS.out HB12.out).at_ HXx.out; obtain rfl := Option.some.inj ea2) | (at_builtin; (refine Lib.wpList_append_own_string _ rfl (.tmp 40) (.tmp 44) 56 9 rfl w.heap.size 5 i0 Tryz.underlying56 Tryz.underlying9 hi0 hz0 hz1 hz2 _ (J.length + (bs D).size + 1) (Lib.byteCells J ++ Lib.strCells (bs D) ++ [Value.int IntKind.u8 58]) rfl hown2 (bs x) rfl (by have := HB2.out; simp only [maxLen]; omega) (by have := HB2.out; omega) HB12.out.size ?_); intro v3 w13 hown3 hgr3 hiff3; have HB13 := hide (HB12.out.grown hgr3 HB12.out.size (fun k h => (hown2.lt k h).1)); have HO13 := hide hown3; have HN13 : Hid (v3 ≠ Value.slice none 0 0) := fun h => by (have h2 := (hiff3.1 h).1; have h3 := (hiff2.1 h2).2; omega)))
          have HF13 : Hid (JoB w13 w.heap.size v3 (joinD (ls.take (k + 1)))) := by
            have h := HO13.out
            rw [strCells_bs, strCells_bs, bs_size, bs_size, ← byteCells_app, show [Value.int IntKind.u8 58] = Lib.byteCells [58] from rfl, ← byteCells_app, ← byteCells_app] at h
            show JoB _ _ _ _
            rw [HJ.out]
            unfold JoB
            have e5 : J ++ (D ++ ([58] : List UInt8) ++ x) = J ++ D ++ [58] ++ x := by simp
            have e6 : (J ++ D ++ ([58] : List UInt8) ++ x).length = J.length + D.length + 1 + x.length := by simp only [List.length_append, List.length_cons, List.length_nil]
            rw [e5, e6]
            exact h
          refine ⟨⟨k + 1, by go_num, by omega, HB13.out, HF13.out, HN13.out⟩, ?_⟩
          simp [intOf]; omega
        · obtain rfl : k = ls.length := by omega
          rw [List.take_length] at HO
          have e1 : decide ((ls.length : Int) < (ls.length : Int)) = false := by simp
          obtain ⟨A2, c2, rfl⟩ := own_sl4 HO.out
          have hcv : (convert 56 9 (.slice A2 (joinD ls).length c2)).run Tryz.prog wr = .ok (.string (bs (joinD ls))) wr := by
            have h := HO.out
            obtain ⟨_, h⟩ := h
            rcases h with ⟨hv, _⟩ | ⟨g, cap, cur, hv, hgB, hg, h1, h2, h3, h4⟩
            · exact absurd hv HNE.out
            · injection hv with e1 e2 e3
              subst e1
              refine conv_bytes (P := Tryz.prog) wr 56 5 9 Tryz.underlying56 Tryz.underlying5 Tryz.underlying9 g 0 (joinD ls) _ _ rfl (fun i c hc => ?_)
              rw [Nat.zero_add]
              refine (Blk.cell (cs := cur) hg i).trans ?_
              have hi : i < (joinD ls).length := (List.getElem?_eq_some_iff.1 hc).1
              have h5 : (cur.toList.take ((joinD ls).length * 1))[i]? = some (.int .u8 (c.toNat : Int)) := by rw [h4]; simp [Lib.byteCells, hc]
              rw [List.getElem?_take, if_pos (by omega)] at h5
              simpa using h5
          go_wp2_with fail
          go_ret
          exact ⟨rfl, HB.out⟩
set_option maxHeartbeats 400000 in
theorem rList_any (ls : List (List UInt8)) (hn : ls.length ≤ 1000) (hs : lenS ls ≤ 100000000000) (hl : (joinD ls).length ≤ 140737488355328) (v : Value) (w : World) (hv : TextsAt w v ls) :
    Calls Tryz.prog 83 #[v] w fun e w' => e = .returned (.string (bs (listD ls))) ∧ Below w.heap.size w w' := by
  have CJ := rJoined_any ls hn hs hl v w hv
  have CS := fun w => rSum_any (joinD ls) hl w
  clear hv
  go_enter Tryz.func83, Tryz.ntmps83
  go_wp2_with (first | ((with_reducible refine CJ.mono ?_); rintro e w1 ⟨rfl, hb⟩) | ((with_reducible refine (CS _).mono ?_); rintro e w' ⟨rfl, rfl⟩))
  go_ret
  exact ⟨rfl, by assumption⟩
def digV (c : UInt8) : Int := if 48 ≤ c.toNat ∧ c.toNat ≤ 57 then (c.toNat : Int) - 48 else if 97 ≤ c.toNat ∧ c.toNat ≤ 102 then (c.toNat : Int) - 87 else -1
set_option maxHeartbeats 1000000 in
theorem rDigit_any (c : UInt8) (w : World) : Calls Tryz.prog 109 #[.int .u8 (c.toNat : Int)] w fun e w' => e = .returned (.int .i64 (digV c)) ∧ w' = w := by
  have hc := c.toNat_lt
  have HV : Hid (digV c = if 48 ≤ c.toNat ∧ c.toNat ≤ 57 then (c.toNat : Int) - 48 else if 97 ≤ c.toNat ∧ c.toNat ≤ 102 then (c.toNat : Int) - 87 else -1) := rfl
  generalize c.toNat = n at *
  have hc' : n < 256 := hc
  by_cases h1 : 48 ≤ n ∧ n ≤ 57
  · rw [if_pos h1] at HV
    have a1 : (48 : Int) ≤ (n : Int) := by omega
    have a2 : (n : Int) ≤ 57 := by omega
    clear h1 hc
    go_enter Tryz.func109, Tryz.ntmps109
    go_wp2_with fail
    go_ret
    exact ⟨ret_int HV.out.symm, rfl⟩
  · rw [if_neg h1] at HV
    by_cases h2 : 97 ≤ n ∧ n ≤ 102
    · rw [if_pos h2] at HV
      have a1 : (97 : Int) ≤ (n : Int) := by omega
      have a2 : (n : Int) ≤ 102 := by omega
      clear h1 h2 hc
      go_enter Tryz.func109, Tryz.ntmps109
      go_wp2_with fail
      go_ret
      exact ⟨ret_int (by rw [HV.out]; omega), rfl⟩
    · rw [if_neg h2] at HV
      clear hc
      go_enter Tryz.func109, Tryz.ntmps109
      go_wp2_with fail
      all_goals first
        | omega
        | (go_ret; exact ⟨ret_int (by rw [HV.out]), rfl⟩)
theorem digV_hex (c : UInt8) : decide (digV c < 0) = !isHex c := by
  have hc := c.toNat_lt
  unfold digV isHex
  generalize c.toNat = n at *
  by_cases h1 : 48 ≤ n ∧ n ≤ 57
  · rw [if_pos h1, decide_eq_false (by omega), decide_eq_true h1.1, decide_eq_true h1.2]; rfl
  · rw [if_neg h1]
    by_cases h2 : 97 ≤ n ∧ n ≤ 102
    · rw [if_pos h2, decide_eq_false (by omega), decide_eq_true h2.1, decide_eq_true h2.2]; simp
    · rw [if_neg h2]
      have e1 : (decide (48 ≤ n) && decide (n ≤ 57)) = false := by rw [← Bool.not_eq_true]; simpa using h1
      have e2 : (decide (97 ≤ n) && decide (n ≤ 102)) = false := by rw [← Bool.not_eq_true]; simpa using h2
      rw [e1, e2]; rfl
set_option maxRecDepth 100000 in
set_option maxHeartbeats 1000000 in
theorem rIs_any (l : List UInt8) (hl : l.length ≤ 140737488355328) (w : World) : Calls Tryz.prog 79 #[.string (bs l)] w fun e w' => e = .returned (.bool (isD l)) ∧ w' = w := by
  have hsz : (bs l).size = l.length := bs_size l
  have HV : Hid (isD l = (decide (l.length = 16) && l.all isHex)) := rfl
  go_enter Tryz.func79, Tryz.ntmps79
  go_wp2_with fail
  go_loopw [3] (fun i wr => ∃ k : Nat, i = .int .i64 (k : Int) ∧ (k ≤ l.length ∧ k ≤ 16) ∧ Hid (l.all isHex = (l.drop k).all isHex) ∧ wr = w) (fun i _ => l.length - (intOf i).toNat)
  case atStart => exact ⟨0, rfl, ⟨by omega, by omega⟩, rfl, rfl⟩
  case round =>
    obtain ⟨k, rfl, ⟨hk, hk16⟩, HA, rfl⟩ := hrel
    by_cases hlt : k < l.length ∧ k < 16
    · obtain ⟨h1, h2⟩ := hlt
      have e1 : decide ((k : Int) < (l.length : Int)) = true := decide_eq_true (by omega)
      have e2 : decide ((k : Int) < 16) = true := decide_eq_true (by omega)
      obtain ⟨c, hc⟩ : ∃ c, l[k]? = some c := ⟨_, List.getElem?_eq_getElem h1⟩
      have ci := index_bs l k c hc
      have CD := fun w => rDigit_any c w
      have HD := hide (drop_at' hc)
      have HX := hide (digV_hex c)
      clear hc
      generalize digV c = d at *
      cases hx : isHex c with
      | true =>
        have e3 : decide (d < 0) = false := by rw [HX.out, hx]; rfl
        have HN : Hid (l.all isHex = (l.drop (k + 1)).all isHex) := by show _ = _; rw [HA.out, HD.out, List.all_cons, hx]; rfl
        clear hx
        go_wp2_with ((with_reducible refine (CD _).mono ?_); rintro e w' ⟨rfl, rfl⟩)
        refine ⟨⟨k + 1, by go_num, ⟨by omega, by omega⟩, HN.out, trivial⟩, ?_⟩
        simp [intOf]; omega
      | false =>
        have e3 : decide (d < 0) = true := by rw [HX.out, hx]; rfl
        have HN : Hid (isD l = false) := by show _ = _; rw [HV.out, HA.out, HD.out, List.all_cons, hx]; simp
        clear hx
        go_wp2_with ((with_reducible refine (CD _).mono ?_); rintro e w' ⟨rfl, rfl⟩)
        go_ret
        exact ⟨ret_bool (by rw [HN.out]), rfl⟩
    · have HN : Hid (isD l = ((l.length : Int) == 16)) := by
        show _ = _
        by_cases h16 : l.length = 16
        · rw [HV.out, HA.out, List.drop_of_length_le (by omega), decide_eq_true h16, h16]; rfl
        · rw [HV.out, decide_eq_false h16]
          symm
          rw [Bool.false_and, beq_eq_false_iff_ne]; omega
      by_cases h1 : k < l.length
      · have e1 : decide ((k : Int) < (l.length : Int)) = true := decide_eq_true (by omega)
        have e2 : decide ((k : Int) < 16) = false := decide_eq_false (by omega)
        clear hlt
        go_wp2_with fail
        go_ret
        exact ⟨ret_bool (by rw [HN.out]), rfl⟩
      · have e1 : decide ((k : Int) < (l.length : Int)) = false := decide_eq_false (by omega)
        clear hlt
        go_wp2_with fail
        go_ret
        exact ⟨ret_bool (by rw [HN.out]), rfl⟩
end Go.Proofs.YtnjlefggkfagmaaGreatDoor

/- Walks of the reference of layer 2: Half, Leaf, node, Empty, root, digests, Root. -/
set_option linter.unusedVariables false
set_option linter.unusedSimpArgs false
namespace Go.Proofs.YtnjlefggkfagmaaGreatDoor
open Go.RowKit

theorem rows_newS (w : World) (t : TypeId) (ls : List (List UInt8)) (cs : Array Value) (hcs : cs.toList = (ls.map strV).flatten) (n : Nat) (hn : n = ls.length) : TextsAt (w.alloc (.cells cs t)) (.slice (some ⟨w.heap.size, 0, none⟩) n n) ls := by
  refine RowsAt.of_blk (Blk.new w t cs) (by rw [List.length_map]; exact hn) (Nat.le_refl _) (by simp [strV]) fun k x hx j u hu => ?_
  have := flat_at (size := 1) (ls.map strV) (by simp [strV]) k x j u hx hu
  rw [← hcs] at this
  simpa using this
set_option maxRecDepth 100000 in
set_option maxHeartbeats 400000 in
theorem rHalf_any (n : Nat) (hn : n ≤ 140737488355328) (w : World) : Calls Tryz.prog 85 #[.int .i64 (n : Int)] w fun e w' => e = .returned (.int .i64 ((halfN n : Nat) : Int)) ∧ w' = w := by
  go_enter Tryz.func85, Tryz.ntmps85
  go_wp2_with fail
  go_loopw [3] (fun k wr => ∃ u f : Nat, k = .int .i64 (u : Int) ∧ (1 ≤ u ∧ u ≤ n + 1 ∧ n ≤ u + f ∧ halfF f u n = halfN n) ∧ wr = w) (fun k _ => n - (intOf k).toNat)
  case atStart => exact ⟨1, n, rfl, ⟨Nat.le_refl _, by omega, by omega, rfl⟩, rfl⟩
  case round =>
    obtain ⟨u, f, rfl, ⟨h1, h1', h2, h3⟩, rfl⟩ := hrel
    have H3 := hide h3
    clear h3
    by_cases hlt : u * 2 < n
    · have e1 : decide (2 * (u : Int) < (n : Int)) = true := decide_eq_true (by omega)
      obtain ⟨f', rfl⟩ : ∃ f', f = f' + 1 := ⟨f - 1, by omega⟩
      have H4 := hide (halfF_go (f := f') hlt)
      go_wp2_with fail
      refine ⟨⟨u * 2, f', by go_num, ⟨by omega, by omega, by omega, H4.out.symm.trans H3.out⟩, trivial⟩, ?_⟩
      simp [intOf]; omega
    · have e1 : decide (2 * (u : Int) < (n : Int)) = false := decide_eq_false (by omega)
      have H4 : Hid (halfN n = u) := H3.out.symm.trans (halfF_stop (by omega))
      go_wp2_with fail
      go_ret
      exact ⟨ret_int (by rw [H4.out]), rfl⟩
theorem lenS2 (a b : List UInt8) : lenS [a, b] = a.length + b.length := by simp [lenS]
theorem lenS3 (a b c : List UInt8) : lenS [a, b, c] = a.length + b.length + c.length := by simp [lenS]; omega
set_option maxHeartbeats 400000 in
theorem rnode_any (a b : List UInt8) (ha : a.length ≤ 1000000000) (hb : b.length ≤ 1000000000) (w : World) : Calls Tryz.prog 110 #[.string (bs a), .string (bs b)] w fun e w' => e = .returned (.string (bs (nodeD a b))) ∧ Below w.heap.size w w' := by
  have CL : Calls Tryz.prog 83 #[.slice (some ⟨w.heap.size, 0, none⟩) 3 3] (w.alloc (.cells #[.string ⟨#[110, 111, 100, 101]⟩, .string (bs a), .string (bs b)] 9)) fun e w' => e = .returned (.string (bs (nodeD a b))) ∧ Below (w.alloc (.cells #[.string ⟨#[110, 111, 100, 101]⟩, .string (bs a), .string (bs b)] 9)).heap.size (w.alloc (.cells #[.string ⟨#[110, 111, 100, 101]⟩, .string (bs a), .string (bs b)] 9)) w' :=
    rList_any [nodeT, a, b] (by simp) (by rw [lenS3]; have : nodeT.length = 4 := rfl; omega) (join3 (by decide) (by omega) (by omega)) _ _ (rows_newS w 9 [nodeT, a, b] _ rfl 3 rfl)
  have HB := hide (below_one w (.cells #[.string ⟨#[110, 111, 100, 101]⟩, .string (bs a), .string (bs b)] 9))
  clear ha hb
  go_enter Tryz.func110, Tryz.ntmps110
  go_wp2_with ((with_reducible refine CL.mono ?_); rintro e w' ⟨rfl, hb⟩)
  go_ret
  exact ⟨rfl, below_to HB.out (Nat.le_refl _) (by assumption)⟩
set_option maxHeartbeats 400000 in
theorem rLeaf_any (a : List UInt8) (ha : a.length ≤ 1000000000) (w : World) : Calls Tryz.prog 35 #[.string (bs a)] w fun e w' => e = .returned (.string (bs (leafD a))) ∧ Below w.heap.size w w' := by
  have CL : Calls Tryz.prog 83 #[.slice (some ⟨w.heap.size, 0, none⟩) 2 2] (w.alloc (.cells #[.string ⟨#[108, 101, 97, 102]⟩, .string (bs a)] 9)) fun e w' => e = .returned (.string (bs (leafD a))) ∧ Below (w.alloc (.cells #[.string ⟨#[108, 101, 97, 102]⟩, .string (bs a)] 9)).heap.size (w.alloc (.cells #[.string ⟨#[108, 101, 97, 102]⟩, .string (bs a)] 9)) w' :=
    rList_any [leafT, a] (by simp) (by rw [lenS2]; have : leafT.length = 4 := rfl; omega) (join2 (by decide) (by omega)) _ _ (rows_newS w 9 [leafT, a] _ rfl 2 rfl)
  have HB := hide (below_one w (.cells #[.string ⟨#[108, 101, 97, 102]⟩, .string (bs a)] 9))
  clear ha
  go_enter Tryz.func35, Tryz.ntmps35
  go_wp2_with ((with_reducible refine CL.mono ?_); rintro e w' ⟨rfl, hb⟩)
  go_ret
  exact ⟨rfl, below_to HB.out (Nat.le_refl _) (by assumption)⟩
set_option maxHeartbeats 400000 in
theorem rEmpty_any (w : World) : Calls Tryz.prog 111 #[] w fun e w' => e = .returned (.string (bs (listD [emptyT]))) ∧ Below w.heap.size w w' := by
  have CL : Calls Tryz.prog 83 #[.slice (some ⟨w.heap.size, 0, none⟩) 1 1] (w.alloc (.cells #[.string ⟨#[101, 109, 112, 116, 121]⟩] 9)) fun e w' => e = .returned (.string (bs (listD [emptyT]))) ∧ Below (w.alloc (.cells #[.string ⟨#[101, 109, 112, 116, 121]⟩] 9)).heap.size (w.alloc (.cells #[.string ⟨#[101, 109, 112, 116, 121]⟩] 9)) w' :=
    rList_any [emptyT] (by simp) (by decide) (by decide +kernel) _ _ (rows_newS w 9 [emptyT] _ rfl 1 rfl)
  have HB := hide (below_one w (.cells #[.string ⟨#[101, 109, 112, 116, 121]⟩] 9))
  go_enter Tryz.func111, Tryz.ntmps111
  go_wp2_with fail
  refine CL.mono ?_
  rintro e w2 ⟨rfl, hb⟩
  have HB2 := hide (below_to HB.out (Nat.le_refl _) hb)
  clear hb CL
  go_wp2_with fail
  go_ret
  exact ⟨rfl, HB2.out⟩
def RRootOk (f : Nat) : Prop := ∀ (ls : List (List UInt8)) (v : Value) (w : World), TextsAt w v ls → ls.length ≤ f → ls.length ≤ 140737488355328 → (∀ x ∈ ls, x.length ≤ 1000000000) → Calls Tryz.prog 86 #[v] w fun e w' => e = .returned (.string (bs (totalT ls))) ∧ Below w.heap.size w w'
theorem total_le {ls : List (List UInt8)} (hx : ∀ x ∈ ls, x.length ≤ 1000000000) : (totalT ls).length ≤ 1000000000 := by
  unfold totalT
  split
  · rw [isD_len (listD_isD _)]; decide
  · cases hl : ls.length with
    | zero => simp [sumT]
    | succ f =>
      by_cases h1 : ls.length = 1
      · rw [sumT_one f h1]
        match ls, h1 with
        | [x], _ => exact hx x (by simp)
      · rw [sumT_two f h1]
        unfold nodeD
        rw [isD_len (listD_isD _)]; decide
set_option maxHeartbeats 1000000 in
theorem rroot_nil (v : Value) (w : World) (hv : TextsAt w v []) : Calls Tryz.prog 86 #[v] w fun e w' => e = .returned (.string (bs (totalT []))) ∧ Below w.heap.size w w' := by
  obtain ⟨A, c, rfl, hc⟩ := hv.slice
  have CE := rEmpty_any w
  have HV : Hid (totalT [] = listD [emptyT]) := rfl
  clear hv
  go_enter Tryz.func86, Tryz.ntmps86
  go_wp2_with ((with_reducible refine CE.mono ?_); rintro e w' ⟨rfl, hb⟩)
  go_ret
  exact ⟨by rw [HV.out]; rfl, by assumption⟩
set_option maxRecDepth 100000 in
set_option maxHeartbeats 1000000 in
theorem rroot_step (f : Nat) (ih : RRootOk f) : RRootOk (f + 1) := by
  intro ls v w hv hf hn hx
  obtain ⟨A, c, rfl, hc⟩ := hv.slice
  by_cases hl0 : ls.length = 0
  · obtain rfl : ls = [] := List.eq_nil_of_length_eq_zero hl0
    exact rroot_nil _ w hv
  by_cases hl1 : ls.length = 1
  · obtain ⟨x, rfl⟩ : ∃ x, ls = [x] := by
      match ls, hl1 with
      | [x], _ => exact ⟨x, rfl⟩
    obtain ⟨a, rfl, ha, c0⟩ := hv.at_ (k := 0) (x := x) rfl
    have HV : Hid (totalT [x] = x) := by show _ = _; unfold totalT; rw [if_neg (by simp)]; exact sumT_one 0 rfl
    rw [show a.add 0 = a from rfl] at c0
    clear hv hx ih
    go_enter Tryz.func86, Tryz.ntmps86
    go_wp2_with fail
    go_ret
    exact ⟨by rw [HV.out]; rfl, Below.refl _ _⟩
  · have hh := half_lt (n := ls.length) (by omega)
    have HV := hide (total_two (l := ls) (by omega))
    have CH := fun w => rHalf_any ls.length hn w
    obtain ⟨x0, hx0⟩ : ∃ x, ls[0]? = some x := ⟨_, List.getElem?_eq_getElem (by omega)⟩
    obtain ⟨a, rfl, ha, _⟩ := hv.at_ hx0
    clear hx0
    obtain ⟨U, hU, g, u0, rfl, hgu, hi⟩ := cls w
    have e0 : ((ls.length : Int) == 0) = false := by rw [beq_eq_false_iff_ne]; omega
    have e1 : ((ls.length : Int) == 1) = false := by rw [beq_eq_false_iff_ne]; omega
    generalize hk : halfN ls.length = k at *
    have CS1 := cls_call hgu hi (fun w hw => ih (ls.take k) _ w ((hv.take (k := k) (by omega) c (by omega)).to hw) (by rw [List.length_take]; omega) (by rw [List.length_take]; omega) (fun x h => hx x (List.mem_of_mem_take h)))
    have CS2 := cls_call hgu hi (fun w hw => ih (ls.drop k) _ w ((hv.drop (k := k) (by omega) (c - k) (by omega)).to hw) (by rw [List.length_drop]; omega) (by rw [List.length_drop]; omega) (fun x h => hx x (List.mem_of_mem_drop h)))
    have CN := cls_call hgu hi (fun w hw => rnode_any (totalT (ls.take k)) (totalT (ls.drop k)) (total_le (fun x h => hx x (List.mem_of_mem_take h))) (total_le (fun x h => hx x (List.mem_of_mem_drop h))) w)
    have HGU := hide hgu
    have HHI := hide hi
    have k1 : (k : Int) ≤ (c : Int) := by omega
    have k0 : (0 : Int) ≤ (k : Int) := by omega
    have k2 : (k : Int) ≤ (ls.length : Int) := by omega
    have k3 : ((k : Int) == (c : Int)) = false := by rw [beq_eq_false_iff_ne]; omega
    have k4 : k ≠ c := by omega
    clear hgu hi hx hv ih
    go_enter Tryz.func86, Tryz.ntmps86
    go_wp2_with ((with_reducible refine (CH _).mono ?_); rintro e w' ⟨rfl, rfl⟩)
    refine wp_region_class g (by kernel_rfl) (by kernel_rfl) (HHI.out _ (HGU.out _).drew) ?_
    repeat (go_big_quiet_step (first | with_reducible exact CS1 _ | with_reducible exact CS2 _ | with_reducible exact CN _))
    refine wpQuiet_nil ?_
    intro w5 hw5
    obtain ⟨u, rfl⟩ := hw5
    go_wp2_with fail
    go_ret
    exact ⟨by rw [HV.out]; rfl, HGU.out _⟩
theorem rroot_any : ∀ f, RRootOk f
  | 0 => fun ls v w hv hf hn hx => by
    obtain rfl : ls = [] := List.eq_nil_of_length_eq_zero (by omega)
    exact rroot_nil v w hv
  | f + 1 => rroot_step f (rroot_any f)
set_option maxRecDepth 100000 in
set_option maxHeartbeats 1000000 in
theorem rdigests_any (ls : List (List UInt8)) (hn : ls.length ≤ 140737488355328) (hx : ∀ x ∈ ls, x.length ≤ 140737488355328) (v : Value) (w : World) (hv : TextsAt w v ls) : Calls Tryz.prog 81 #[v] w fun e w' => e = .returned (.bool (properT ls)) ∧ w' = w := by
  obtain ⟨A, c, rfl, hc⟩ := hv.slice
  have HS := hide hv
  have HX := hide hx
  have HV : Hid (properT ls = ls.all isD) := rfl
  clear hv hx
  go_enter Tryz.func81, Tryz.ntmps81
  go_wp2_with fail
  go_loopw [3] (fun i wr => ∃ k : Nat, i = .int .i64 (k : Int) ∧ k ≤ ls.length ∧ Hid (ls.all isD = (ls.drop k).all isD) ∧ wr = w) (fun i _ => ls.length - (intOf i).toNat)
  case atStart => exact ⟨0, rfl, by omega, rfl, rfl⟩
  case round =>
    obtain ⟨k, rfl, hk, HA, rfl⟩ := hrel
    by_cases hlt : k < ls.length
    · have e1 : decide ((k : Int) < (ls.length : Int)) = true := decide_eq_true (by omega)
      obtain ⟨x, hx⟩ : ∃ x, ls[k]? = some x := ⟨_, List.getElem?_eq_getElem hlt⟩
      obtain ⟨a, rfl, ha, c0⟩ := HS.out.at_ hx
      have CI := fun w => rIs_any x (HX.out x (List.mem_of_getElem? hx)) w
      have HD := hide (drop_at' hx)
      clear hx
      cases hd : isD x with
      | true =>
        have HN : Hid (ls.all isD = (ls.drop (k + 1)).all isD) := by show _ = _; rw [HA.out, HD.out, List.all_cons, hd]; rfl
        rw [hd] at CI
        clear hd
        go_wp2_with ((with_reducible refine (CI _).mono ?_); rintro e w' ⟨rfl, rfl⟩)
        refine ⟨⟨k + 1, by go_num, by omega, HN.out, trivial⟩, ?_⟩
        simp [intOf]; omega
      | false =>
        have HN : Hid (properT ls = false) := by show _ = _; rw [HV.out, HA.out, HD.out, List.all_cons, hd]; rfl
        rw [hd] at CI
        clear hd
        go_wp2_with ((with_reducible refine (CI _).mono ?_); rintro e w' ⟨rfl, rfl⟩)
        go_ret
        exact ⟨ret_bool (by rw [HN.out]), rfl⟩
    · obtain rfl : k = ls.length := by omega
      have e1 : decide ((ls.length : Int) < (ls.length : Int)) = false := by simp
      have HN : Hid (properT ls = true) := by show _ = _; rw [HV.out, HA.out, List.drop_length]; rfl
      go_wp2_with fail
      go_ret
      exact ⟨ret_bool (by rw [HN.out]), rfl⟩
end Go.Proofs.YtnjlefggkfagmaaGreatDoor

/- The plain laws of proofs in trees: what is accepted is what is there, or two texts have one digest. -/
set_option linter.unusedVariables false
set_option linter.unusedSimpArgs false
namespace Go.Proofs.YtnjlefggkfagmaaGreatDoor
open Go

/-! joined texts -/
theorem dig_or (u : Nat) : ∀ c ∈ Lib.decDigits u, c ≠ 58 := by
  induction u using Nat.strongRecOn with
  | ind u ih =>
    intro c hc
    rw [Lib.decDigits] at hc
    split at hc
    · rename_i h
      simp only [List.mem_cons, List.not_mem_nil, or_false] at hc
      subst hc
      intro e
      have := congrArg UInt8.toNat e
      simp at this; omega
    · rename_i h
      rcases List.mem_append.1 hc with hc | hc
      · exact ih (u / 10) (by omega) c hc
      · simp only [List.mem_cons, List.not_mem_nil, or_false] at hc
        subst hc
        intro e
        have := congrArg UInt8.toNat e
        simp at this; omega
theorem dec_inj : ∀ {u v : Nat}, Lib.decDigits u = Lib.decDigits v → u = v := by
  have val : ∀ u : Nat, (Lib.decDigits u).foldl (fun a c => a * 10 + (c.toNat - 48)) 0 = u := by
    intro u
    induction u using Nat.strongRecOn with
    | ind u ih =>
      rw [Lib.decDigits]
      split
      · rename_i h
        simp; omega
      · rename_i h
        rw [List.foldl_append, ih (u / 10) (by omega)]
        simp; omega
  intro u v h
  rw [← val u, h, val v]
theorem span_inj {b : UInt8} : ∀ {l m : List UInt8} {r s : List UInt8}, b ∉ l → b ∉ m → l ++ b :: r = m ++ b :: s → l = m ∧ r = s
  | [], [], r, s, _, _, h => by simpa using h
  | [], c :: m, r, s, _, h2, h => by simp at h; simp [h.1] at h2
  | c :: l, [], r, s, h1, _, h => by simp at h; simp [← h.1] at h1
  | c :: l, d :: m, r, s, h1, h2, h => by
    simp only [List.cons_append, List.cons.injEq] at h
    simp only [List.mem_cons, not_or] at h1 h2
    obtain ⟨e1, e2⟩ := span_inj h1.2 h2.2 h.2
    exact ⟨by rw [h.1, e1], e2⟩
theorem joinD_cons (s : List UInt8) (ls : List (List UInt8)) : joinD (s :: ls) = Lib.itoa s.length ++ 58 :: (s ++ joinD ls) := by simp [joinD]
theorem joinD_inj : ∀ {a b : List (List UInt8)}, joinD a = joinD b → a = b
  | [], [], _ => rfl
  | [], y :: b, h => by rw [joinD_cons] at h; simp [joinD] at h
  | x :: a, [], h => by rw [joinD_cons] at h; simp [joinD] at h
  | x :: a, y :: b, h => by
    rw [joinD_cons, joinD_cons] at h
    have hi : ∀ n : Nat, Lib.itoa (n : Int) = Lib.decDigits n := fun n => by unfold Lib.itoa; rw [if_neg (by omega)]; rfl
    rw [hi, hi] at h
    obtain ⟨e1, e2⟩ := span_inj (fun hm => dig_or _ _ hm rfl) (fun hm => dig_or _ _ hm rfl) h
    have e3 := dec_inj e1
    obtain ⟨e4, e5⟩ := List.append_inj e2 e3
    rw [e4, joinD_inj e5]
/-- two different texts with one digest: one of each list -/
def Coll (a b : List (List UInt8)) : Prop := ∃ s ∈ a, ∃ t ∈ b, s ≠ t ∧ sumD s = sumD t
theorem Coll.mono {a b a' b' : List (List UInt8)} (h : Coll a b) (ha : ∀ s ∈ a, s ∈ a') (hb : ∀ s ∈ b, s ∈ b') : Coll a' b' := by
  obtain ⟨s, h1, t, h2, h3⟩ := h
  exact ⟨s, ha s h1, t, hb t h2, h3⟩
theorem list_sound {x y : List (List UInt8)} (h : listD x = listD y) : x = y ∨ (joinD x ≠ joinD y ∧ sumD (joinD x) = sumD (joinD y)) := by
  by_cases he : joinD x = joinD y
  · exact .inl (joinD_inj he)
  · exact .inr ⟨he, h⟩
theorem node_sound {a b c d : List UInt8} (h : nodeD a b = nodeD c d) : (a = c ∧ b = d) ∨ Coll [joinD [nodeT, a, b]] [joinD [nodeT, c, d]] := by
  rcases list_sound h with h | h
  · simp only [List.cons.injEq, and_true, true_and] at h; exact .inl h
  · exact .inr ⟨_, List.mem_singleton.2 rfl, _, List.mem_singleton.2 rfl, h⟩
theorem leafD_sound {a b : List UInt8} (h : leafD a = leafD b) : a = b ∨ Coll [joinD [leafT, a]] [joinD [leafT, b]] := by
  rcases list_sound h with h | h
  · simp only [List.cons.injEq, and_true, true_and] at h; exact .inl h
  · exact .inr ⟨_, List.mem_singleton.2 rfl, _, List.mem_singleton.2 rfl, h⟩
/-! what is digested for a root -/
def textsF : Nat → List (List UInt8) → List (List UInt8)
  | 0, _ => []
  | f + 1, l => if l.length = 0 then [joinD [emptyT]] else if l.length = 1 then [] else textsF f (l.take (halfN l.length)) ++ textsF f (l.drop (halfN l.length)) ++ [joinD [nodeT, totalT (l.take (halfN l.length)), totalT (l.drop (halfN l.length))]]
theorem textsF_two {f : Nat} {l : List (List UInt8)} (h : 2 ≤ l.length) : textsF (f + 1) l = textsF f (l.take (halfN l.length)) ++ textsF f (l.drop (halfN l.length)) ++ [joinD [nodeT, totalT (l.take (halfN l.length)), totalT (l.drop (halfN l.length))]] := by
  conv => lhs; unfold textsF
  rw [if_neg (by omega), if_neg (by omega)]
theorem textsF_one {f : Nat} {l : List (List UInt8)} (h : l.length = 1) : textsF (f + 1) l = [] := by unfold textsF; rw [if_neg (by omega), if_pos h]
theorem textsF_more : ∀ (f g : Nat) (l : List (List UInt8)), l.length < f → l.length < g → textsF f l = textsF g l := by
  intro f
  induction f with
  | zero => intro g l h1 h2; omega
  | succ f ih =>
    intro g l h1 h2
    obtain ⟨g', rfl⟩ : ∃ g', g = g' + 1 := ⟨g - 1, by omega⟩
    rcases Nat.lt_or_ge 1 l.length with h | h
    · obtain ⟨a, b⟩ := half_lt (n := l.length) h
      rw [textsF_two h, textsF_two h]
      generalize halfN l.length = k at *
      rw [ih g' (l.take k) (by rw [List.length_take]; omega) (by rw [List.length_take]; omega), ih g' (l.drop k) (by rw [List.length_drop]; omega) (by rw [List.length_drop]; omega)]
    · rcases Nat.eq_zero_or_pos l.length with h0 | h0
      · unfold textsF; rw [if_pos h0, if_pos h0]
      · rw [textsF_one (by omega), textsF_one (by omega)]
def textsV (l : List (List UInt8)) : List (List UInt8) := textsF (l.length + 1) l
theorem texts_two {l : List (List UInt8)} (h : 2 ≤ l.length) : textsV l = textsV (l.take (halfN l.length)) ++ textsV (l.drop (halfN l.length)) ++ [joinD [nodeT, totalT (l.take (halfN l.length)), totalT (l.drop (halfN l.length))]] := by
  obtain ⟨a, b⟩ := half_lt (n := l.length) h
  unfold textsV
  rw [textsF_two h]
  generalize halfN l.length = k at *
  rw [textsF_more l.length ((l.take k).length + 1) (l.take k) (by rw [List.length_take]; omega) (by omega), textsF_more l.length ((l.drop k).length + 1) (l.drop k) (by rw [List.length_drop]; omega) (by omega)]
theorem total_one (x : List UInt8) : totalT [x] = x := by unfold totalT; rw [if_neg (by simp)]; rfl
/-! paths -/
theorem upG_fst (leaf : List UInt8) : ∀ (f n i : Nat) (st : List (List UInt8)) (a b : Bool), (upG leaf f n i st a).1 = (upG leaf f n i st b).1
  | 0, _, _, _, _, _ => rfl
  | f + 1, n, i, st, a, b => by
    unfold upG
    split
    · rfl
    · split
      · simp only; rw [upG_fst leaf f (halfN n) i st.tail (nextS st a) (nextS st b)]
      · simp only; rw [upG_fst leaf f (n - halfN n) (i - halfN n) st.tail (nextS st a) (nextS st b)]
/-- what is digested for a path -/
def ptxF (leaf : List UInt8) : Nat → Nat → Nat → List (List UInt8) → List (List UInt8)
  | 0, _, _, _ => []
  | f + 1, n, i, st => if n = 1 then [] else
    if i < halfN n then ptxF leaf f (halfN n) i st.tail ++ [joinD [nodeT, (upG leaf f (halfN n) i st.tail false).1, st.headD []]]
    else ptxF leaf f (n - halfN n) (i - halfN n) st.tail ++ [joinD [nodeT, st.headD [], (upG leaf f (n - halfN n) (i - halfN n) st.tail false).1]]
theorem up_sound (leaf : List UInt8) : ∀ (f n i : Nat) (st : List (List UInt8)) (sh : Bool) (ls : List (List UInt8)), ls.length = n → n ≤ f → i < n → (upG leaf f n i st sh).1 = totalT ls → ls[i]? = some leaf ∨ Coll (textsV ls) (ptxF leaf f n i st) := by
  intro f
  induction f with
  | zero => intro n i st sh ls h1 h2 h3; omega
  | succ f ih =>
    intro n i st sh ls h1 h2 h3 h
    by_cases hn : n = 1
    · subst hn
      obtain rfl : i = 0 := by omega
      rw [upG_one] at h
      match ls, h1 with
      | [x], _ => left; rw [total_one] at h; simp [show leaf = x from h]
    · obtain ⟨a, b⟩ := half_lt (n := n) (by omega)
      have t1 := texts_two (l := ls) (by omega)
      have tt := total_two (l := ls) (by omega)
      rw [h1] at t1 tt
      rw [tt] at h
      by_cases hi : i < halfN n
      · rw [upG_lt leaf hn hi] at h
        simp only at h
        have hp : ptxF leaf (f + 1) n i st = ptxF leaf f (halfN n) i st.tail ++ [joinD [nodeT, (upG leaf f (halfN n) i st.tail false).1, st.headD []]] := by
          conv => lhs; unfold ptxF
          rw [if_neg hn, if_pos hi]
        rw [upG_fst leaf f (halfN n) i st.tail _ false] at h
        rw [hp, t1]
        generalize halfN n = k at *
        rcases node_sound h with ⟨e1, e2⟩ | hc
        · rcases ih k i st.tail false (ls.take k) (by rw [List.length_take]; omega) (by omega) hi e1 with e3 | hc
          · left; rw [List.getElem?_take_of_lt hi] at e3; exact e3
          · right; exact hc.mono (fun s hs => by simp [hs]) (fun s hs => by simp [hs])
        · right
          obtain ⟨s, h1, t, h2, h3, h4⟩ := hc
          exact ⟨t, by simp only [List.mem_append]; exact .inr h2, s, by simp only [List.mem_append]; exact .inr h1, fun e => h3 e.symm, h4.symm⟩
      · rw [upG_ge leaf hn hi] at h
        simp only at h
        have hp : ptxF leaf (f + 1) n i st = ptxF leaf f (n - halfN n) (i - halfN n) st.tail ++ [joinD [nodeT, st.headD [], (upG leaf f (n - halfN n) (i - halfN n) st.tail false).1]] := by
          conv => lhs; unfold ptxF
          rw [if_neg hn, if_neg hi]
        rw [upG_fst leaf f (n - halfN n) (i - halfN n) st.tail _ false] at h
        rw [hp, t1]
        generalize halfN n = k at *
        rcases node_sound h with ⟨e1, e2⟩ | hc
        · rcases ih (n - k) (i - k) st.tail false (ls.drop k) (by rw [List.length_drop]; omega) (by omega) (by omega) e2 with e3 | hc
          · left; rw [List.getElem?_drop, show k + (i - k) = i by omega] at e3; exact e3
          · right; exact hc.mono (fun s hs => by simp [hs]) (fun s hs => by simp [hs])
        · right
          obtain ⟨s, h1, t, h2, h3, h4⟩ := hc
          exact ⟨t, by simp only [List.mem_append]; exact .inr h2, s, by simp only [List.mem_append]; exact .inr h1, fun e => h3 e.symm, h4.symm⟩
/-! half of a part -/
/-! links -/
/-- what a link's digests make: the root of the first m, that of all, what is left, whether one was missing -/
def bothG (old : List UInt8) : Nat → Nat → Nat → Bool → List (List UInt8) → Bool → (List UInt8 × List UInt8) × List (List UInt8) × Bool
  | 0, _, _, _, st, sh => ((old, old), st, sh)
  | f + 1, n, m, wh, st, sh => if m = n then (if wh then ((old, old), st, sh) else ((st.headD [], st.headD []), st.tail, nextS st sh)) else
    if m ≤ halfN n then (((bothG old f (halfN n) m wh st.tail (nextS st sh)).1.1, nodeD (bothG old f (halfN n) m wh st.tail (nextS st sh)).1.2 (st.headD [])), (bothG old f (halfN n) m wh st.tail (nextS st sh)).2)
    else ((nodeD (st.headD []) (bothG old f (n - halfN n) (m - halfN n) false st.tail (nextS st sh)).1.1, nodeD (st.headD []) (bothG old f (n - halfN n) (m - halfN n) false st.tail (nextS st sh)).1.2), (bothG old f (n - halfN n) (m - halfN n) false st.tail (nextS st sh)).2)
/-- what is digested for a link -/
def ltxF (old : List UInt8) : Nat → Nat → Nat → Bool → List (List UInt8) → List (List UInt8)
  | 0, _, _, _, _ => []
  | f + 1, n, m, wh, st => if m = n then [] else
    if m ≤ halfN n then ltxF old f (halfN n) m wh st.tail ++ [joinD [nodeT, (bothG old f (halfN n) m wh st.tail false).1.2, st.headD []]]
    else ltxF old f (n - halfN n) (m - halfN n) false st.tail ++ [joinD [nodeT, st.headD [], (bothG old f (n - halfN n) (m - halfN n) false st.tail false).1.1]] ++ [joinD [nodeT, st.headD [], (bothG old f (n - halfN n) (m - halfN n) false st.tail false).1.2]]
end Go.Proofs.YtnjlefggkfagmaaGreatDoor
