/- Walk of the law VeilForged, case C1. -/
import Derived.Test.YtdgbnplieaaokaaDoorV8
import Derived.Test.YtdgbnplieaaokaaDoorLC
import Derived.Test.YtdgbnplieaaokaaDoorL4
import Derived.Deep.RegionWith
import Derived.Deep.DrawnRows
import Derived.Test.YtdgbnplieaaokaaDoorLoose
set_option linter.unusedVariables false
set_option linter.unusedSimpArgs false
namespace Go.Proofs.YtdgbnplieaaokaaDoor
open Go.RowKit

set_option maxRecDepth 100000 in
set_option maxHeartbeats 8000000 in
theorem forged_C1 (key salt : List UInt8) (x y u v : Int) (mark : List UInt8) (hk : key.length ≤ 140737488351232) (hs : salt.length ≤ 140737488351232) (hm : mark.length ≤ 140737488351232) (w : World) (hg : Glob w) (hsh : shortP [key, salt, mark] = true) (hc1 : canL salt x y = true) (hc2 : canL salt u v = true) (hb : (mark == (lockP key salt x y).drop 26) = true) (he : openE key ((lockP key salt u v).take 26 ++ (lockP key salt x y).drop 26) = 0) (hx : openX key ((lockP key salt u v).take 26 ++ (lockP key salt x y).drop 26) = u) (hy : openY key ((lockP key salt u v).take 26 ++ (lockP key salt x y).drop 26) = v) (hpq : ¬ (x = u ∧ y = v)) (hl : listD [markT, key, salt, hidP key salt x y] = listD [markT, key, salt, hidP key salt u v]) :
    Calls Tryd.prog 5 #[.string (bs key), .string (bs salt), pval x y, pval u v, .string (bs mark)] w fun e w' => e = .returned (.bool true) ∧ Below w.heap.size w w' := by
  have HK := hide hk
  have HM := hide hm
  have HS := hide hs
  clear hk hs hm
  have Khsh := hide hsh
  have Khc1 := hide hc1
  have Khc2 := hide hc2
  have Khb := hide hb
  have Khe := hide he
  have Khx := hide hx
  have Khy := hide hy
  have Khpq := hide hpq
  have Khl := hide hl
  clear hsh hc1 hc2 hb he hx hy hpq hl
  have HB := hide (below_two w (.cells #[.int .i64 x, .int .i64 y] 23) (.cells #[.int .i64 u, .int .i64 v] 23))
  have HG := hide ((hg.alloc (.cells #[.int .i64 x, .int .i64 y] 23)).alloc (.cells #[.int .i64 u, .int .i64 v] 23))
  have Hp := hide ((Blk.new w 23 #[.int .i64 x, .int .i64 y]).alloc (.cells #[.int .i64 u, .int .i64 v] 23))
  have Hq : Hid (Blk ((w.alloc (.cells #[.int .i64 x, .int .i64 y] 23)).alloc (.cells #[.int .i64 u, .int .i64 v] 23)) (w.heap.size + 1) 23 #[.int .i64 u, .int .i64 v]) := by have := Blk.new (w.alloc (.cells #[.int .i64 x, .int .i64 y] 23)) 23 #[.int .i64 u, .int .i64 v]; show Blk _ _ _ _; simpa using this
  clear hg
  go_enter Tryd.func5, Tryd.ntmps5
  unfold pval
  go_wp2_with fail
  generalize (w.alloc (.cells #[.int .i64 x, .int .i64 y] 23)).alloc (.cells #[.int .i64 u, .int .i64 v] 23) = w1 at *
  obtain ⟨Bq, HBq⟩ : ∃ A, Hid (w.heap.size + 1 = A) := ⟨_, rfl⟩
  rw [HBq.out] at Hq ⊢
  obtain ⟨Bp, HBp⟩ : ∃ A, Hid (w.heap.size = A) := ⟨_, rfl⟩
  rw [HBp.out] at Hp ⊢
  refine (head_any _ HG.out).mono ?_
  rintro e w2 ⟨rfl, hb⟩
  have HB2 := hide (below_to HB.out (Nat.le_refl _) hb)
  have HG2 := hide (HG.out.to hb)
  have Hp2 := hide (Hp.out.to hb)
  have Hq2 := hide (Hq.out.to hb)
  clear hb HB HG Hp Hq
  go_wp2_with fail
  have HS3 : Hid (Blk (w2.alloc (.cells #[.string (bs key), .string (bs salt), .string (bs mark)] 9)) w2.heap.size 9 (strC [key, salt, mark])) := Blk.new w2 _ _
  have HB3 := hide (below_alloc HB2.out (Nat.le_refl _) (.cells #[.string (bs key), .string (bs salt), .string (bs mark)] 9))
  have HG3 := hide (HG2.out.alloc (.cells #[.string (bs key), .string (bs salt), .string (bs mark)] 9))
  have Hp3 := hide (Hp2.out.alloc (.cells #[.string (bs key), .string (bs salt), .string (bs mark)] 9))
  have Hq3 := hide (Hq2.out.alloc (.cells #[.string (bs key), .string (bs salt), .string (bs mark)] 9))
  clear HB2 HG2 Hp2 Hq2
  generalize w2.alloc (.cells #[.string (bs key), .string (bs salt), .string (bs mark)] 9) = w3 at *
  generalize w2.heap.size = A at *
  refine (short_any [key, salt, mark] _ _ _ HS3.out (by simp) (fun l hl => by
    simp only [List.mem_cons, List.not_mem_nil, or_false] at hl
    have h1 := HK.out; have h2 := HM.out; have h3 := HS.out
    rcases hl with rfl | rfl | rfl <;> omega)).mono ?_
  rintro e w5 ⟨rfl, rfl⟩
  have hsh := Khsh.out
  clear Khsh
  rw [hsh]
  obtain ⟨n1, n2, n3⟩ := short3 hsh
  have HN1 := hide n1
  have HN2 := hide n2
  have HN3 := hide n3
  clear hsh HS3 n1 n2 n3
  obtain ⟨U, hU, g, u0, rfl, hgu, hi⟩ := cls w3
  have p0 := blk_all hgu Hp3.out 0 rfl
  have p1 := blk_all hgu Hp3.out 1 rfl
  have q0 := blk_all hgu Hq3.out 0 rfl
  have q1 := blk_all hgu Hq3.out 1 rfl
  have C1 := cls_call hgu hi (fun w hb => Lock_any key salt x y HK.out HS.out w (HG3.out.to hb))
  have C2 := cls_call hgu hi (fun w hb => Lock_any key salt u v HK.out HS.out w (HG3.out.to hb))
  unfold pval at C1 C2
  have hc1 := Khc1.out
  have hc2 := Khc2.out
  clear Khc1 Khc2
  rw [lockE_can hc1] at C1
  rw [lockE_can hc2] at C2
  have s1 : (bs (lockP key salt x y)).size = 42 := by rw [bs_size, lock_len hc1]
  have s2 : (bs (lockP key salt u v)).size = 42 := by rw [bs_size, lock_len hc2]
  have e1 : (bs (lockP key salt x y)).extract 0 26 = bs ((lockP key salt x y).take 26) := by rw [bs_cut]; rfl
  have e2 : (bs (lockP key salt u v)).extract 0 26 = bs ((lockP key salt u v).take 26) := by rw [bs_cut]; rfl
  have e3 : (bs (lockP key salt x y)).extract 26 42 = bs ((lockP key salt x y).drop 26) := by have := bs_drop (lockP key salt x y) 26; rwa [lock_len hc1] at this
  have e4 : (bs (lockP key salt x y)).extract 16 26 = bs (hidP key salt x y) := by rw [bs_cut]; exact congrArg bs (lock_parts hc1).2.1
  have e5 : (bs (lockP key salt u v)).extract 16 26 = bs (hidP key salt u v) := by rw [bs_cut]; exact congrArg bs (lock_parts hc2).2.1
  have hb := Khb.out
  clear Khb
  have hE1 := forge_one (key := key) hc1 mark
  have h16 : salt.length = 16 := ((isD_iff _).1 (by unfold canL at hc1; simp only [Bool.and_eq_true] at hc1; exact hc1.1)).1
  have HJ1 := hide (mark_len HK.out h16 (hidP_spec key salt (show onP x y = true by unfold canL at hc1; simp only [Bool.and_eq_true] at hc1; exact hc1.2)).1)
  have HJ2 := hide (mark_len HK.out h16 (hidP_spec key salt (show onP u v = true by unfold canL at hc2; simp only [Bool.and_eq_true] at hc2; exact hc2.2)).1)
  have CO1 := cls_call hgu hi (fun w hb => Open_any key ((lockP key salt x y).take 26 ++ mark) HK.out (by have := HN3.out; simp; omega) w (HG3.out.to hb))
  have CO2 : ∀ w' : World, Glob w' → Calls Tryd.prog 11 _ w' _ := fun w' h' => Open_any key ((lockP key salt u v).take 26 ++ (lockP key salt x y).drop 26) HK.out (by have := lock_len (key := key) hc1; have := lock_len (key := key) hc2; simp; omega) w' h'
  rw [← bs_app] at CO1
  simp only [← bs_app] at CO2
  unfold pval at CO1 CO2
  have hz1 : ¬ 9223372036854775807 < (bs ((lockP key salt x y).take 26)).size + (bs mark).size := by
    rw [bs_size, bs_size, List.length_take, lock_len hc1]; have := HN3.out; omega
  have hz2 : ¬ 9223372036854775807 < (bs ((lockP key salt u v).take 26)).size + (bs ((lockP key salt x y).drop 26)).size := by
    rw [bs_size, bs_size, List.length_take, List.length_drop, lock_len hc1, lock_len hc2]; omega
  clear HN1 HN2 HN3 h16
  rw [hb] at hE1
  have hE1 := beq_iff_eq.1 hE1
  clear hc1 hc2
  have hmk : ((bs mark).toList == (bs ((lockP key salt x y).drop 26)).toList) = true := by rw [bs_toList, bs_toList]; exact hb
  clear hb
  generalize openE key ((lockP key salt u v).take 26 ++ (lockP key salt x y).drop 26) = E2 at *
  generalize openX key ((lockP key salt u v).take 26 ++ (lockP key salt x y).drop 26) = X2 at *
  generalize openY key ((lockP key salt u v).take 26 ++ (lockP key salt x y).drop 26) = Y2 at *
  generalize openE key ((lockP key salt x y).take 26 ++ mark) = E1 at *
  generalize openX key ((lockP key salt x y).take 26 ++ mark) = X1 at *
  generalize openY key ((lockP key salt x y).take 26 ++ mark) = Y1 at *
  generalize bs ((lockP key salt x y).take 26) = T1 at *
  generalize bs ((lockP key salt u v).take 26) = T2 at *
  generalize bs ((lockP key salt x y).drop 26) = M1 at *
  generalize bs (lockP key salt x y) = S1 at *
  generalize bs (lockP key salt u v) = S2 at *
  generalize hidP key salt x y = h1 at *
  generalize hidP key salt u v = h2 at *
  go_wp2_with (first | ((with_reducible refine (C1 _).mono ?_); rintro e w' ⟨rfl, uz, rfl⟩) | ((with_reducible refine (C2 _).mono ?_); rintro e w' ⟨rfl, uz, rfl⟩) | ((with_reducible refine (CO1 _).mono ?_); rintro e w' ⟨rfl, uz, rfl⟩))
  have HB5 := hide (below_alloc (below_to HB3.out (Nat.le_refl _) (hgu uz)) (Nat.le_refl _) (.cells #[.int .i64 X1, .int .i64 Y1] 23))
  have HG5 := hide ((HG3.out.to (hgu uz)).alloc (.cells #[.int .i64 X1, .int .i64 Y1] 23))
  have Hp5 := hide ((Hp3.out.to (hgu uz)).alloc (.cells #[.int .i64 X1, .int .i64 Y1] 23))
  have Hq5 := hide ((Hq3.out.to (hgu uz)).alloc (.cells #[.int .i64 X1, .int .i64 Y1] 23))
  clear HB3 HG3 Hp3 Hq3 p0 p1 q0 q1 C1 C2 CO1 hz1 e1 HM HS
  generalize (g uz).alloc (.cells #[.int .i64 X1, .int .i64 Y1] 23) = w5 at *
  generalize (g uz).heap.size = A5 at *
  clear hgu hi
  have he := Khe.out
  have hx := Khx.out
  have hy := Khy.out
  have hpq := Khpq.out
  have hl := Khl.out
  clear Khe Khx Khy Khpq Khl
  have hr := pt_eql u v
  have hq := pt_eql_dec x y u v
  have hq2 := pt_neq_dec x y u v
  rw [decide_eq_false hpq] at hq hq2
  have L1 : ∀ (b : Nat) (w' : World), Blk w' b 9 #[.string ⟨#[109, 97, 114, 107]⟩, .string (bs key), .string (bs salt), .string (bs h1)] → Glob w' → Calls Tryd.prog 15 #[.slice (some ⟨b, 0, none⟩) 4 4] w' fun e w'' => e = .returned (.string (bs (listD [markT, key, salt, h1]))) ∧ Below w'.heap.size w' w'' := fun b w' h h' => List_any [markT, key, salt, h1] b _ w' h (by simp) HJ1.out h'
  have L2 : ∀ (b : Nat) (w' : World), Blk w' b 9 #[.string ⟨#[109, 97, 114, 107]⟩, .string (bs key), .string (bs salt), .string (bs h2)] → Glob w' → Calls Tryd.prog 15 #[.slice (some ⟨b, 0, none⟩) 4 4] w' fun e w'' => e = .returned (.string (bs (listD [markT, key, salt, h2]))) ∧ Below w'.heap.size w' w'' := fun b w' h h' => List_any [markT, key, salt, h2] b _ w' h (by simp) HJ2.out h'
  clear HJ1 HJ2 hpq
  have hx' := hx.symm
  have hy' := hy.symm
  subst he hx' hy'
  clear hx hy
  subst hE1
  obtain ⟨U5, hU5, g, u0, rfl, hgu, hi⟩ := cls w5
  have CO3 : ∀ w' : World, Below (g u0).heap.size (g u0) w' → _ := fun w' h' => CO2 w' (HG5.out.to h')
  apply wp_region_looseG g (V := [some _, some _, some _, some _, some _, some _, some _, some _, some _, some _, none, none, some _]) (Fs := [(10, Box2 (g u0).heap.size 23 18), (11, BoxIs (g u0).heap.size 23 18 #[.int .i64 u, .int .i64 v])]) (Rel := fun i w w' => if i = 11 then BoxRel (g u0).heap.size 23 w w' else Below w.heap.size w w')
  case hm => kernel_rfl
  case hB => kernel_rfl
  case hCw => exact hi _ (Below.refl _ _).drew
  case hC =>
    rintro i uq w' hr
    by_cases hi11 : i = 11
    · exact hi _ ((hgu uq).trans (by simpa [hi11] using hr : BoxRel (g u0).heap.size 23 _ _).1)
    exact hi _ (below_to (hgu uq) (Nat.le_refl _) (by simpa [hi11] using hr))
  case hst =>
    refine keeps_cons (fun i a a' w w' hne hs hr h => h.keep (hs 18 (by kernel_rfl)) (by by_cases e11 : i = 11; (left; simpa [e11] using hr); right; simpa [e11] using hr)) ?_
    refine keeps_cons (fun i a a' w w' hne hs hr h => h.keep (hs 18 (by kernel_rfl)) (by simpa [hne] using hr)) ?_
    exact keeps_nil
  case hop =>
    refine ⟨?_, ?_, ?_, ?_, ?_, ?_, ?_, ?_, ?_, ?_, ?_, ?_, ?_, trivial⟩
    · intro a uq K hS hd hK
      have s0 := hS.at 0 (by kernel_rfl) rfl
      rw [if_pos (want_free rfl)]
      go_simp
      exact hK _ _ (Below.refl _ _) (vok rfl) (facts_cons (fun h => absurd h (by decide)) (facts_cons (fun h => absurd h (by decide)) facts_nil))
    · intro a uq K hS hd hK
      have s14 := hS.at 14 (by kernel_rfl) rfl
      rw [if_pos (want_free rfl)]
      go_simp
      exact hK _ _ (Below.refl _ _) (vok rfl) (facts_cons (fun h => absurd h (by decide)) (facts_cons (fun h => absurd h (by decide)) facts_nil))
    · intro a uq K hS hd hK
      have s68 := (waits_on hd 1 (by kernel_rfl)).at (d := 68) rfl rfl rfl
      rw [if_pos (want_free rfl)]
      go_simp
      exact hK _ _ (Below.refl _ _) (vok rfl) (facts_cons (fun h => absurd h (by decide)) (facts_cons (fun h => absurd h (by decide)) facts_nil))
    · intro a uq K hS hd hK
      have s12 := hS.at 12 (by kernel_rfl) rfl
      rw [if_pos (want_free rfl)]
      go_simp
      exact hK _ _ (Below.refl _ _) (vok rfl) (facts_cons (fun h => absurd h (by decide)) (facts_cons (fun h => absurd h (by decide)) facts_nil))
    · intro a uq K hS hd hK
      have s70 := (waits_on hd 3 (by kernel_rfl)).at (d := 70) rfl rfl rfl
      rw [if_pos (want_free rfl)]
      go_simp
      exact hK _ _ (Below.refl _ _) (vok rfl) (facts_cons (fun h => absurd h (by decide)) (facts_cons (fun h => absurd h (by decide)) facts_nil))
    · intro a uq K hS hd hK
      have s69 := (waits_on hd 2 (by kernel_rfl)).at (d := 69) rfl rfl rfl
      have s71 := (waits_on hd 4 (by kernel_rfl)).at (d := 71) rfl rfl rfl
      rw [if_pos (want_free rfl)]
      go_simp
      exact hK _ _ (Below.refl _ _) (vok rfl) (facts_cons (fun h => absurd h (by decide)) (facts_cons (fun h => absurd h (by decide)) facts_nil))
    · intro a uq K hS hd hK
      have s67 := (waits_on hd 0 (by kernel_rfl)).at (d := 67) rfl rfl rfl
      have s72 := (waits_on hd 5 (by kernel_rfl)).at (d := 72) rfl rfl rfl
      rw [if_pos (want_free rfl)]
      go_simp
      refine (CO3 _ (hgu uq)).mono ?_
      rintro e w' ⟨rfl, hb⟩
      exact hK _ _ hb (vok rfl) (facts_cons (fun h => absurd h (by decide)) (facts_cons (fun h => absurd h (by decide)) facts_nil))
    · intro a uq K hS hd hK
      have s73 := (waits_on hd 6 (by kernel_rfl)).at (d := 73) rfl rfl rfl
      rw [if_pos (want_free rfl)]
      go_simp
      exact hK _ _ (Below.refl _ _) (vok rfl) (facts_cons (fun h => absurd h (by decide)) (facts_cons (fun h => absurd h (by decide)) facts_nil))
    · intro a uq K hS hd hK
      have s66 := (waits_on hd 7 (by kernel_rfl)).at (d := 66) rfl rfl rfl
      rw [if_pos (want_free rfl)]
      go_simp
      exact hK _ _ (Below.refl _ _) (vok rfl) (facts_cons (fun h => absurd h (by decide)) (facts_cons (fun h => absurd h (by decide)) facts_nil))
    · intro a uq K hS hd hK
      have s66 := (waits_on hd 7 (by kernel_rfl)).at (d := 66) rfl rfl rfl
      rw [if_pos (want_free rfl)]
      go_simp
      exact hK _ _ (Below.refl _ _) (vok rfl) (facts_cons (fun h => absurd h (by decide)) (facts_cons (fun h => absurd h (by decide)) facts_nil))
    · intro a uq K hS hd hK
      rw [if_pos (want_free rfl)]
      go_simp
      exact hK _ _ (below_one _ _) (vfree rfl) (facts_cons (fun _ => ⟨_, _, _, hS.put_at (by kernel_rfl) _, Nat.le_trans (Below.size (hgu uq)) (Nat.le_refl _), Blk.new _ _ _⟩) (facts_cons (fun h => absurd h (by decide)) facts_nil))
    · intro a uq K hS hd hK
      obtain ⟨b18, x18, y18, s18, l18, r18⟩ := (waits_on hd 10 (by kernel_rfl)).2 _ (List.mem_cons_self ..) rfl
      have s74 := (waits_on hd 8 (by kernel_rfl)).at (d := 74) rfl rfl rfl
      rw [if_pos (want_free rfl)]
      have c0 := r18.cell 0
      have c1 := r18.cell 1
      have f0 := r18.frozen 0
      have f1 := r18.frozen 1
      go_simp
      exact hK undef _ (((BoxRel.refl _ _ _).set_ r18 l18 0 _).set_ (r18.set_ 0 _) l18 1 _) (vfree rfl) (facts_cons (fun h => absurd h (by decide)) (facts_cons (fun _ => ⟨b18, s18, l18, (r18.set_ 0 (.int .i64 u)).set_ 1 (.int .i64 v)⟩) facts_nil))
    · intro a uq K hS hd hK
      have s75 := (waits_on hd 9 (by kernel_rfl)).at (d := 75) rfl rfl rfl
      rw [if_pos (want_free rfl)]
      go_simp
      exact hK _ _ (Below.refl _ _) (vok rfl) (facts_cons (fun h => absurd h (by decide)) (facts_cons (fun h => absurd h (by decide)) facts_nil))
  case hfin =>
    intro a uq hS hk
    have s67 := (hk 0 (by decide)).at (d := 67) rfl rfl rfl
    have s68 := (hk 1 (by decide)).at (d := 68) rfl rfl rfl
    have s69 := (hk 2 (by decide)).at (d := 69) rfl rfl rfl
    have s70 := (hk 3 (by decide)).at (d := 70) rfl rfl rfl
    have s71 := (hk 4 (by decide)).at (d := 71) rfl rfl rfl
    have s72 := (hk 5 (by decide)).at (d := 72) rfl rfl rfl
    have s73 := (hk 6 (by decide)).at (d := 73) rfl rfl rfl
    have s66 := (hk 7 (by decide)).at (d := 66) rfl rfl rfl
    have s74 := (hk 8 (by decide)).at (d := 74) rfl rfl rfl
    have s75 := (hk 9 (by decide)).at (d := 75) rfl rfl rfl
    obtain ⟨b18, s18, l18, r18⟩ := (hk 11 (by decide)).2 _ (List.mem_cons_of_mem _ (List.mem_cons_self ..)) rfl
    have s19 := (hk 12 (by decide)).at (d := 19) rfl rfl rfl
    have hlit := hS.lit _ (by kernel_rfl) (lits_cons s67 (lits_cons s68 (lits_cons s69 (lits_cons s70 (lits_cons s71 (lits_cons s72 (lits_cons s73 (lits_cons s66 (lits_cons s74 (lits_cons s75 (lits_cons s18 (lits_cons s19 lits_nil))))))))))))
    rw [hlit]
    clear hlit hk hS s67 s68 s69 s70 s71 s72 s73 s66 s74 s75 s18 s19
    simp only [litT, List.setIfInBounds_toArray, List.set_cons_succ, List.set_cons_zero]
    have HB7 := hide (below_to HB5.out (Nat.le_refl _) (hgu uq))
    have HG7 := hide (HG5.out.to (hgu uq))
    have Hp7 := hide (Hp5.out.to (hgu uq))
    have Hq7 := hide (Hq5.out.to (hgu uq))
    have Hx7 := hide r18
    clear r18 HB5 HG5 Hp5 Hq5 CO3 CO2
    generalize g uq = w7 at *
    clear hgu hi l18
    obtain ⟨U7, hU7, g7, u7, rfl, hgu7, hi7⟩ := cls w7
    have p0 := blk_all hgu7 Hp7.out 0 rfl
    have p1 := blk_all hgu7 Hp7.out 1 rfl
    have q0 := blk_all hgu7 Hq7.out 0 rfl
    have q1 := blk_all hgu7 Hq7.out 1 rfl
    have x0 := blk_all hgu7 Hx7.out 0 rfl
    have x1 := blk_all hgu7 Hx7.out 1 rfl
    go_wp2_with fail
    apply wp_region_looseG g7 (V := [some _, some _, some _, some _, some _, some _, some _, some _, some _, some _, some _, some _, some _, some _, some _, none, some _, some _, some _, some _, some _, none, some _, some _, some _, some _, some _]) (Fs := [(15, RowIs 9 100 4 #[.string ⟨#[109, 97, 114, 107]⟩, .string (bs key), .string (bs salt), .string (bs h1)]), (21, RowIs 9 106 4 #[.string ⟨#[109, 97, 114, 107]⟩, .string (bs key), .string (bs salt), .string (bs h2)])]) (Rel := fun _ w w' => Below w.heap.size w w')
    case hm => kernel_rfl
    case hB => kernel_rfl
    case hCw => exact hi7 _ (Below.refl _ _).drew
    case hC =>
      rintro i uq w' hr
      exact hi7 _ (below_to (hgu7 uq) (Nat.le_refl _) hr)
    case hst =>
      refine keeps_cons (fun i a a' w w' hne hs hr h => h.keep (hs 100 (by kernel_rfl)) (Or.inr hr)) ?_
      refine keeps_cons (fun i a a' w w' hne hs hr h => h.keep (hs 106 (by kernel_rfl)) (Or.inr hr)) ?_
      exact keeps_nil
    case hop =>
      refine ⟨?_, ?_, ?_, ?_, ?_, ?_, ?_, ?_, ?_, ?_, ?_, ?_, ?_, ?_, ?_, ?_, ?_, ?_, ?_, ?_, ?_, ?_, ?_, ?_, ?_, ?_, ?_, trivial⟩
      · intro a uq K hS hd hK
        have s11 := hS.at 11 (by kernel_rfl) rfl
        rw [if_pos (want_free rfl)]
        go_simp
        exact hK _ _ (Below.refl _ _) (vok rfl) (facts_cons (fun h => absurd h (by decide)) (facts_cons (fun h => absurd h (by decide)) facts_nil))
      · intro a uq K hS hd hK
        have s85 := (waits_on hd 0 (by kernel_rfl)).at (d := 85) rfl rfl rfl
        rw [if_pos (want_free rfl)]
        go_simp
        exact hK _ _ (Below.refl _ _) (vok rfl) (facts_cons (fun h => absurd h (by decide)) (facts_cons (fun h => absurd h (by decide)) facts_nil))
      · intro a uq K hS hd hK
        have s86 := (waits_on hd 1 (by kernel_rfl)).at (d := 86) rfl rfl rfl
        have s18 := hS.at 18 (by kernel_rfl) rfl
        rw [if_pos (want_yes rfl rfl rfl s86)]
        go_simp
        exact hK _ _ (Below.refl _ _) (vok rfl) (facts_cons (fun h => absurd h (by decide)) (facts_cons (fun h => absurd h (by decide)) facts_nil))
      · intro a uq K hS hd hK
        have s86 := (waits_on hd 1 (by kernel_rfl)).at (d := 86) rfl rfl rfl
        have s8 := hS.at 8 (by kernel_rfl) rfl
        rw [if_pos (want_yes rfl rfl rfl s86)]
        go_simp
        exact hK _ _ (Below.refl _ _) (vok rfl) (facts_cons (fun h => absurd h (by decide)) (facts_cons (fun h => absurd h (by decide)) facts_nil))
      · intro a uq K hS hd hK
        have s86 := (waits_on hd 1 (by kernel_rfl)).at (d := 86) rfl rfl rfl
        have s87 := (waits_on hd 2 (by kernel_rfl)).at (d := 87) rfl rfl rfl
        have s88 := (waits_on hd 3 (by kernel_rfl)).at (d := 88) rfl rfl rfl
        rw [if_pos (want_yes rfl rfl rfl s86)]
        go_simp
        exact hK _ _ (Below.refl _ _) (vok rfl) (facts_cons (fun h => absurd h (by decide)) (facts_cons (fun h => absurd h (by decide)) facts_nil))
      · intro a uq K hS hd hK
        have s86 := (waits_on hd 1 (by kernel_rfl)).at (d := 86) rfl rfl rfl
        have s89 := (waits_on hd 4 (by kernel_rfl)).at (d := 89) rfl rfl rfl
        rw [if_pos (want_free rfl)]
        go_simp
        exact hK _ _ (Below.refl _ _) (vok rfl) (facts_cons (fun h => absurd h (by decide)) (facts_cons (fun h => absurd h (by decide)) facts_nil))
      · intro a uq K hS hd hK
        have s90 := (waits_on hd 5 (by kernel_rfl)).at (d := 90) rfl rfl rfl
        rw [if_pos (want_free rfl)]
        go_simp
        exact hK _ _ (Below.refl _ _) (vok rfl) (facts_cons (fun h => absurd h (by decide)) (facts_cons (fun h => absurd h (by decide)) facts_nil))
      · intro a uq K hS hd hK
        have s91 := (waits_on hd 6 (by kernel_rfl)).at (d := 91) rfl rfl rfl
        have s7 := hS.at 7 (by kernel_rfl) rfl
        rw [if_pos (want_yes rfl rfl rfl s91)]
        go_simp
        exact hK _ _ (Below.refl _ _) (vok rfl) (facts_cons (fun h => absurd h (by decide)) (facts_cons (fun h => absurd h (by decide)) facts_nil))
      · intro a uq K hS hd hK
        have s91 := (waits_on hd 6 (by kernel_rfl)).at (d := 91) rfl rfl rfl
        have s8 := hS.at 8 (by kernel_rfl) rfl
        rw [if_pos (want_yes rfl rfl rfl s91)]
        go_simp
        exact hK _ _ (Below.refl _ _) (vok rfl) (facts_cons (fun h => absurd h (by decide)) (facts_cons (fun h => absurd h (by decide)) facts_nil))
      · intro a uq K hS hd hK
        have s91 := (waits_on hd 6 (by kernel_rfl)).at (d := 91) rfl rfl rfl
        have s92 := (waits_on hd 7 (by kernel_rfl)).at (d := 92) rfl rfl rfl
        have s93 := (waits_on hd 8 (by kernel_rfl)).at (d := 93) rfl rfl rfl
        rw [if_pos (want_yes rfl rfl rfl s91)]
        go_simp
        exact hK _ _ (Below.refl _ _) (vok rfl) (facts_cons (fun h => absurd h (by decide)) (facts_cons (fun h => absurd h (by decide)) facts_nil))
      · intro a uq K hS hd hK
        have s91 := (waits_on hd 6 (by kernel_rfl)).at (d := 91) rfl rfl rfl
        have s94 := (waits_on hd 9 (by kernel_rfl)).at (d := 94) rfl rfl rfl
        rw [if_pos (want_yes rfl rfl rfl s91)]
        go_simp
        exact hK _ _ (Below.refl _ _) (vok rfl) (facts_cons (fun h => absurd h (by decide)) (facts_cons (fun h => absurd h (by decide)) facts_nil))
      · intro a uq K hS hd hK
        have s95 := (waits_on hd 10 (by kernel_rfl)).at (d := 95) rfl rfl rfl
        have s0 := hS.at 0 (by kernel_rfl) rfl
        rw [if_pos (want_yes rfl rfl rfl s95)]
        go_simp
        exact hK _ _ (Below.refl _ _) (vok rfl) (facts_cons (fun h => absurd h (by decide)) (facts_cons (fun h => absurd h (by decide)) facts_nil))
      · intro a uq K hS hd hK
        have s95 := (waits_on hd 10 (by kernel_rfl)).at (d := 95) rfl rfl rfl
        have s1 := hS.at 1 (by kernel_rfl) rfl
        rw [if_pos (want_yes rfl rfl rfl s95)]
        go_simp
        exact hK _ _ (Below.refl _ _) (vok rfl) (facts_cons (fun h => absurd h (by decide)) (facts_cons (fun h => absurd h (by decide)) facts_nil))
      · intro a uq K hS hd hK
        have s95 := (waits_on hd 10 (by kernel_rfl)).at (d := 95) rfl rfl rfl
        have s12 := hS.at 12 (by kernel_rfl) rfl
        rw [if_pos (want_yes rfl rfl rfl s95)]
        go_simp
        exact hK _ _ (Below.refl _ _) (vok rfl) (facts_cons (fun h => absurd h (by decide)) (facts_cons (fun h => absurd h (by decide)) facts_nil))
      · intro a uq K hS hd hK
        have s95 := (waits_on hd 10 (by kernel_rfl)).at (d := 95) rfl rfl rfl
        have s98 := (waits_on hd 13 (by kernel_rfl)).at (d := 98) rfl rfl rfl
        rw [if_pos (want_yes rfl rfl rfl s95)]
        go_simp
        exact hK _ _ (Below.refl _ _) (vok rfl) (facts_cons (fun h => absurd h (by decide)) (facts_cons (fun h => absurd h (by decide)) facts_nil))
      · intro a uq K hS hd hK
        have s95 := (waits_on hd 10 (by kernel_rfl)).at (d := 95) rfl rfl rfl
        have s96 := (waits_on hd 11 (by kernel_rfl)).at (d := 96) rfl rfl rfl
        have s97 := (waits_on hd 12 (by kernel_rfl)).at (d := 97) rfl rfl rfl
        have s99 := (waits_on hd 14 (by kernel_rfl)).at (d := 99) rfl rfl rfl
        rw [if_pos (want_yes rfl rfl rfl s95)]
        go_simp
        exact hK _ _ (below_one _ _) (vfree rfl) (facts_cons (fun _ => ⟨_, hS.put_at (by kernel_rfl) _, Blk.new _ _ _⟩) (facts_cons (fun h => absurd h (by decide)) facts_nil))
      · intro a uq K hS hd hK
        have s95 := (waits_on hd 10 (by kernel_rfl)).at (d := 95) rfl rfl rfl
        obtain ⟨b100, s100, r100⟩ := (waits_on hd 15 (by kernel_rfl)).2 _ (List.mem_cons_self ..) rfl
        rw [if_pos (want_yes rfl rfl rfl s95)]
        go_simp
        refine (L1 _ _ r100 (HG7.out.to (hgu7 uq))).mono ?_
        rintro e w' ⟨rfl, hb⟩
        exact hK _ _ hb (vok rfl) (facts_cons (fun h => absurd h (by decide)) (facts_cons (fun h => absurd h (by decide)) facts_nil))
      · intro a uq K hS hd hK
        have s95 := (waits_on hd 10 (by kernel_rfl)).at (d := 95) rfl rfl rfl
        have s0 := hS.at 0 (by kernel_rfl) rfl
        rw [if_pos (want_yes rfl rfl rfl s95)]
        go_simp
        exact hK _ _ (Below.refl _ _) (vok rfl) (facts_cons (fun h => absurd h (by decide)) (facts_cons (fun h => absurd h (by decide)) facts_nil))
      · intro a uq K hS hd hK
        have s95 := (waits_on hd 10 (by kernel_rfl)).at (d := 95) rfl rfl rfl
        have s1 := hS.at 1 (by kernel_rfl) rfl
        rw [if_pos (want_yes rfl rfl rfl s95)]
        go_simp
        exact hK _ _ (Below.refl _ _) (vok rfl) (facts_cons (fun h => absurd h (by decide)) (facts_cons (fun h => absurd h (by decide)) facts_nil))
      · intro a uq K hS hd hK
        have s95 := (waits_on hd 10 (by kernel_rfl)).at (d := 95) rfl rfl rfl
        have s14 := hS.at 14 (by kernel_rfl) rfl
        rw [if_pos (want_yes rfl rfl rfl s95)]
        go_simp
        exact hK _ _ (Below.refl _ _) (vok rfl) (facts_cons (fun h => absurd h (by decide)) (facts_cons (fun h => absurd h (by decide)) facts_nil))
      · intro a uq K hS hd hK
        have s95 := (waits_on hd 10 (by kernel_rfl)).at (d := 95) rfl rfl rfl
        have s104 := (waits_on hd 19 (by kernel_rfl)).at (d := 104) rfl rfl rfl
        rw [if_pos (want_yes rfl rfl rfl s95)]
        go_simp
        exact hK _ _ (Below.refl _ _) (vok rfl) (facts_cons (fun h => absurd h (by decide)) (facts_cons (fun h => absurd h (by decide)) facts_nil))
      · intro a uq K hS hd hK
        have s95 := (waits_on hd 10 (by kernel_rfl)).at (d := 95) rfl rfl rfl
        have s102 := (waits_on hd 17 (by kernel_rfl)).at (d := 102) rfl rfl rfl
        have s103 := (waits_on hd 18 (by kernel_rfl)).at (d := 103) rfl rfl rfl
        have s105 := (waits_on hd 20 (by kernel_rfl)).at (d := 105) rfl rfl rfl
        rw [if_pos (want_yes rfl rfl rfl s95)]
        go_simp
        exact hK _ _ (below_one _ _) (vfree rfl) (facts_cons (fun h => absurd h (by decide)) (facts_cons (fun _ => ⟨_, hS.put_at (by kernel_rfl) _, Blk.new _ _ _⟩) facts_nil))
      · intro a uq K hS hd hK
        have s95 := (waits_on hd 10 (by kernel_rfl)).at (d := 95) rfl rfl rfl
        obtain ⟨b106, s106, r106⟩ := (waits_on hd 21 (by kernel_rfl)).2 _ (List.mem_cons_of_mem _ (List.mem_cons_self ..)) rfl
        rw [if_pos (want_yes rfl rfl rfl s95)]
        go_simp
        refine (L2 _ _ r106 (HG7.out.to (hgu7 uq))).mono ?_
        rintro e w' ⟨rfl, hb⟩
        exact hK _ _ hb (vok rfl) (facts_cons (fun h => absurd h (by decide)) (facts_cons (fun h => absurd h (by decide)) facts_nil))
      · intro a uq K hS hd hK
        have s95 := (waits_on hd 10 (by kernel_rfl)).at (d := 95) rfl rfl rfl
        have s101 := (waits_on hd 16 (by kernel_rfl)).at (d := 101) rfl rfl rfl
        have s107 := (waits_on hd 22 (by kernel_rfl)).at (d := 107) rfl rfl rfl
        rw [if_pos (want_yes rfl rfl rfl s95)]
        go_simp
        exact hK _ _ (Below.refl _ _) (vok rfl) (facts_cons (fun h => absurd h (by decide)) (facts_cons (fun h => absurd h (by decide)) facts_nil))
      · intro a uq K hS hd hK
        have s91 := (waits_on hd 6 (by kernel_rfl)).at (d := 91) rfl rfl rfl
        have s95 := (waits_on hd 10 (by kernel_rfl)).at (d := 95) rfl rfl rfl
        have s108 := (waits_on hd 23 (by kernel_rfl)).at (d := 108) rfl rfl rfl
        rw [if_pos (want_yes rfl rfl rfl s91)]
        go_simp
        exact hK _ _ (Below.refl _ _) (vok rfl) (facts_cons (fun h => absurd h (by decide)) (facts_cons (fun h => absurd h (by decide)) facts_nil))
      · intro a uq K hS hd hK
        have s91 := (waits_on hd 6 (by kernel_rfl)).at (d := 91) rfl rfl rfl
        have s109 := (waits_on hd 24 (by kernel_rfl)).at (d := 109) rfl rfl rfl
        rw [if_pos (want_free rfl)]
        go_simp
        exact hK _ _ (Below.refl _ _) (vok rfl) (facts_cons (fun h => absurd h (by decide)) (facts_cons (fun h => absurd h (by decide)) facts_nil))
      · intro a uq K hS hd hK
        have s110 := (waits_on hd 25 (by kernel_rfl)).at (d := 110) rfl rfl rfl
        rw [if_pos (want_free rfl)]
        go_simp
        exact hK _ _ (Below.refl _ _) (vok rfl) (facts_cons (fun h => absurd h (by decide)) (facts_cons (fun h => absurd h (by decide)) facts_nil))
    case hfin =>
      intro a uq hS hk
      have s85 := (hk 0 (by decide)).at (d := 85) rfl rfl rfl
      have s86 := (hk 1 (by decide)).at (d := 86) rfl rfl rfl
      have s87 := (hk 2 (by decide)).at (d := 87) rfl rfl rfl
      have s88 := (hk 3 (by decide)).at (d := 88) rfl rfl rfl
      have s89 := (hk 4 (by decide)).at (d := 89) rfl rfl rfl
      have s90 := (hk 5 (by decide)).at (d := 90) rfl rfl rfl
      have s91 := (hk 6 (by decide)).at (d := 91) rfl rfl rfl
      have s92 := (hk 7 (by decide)).at (d := 92) rfl rfl rfl
      have s93 := (hk 8 (by decide)).at (d := 93) rfl rfl rfl
      have s94 := (hk 9 (by decide)).at (d := 94) rfl rfl rfl
      have s95 := (hk 10 (by decide)).at (d := 95) rfl rfl rfl
      have s96 := (hk 11 (by decide)).at (d := 96) rfl rfl rfl
      have s97 := (hk 12 (by decide)).at (d := 97) rfl rfl rfl
      have s98 := (hk 13 (by decide)).at (d := 98) rfl rfl rfl
      have s99 := (hk 14 (by decide)).at (d := 99) rfl rfl rfl
      obtain ⟨b100, s100, r100⟩ := (hk 15 (by decide)).2 _ (List.mem_cons_self ..) rfl
      have s101 := (hk 16 (by decide)).at (d := 101) rfl rfl rfl
      have s102 := (hk 17 (by decide)).at (d := 102) rfl rfl rfl
      have s103 := (hk 18 (by decide)).at (d := 103) rfl rfl rfl
      have s104 := (hk 19 (by decide)).at (d := 104) rfl rfl rfl
      have s105 := (hk 20 (by decide)).at (d := 105) rfl rfl rfl
      obtain ⟨b106, s106, r106⟩ := (hk 21 (by decide)).2 _ (List.mem_cons_of_mem _ (List.mem_cons_self ..)) rfl
      have s107 := (hk 22 (by decide)).at (d := 107) rfl rfl rfl
      have s108 := (hk 23 (by decide)).at (d := 108) rfl rfl rfl
      have s109 := (hk 24 (by decide)).at (d := 109) rfl rfl rfl
      have s110 := (hk 25 (by decide)).at (d := 110) rfl rfl rfl
      have s10 := (hk 26 (by decide)).at (d := 10) rfl rfl rfl
      have hlit := hS.lit _ (by kernel_rfl) (lits_cons s85 (lits_cons s86 (lits_cons s87 (lits_cons s88 (lits_cons s89 (lits_cons s90 (lits_cons s91 (lits_cons s92 (lits_cons s93 (lits_cons s94 (lits_cons s95 (lits_cons s96 (lits_cons s97 (lits_cons s98 (lits_cons s99 (lits_cons s100 (lits_cons s101 (lits_cons s102 (lits_cons s103 (lits_cons s104 (lits_cons s105 (lits_cons s106 (lits_cons s107 (lits_cons s108 (lits_cons s109 (lits_cons s110 (lits_cons s10 lits_nil)))))))))))))))))))))))))))
      rw [hlit]
      clear hlit hk hS s85 s86 s87 s88 s89 s90 s91 s92 s93 s94 s95 s96 s97 s98 s99 s100 s101 s102 s103 s104 s105 s106 s107 s108 s109 s110 s10
      simp only [litT, List.setIfInBounds_toArray, List.set_cons_succ, List.set_cons_zero]
      go_wp2_with fail
      go_ret
      exact ⟨ret_bool rfl, below_to HB7.out (Nat.le_refl _) (hgu7 uq)⟩
end Go.Proofs.YtdgbnplieaaokaaDoor
