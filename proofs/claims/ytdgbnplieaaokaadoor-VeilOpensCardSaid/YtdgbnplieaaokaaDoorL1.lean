/- Walk of the law VeilOpens. -/
import Derived.Test.YtdgbnplieaaokaaDoorV8
import Derived.Test.YtdgbnplieaaokaaDoorLC
set_option linter.unusedVariables false
set_option linter.unusedSimpArgs false
namespace Go.Proofs.YtdgbnplieaaokaaDoor
open Go.RowKit

set_option maxHeartbeats 8000000 in
theorem opens_law (key salt t : List UInt8) (x y : Int) (hk : key.length ≤ 140737488351232) (hs : salt.length ≤ 140737488351232) (ht : t.length ≤ 140737488351232) (w : World) (hg : Glob w) :
    Calls Tryd.prog 3 #[.string (bs key), .string (bs salt), pval x y, .string (bs t)] w fun e w' => e = .returned (.bool true) ∧ Below w.heap.size w w' := by
  have HK := hide hk
  have HS := hide hs
  have HT := hide ht
  clear hk hs ht
  have HB := hide (below_one w (.cells #[.int .i64 x, .int .i64 y] 23))
  have HG := hide (hg.alloc (.cells #[.int .i64 x, .int .i64 y] 23))
  have Hp := hide (Blk.new w 23 #[.int .i64 x, .int .i64 y])
  clear hg
  go_enter Tryd.func3, Tryd.ntmps3
  unfold pval
  go_wp2_with fail
  generalize w.alloc (.cells #[.int .i64 x, .int .i64 y] 23) = w1 at *
  obtain ⟨Bp, HBp⟩ : ∃ A, Hid (w.heap.size = A) := ⟨_, rfl⟩
  rw [HBp.out] at Hp ⊢
  refine (head_any _ HG.out).mono ?_
  rintro e w2 ⟨rfl, hb⟩
  have HB2 := hide (below_to HB.out (Nat.le_refl _) hb)
  have HG2 := hide (HG.out.to hb)
  have Hp2 := hide (Hp.out.to hb)
  clear hb HB HG Hp
  go_wp2_with fail
  have HS3 : Hid (Blk (w2.alloc (.cells #[.string (bs key), .string (bs salt), .string (bs t)] 9)) w2.heap.size 9 (strC [key, salt, t])) := Blk.new w2 _ _
  have HB3 := hide (below_alloc HB2.out (Nat.le_refl _) (.cells #[.string (bs key), .string (bs salt), .string (bs t)] 9))
  have HG3 := hide (HG2.out.alloc (.cells #[.string (bs key), .string (bs salt), .string (bs t)] 9))
  have Hp3 := hide (Hp2.out.alloc (.cells #[.string (bs key), .string (bs salt), .string (bs t)] 9))
  clear HB2 HG2 Hp2
  generalize w2.alloc (.cells #[.string (bs key), .string (bs salt), .string (bs t)] 9) = w3 at *
  generalize w2.heap.size = A at *
  refine (short_any [key, salt, t] _ _ _ HS3.out (by simp) (fun l hl => by
    simp only [List.mem_cons, List.not_mem_nil, or_false] at hl
    have h1 := HK.out; have h2 := HS.out; have h3 := HT.out
    rcases hl with rfl | rfl | rfl <;> omega)).mono ?_
  rintro e w4 ⟨rfl, rfl⟩
  cases hsh : shortP [key, salt, t]
  · go_wp2_with fail
    go_ret
    exact ⟨ret_bool rfl, HB3.out⟩
  clear hsh HS3
  obtain ⟨U, hU, g, u0, rfl, hgu, hi⟩ := cls w3
  have p0 := blk_all hgu Hp3.out 0 rfl
  have p1 := blk_all hgu Hp3.out 1 rfl
  have CL := cls_call hgu hi (fun w hb => Lock_any key salt x y HK.out HS.out w (HG3.out.to hb))
  unfold pval at CL
  cases hc : canL salt x y
  · obtain ⟨c1, c2⟩ := lock_not (key := key) hc
    rw [c1, c2, show bs [] = ⟨#[]⟩ from rfl] at CL
    have CI := cls_call hgu hi (fun w _ => Is_any salt (by have := HS.out; omega) w)
    have CN := cls_call hgu hi (fun w _ => On_any x y w)
    unfold pval at CN
    have HC := hide (show (isD salt && onP x y) = false from hc)
    clear c1 c2 hc
    generalize isD salt = a at *
    generalize onP x y = b at *
    cases a
    · clear CN
      go_wp2_with (first | ((with_reducible refine (CL _).mono ?_); rintro e w' ⟨rfl, u, rfl⟩) | ((with_reducible refine (CI _).mono ?_); rintro e w' ⟨rfl, u, rfl⟩))
      have CO := cls_call hgu hi (fun w hb => Open_any key t HK.out HT.out w (HG3.out.to hb))
      unfold pval at CO
      cases hgd : goodV key t
      · obtain ⟨b1, b2, b3⟩ := open_bad hgd
        rw [b1, b2, b3] at CO
        clear b1 b2 b3 hgd
        have CI := fun w => vIs_any t (by have := HT.out; omega) w
        cases hv : isV t
        all_goals
          rw [hv] at CO CI
          clear hv
          simp only [Bool.false_eq_true, if_false, if_true] at CO
          refine (CO _).mono ?_
          rintro e w' ⟨rfl, u, rfl⟩
          go_wp2_with fail
          refine (CI _).mono ?_
          rintro e w9 ⟨rfl, hb⟩
          have HB9 := hide ((below_alloc (below_to HB3.out (Nat.le_refl _) (hgu u)) (Nat.le_refl _) (.cells #[.int .i64 0, .int .i64 0] 23)).trans (hb.mono (by have := HB3.out.size; have := (hgu u).size; simp; omega)))
          clear hb
          go_wp2_with fail
          go_ret
          exact ⟨ret_bool rfl, HB9.out⟩
      · obtain ⟨b1, b2, b3⟩ := open_good hgd
        obtain ⟨l1, l2⟩ := good_len hgd
        obtain ⟨m1, m2⟩ := open_lock hgd
        rw [b1, b2, b3] at CO
        have HQ := hide (And.intro l2 (And.intro m1 m2))
        have HL := hide l1
        clear b1 b2 b3 hgd l2 m1 m2 l1
        obtain ⟨X, HX⟩ : ∃ X, Hid (((xV key t : Nat) : Int) = X) := ⟨_, rfl⟩
        obtain ⟨Y, HY⟩ : ∃ Y, Hid (((yV key t : Nat) : Int) = Y) := ⟨_, rfl⟩
        rw [HX.out, HY.out] at CO HQ
        refine (CO _).mono ?_
        rintro e w' ⟨rfl, u, rfl⟩
        have hts : (bs t).size = 42 := by rw [bs_size, HL.out]
        go_wp2_with fail
        have HB9 := hide (below_alloc (below_to HB3.out (Nat.le_refl _) (hgu u)) (Nat.le_refl _) (.cells #[.int .i64 X, .int .i64 Y] 23))
        have HG9 := hide ((HG3.out.to (hgu u)).alloc (.cells #[.int .i64 X, .int .i64 Y] 23))
        have Hq9 := hide (Blk.new (g u) 23 #[.int .i64 X, .int .i64 Y])
        generalize (g u).alloc (.cells #[.int .i64 X, .int .i64 Y] 23) = w9 at *
        generalize (g u).heap.size = Q at *
        obtain ⟨U9, hU9, g9, u90, rfl, hgu9, hi9⟩ := cls w9
        have q0 := blk_all hgu9 Hq9.out 0 rfl
        have q1 := blk_all hgu9 Hq9.out 1 rfl
        have CN := cls_call hgu9 hi9 (fun w _ => On_any X Y w)
        have CK := cls_call hgu9 hi9 (fun w hb => Lock_any key (saltV t) X Y HK.out (by unfold saltV; rw [List.length_take]; omega) w (HG9.out.to hb))
        unfold pval at CN CK
        rw [HQ.out.1] at CN
        rw [lockE_can HQ.out.2.1, HQ.out.2.2] at CK
        have hex : (bs t).extract 0 16 = bs (saltV t) := by rw [bs_cut]; rfl
        go_wp2_with (first | ((with_reducible refine (CN _).mono ?_); rintro e w' ⟨rfl, u, rfl⟩))
        refine wp_region_class g9 (by kernel_rfl) (by kernel_rfl) (hi9 _ (hgu9 _).drew) ?_
        repeat (go_big_quiet_step (first | with_reducible exact CK _))
        refine wpQuiet_nil ?_
        intro w10 hw10
        obtain ⟨u, rfl⟩ := hw10
        go_wp2_with fail
        go_ret
        exact ⟨ret_bool (by first | rfl | simp), below_to HB9.out (Nat.le_refl _) (hgu9 _)⟩
    · have hb0 : b = false := HC.out
      subst hb0
      go_wp2_with (first | ((with_reducible refine (CL _).mono ?_); rintro e w' ⟨rfl, u, rfl⟩) | ((with_reducible refine (CI _).mono ?_); rintro e w' ⟨rfl, u, rfl⟩) | ((with_reducible refine (CN _).mono ?_); rintro e w' ⟨rfl, u, rfl⟩))
      have CO := cls_call hgu hi (fun w hb => Open_any key t HK.out HT.out w (HG3.out.to hb))
      unfold pval at CO
      cases hgd : goodV key t
      · obtain ⟨b1, b2, b3⟩ := open_bad hgd
        rw [b1, b2, b3] at CO
        clear b1 b2 b3 hgd
        have CI := fun w => vIs_any t (by have := HT.out; omega) w
        cases hv : isV t
        all_goals
          rw [hv] at CO CI
          clear hv
          simp only [Bool.false_eq_true, if_false, if_true] at CO
          refine (CO _).mono ?_
          rintro e w' ⟨rfl, u, rfl⟩
          go_wp2_with fail
          refine (CI _).mono ?_
          rintro e w9 ⟨rfl, hb⟩
          have HB9 := hide ((below_alloc (below_to HB3.out (Nat.le_refl _) (hgu u)) (Nat.le_refl _) (.cells #[.int .i64 0, .int .i64 0] 23)).trans (hb.mono (by have := HB3.out.size; have := (hgu u).size; simp; omega)))
          clear hb
          go_wp2_with fail
          go_ret
          exact ⟨ret_bool rfl, HB9.out⟩
      · obtain ⟨b1, b2, b3⟩ := open_good hgd
        obtain ⟨l1, l2⟩ := good_len hgd
        obtain ⟨m1, m2⟩ := open_lock hgd
        rw [b1, b2, b3] at CO
        have HQ := hide (And.intro l2 (And.intro m1 m2))
        have HL := hide l1
        clear b1 b2 b3 hgd l2 m1 m2 l1
        obtain ⟨X, HX⟩ : ∃ X, Hid (((xV key t : Nat) : Int) = X) := ⟨_, rfl⟩
        obtain ⟨Y, HY⟩ : ∃ Y, Hid (((yV key t : Nat) : Int) = Y) := ⟨_, rfl⟩
        rw [HX.out, HY.out] at CO HQ
        refine (CO _).mono ?_
        rintro e w' ⟨rfl, u, rfl⟩
        have hts : (bs t).size = 42 := by rw [bs_size, HL.out]
        go_wp2_with fail
        have HB9 := hide (below_alloc (below_to HB3.out (Nat.le_refl _) (hgu u)) (Nat.le_refl _) (.cells #[.int .i64 X, .int .i64 Y] 23))
        have HG9 := hide ((HG3.out.to (hgu u)).alloc (.cells #[.int .i64 X, .int .i64 Y] 23))
        have Hq9 := hide (Blk.new (g u) 23 #[.int .i64 X, .int .i64 Y])
        generalize (g u).alloc (.cells #[.int .i64 X, .int .i64 Y] 23) = w9 at *
        generalize (g u).heap.size = Q at *
        obtain ⟨U9, hU9, g9, u90, rfl, hgu9, hi9⟩ := cls w9
        have q0 := blk_all hgu9 Hq9.out 0 rfl
        have q1 := blk_all hgu9 Hq9.out 1 rfl
        have CN := cls_call hgu9 hi9 (fun w _ => On_any X Y w)
        have CK := cls_call hgu9 hi9 (fun w hb => Lock_any key (saltV t) X Y HK.out (by unfold saltV; rw [List.length_take]; omega) w (HG9.out.to hb))
        unfold pval at CN CK
        rw [HQ.out.1] at CN
        rw [lockE_can HQ.out.2.1, HQ.out.2.2] at CK
        have hex : (bs t).extract 0 16 = bs (saltV t) := by rw [bs_cut]; rfl
        go_wp2_with (first | ((with_reducible refine (CN _).mono ?_); rintro e w' ⟨rfl, u, rfl⟩))
        refine wp_region_class g9 (by kernel_rfl) (by kernel_rfl) (hi9 _ (hgu9 _).drew) ?_
        repeat (go_big_quiet_step (first | with_reducible exact CK _))
        refine wpQuiet_nil ?_
        intro w10 hw10
        obtain ⟨u, rfl⟩ := hw10
        go_wp2_with fail
        go_ret
        exact ⟨ret_bool (by first | rfl | simp), below_to HB9.out (Nat.le_refl _) (hgu9 _)⟩
  · obtain ⟨d1, d2, d3⟩ := open_lock_key (key := key) hc
    have CO1 := cls_call hgu hi (fun w hb => Open_any key (lockP key salt x y) HK.out (by rw [lock_len hc]; decide) w (HG3.out.to hb))
    rw [lockE_can hc] at CL
    rw [d1, d2, d3] at CO1
    unfold pval at CO1
    generalize bs (lockP key salt x y) = S at *
    go_wp2_with (first | ((with_reducible refine (CL _).mono ?_); rintro e w' ⟨rfl, u, rfl⟩))
    refine (CO1 _).mono ?_
    rintro e w' ⟨rfl, u, rfl⟩
    have lp := (Hp3.out.to (hgu u)).lt
    have np := Nat.ne_of_lt lp
    have hq := pt_neq x y
    go_wp2_with fail
    have HB5 := hide (below_alloc (below_to HB3.out (Nat.le_refl _) (hgu u)) (Nat.le_refl _) (.cells #[.int .i64 x, .int .i64 y] 23))
    have HG5 := hide ((HG3.out.to (hgu u)).alloc (.cells #[.int .i64 x, .int .i64 y] 23))
    clear lp np hq CO1 CL p0 p1 d1 d2 d3
    generalize (g u).alloc (.cells #[.int .i64 x, .int .i64 y] 23) = w5 at *
    generalize (g u).heap.size = A5 at *
    obtain ⟨U5, hU5, g5, u50, rfl, hgu5, hi5⟩ := cls w5
    have CO := cls_call hgu5 hi5 (fun w hb => Open_any key t HK.out HT.out w (HG5.out.to hb))
    unfold pval at CO
    cases hgd : goodV key t
    · obtain ⟨b1, b2, b3⟩ := open_bad hgd
      rw [b1, b2, b3] at CO
      clear b1 b2 b3 hgd
      have CI := fun w => vIs_any t (by have := HT.out; omega) w
      cases hv : isV t
      all_goals
        rw [hv] at CO CI
        clear hv
        simp only [Bool.false_eq_true, if_false, if_true] at CO
        refine (CO _).mono ?_
        rintro e w' ⟨rfl, u, rfl⟩
        go_wp2_with fail
        refine (CI _).mono ?_
        rintro e w9 ⟨rfl, hb⟩
        have HB9 := hide ((below_alloc (below_to HB5.out (Nat.le_refl _) (hgu5 u)) (Nat.le_refl _) (.cells #[.int .i64 0, .int .i64 0] 23)).trans (hb.mono (by have := HB5.out.size; have := (hgu5 u).size; simp; omega)))
        clear hb
        go_wp2_with fail
        go_ret
        exact ⟨ret_bool rfl, HB9.out⟩
    · obtain ⟨b1, b2, b3⟩ := open_good hgd
      obtain ⟨l1, l2⟩ := good_len hgd
      obtain ⟨m1, m2⟩ := open_lock hgd
      rw [b1, b2, b3] at CO
      have HQ := hide (And.intro l2 (And.intro m1 m2))
      have HL := hide l1
      clear b1 b2 b3 hgd l2 m1 m2 l1
      obtain ⟨X, HX⟩ : ∃ X, Hid (((xV key t : Nat) : Int) = X) := ⟨_, rfl⟩
      obtain ⟨Y, HY⟩ : ∃ Y, Hid (((yV key t : Nat) : Int) = Y) := ⟨_, rfl⟩
      rw [HX.out, HY.out] at CO HQ
      refine (CO _).mono ?_
      rintro e w' ⟨rfl, u, rfl⟩
      have hts : (bs t).size = 42 := by rw [bs_size, HL.out]
      go_wp2_with fail
      have HB9 := hide (below_alloc (below_to HB5.out (Nat.le_refl _) (hgu5 u)) (Nat.le_refl _) (.cells #[.int .i64 X, .int .i64 Y] 23))
      have HG9 := hide ((HG5.out.to (hgu5 u)).alloc (.cells #[.int .i64 X, .int .i64 Y] 23))
      have Hq9 := hide (Blk.new (g5 u) 23 #[.int .i64 X, .int .i64 Y])
      generalize (g5 u).alloc (.cells #[.int .i64 X, .int .i64 Y] 23) = w9 at *
      generalize (g5 u).heap.size = Q at *
      obtain ⟨U9, hU9, g9, u90, rfl, hgu9, hi9⟩ := cls w9
      have q0 := blk_all hgu9 Hq9.out 0 rfl
      have q1 := blk_all hgu9 Hq9.out 1 rfl
      have CN := cls_call hgu9 hi9 (fun w _ => On_any X Y w)
      have CK := cls_call hgu9 hi9 (fun w hb => Lock_any key (saltV t) X Y HK.out (by unfold saltV; rw [List.length_take]; omega) w (HG9.out.to hb))
      unfold pval at CN CK
      rw [HQ.out.1] at CN
      rw [lockE_can HQ.out.2.1, HQ.out.2.2] at CK
      have hex : (bs t).extract 0 16 = bs (saltV t) := by rw [bs_cut]; rfl
      go_wp2_with (first | ((with_reducible refine (CN _).mono ?_); rintro e w' ⟨rfl, u, rfl⟩))
      refine wp_region_class g9 (by kernel_rfl) (by kernel_rfl) (hi9 _ (hgu9 _).drew) ?_
      repeat (go_big_quiet_step (first | with_reducible exact CK _))
      refine wpQuiet_nil ?_
      intro w10 hw10
      obtain ⟨u, rfl⟩ := hw10
      go_wp2_with fail
      go_ret
      exact ⟨ret_bool (by first | rfl | simp), below_to HB9.out (Nat.le_refl _) (hgu9 _)⟩
end Go.Proofs.YtdgbnplieaaokaaDoor
