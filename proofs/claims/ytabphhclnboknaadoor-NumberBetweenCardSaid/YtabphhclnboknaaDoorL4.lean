/- Walk of the law NumberBetween. -/
import Derived.Test.YtabphhclnboknaaDoorLC
set_option linter.unusedVariables false
set_option linter.unusedSimpArgs false
namespace Go.Proofs.YtabphhclnboknaaDoor
open Go.RowKit

set_option maxHeartbeats 8000000 in
theorem between_law (a b c : HN) (w : World) (ha : a.fit) (hb : b.fit) (hc : c.fit) (hg : Glob w) : Calls Tryd.prog 7 #[hval a, hval b, hval c] w fun e w' => e = .returned (.bool true) ∧ Below w.heap.size w w' := by
  have HX := hide (hNew3 w a b c)
  have HB := hide (below3 w (.cells #[.int .i64 a.n, .string ⟨a.l.toArray⟩, .int .i64 a.num, .int .i64 a.den] 23) (.cells #[.int .i64 b.n, .string ⟨b.l.toArray⟩, .int .i64 b.num, .int .i64 b.den] 23) (.cells #[.int .i64 c.n, .string ⟨c.l.toArray⟩, .int .i64 c.num, .int .i64 c.den] 23))
  have HG := hide (glob3 hg (.cells #[.int .i64 a.n, .string ⟨a.l.toArray⟩, .int .i64 a.num, .int .i64 a.den] 23) (.cells #[.int .i64 b.n, .string ⟨b.l.toArray⟩, .int .i64 b.num, .int .i64 b.den] 23) (.cells #[.int .i64 c.n, .string ⟨c.l.toArray⟩, .int .i64 c.num, .int .i64 c.den] 23))
  have Fa := hide ha
  have Fb := hide hb
  have Fc := hide hc
  clear ha hb hc hg
  go_enter Tryd.func7, Tryd.ntmps7
  unfold hval
  go_wp2_with fail
  generalize ((w.alloc (.cells #[.int .i64 a.n, .string ⟨a.l.toArray⟩, .int .i64 a.num, .int .i64 a.den] 23)).alloc (.cells #[.int .i64 b.n, .string ⟨b.l.toArray⟩, .int .i64 b.num, .int .i64 b.den] 23)).alloc (.cells #[.int .i64 c.n, .string ⟨c.l.toArray⟩, .int .i64 c.num, .int .i64 c.den] 23) = w1 at *
  refine (head_any _ HG.out).mono ?_
  rintro e w2 ⟨rfl, hb⟩
  have HB2 := hide (below_to HB.out (Nat.le_refl _) hb)
  have HG2 := hide (HG.out.to hb)
  have Xa := hide (HX.out.1.to hb)
  have Xb := hide (HX.out.2.1.to hb)
  have Xc := hide (HX.out.2.2.to hb)
  clear hb HX HB HG
  obtain ⟨U, hU, g, u0, rfl, hgu, hi⟩ := cls w2
  obtain ⟨a0, a1, a2, a3⟩ := box_all hgu Xa.out
  obtain ⟨b0, b1, b2, b3⟩ := box_all hgu Xb.out
  obtain ⟨c0, c1, c2, c3⟩ := box_all hgu Xc.out
  have Ca := cls_call hgu hi (fun w _ => Valid_any a w Fa.out)
  have Cb := cls_call hgu hi (fun w _ => Valid_any b w Fb.out)
  have Cc := cls_call hgu hi (fun w _ => Valid_any c w Fc.out)
  unfold hval at Ca Cb Cc
  cases hva : a.valid
  · rw [hva] at Ca
    go_wp2_with (first | ((with_reducible refine (Ca _).mono ?_); rintro e w' ⟨rfl, u, rfl⟩))
    go_ret
    exact ⟨ret_bool (rfl), below_to HB2.out (Nat.le_refl _) (hgu _)⟩
  cases hvb : b.valid
  · rw [hva] at Ca
    rw [hvb] at Cb
    go_wp2_with (first | ((with_reducible refine (Ca _).mono ?_); rintro e w' ⟨rfl, u, rfl⟩) | ((with_reducible refine (Cb _).mono ?_); rintro e w' ⟨rfl, u, rfl⟩))
    go_ret
    exact ⟨ret_bool (rfl), below_to HB2.out (Nat.le_refl _) (hgu _)⟩
  cases hvc : c.valid
  · rw [hva] at Ca
    rw [hvb] at Cb
    rw [hvc] at Cc
    go_wp2_with (first | ((with_reducible refine (Ca _).mono ?_); rintro e w' ⟨rfl, u, rfl⟩) | ((with_reducible refine (Cb _).mono ?_); rintro e w' ⟨rfl, u, rfl⟩) | ((with_reducible refine (Cc _).mono ?_); rintro e w' ⟨rfl, u, rfl⟩))
    go_ret
    exact ⟨ret_bool (rfl), below_to HB2.out (Nat.le_refl _) (hgu _)⟩
  rw [hva] at Ca
  rw [hvb] at Cb
  rw [hvc] at Cc
  have Lab := cls_call hgu hi (fun w _ => less_any a b w Fa.out Fb.out)
  unfold hval at Lab
  cases hab : a.lt b
  · rw [hab] at Lab
    clear hva hvb hvc hab
    go_wp2_with (first | ((with_reducible refine (Ca _).mono ?_); rintro e w' ⟨rfl, u, rfl⟩) | ((with_reducible refine (Cb _).mono ?_); rintro e w' ⟨rfl, u, rfl⟩) | ((with_reducible refine (Cc _).mono ?_); rintro e w' ⟨rfl, u, rfl⟩) | ((with_reducible refine (Lab _).mono ?_); rintro e w' ⟨rfl, u, rfl⟩))
    go_ret
    exact ⟨ret_bool (rfl), below_to HB2.out (Nat.le_refl _) (hgu _)⟩
  rw [hab] at Lab
  have CB := cls_call hgu hi (fun w _ => Between_any a b w Fa.out Fb.out)
  cases hbt : between a b with
  | none =>
    have e1 : betV a b = zeroH := by unfold betV; rw [hab, hbt]; rfl
    have e2 : betE a b = 10 := by unfold betE; rw [(cmpV_key hva hvb).2, hab, hbt]; rfl
    rw [e1, e2] at CB
    have hno : a.lt c = true → c.lt b = true → False := fun h h' => between_none hva hvb hbt c h h'
    have HNO := hide hno
    clear hno e1 e2 hab hva hvb hvc hbt
    unfold hval zeroH at CB
    go_wp2_with (first | ((with_reducible refine (Ca _).mono ?_); rintro e w' ⟨rfl, u, rfl⟩) | ((with_reducible refine (Cb _).mono ?_); rintro e w' ⟨rfl, u, rfl⟩) | ((with_reducible refine (Cc _).mono ?_); rintro e w' ⟨rfl, u, rfl⟩) | ((with_reducible refine (Lab _).mono ?_); rintro e w' ⟨rfl, u, rfl⟩))
    refine (CB _).mono ?_
    rintro e w' ⟨rfl, u, rfl⟩
    have la := (Xa.out.to (hgu u)).blk.lt
    have na := Nat.ne_of_lt la
    have lb := (Xb.out.to (hgu u)).blk.lt
    have nb := Nat.ne_of_lt lb
    have lc := (Xc.out.to (hgu u)).blk.lt
    have nc := Nat.ne_of_lt lc
    go_wp2_with fail
    have HB2n := hide (below_alloc (below_to HB2.out (Nat.le_refl _) (hgu u)) (Nat.le_refl _) (.cells #[.int .i64 0, .string ⟨#[]⟩, .int .i64 0, .int .i64 0] 23))
    have HG2n := hide ((HG2.out.to (hgu u)).alloc (.cells #[.int .i64 0, .string ⟨#[]⟩, .int .i64 0, .int .i64 0] 23))
    have Ya := hide ((Xa.out.to (hgu u)).alloc (.cells #[.int .i64 0, .string ⟨#[]⟩, .int .i64 0, .int .i64 0] 23))
    have Yb := hide ((Xb.out.to (hgu u)).alloc (.cells #[.int .i64 0, .string ⟨#[]⟩, .int .i64 0, .int .i64 0] 23))
    have Yc := hide ((Xc.out.to (hgu u)).alloc (.cells #[.int .i64 0, .string ⟨#[]⟩, .int .i64 0, .int .i64 0] 23))
    have Yz : Hid (HBox ((g u).alloc (.cells #[.int .i64 0, .string ⟨#[]⟩, .int .i64 0, .int .i64 0] 23)) (g u).heap.size zeroH) := HBox.new (g u) zeroH
    clear na la a0 a1 a2 a3 nb lb b0 b1 b2 b3 nc lc c0 c1 c2 c3
    generalize (g u).alloc (.cells #[.int .i64 0, .string ⟨#[]⟩, .int .i64 0, .int .i64 0] 23) = w2n at *
    generalize (g u).heap.size = B at *
    obtain ⟨U2, hU2, g2, u20, rfl, hgu2, hi2⟩ := cls w2n
    obtain ⟨a0, a1, a2, a3⟩ := box_all hgu2 Ya.out
    obtain ⟨b0, b1, b2, b3⟩ := box_all hgu2 Yb.out
    obtain ⟨c0, c1, c2, c3⟩ := box_all hgu2 Yc.out
    obtain ⟨z0, z1, z2, z3⟩ := box_all hgu2 Yz.out

    have Lac := cls_call hgu2 hi2 (fun w _ => less_any a c w Fa.out Fc.out)
    have Lcb := cls_call hgu2 hi2 (fun w _ => less_any c b w Fc.out Fb.out)
    unfold hval at Lac Lcb
    generalize a.lt c = p at *
    generalize c.lt b = q at *
    go_wp2_with (first | ((with_reducible refine (Lac _).mono ?_); rintro e w' ⟨rfl, u, rfl⟩) | ((with_reducible refine (Lcb _).mono ?_); rintro e w' ⟨rfl, u, rfl⟩))
    all_goals
      go_ret
      exact ⟨ret_bool (by first | rfl | (cases p <;> cases q <;> first | rfl | exact absurd rfl (by assumption) | exact (HNO.out rfl rfl).elim | simp_all)), below_to HB2n.out (Nat.le_refl _) (hgu2 _)⟩
  | some n =>
    have e1 : betV a b = n := by unfold betV; rw [hab, hbt]; rfl
    have e2 : betE a b = 0 := by unfold betE; rw [(cmpV_key hva hvb).2, hab, hbt]; rfl
    rw [e1, e2] at CB
    obtain ⟨f1, f2, f3, f4⟩ := between_some hva hvb hbt
    have HF := hide (f4 c)
    have Fn := hide (fit_of ((valid_iff n).1 f1).2.2.1)
    clear e1 e2 hab hva hvb hvc hbt f4
    unfold hval at CB
    go_wp2_with (first | ((with_reducible refine (Ca _).mono ?_); rintro e w' ⟨rfl, u, rfl⟩) | ((with_reducible refine (Cb _).mono ?_); rintro e w' ⟨rfl, u, rfl⟩) | ((with_reducible refine (Cc _).mono ?_); rintro e w' ⟨rfl, u, rfl⟩) | ((with_reducible refine (Lab _).mono ?_); rintro e w' ⟨rfl, u, rfl⟩))
    refine (CB _).mono ?_
    rintro e w' ⟨rfl, u, rfl⟩
    have la := (Xa.out.to (hgu u)).blk.lt
    have na := Nat.ne_of_lt la
    have lb := (Xb.out.to (hgu u)).blk.lt
    have nb := Nat.ne_of_lt lb
    have lc := (Xc.out.to (hgu u)).blk.lt
    have nc := Nat.ne_of_lt lc
    go_wp2_with fail
    have HB2n := hide (below_alloc (below_to HB2.out (Nat.le_refl _) (hgu u)) (Nat.le_refl _) (.cells #[.int .i64 n.n, .string ⟨n.l.toArray⟩, .int .i64 n.num, .int .i64 n.den] 23))
    have HG2n := hide ((HG2.out.to (hgu u)).alloc (.cells #[.int .i64 n.n, .string ⟨n.l.toArray⟩, .int .i64 n.num, .int .i64 n.den] 23))
    have Ya := hide ((Xa.out.to (hgu u)).alloc (.cells #[.int .i64 n.n, .string ⟨n.l.toArray⟩, .int .i64 n.num, .int .i64 n.den] 23))
    have Yb := hide ((Xb.out.to (hgu u)).alloc (.cells #[.int .i64 n.n, .string ⟨n.l.toArray⟩, .int .i64 n.num, .int .i64 n.den] 23))
    have Yc := hide ((Xc.out.to (hgu u)).alloc (.cells #[.int .i64 n.n, .string ⟨n.l.toArray⟩, .int .i64 n.num, .int .i64 n.den] 23))
    have Yn : Hid (HBox ((g u).alloc (.cells #[.int .i64 n.n, .string ⟨n.l.toArray⟩, .int .i64 n.num, .int .i64 n.den] 23)) (g u).heap.size n) := HBox.new (g u) n
    clear na la a0 a1 a2 a3 nb lb b0 b1 b2 b3 nc lc c0 c1 c2 c3
    generalize (g u).alloc (.cells #[.int .i64 n.n, .string ⟨n.l.toArray⟩, .int .i64 n.num, .int .i64 n.den] 23) = w2n at *
    generalize (g u).heap.size = B at *
    obtain ⟨U2, hU2, g2, u20, rfl, hgu2, hi2⟩ := cls w2n
    obtain ⟨a0, a1, a2, a3⟩ := box_all hgu2 Ya.out
    obtain ⟨b0, b1, b2, b3⟩ := box_all hgu2 Yb.out
    obtain ⟨c0, c1, c2, c3⟩ := box_all hgu2 Yc.out
    obtain ⟨n0, n1, n2, n3⟩ := box_all hgu2 Yn.out

    have Lac := cls_call hgu2 hi2 (fun w _ => less_any a c w Fa.out Fc.out)
    have Lcb := cls_call hgu2 hi2 (fun w _ => less_any c b w Fc.out Fb.out)
    have Cn := cls_call hgu2 hi2 (fun w _ => Valid_any n w Fn.out)
    have Lan := cls_call hgu2 hi2 (fun w _ => less_any a n w Fa.out Fn.out)
    have Lnb := cls_call hgu2 hi2 (fun w _ => less_any n b w Fn.out Fb.out)
    have Lcn := cls_call hgu2 hi2 (fun w _ => less_any c n w Fc.out Fn.out)
    have Gn := cls_call hgu2 hi2 (fun w _ => group_any n w)
    have Gc := cls_call hgu2 hi2 (fun w _ => group_any c w)
    unfold hval at Lac Lcb Cn Lan Lnb Lcn Gn Gc
    rw [f1] at Cn
    rw [f2] at Lan
    rw [f3] at Lnb
    clear f1 f2 f3
    generalize a.lt c = p at *
    generalize c.lt b = q at *
    generalize c.lt n = r at *
    generalize group n = gn at *
    generalize group c = gc at *
    cases p
    · go_wp2_with (first | ((with_reducible refine (Lac _).mono ?_); rintro e w' ⟨rfl, u, rfl⟩) | ((with_reducible refine (Lcb _).mono ?_); rintro e w' ⟨rfl, u, rfl⟩) | ((with_reducible refine (Cn _).mono ?_); rintro e w' ⟨rfl, u, rfl⟩) | ((with_reducible refine (Lan _).mono ?_); rintro e w' ⟨rfl, u, rfl⟩) | ((with_reducible refine (Lnb _).mono ?_); rintro e w' ⟨rfl, u, rfl⟩))
      refine wp_region_class g2 (by kernel_rfl) (by kernel_rfl) (hi2 _ (hgu2 _).drew) ?_
      repeat (go_big_quiet_step (first | with_reducible exact Gn _ | with_reducible exact Gc _))
      refine wpQuiet_nil ?_
      intro w4 hw4
      obtain ⟨u, rfl⟩ := hw4
      go_wp2_with fail
      go_ret
      exact ⟨ret_bool rfl, below_to HB2n.out (Nat.le_refl _) (hgu2 _)⟩
    · cases q
      · go_wp2_with (first | ((with_reducible refine (Lac _).mono ?_); rintro e w' ⟨rfl, u, rfl⟩) | ((with_reducible refine (Lcb _).mono ?_); rintro e w' ⟨rfl, u, rfl⟩) | ((with_reducible refine (Cn _).mono ?_); rintro e w' ⟨rfl, u, rfl⟩) | ((with_reducible refine (Lan _).mono ?_); rintro e w' ⟨rfl, u, rfl⟩) | ((with_reducible refine (Lnb _).mono ?_); rintro e w' ⟨rfl, u, rfl⟩))
        refine wp_region_class g2 (by kernel_rfl) (by kernel_rfl) (hi2 _ (hgu2 _).drew) ?_
        repeat (go_big_quiet_step (first | with_reducible exact Gn _ | with_reducible exact Gc _))
        refine wpQuiet_nil ?_
        intro w4 hw4
        obtain ⟨u, rfl⟩ := hw4
        go_wp2_with fail
        go_ret
        exact ⟨ret_bool rfl, below_to HB2n.out (Nat.le_refl _) (hgu2 _)⟩
      · rcases HF.out rfl rfl with hlt | ⟨heq, hr⟩
        · have d1 : decide (gn < gc) = true := by simpa using hlt
          clear HF
          go_wp2_with (first | ((with_reducible refine (Lac _).mono ?_); rintro e w' ⟨rfl, u, rfl⟩) | ((with_reducible refine (Lcb _).mono ?_); rintro e w' ⟨rfl, u, rfl⟩) | ((with_reducible refine (Cn _).mono ?_); rintro e w' ⟨rfl, u, rfl⟩) | ((with_reducible refine (Lan _).mono ?_); rintro e w' ⟨rfl, u, rfl⟩) | ((with_reducible refine (Lnb _).mono ?_); rintro e w' ⟨rfl, u, rfl⟩))
          refine wp_region_class g2 (by kernel_rfl) (by kernel_rfl) (hi2 _ (hgu2 _).drew) ?_
          repeat (go_big_quiet_step (first | with_reducible exact Gn _ | with_reducible exact Gc _ | with_reducible exact Lcn _))
          refine wpQuiet_nil ?_
          intro w4 hw4
          obtain ⟨u, rfl⟩ := hw4
          go_wp2_with fail
          go_ret
          exact ⟨ret_bool rfl, below_to HB2n.out (Nat.le_refl _) (hgu2 _)⟩
        · obtain rfl := heq
          obtain rfl := hr
          have d1 : decide (gn < gn) = false := by simp
          have d2 : (gn == gn) = true := by simp
          clear HF
          go_wp2_with (first | ((with_reducible refine (Lac _).mono ?_); rintro e w' ⟨rfl, u, rfl⟩) | ((with_reducible refine (Lcb _).mono ?_); rintro e w' ⟨rfl, u, rfl⟩) | ((with_reducible refine (Cn _).mono ?_); rintro e w' ⟨rfl, u, rfl⟩) | ((with_reducible refine (Lan _).mono ?_); rintro e w' ⟨rfl, u, rfl⟩) | ((with_reducible refine (Lnb _).mono ?_); rintro e w' ⟨rfl, u, rfl⟩))
          refine wp_region_class g2 (by kernel_rfl) (by kernel_rfl) (hi2 _ (hgu2 _).drew) ?_
          repeat (go_big_quiet_step (first | with_reducible exact Gn _ | with_reducible exact Gc _ | with_reducible exact Lcn _))
          refine wpQuiet_nil ?_
          intro w4 hw4
          obtain ⟨u, rfl⟩ := hw4
          go_wp2_with fail
          go_ret
          exact ⟨ret_bool rfl, below_to HB2n.out (Nat.le_refl _) (hgu2 _)⟩
end Go.Proofs.YtabphhclnboknaaDoor
