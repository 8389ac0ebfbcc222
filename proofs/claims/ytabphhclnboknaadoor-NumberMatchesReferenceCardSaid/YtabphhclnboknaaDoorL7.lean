/- Walk of the law NumberMatchesReference (printed by genl7.py). -/
import Derived.Test.YtabphhclnboknaaDoorLC
import Derived.Test.YtabphhclnboknaaDoorR4
set_option linter.unusedVariables false
set_option linter.unusedSimpArgs false
namespace Go.Proofs.YtabphhclnboknaaDoor
open Go.RowKit

set_option maxRecDepth 100000 in
set_option maxHeartbeats 8000000 in
theorem matches_law (a b : HN) (t : List UInt8) (w : World) (ha : a.fit) (hb : b.fit) (ht : t.length ≤ maxLen) (hg : Glob w) : Calls Tryd.prog 3 #[hval a, hval b, .string (bs t)] w fun e w' => e = .returned (.bool true) ∧ Below w.heap.size w w' := by
  have HT := hide ht
  have hts : (bs t).size ≤ 9223372036854775807 := by rw [bs_size]; unfold maxLen at ht; exact ht
  have has : (ByteArray.mk a.l.toArray).size ≤ 9223372036854775807 := by unfold HN.fit maxLen at ha; exact ha
  have hbs : (ByteArray.mk b.l.toArray).size ≤ 9223372036854775807 := by unfold HN.fit maxLen at hb; exact hb
  clear ht
  have HX := hide (hNew2 w a b)
  have HB := hide (below2 w (.cells #[.int .i64 a.n, .string ⟨a.l.toArray⟩, .int .i64 a.num, .int .i64 a.den] 23) (.cells #[.int .i64 b.n, .string ⟨b.l.toArray⟩, .int .i64 b.num, .int .i64 b.den] 23))
  have HG := hide (glob2 hg (.cells #[.int .i64 a.n, .string ⟨a.l.toArray⟩, .int .i64 a.num, .int .i64 a.den] 23) (.cells #[.int .i64 b.n, .string ⟨b.l.toArray⟩, .int .i64 b.num, .int .i64 b.den] 23))
  have Fa := hide ha
  have Fb := hide hb
  clear ha hb hg
  go_enter Tryd.func3, Tryd.ntmps3
  unfold hval
  go_wp2_with fail
  generalize (w.alloc (.cells #[.int .i64 a.n, .string ⟨a.l.toArray⟩, .int .i64 a.num, .int .i64 a.den] 23)).alloc (.cells #[.int .i64 b.n, .string ⟨b.l.toArray⟩, .int .i64 b.num, .int .i64 b.den] 23) = w1 at *
  refine (head_any _ HG.out).mono ?_
  rintro e w2 ⟨rfl, hb⟩
  have HB2 := hide (below_to HB.out (Nat.le_refl _) hb)
  have HG2 := hide (HG.out.to hb)
  have Xa := hide (HX.out.1.to hb)
  have Xb := hide (HX.out.2.to hb)
  clear hb HX HB HG
  obtain ⟨U, hU, g, u0, rfl, hgu, hi⟩ := cls w2
  obtain ⟨a0, a1, a2, a3⟩ := box_all hgu Xa.out
  obtain ⟨b0, b1, b2, b3⟩ := box_all hgu Xb.out
  have hsz : (bs t).size = t.length := bs_size t
  have hsa : (ByteArray.mk a.l.toArray).size = a.l.length := bs_size a.l
  have hsb : (ByteArray.mk b.l.toArray).size = b.l.length := bs_size b.l
  by_cases h1 : 200 < t.length
  · have e1 : decide ((200 : Int) < (t.length : Int)) = true := decide_eq_true (by omega)
    clear h1
    go_wp2_with fail
    go_ret
    exact ⟨ret_bool (rfl), below_to HB2.out (Nat.le_refl _) (hgu _)⟩
  have e1 : decide ((200 : Int) < (t.length : Int)) = false := decide_eq_false (by omega)
  have HT2 : Hid (t.length ≤ 100000) := by show _ ≤ _; omega
  by_cases h2 : 100 < a.l.length
  · have e2 : decide ((100 : Int) < (a.l.length : Int)) = true := decide_eq_true (by omega)
    clear h1 h2
    go_wp2_with fail
    go_ret
    exact ⟨ret_bool (rfl), below_to HB2.out (Nat.le_refl _) (hgu _)⟩
  have e2 : decide ((100 : Int) < (a.l.length : Int)) = false := decide_eq_false (by omega)
  by_cases h3 : 100 < b.l.length
  · have e3 : decide ((100 : Int) < (b.l.length : Int)) = true := decide_eq_true (by omega)
    clear h1 h2 h3
    go_wp2_with fail
    go_ret
    exact ⟨ret_bool (rfl), below_to HB2.out (Nat.le_refl _) (hgu _)⟩
  have e3 : decide ((100 : Int) < (b.l.length : Int)) = false := decide_eq_false (by omega)
  clear h1 h2 h3
  have C1 := cls_call hgu hi (fun w _ => Compare_any a b w Fa.out Fb.out)
  have C2 := cls_call hgu hi (fun w _ => rCompare_any a b w Fa.out Fb.out)
  have C3 := cls_call hgu hi (fun w hb => Text_any a w Fa.out (HG2.out.to hb))
  have C4 := cls_call hgu hi (fun w _ => rText_any a w Fa.out)
  have C5 := cls_call hgu hi (fun w hb => Parse_any t w HT2.out (HG2.out.to hb))
  obtain ⟨S, HS⟩ : ∃ S, Hid ((if a.valid then bs (textP a) else bs []) = S) := ⟨_, rfl⟩
  obtain ⟨E, HE⟩ : ∃ E : Int, Hid ((if a.valid then 0 else 1) = E) := ⟨_, rfl⟩
  rw [HS.out, HE.out] at C3 C4
  clear HS HE
  have R1 := fun w => rParse_any t w HT2.out
  have R2 := fun w => Between_any a b w Fa.out Fb.out
  have R3 := fun w => rBetween_any a b w Fa.out Fb.out
  have R4 := fun w => Valid_any a w Fa.out
  have R5 := fun w => rValid_any a w Fa.out
  have R6 := fun w => Odd_any a w Fa.out
  have R7 := fun w => rOdd_any a Fa.out w
  generalize cmpV a b = cv at *
  generalize cmpE a b = ce at *
  generalize outP t = P at *
  generalize errP t = i at *
  generalize betV a b = M at *
  generalize betE a b = k at *
  generalize a.valid = va at *
  generalize a.odd = oa at *
  unfold hval at C1 C2 C3 C4 C5 R2 R3 R4 R5 R6 R7 R1
  go_wp2_with (first | ((with_reducible refine (C1 _).mono ?_); rintro e w' ⟨rfl, u, rfl⟩) | ((with_reducible refine (C2 _).mono ?_); rintro e w' ⟨rfl, u, rfl⟩) | ((with_reducible refine (C3 _).mono ?_); rintro e w' ⟨rfl, u, rfl⟩) | ((with_reducible refine (C4 _).mono ?_); rintro e w' ⟨rfl, u, rfl⟩))
  refine (C5 _).mono ?_
  rintro e w' ⟨rfl, u, rfl⟩
  clear C1 C2 C3 C4 C5
  have la := (Xa.out.to (hgu u)).blk.lt
  have na := Nat.ne_of_lt la
  have lb := (Xb.out.to (hgu u)).blk.lt
  have nb := Nat.ne_of_lt lb
  go_wp2_with fail
  have HB3n := hide (below_alloc (below_to HB2.out (Nat.le_refl _) (hgu u)) (Nat.le_refl _) (.cells #[.int .i64 P.n, .string ⟨P.l.toArray⟩, .int .i64 P.num, .int .i64 P.den] 23))
  have HG3n := hide ((HG2.out.to (hgu u)).alloc (.cells #[.int .i64 P.n, .string ⟨P.l.toArray⟩, .int .i64 P.num, .int .i64 P.den] 23))
  have Ya := hide ((Xa.out.to (hgu u)).alloc (.cells #[.int .i64 P.n, .string ⟨P.l.toArray⟩, .int .i64 P.num, .int .i64 P.den] 23))
  have Yb := hide ((Xb.out.to (hgu u)).alloc (.cells #[.int .i64 P.n, .string ⟨P.l.toArray⟩, .int .i64 P.num, .int .i64 P.den] 23))
  have Yx : Hid (HBox ((g u).alloc (.cells #[.int .i64 P.n, .string ⟨P.l.toArray⟩, .int .i64 P.num, .int .i64 P.den] 23)) (g u).heap.size P) := HBox.new (g u) P
  clear na la a0 a1 a2 a3 nb lb b0 b1 b2 b3
  generalize (g u).alloc (.cells #[.int .i64 P.n, .string ⟨P.l.toArray⟩, .int .i64 P.num, .int .i64 P.den] 23) = w3n at *
  generalize (g u).heap.size = B1 at *
  obtain ⟨U3, hU3, g3, u30, rfl, hgu3, hi3⟩ := cls w3n
  obtain ⟨a0, a1, a2, a3⟩ := box_all hgu3 Ya.out
  obtain ⟨b0, b1, b2, b3⟩ := box_all hgu3 Yb.out
  obtain ⟨x0, x1, x2, x3⟩ := box_all hgu3 Yx.out
  refine (cls_call hgu3 hi3 (fun w _ => R1 w) _).mono ?_
  rintro e w' ⟨rfl, u, rfl⟩
  clear R1
  have la := (Ya.out.to (hgu3 u)).blk.lt
  have na := Nat.ne_of_lt la
  have lb := (Yb.out.to (hgu3 u)).blk.lt
  have nb := Nat.ne_of_lt lb
  have lx := (Yx.out.to (hgu3 u)).blk.lt
  have nx := Nat.ne_of_lt lx
  go_wp2_with fail
  have HB4n := hide (below_alloc (below_to HB3n.out (Nat.le_refl _) (hgu3 u)) (Nat.le_refl _) (.cells #[.int .i64 P.n, .string ⟨P.l.toArray⟩, .int .i64 P.num, .int .i64 P.den] 23))
  have HG4n := hide ((HG3n.out.to (hgu3 u)).alloc (.cells #[.int .i64 P.n, .string ⟨P.l.toArray⟩, .int .i64 P.num, .int .i64 P.den] 23))
  have Za := hide ((Ya.out.to (hgu3 u)).alloc (.cells #[.int .i64 P.n, .string ⟨P.l.toArray⟩, .int .i64 P.num, .int .i64 P.den] 23))
  have Zb := hide ((Yb.out.to (hgu3 u)).alloc (.cells #[.int .i64 P.n, .string ⟨P.l.toArray⟩, .int .i64 P.num, .int .i64 P.den] 23))
  have Zx := hide ((Yx.out.to (hgu3 u)).alloc (.cells #[.int .i64 P.n, .string ⟨P.l.toArray⟩, .int .i64 P.num, .int .i64 P.den] 23))
  have Zy : Hid (HBox ((g3 u).alloc (.cells #[.int .i64 P.n, .string ⟨P.l.toArray⟩, .int .i64 P.num, .int .i64 P.den] 23)) (g3 u).heap.size P) := HBox.new (g3 u) P
  clear na la a0 a1 a2 a3 nb lb b0 b1 b2 b3 nx lx x0 x1 x2 x3
  generalize (g3 u).alloc (.cells #[.int .i64 P.n, .string ⟨P.l.toArray⟩, .int .i64 P.num, .int .i64 P.den] 23) = w4n at *
  generalize (g3 u).heap.size = B2 at *
  obtain ⟨U4, hU4, g4, u40, rfl, hgu4, hi4⟩ := cls w4n
  obtain ⟨a0, a1, a2, a3⟩ := box_all hgu4 Za.out
  obtain ⟨b0, b1, b2, b3⟩ := box_all hgu4 Zb.out
  obtain ⟨x0, x1, x2, x3⟩ := box_all hgu4 Zx.out
  obtain ⟨y0, y1, y2, y3⟩ := box_all hgu4 Zy.out
  refine (cls_call hgu4 hi4 (fun w _ => R2 w) _).mono ?_
  rintro e w' ⟨rfl, u, rfl⟩
  clear R2
  have la := (Za.out.to (hgu4 u)).blk.lt
  have na := Nat.ne_of_lt la
  have lb := (Zb.out.to (hgu4 u)).blk.lt
  have nb := Nat.ne_of_lt lb
  have lx := (Zx.out.to (hgu4 u)).blk.lt
  have nx := Nat.ne_of_lt lx
  have ly := (Zy.out.to (hgu4 u)).blk.lt
  have ny := Nat.ne_of_lt ly
  go_wp2_with fail
  have HB5n := hide (below_alloc (below_to HB4n.out (Nat.le_refl _) (hgu4 u)) (Nat.le_refl _) (.cells #[.int .i64 M.n, .string ⟨M.l.toArray⟩, .int .i64 M.num, .int .i64 M.den] 23))
  have HG5n := hide ((HG4n.out.to (hgu4 u)).alloc (.cells #[.int .i64 M.n, .string ⟨M.l.toArray⟩, .int .i64 M.num, .int .i64 M.den] 23))
  have Ua := hide ((Za.out.to (hgu4 u)).alloc (.cells #[.int .i64 M.n, .string ⟨M.l.toArray⟩, .int .i64 M.num, .int .i64 M.den] 23))
  have Ub := hide ((Zb.out.to (hgu4 u)).alloc (.cells #[.int .i64 M.n, .string ⟨M.l.toArray⟩, .int .i64 M.num, .int .i64 M.den] 23))
  have Ux := hide ((Zx.out.to (hgu4 u)).alloc (.cells #[.int .i64 M.n, .string ⟨M.l.toArray⟩, .int .i64 M.num, .int .i64 M.den] 23))
  have Uy := hide ((Zy.out.to (hgu4 u)).alloc (.cells #[.int .i64 M.n, .string ⟨M.l.toArray⟩, .int .i64 M.num, .int .i64 M.den] 23))
  have Um : Hid (HBox ((g4 u).alloc (.cells #[.int .i64 M.n, .string ⟨M.l.toArray⟩, .int .i64 M.num, .int .i64 M.den] 23)) (g4 u).heap.size M) := HBox.new (g4 u) M
  clear na la a0 a1 a2 a3 nb lb b0 b1 b2 b3 nx lx x0 x1 x2 x3 ny ly y0 y1 y2 y3
  generalize (g4 u).alloc (.cells #[.int .i64 M.n, .string ⟨M.l.toArray⟩, .int .i64 M.num, .int .i64 M.den] 23) = w5n at *
  generalize (g4 u).heap.size = B3 at *
  obtain ⟨U5, hU5, g5, u50, rfl, hgu5, hi5⟩ := cls w5n
  obtain ⟨a0, a1, a2, a3⟩ := box_all hgu5 Ua.out
  obtain ⟨b0, b1, b2, b3⟩ := box_all hgu5 Ub.out
  obtain ⟨x0, x1, x2, x3⟩ := box_all hgu5 Ux.out
  obtain ⟨y0, y1, y2, y3⟩ := box_all hgu5 Uy.out
  obtain ⟨m0, m1, m2, m3⟩ := box_all hgu5 Um.out
  refine (cls_call hgu5 hi5 (fun w _ => R3 w) _).mono ?_
  rintro e w' ⟨rfl, u, rfl⟩
  clear R3
  have la := (Ua.out.to (hgu5 u)).blk.lt
  have na := Nat.ne_of_lt la
  have lb := (Ub.out.to (hgu5 u)).blk.lt
  have nb := Nat.ne_of_lt lb
  have lx := (Ux.out.to (hgu5 u)).blk.lt
  have nx := Nat.ne_of_lt lx
  have ly := (Uy.out.to (hgu5 u)).blk.lt
  have ny := Nat.ne_of_lt ly
  have lm := (Um.out.to (hgu5 u)).blk.lt
  have nm := Nat.ne_of_lt lm
  go_wp2_with fail
  have HB6n := hide (below_alloc (below_to HB5n.out (Nat.le_refl _) (hgu5 u)) (Nat.le_refl _) (.cells #[.int .i64 M.n, .string ⟨M.l.toArray⟩, .int .i64 M.num, .int .i64 M.den] 23))
  have HG6n := hide ((HG5n.out.to (hgu5 u)).alloc (.cells #[.int .i64 M.n, .string ⟨M.l.toArray⟩, .int .i64 M.num, .int .i64 M.den] 23))
  have Va := hide ((Ua.out.to (hgu5 u)).alloc (.cells #[.int .i64 M.n, .string ⟨M.l.toArray⟩, .int .i64 M.num, .int .i64 M.den] 23))
  have Vb := hide ((Ub.out.to (hgu5 u)).alloc (.cells #[.int .i64 M.n, .string ⟨M.l.toArray⟩, .int .i64 M.num, .int .i64 M.den] 23))
  have Vx := hide ((Ux.out.to (hgu5 u)).alloc (.cells #[.int .i64 M.n, .string ⟨M.l.toArray⟩, .int .i64 M.num, .int .i64 M.den] 23))
  have Vy := hide ((Uy.out.to (hgu5 u)).alloc (.cells #[.int .i64 M.n, .string ⟨M.l.toArray⟩, .int .i64 M.num, .int .i64 M.den] 23))
  have Vm := hide ((Um.out.to (hgu5 u)).alloc (.cells #[.int .i64 M.n, .string ⟨M.l.toArray⟩, .int .i64 M.num, .int .i64 M.den] 23))
  have Vn : Hid (HBox ((g5 u).alloc (.cells #[.int .i64 M.n, .string ⟨M.l.toArray⟩, .int .i64 M.num, .int .i64 M.den] 23)) (g5 u).heap.size M) := HBox.new (g5 u) M
  clear na la a0 a1 a2 a3 nb lb b0 b1 b2 b3 nx lx x0 x1 x2 x3 ny ly y0 y1 y2 y3 nm lm m0 m1 m2 m3
  generalize (g5 u).alloc (.cells #[.int .i64 M.n, .string ⟨M.l.toArray⟩, .int .i64 M.num, .int .i64 M.den] 23) = w6n at *
  generalize (g5 u).heap.size = B4 at *
  obtain ⟨U6, hU6, g6, u60, rfl, hgu6, hi6⟩ := cls w6n
  obtain ⟨a0, a1, a2, a3⟩ := box_all hgu6 Va.out
  obtain ⟨b0, b1, b2, b3⟩ := box_all hgu6 Vb.out
  obtain ⟨x0, x1, x2, x3⟩ := box_all hgu6 Vx.out
  obtain ⟨y0, y1, y2, y3⟩ := box_all hgu6 Vy.out
  obtain ⟨m0, m1, m2, m3⟩ := box_all hgu6 Vm.out
  obtain ⟨n0, n1, n2, n3⟩ := box_all hgu6 Vn.out
  have D4 := cls_call hgu6 hi6 (fun w _ => R4 w)
  have D5 := cls_call hgu6 hi6 (fun w _ => R5 w)
  have D6 := cls_call hgu6 hi6 (fun w _ => R6 w)
  have D7 := cls_call hgu6 hi6 (fun w _ => R7 w)
  have q1 := eql_yes (a := P) (b := P) rfl
  have q2 := eql_yes (a := M) (b := M) rfl
  clear R4 R5 R6 R7
  go_wp2_with fail
  refine wp_region_class g6 (by kernel_rfl) (by kernel_rfl) (hi6 _ (hgu6 _).drew) ?_
  repeat (go_big_quiet_step (first | with_reducible exact D4 _ | with_reducible exact D5 _ | with_reducible exact D6 _ | with_reducible exact D7 _))
  refine wpQuiet_nil ?_
  intro w10 hw10
  obtain ⟨u, rfl⟩ := hw10
  go_wp2_with fail
  go_ret
  exact ⟨ret_bool (by first | rfl | simp), below_to HB6n.out (Nat.le_refl _) (hgu6 _)⟩
end Go.Proofs.YtabphhclnboknaaDoor
