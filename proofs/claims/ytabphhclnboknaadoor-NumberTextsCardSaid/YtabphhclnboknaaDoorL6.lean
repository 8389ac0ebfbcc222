/- Walk of the law NumberTexts. -/
import Derived.Test.YtabphhclnboknaaDoorLC
set_option linter.unusedVariables false
set_option linter.unusedSimpArgs false
namespace Go.Proofs.YtabphhclnboknaaDoor
open Go.RowKit

theorem text_len {h : HN} (hv : h.valid = true) : (textP h).length ≤ 100000 := by
  obtain ⟨h1, h2, h3, h4⟩ := (valid_iff h).1 hv
  obtain ⟨d1, d2, d3, d4, d5⟩ := place_den h4
  simp only at d1 d2 d3 d4 d5
  have e1 := itoa_len (n := h.n) (by omega) h2
  have e2 := itoa_len (n := h.num) d4 (by omega)
  have e3 := itoa_len (n := h.den) d2 (by omega)
  have e4 := letter_size h3
  have e5 : (ByteArray.mk h.l.toArray).size = h.l.length := bs_size h.l
  unfold textP fracP
  split <;> simp <;> omega
theorem outP_text {a : HN} (hv : a.valid = true) : outP (textP a) = a ∧ errP (textP a) = 0 := by
  unfold outP errP
  rw [parse_text hv]
  exact ⟨rfl, rfl⟩
theorem zero_fit : zeroH.fit := fit_of rfl
set_option maxHeartbeats 8000000 in
theorem texts_law (a b : HN) (t : List UInt8) (w : World) (ha : a.fit) (hb : b.fit) (ht : t.length ≤ maxLen) (hg : Glob w) : Calls Tryd.prog 6 #[hval a, hval b, .string (bs t)] w fun e w' => e = .returned (.bool true) ∧ Below w.heap.size w w' := by
  have HT := hide ht
  have hts : (bs t).size ≤ 9223372036854775807 := by rw [bs_size]; unfold maxLen at ht; exact ht
  have has : (ByteArray.mk a.l.toArray).size ≤ 9223372036854775807 := by unfold HN.fit maxLen at ha; exact ha
  have hbs : (ByteArray.mk b.l.toArray).size ≤ 9223372036854775807 := by unfold HN.fit maxLen at hb; exact hb
  clear ht
  have HX := hide (hNew2 w a b)
  have HB := hide (below2 w (.cells #[.int .i64 a.n, .string ⟨a.l.toArray⟩, .int .i64 a.num, .int .i64 a.den] 23) (.cells #[.int .i64 b.n, .string ⟨b.l.toArray⟩, .int .i64 b.num, .int .i64 b.den] 23))
  have HG := hide (glob2 hg (.cells #[.int .i64 a.n, .string ⟨a.l.toArray⟩, .int .i64 a.num, .int .i64 a.den] 23) (.cells #[.int .i64 b.n, .string ⟨b.l.toArray⟩, .int .i64 b.num, .int .i64 b.den] 23))
  have Fa := hide ha
  have Fb := hide hb
  clear ha hb hg
  go_enter Tryd.func6, Tryd.ntmps6
  unfold hval
  go_wp2_with fail
  generalize (w.alloc (.cells #[.int .i64 a.n, .string ⟨a.l.toArray⟩, .int .i64 a.num, .int .i64 a.den] 23)).alloc (.cells #[.int .i64 b.n, .string ⟨b.l.toArray⟩, .int .i64 b.num, .int .i64 b.den] 23) = w1 at *
  refine (head_any _ HG.out).mono ?_
  rintro e w2 ⟨rfl, hb⟩
  have HB2 := hide (below_to HB.out (Nat.le_refl _) hb)
  have HG2 := hide (HG.out.to hb)
  have Xa := hide (HX.out.1.to hb)
  have Xb := hide (HX.out.2.to hb)
  clear hb HX HB HG
  obtain ⟨U, hU, g, u0, rfl, hgu, hi⟩ := cls w2
  obtain ⟨a0, a1, a2, a3⟩ := box_all hgu Xa.out
  obtain ⟨b0, b1, b2, b3⟩ := box_all hgu Xb.out
  have ea : (ByteArray.mk a.l.toArray).size = a.l.length := bs_size a.l
  have eb : (ByteArray.mk b.l.toArray).size = b.l.length := bs_size b.l
  rw [ea] at has
  rw [eb] at hbs
  clear ea eb
  by_cases q1 : 200 < (bs t).size
  · have d1 : decide ((200 : Int) < (((bs t).size : Nat) : Int)) = true := by simp; omega
    go_wp2_with fail
    go_ret
    exact ⟨ret_bool rfl, below_to HB2.out (Nat.le_refl _) (hgu _)⟩
  have d1 : decide ((200 : Int) < (((bs t).size : Nat) : Int)) = false := by simp; omega
  by_cases q2 : 100 < a.l.length
  · have d2 : decide ((100 : Int) < ((a.l.length : Nat) : Int)) = true := by simp; omega
    go_wp2_with fail
    go_ret
    exact ⟨ret_bool rfl, below_to HB2.out (Nat.le_refl _) (hgu _)⟩
  have d2 : decide ((100 : Int) < ((a.l.length : Nat) : Int)) = false := by simp; omega
  by_cases q3 : 100 < b.l.length
  · have d3 : decide ((100 : Int) < ((b.l.length : Nat) : Int)) = true := by simp; omega
    go_wp2_with fail
    go_ret
    exact ⟨ret_bool rfl, below_to HB2.out (Nat.le_refl _) (hgu _)⟩
  have d3 : decide ((100 : Int) < ((b.l.length : Nat) : Int)) = false := by simp; omega
  have HT2 : Hid (t.length ≤ 100000) := by have := bs_size t; simp only [Hid]; omega
  clear q1 q2 q3 has hbs
  have Ta := cls_call hgu hi (fun w hb => Text_any a w Fa.out (HG2.out.to hb))
  have Tb := cls_call hgu hi (fun w hb => Text_any b w Fb.out (HG2.out.to hb))
  have Va := cls_call hgu hi (fun w hb => Valid_any a w Fa.out)
  have PT := cls_call hgu hi (fun w hb => Parse_any t w HT2.out (HG2.out.to hb))
  unfold hval at Ta Tb Va
  cases hva : a.valid
  · rw [hva] at Ta Va
    simp only [Bool.false_eq_true, if_false] at Ta
    have hz : bs [] = ⟨#[]⟩ := rfl
    rw [hz] at Ta
    clear hz hva
    generalize (if b.valid = true then bs (textP b) else bs []) = tb at *
    generalize (if b.valid = true then (0 : Int) else 1) = eb at *
    go_wp2_with (first | ((with_reducible refine (Ta _).mono ?_); rintro e w' ⟨rfl, u, rfl⟩) | ((with_reducible refine (Tb _).mono ?_); rintro e w' ⟨rfl, u, rfl⟩) | ((with_reducible refine (Va _).mono ?_); rintro e w' ⟨rfl, u, rfl⟩))
    rcases outP_cases t with ⟨y1, y2, y3⟩ | ⟨y1, y2⟩
    · have Q1 := hide y1
      have Q3 := hide y3
      rw [y2] at PT
      clear y1 y2 y3
      generalize outP t = y at *
      have Fy := hide (fit_of ((valid_iff y).1 Q1.out).2.2.1)
      unfold hval at PT
      refine (PT _).mono ?_
      rintro e w' ⟨rfl, u, rfl⟩
      go_wp2_with fail
      refine (Text_any y _ Fy.out ((HG2.out.to (hgu u)).alloc _)).mono ?_
      rw [Q1.out, Q3.out]
      simp only [if_true]
      rintro e w7 ⟨rfl, hb⟩
      have HB7 := hide ((below_alloc (below_to HB2.out (Nat.le_refl _) (hgu u)) (Nat.le_refl _) (.cells #[.int .i64 y.n, .string ⟨y.l.toArray⟩, .int .i64 y.num, .int .i64 y.den] 23)).trans (hb.mono (by have := HB2.out.size; have := (hgu u).size; simp; omega)))
      clear hb
      go_wp2_with fail
      go_ret
      exact ⟨ret_bool (by first | rfl | simp), HB7.out⟩
    · rw [y1, y2] at PT
      clear y1 y2
      unfold hval zeroH at PT
      refine (PT _).mono ?_
      rintro e w' ⟨rfl, u, rfl⟩
      go_wp2_with fail
      go_ret
      exact ⟨ret_bool (by first | rfl | simp), below_alloc (below_to HB2.out (Nat.le_refl _) (hgu u)) (Nat.le_refl _) (.cells #[.int .i64 0, .string ⟨#[]⟩, .int .i64 0, .int .i64 0] 23)⟩
  · rw [hva] at Ta Va
    simp only [if_true] at Ta
    have PA := cls_call hgu hi (fun w hb => Parse_any (textP a) w (text_len hva) (HG2.out.to hb))
    obtain ⟨o1, o2⟩ := outP_text hva
    rw [o1, o2] at PA
    clear o1 o2
    unfold hval at PA
    have hne : ∀ w : World, (binOp .neq 23 (.agg #[.int .i64 a.n, .string ⟨a.l.toArray⟩, .int .i64 a.num, .int .i64 a.den]) (.agg #[.int .i64 a.n, .string ⟨a.l.toArray⟩, .int .i64 a.num, .int .i64 a.den])).run Tryd.prog w = .ok (.bool false) w := neq_no rfl
    cases hvb : b.valid
    · rw [hvb] at Tb
      simp only [Bool.false_eq_true, if_false] at Tb
      clear hvb hva
      generalize bs (textP a) = S at *
      go_wp2_with (first | ((with_reducible refine (Ta _).mono ?_); rintro e w' ⟨rfl, u, rfl⟩) | ((with_reducible refine (Tb _).mono ?_); rintro e w' ⟨rfl, u, rfl⟩) | ((with_reducible refine (Va _).mono ?_); rintro e w' ⟨rfl, u, rfl⟩))
      refine (PA _).mono ?_
      rintro e w' ⟨rfl, u, rfl⟩
      have la := (Xa.out.to (hgu u)).blk.lt
      have na := Nat.ne_of_lt la
      have lb := (Xb.out.to (hgu u)).blk.lt
      have nb := Nat.ne_of_lt lb
      go_wp2_with fail
      have HB3n := hide (below_alloc (below_to HB2.out (Nat.le_refl _) (hgu u)) (Nat.le_refl _) (.cells #[.int .i64 a.n, .string ⟨a.l.toArray⟩, .int .i64 a.num, .int .i64 a.den] 23))
      have HG3n := hide ((HG2.out.to (hgu u)).alloc (.cells #[.int .i64 a.n, .string ⟨a.l.toArray⟩, .int .i64 a.num, .int .i64 a.den] 23))
      clear la na lb nb a0 a1 a2 a3 b0 b1 b2 b3 Ta Tb Va PA PT hne
      generalize (g u).alloc (.cells #[.int .i64 a.n, .string ⟨a.l.toArray⟩, .int .i64 a.num, .int .i64 a.den] 23) = w3n at *
      generalize (g u).heap.size = B1 at *
      obtain ⟨U3, hU3, g3, u30, rfl, hgu3, hi3⟩ := cls w3n
      have PT := cls_call hgu3 hi3 (fun w hb => Parse_any t w HT2.out (HG3n.out.to hb))
      rcases outP_cases t with ⟨y1, y2, y3⟩ | ⟨y1, y2⟩
      · have Q1 := hide y1
        have Q3 := hide y3
        rw [y2] at PT
        clear y1 y2 y3
        generalize outP t = y at *
        have Fy := hide (fit_of ((valid_iff y).1 Q1.out).2.2.1)
        unfold hval at PT
        refine (PT _).mono ?_
        rintro e w' ⟨rfl, u, rfl⟩
        go_wp2_with fail
        refine (Text_any y _ Fy.out ((HG3n.out.to (hgu3 u)).alloc _)).mono ?_
        rw [Q1.out, Q3.out]
        simp only [if_true]
        rintro e w7 ⟨rfl, hb⟩
        have HB7 := hide ((below_alloc (below_to HB3n.out (Nat.le_refl _) (hgu3 u)) (Nat.le_refl _) (.cells #[.int .i64 y.n, .string ⟨y.l.toArray⟩, .int .i64 y.num, .int .i64 y.den] 23)).trans (hb.mono (by have := HB3n.out.size; have := (hgu3 u).size; simp; omega)))
        clear hb
        go_wp2_with fail
        go_ret
        exact ⟨ret_bool (by first | rfl | simp), HB7.out⟩
      · rw [y1, y2] at PT
        clear y1 y2
        unfold hval zeroH at PT
        refine (PT _).mono ?_
        rintro e w' ⟨rfl, u, rfl⟩
        go_wp2_with fail
        go_ret
        exact ⟨ret_bool (by first | rfl | simp), below_alloc (below_to HB3n.out (Nat.le_refl _) (hgu3 u)) (Nat.le_refl _) (.cells #[.int .i64 0, .string ⟨#[]⟩, .int .i64 0, .int .i64 0] 23)⟩
    · by_cases hab : a = b
      · have hq : ∀ w : World, (binOp .eql 23 (.agg #[.int .i64 a.n, .string ⟨a.l.toArray⟩, .int .i64 a.num, .int .i64 a.den]) (.agg #[.int .i64 b.n, .string ⟨b.l.toArray⟩, .int .i64 b.num, .int .i64 b.den])).run Tryd.prog w = .ok (.bool true) w := eql_yes hab
        have hst : textP b = textP a := by rw [hab]
        rw [hvb] at Tb
        simp only [if_true] at Tb
        rw [hst] at Tb
        clear hvb hva hab hst
        generalize bs (textP a) = S at *
        go_wp2_with (first | ((with_reducible refine (Ta _).mono ?_); rintro e w' ⟨rfl, u, rfl⟩) | ((with_reducible refine (Tb _).mono ?_); rintro e w' ⟨rfl, u, rfl⟩) | ((with_reducible refine (Va _).mono ?_); rintro e w' ⟨rfl, u, rfl⟩))
        refine (PA _).mono ?_
        rintro e w' ⟨rfl, u, rfl⟩
        have la := (Xa.out.to (hgu u)).blk.lt
        have na := Nat.ne_of_lt la
        have lb := (Xb.out.to (hgu u)).blk.lt
        have nb := Nat.ne_of_lt lb
        go_wp2_with fail
        have HB3n := hide (below_alloc (below_to HB2.out (Nat.le_refl _) (hgu u)) (Nat.le_refl _) (.cells #[.int .i64 a.n, .string ⟨a.l.toArray⟩, .int .i64 a.num, .int .i64 a.den] 23))
        have HG3n := hide ((HG2.out.to (hgu u)).alloc (.cells #[.int .i64 a.n, .string ⟨a.l.toArray⟩, .int .i64 a.num, .int .i64 a.den] 23))
        clear la na lb nb a0 a1 a2 a3 b0 b1 b2 b3 Ta Tb Va PA PT hne
        generalize (g u).alloc (.cells #[.int .i64 a.n, .string ⟨a.l.toArray⟩, .int .i64 a.num, .int .i64 a.den] 23) = w3n at *
        generalize (g u).heap.size = B1 at *
        obtain ⟨U3, hU3, g3, u30, rfl, hgu3, hi3⟩ := cls w3n
        have PT := cls_call hgu3 hi3 (fun w hb => Parse_any t w HT2.out (HG3n.out.to hb))
        rcases outP_cases t with ⟨y1, y2, y3⟩ | ⟨y1, y2⟩
        · have Q1 := hide y1
          have Q3 := hide y3
          rw [y2] at PT
          clear y1 y2 y3
          generalize outP t = y at *
          have Fy := hide (fit_of ((valid_iff y).1 Q1.out).2.2.1)
          unfold hval at PT
          refine (PT _).mono ?_
          rintro e w' ⟨rfl, u, rfl⟩
          go_wp2_with fail
          refine (Text_any y _ Fy.out ((HG3n.out.to (hgu3 u)).alloc _)).mono ?_
          rw [Q1.out, Q3.out]
          simp only [if_true]
          rintro e w7 ⟨rfl, hb⟩
          have HB7 := hide ((below_alloc (below_to HB3n.out (Nat.le_refl _) (hgu3 u)) (Nat.le_refl _) (.cells #[.int .i64 y.n, .string ⟨y.l.toArray⟩, .int .i64 y.num, .int .i64 y.den] 23)).trans (hb.mono (by have := HB3n.out.size; have := (hgu3 u).size; simp; omega)))
          clear hb
          go_wp2_with fail
          go_ret
          exact ⟨ret_bool (by first | rfl | simp), HB7.out⟩
        · rw [y1, y2] at PT
          clear y1 y2
          unfold hval zeroH at PT
          refine (PT _).mono ?_
          rintro e w' ⟨rfl, u, rfl⟩
          go_wp2_with fail
          go_ret
          exact ⟨ret_bool (by first | rfl | simp), below_alloc (below_to HB3n.out (Nat.le_refl _) (hgu3 u)) (Nat.le_refl _) (.cells #[.int .i64 0, .string ⟨#[]⟩, .int .i64 0, .int .i64 0] 23)⟩
      · have hq : ∀ w : World, (binOp .eql 23 (.agg #[.int .i64 a.n, .string ⟨a.l.toArray⟩, .int .i64 a.num, .int .i64 a.den]) (.agg #[.int .i64 b.n, .string ⟨b.l.toArray⟩, .int .i64 b.num, .int .i64 b.den])).run Tryd.prog w = .ok (.bool false) w := eql_no hab
        have hst : ((bs (textP a)).toList == (bs (textP b)).toList) = false := by rw [ByteArray.toList_eq, ByteArray.toList_eq, bs_list, bs_list]; simpa using fun h => hab (text_inj hva hvb h)
        rw [hvb] at Tb
        simp only [if_true] at Tb
        clear hvb hva hab
        generalize bs (textP a) = S at *
        generalize bs (textP b) = S2 at *
        go_wp2_with (first | ((with_reducible refine (Ta _).mono ?_); rintro e w' ⟨rfl, u, rfl⟩) | ((with_reducible refine (Tb _).mono ?_); rintro e w' ⟨rfl, u, rfl⟩) | ((with_reducible refine (Va _).mono ?_); rintro e w' ⟨rfl, u, rfl⟩))
        refine (PA _).mono ?_
        rintro e w' ⟨rfl, u, rfl⟩
        have la := (Xa.out.to (hgu u)).blk.lt
        have na := Nat.ne_of_lt la
        have lb := (Xb.out.to (hgu u)).blk.lt
        have nb := Nat.ne_of_lt lb
        go_wp2_with fail
        have HB3n := hide (below_alloc (below_to HB2.out (Nat.le_refl _) (hgu u)) (Nat.le_refl _) (.cells #[.int .i64 a.n, .string ⟨a.l.toArray⟩, .int .i64 a.num, .int .i64 a.den] 23))
        have HG3n := hide ((HG2.out.to (hgu u)).alloc (.cells #[.int .i64 a.n, .string ⟨a.l.toArray⟩, .int .i64 a.num, .int .i64 a.den] 23))
        clear la na lb nb a0 a1 a2 a3 b0 b1 b2 b3 Ta Tb Va PA PT hne
        generalize (g u).alloc (.cells #[.int .i64 a.n, .string ⟨a.l.toArray⟩, .int .i64 a.num, .int .i64 a.den] 23) = w3n at *
        generalize (g u).heap.size = B1 at *
        obtain ⟨U3, hU3, g3, u30, rfl, hgu3, hi3⟩ := cls w3n
        have PT := cls_call hgu3 hi3 (fun w hb => Parse_any t w HT2.out (HG3n.out.to hb))
        rcases outP_cases t with ⟨y1, y2, y3⟩ | ⟨y1, y2⟩
        · have Q1 := hide y1
          have Q3 := hide y3
          rw [y2] at PT
          clear y1 y2 y3
          generalize outP t = y at *
          have Fy := hide (fit_of ((valid_iff y).1 Q1.out).2.2.1)
          unfold hval at PT
          refine (PT _).mono ?_
          rintro e w' ⟨rfl, u, rfl⟩
          go_wp2_with fail
          refine (Text_any y _ Fy.out ((HG3n.out.to (hgu3 u)).alloc _)).mono ?_
          rw [Q1.out, Q3.out]
          simp only [if_true]
          rintro e w7 ⟨rfl, hb⟩
          have HB7 := hide ((below_alloc (below_to HB3n.out (Nat.le_refl _) (hgu3 u)) (Nat.le_refl _) (.cells #[.int .i64 y.n, .string ⟨y.l.toArray⟩, .int .i64 y.num, .int .i64 y.den] 23)).trans (hb.mono (by have := HB3n.out.size; have := (hgu3 u).size; simp; omega)))
          clear hb
          go_wp2_with fail
          go_ret
          exact ⟨ret_bool (by first | rfl | simp), HB7.out⟩
        · rw [y1, y2] at PT
          clear y1 y2
          unfold hval zeroH at PT
          refine (PT _).mono ?_
          rintro e w' ⟨rfl, u, rfl⟩
          go_wp2_with fail
          go_ret
          exact ⟨ret_bool (by first | rfl | simp), below_alloc (below_to HB3n.out (Nat.le_refl _) (hgu3 u)) (Nat.le_refl _) (.cells #[.int .i64 0, .string ⟨#[]⟩, .int .i64 0, .int .i64 0] 23)⟩
end Go.Proofs.YtabphhclnboknaaDoor
