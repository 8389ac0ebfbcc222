/- Walks of the law's helpers: of, less, group, between. -/
import Derived.Test.YtabphhclnboknaaDoorW9
set_option linter.unusedVariables false
set_option linter.unusedSimpArgs false
namespace Go.Proofs.YtabphhclnboknaaDoor
open Go.RowKit

theorem parse_fit {t : List UInt8} (h : (outP t).valid = true ∨ outP t = zeroH) : (outP t).fit := by
  rcases h with h | h
  · have := letter_size ((valid_iff _).1 h).2.2.1
    unfold HN.fit maxLen; omega
  · rw [h]; unfold HN.fit zeroH maxLen; decide
theorem outP_cases (t : List UInt8) : ((outP t).valid = true ∧ errP t = 0 ∧ textP (outP t) = t) ∨ (outP t = zeroH ∧ errP t = 5) := by
  unfold outP errP
  cases h : parseP t with
  | none => exact .inr ⟨rfl, rfl⟩
  | some a => exact .inl ⟨(parse_some h).1, rfl, (parse_some h).2⟩
theorem outP_fit (t : List UInt8) : (outP t).fit := by
  rcases outP_cases t with h | h
  · exact parse_fit (.inl h.1)
  · exact parse_fit (.inr h.1)
set_option maxHeartbeats 2000000 in
theorem of_any (t : List UInt8) (w : World) (ht : t.length ≤ 100000) (hg : Glob w) : Calls Tryd.prog 25 #[.string (bs t)] w fun e w' => e = .returned (hval (outP t)) ∧ Below w.heap.size w w' := by
  have HR0 := hide (HBox.new w ⟨0, [], 0, 0⟩)
  have HB0 := hide ((Below.refl w.heap.size w).alloc (Nat.le_refl _) (.cells #[.int .i64 0, .string ⟨#[]⟩, .int .i64 0, .int .i64 0] 23))
  go_enter Tryd.func25, Tryd.ntmps25
  go_wp2_with fail
  refine (Parse_any t _ ht (hg.alloc _)).mono ?_
  rintro e w1 ⟨rfl, hb⟩
  have HB1 := hide (HB0.out.trans (hb.mono HB0.out.size))
  have HR1 := hide (HR0.out.below hb (by simp))
  have HS1 : Hid (w.heap.size < w1.heap.size) := by have := hb.size; simp at this; exact this
  clear hb HB0 HR0
  obtain ⟨x, HX⟩ : ∃ x, Hid (outP t = x) := ⟨_, rfl⟩
  rw [HX.out]
  have hlt := HS1.out
  have hne : w.heap.size ≠ w1.heap.size := by omega
  obtain ⟨y0, y1, y2, y3⟩ := HR1.out.facts
  have f0 := HR1.out.blk.frozen 0
  have f1 := HR1.out.blk.frozen 1
  have f2 := HR1.out.blk.frozen 2
  have f3 := HR1.out.blk.frozen 3
  unfold hval
  go_wp2_with fail
  have HZ := hide (HBox.mk (((((HR1.out.blk.set_ 0 (.int .i64 x.n)).set_ 1 (.string ⟨x.l.toArray⟩)).set_ 2 (.int .i64 x.num)).set_ 3 (.int .i64 x.den)).alloc (.cells #[.int .i64 x.n, .string ⟨x.l.toArray⟩, .int .i64 x.num, .int .i64 x.den] 23)) : HBox _ _ ⟨x.n, x.l, x.num, x.den⟩)
  have HW := hide (((((HB1.out.setCell (p := ⟨w.heap.size, 0, none⟩) (Nat.le_refl _) (.int .i64 x.n)).setCell (p := ⟨w.heap.size, 1, none⟩) (Nat.le_refl _) (.string ⟨x.l.toArray⟩)).setCell (p := ⟨w.heap.size, 2, none⟩) (Nat.le_refl _) (.int .i64 x.num)).setCell (p := ⟨w.heap.size, 3, none⟩) (Nat.le_refl _) (.int .i64 x.den)).alloc (by have := HS1.out; simp; omega) (.cells #[.int .i64 x.n, .string ⟨x.l.toArray⟩, .int .i64 x.num, .int .i64 x.den] 23))
  generalize ((((w1.setCell ⟨w.heap.size, 0, none⟩ (.int .i64 x.n)).setCell ⟨w.heap.size, 1, none⟩ (.string ⟨x.l.toArray⟩)).setCell ⟨w.heap.size, 2, none⟩ (.int .i64 x.num)).setCell ⟨w.heap.size, 3, none⟩ (.int .i64 x.den)).alloc (.cells #[.int .i64 x.n, .string ⟨x.l.toArray⟩, .int .i64 x.num, .int .i64 x.den] 23) = w8 at *
  refine bodyPost_ret (results_cell1 rfl _ _ w.heap.size 23 _ _ rfl HZ.out.blk Tryd.underlying23 rfl (by kernel_rfl)) rfl ?_
  refine ⟨?_, HW.out⟩
  rw [HX.out]; rfl
set_option maxHeartbeats 2000000 in
theorem less_any (a b : HN) (w : World) (ha : a.fit) (hb : b.fit) : Calls Tryd.prog 23 #[hval a, hval b] w fun e w' => e = .returned (.bool (a.lt b)) ∧ Below w.heap.size w w' := by
  have HLA := hide ha
  have HLB := hide hb
  have HN2 := hide (hNew2 w a b)
  have HB2 := hide (((Below.refl w.heap.size w).alloc (Nat.le_refl _) (.cells #[.int .i64 a.n, .string ⟨a.l.toArray⟩, .int .i64 a.num, .int .i64 a.den] 23)).alloc (by simp) (.cells #[.int .i64 b.n, .string ⟨b.l.toArray⟩, .int .i64 b.num, .int .i64 b.den] 23))
  have HC := hide (cmp_lt a b)
  clear ha hb
  go_enter Tryd.func23, Tryd.ntmps23
  unfold hval
  go_wp2_with fail
  refine (Compare_any a b _ HLA.out HLB.out).mono ?_
  rintro e w1 ⟨rfl, hb⟩
  have HB3 := hide (HB2.out.trans (hb.mono HB2.out.size))
  clear hb HB2 HN2
  generalize cmpE a b = ce at *
  generalize cmpV a b = cv at *
  by_cases hce : ce = 0
  · rw [hce] at HC ⊢
    by_cases hcv : cv < 0
    · go_wp2_with fail
      go_ret
      exact ⟨ret_bool (by rw [← HC.out]; simp [hcv]), HB3.out⟩
    · go_wp2_with fail
      go_ret
      exact ⟨ret_bool (by rw [← HC.out]; simp [hcv]), HB3.out⟩
  · have hne : (ce == 0) = false := by simpa using hce
    have HQ := hide hce
    clear hce
    go_wp2_with fail
    go_ret
    exact ⟨ret_bool (by rw [← HC.out]; simp [HQ.out]), HB3.out⟩
set_option maxHeartbeats 2000000 in
theorem group_any (a : HN) (w : World) : Calls Tryd.prog 24 #[hval a] w fun e w' => e = .returned (.int .i64 (group a)) ∧ Below w.heap.size w w' := by
  have HB0 := hide ((Below.refl w.heap.size w).alloc (Nat.le_refl _) (.cells #[.int .i64 a.n, .string ⟨a.l.toArray⟩, .int .i64 a.num, .int .i64 a.den] 23))
  by_cases hl0 : a.l = [] <;> by_cases hd : a.den = 0
  all_goals
    have HV : Hid (group a = (if a.l = [] then (if a.den = 0 then 0 else 2) else (if a.den = 0 then 1 else 3))) := rfl
    have hde : (a.den == 0) = decide (a.den = 0) := rfl
    have HD := hide hd
    have H0 := hide hl0
  · have he2 : a.l.isEmpty = true := by simpa using hl0
    have hd2 : (a.den == 0) = true := by simpa using hd
    clear hl0 hd hde
    go_enter Tryd.func24, Tryd.ntmps24
    unfold hval
    go_wp2_with fail
    go_ret
    exact ⟨ret_int (by rw [HV.out, if_pos H0.out, if_pos HD.out]), HB0.out⟩
  · have he2 : a.l.isEmpty = true := by simpa using hl0
    have hd2 : (a.den == 0) = false := by simpa using hd
    clear hl0 hd hde
    go_enter Tryd.func24, Tryd.ntmps24
    unfold hval
    go_wp2_with fail
    go_ret
    exact ⟨ret_int (by rw [HV.out, if_pos H0.out, if_neg HD.out]), HB0.out⟩
  · have he2 : a.l.isEmpty = false := by simpa using hl0
    have hd2 : (a.den == 0) = true := by simpa using hd
    clear hl0 hd hde
    go_enter Tryd.func24, Tryd.ntmps24
    unfold hval
    go_wp2_with fail
    go_ret
    exact ⟨ret_int (by rw [HV.out, if_neg H0.out, if_pos HD.out]), HB0.out⟩
  · have he2 : a.l.isEmpty = false := by simpa using hl0
    have hd2 : (a.den == 0) = false := by simpa using hd
    clear hl0 hd hde
    go_enter Tryd.func24, Tryd.ntmps24
    unfold hval
    go_wp2_with fail
    go_ret
    exact ⟨ret_int (by rw [HV.out, if_neg H0.out, if_neg HD.out]), HB0.out⟩

/-- what the law's between returns -/
def betT (a b text : List UInt8) : Bool := if text = [] then decide (betE (outP a) (outP b) = 10) && decide (betV (outP a) (outP b) = zeroH) else
  decide (betE (outP a) (outP b) = 0) && ((betV (outP a) (outP b)).valid && decide (textP (betV (outP a) (outP b)) = text))
theorem betV_fit {a b : HN} (ha : a.fit) : (betV a b).fit := by
  have hz : zeroH.fit := by unfold HN.fit zeroH maxLen; decide
  unfold betV
  cases h : a.lt b
  · exact hz
  · have hv := ((lt_iff a b).1 h).1
    simp only [if_true]
    unfold between
    (repeat' split) <;> first | exact gs_fit (i := 0) hv | exact gs_fit (i := 1) hv | exact gs_fit (i := 2) hv | exact gs_fit (i := 3) hv | exact hz
set_option maxHeartbeats 2000000 in
theorem between_any (a b text : List UInt8) (w : World) (ha : a.length ≤ 100000) (hb : b.length ≤ 100000) (hg : Glob w) (htx : text ≠ []) : Calls Tryd.prog 26 #[.string (bs a), .string (bs b), .string (bs text)] w fun e w' => e = .returned (.bool (betT a b text)) ∧ Below w.heap.size w w' := by
  have HLA := hide ha
  have HLB := hide hb
  clear ha hb
  have HFA := hide (outP_fit a)
  have HFB := hide (outP_fit b)
  have HFV := hide (betV_fit (b := outP b) (outP_fit a))
  obtain ⟨v, HV⟩ : ∃ v, Hid (betV (outP a) (outP b) = v) := ⟨_, rfl⟩
  obtain ⟨ev, HE⟩ : ∃ v, Hid (betE (outP a) (outP b) = v) := ⟨_, rfl⟩
  have HT : Hid (betT a b text = (decide (ev = 0) && (v.valid && decide (textP v = text)))) := by
    show _ = _
    unfold betT; rw [if_neg htx, HV.out, HE.out]
  have hte : (bs text).toList.isEmpty = false := by rw [ByteArray.toList_eq, bs_list]; simpa using htx
  clear htx
  go_enter Tryd.func26, Tryd.ntmps26
  go_wp2_with fail
  refine (of_any a _ HLA.out hg).mono ?_
  rintro e w1 ⟨rfl, hb⟩
  have HB1 := hide hb
  have HG1 := hide (hg.below hb (Nat.le_refl _))
  clear hb hg
  go_wp2_with fail
  refine (of_any b _ HLB.out HG1.out).mono ?_
  rintro e w2 ⟨rfl, hb⟩
  have HB2 := hide (HB1.out.trans (hb.mono HB1.out.size))
  have HG2 := hide (HG1.out.below hb (Nat.le_refl _))
  clear hb HG1 HB1
  go_wp2_with fail
  refine (Between_any _ _ _ HFA.out HFB.out).mono ?_
  rintro e w3 ⟨rfl, hb⟩
  have HB3 := hide (HB2.out.trans (hb.mono HB2.out.size))
  have HG3 := hide (HG2.out.below hb (Nat.le_refl _))
  clear hb HG2 HB2
  rw [HV.out, HE.out]
  rw [HV.out] at HFV
  unfold hval
  go_wp2_with fail
  refine (Text_any v _ HFV.out (HG3.out.alloc _)).mono ?_
  rintro e w4 ⟨rfl, hb⟩
  have HB4 := hide ((HB3.out.alloc HB3.out.size (.cells #[.int .i64 v.n, .string ⟨v.l.toArray⟩, .int .i64 v.num, .int .i64 v.den] 23)).trans (hb.mono (by have := HB3.out.size; simp; omega)))
  clear hb HG3 HB3
  by_cases hev : ev = 0
  · cases hvv : v.valid
    · have HQ := hide hvv
      have HQ2 := hide hev
      simp only [Bool.false_eq_true, if_false]
      rw [hev]
      clear hvv hev
      go_wp2_with fail
      go_ret
      exact ⟨ret_bool (by rw [HT.out, HQ.out, HQ2.out]; rfl), HB4.out⟩
    · have HQ := hide hvv
      have HQ2 := hide hev
      simp only [if_true]
      rw [hev]
      by_cases htt : textP v = text
      · have HQ3 := hide htt
        rw [htt]
        clear hvv hev htt
        go_wp2_with fail
        go_ret
        exact ⟨ret_bool (by rw [HT.out, HQ.out, HQ2.out, HQ3.out]; simp), HB4.out⟩
      · have HQ3 := hide htt
        have hnb : ((bs (textP v)).toList == (bs text).toList) = false := by rw [ByteArray.toList_eq, ByteArray.toList_eq, bs_list, bs_list]; simpa using htt
        clear hvv hev htt
        go_wp2_with fail
        go_ret
        exact ⟨ret_bool (by rw [HT.out, HQ.out, HQ2.out]; simp [HQ3.out]), HB4.out⟩
  · have HQ2 := hide hev
    have hne : (ev == 0) = false := by simpa using hev
    clear hev
    go_wp2_with fail
    all_goals
      go_ret
      exact ⟨ret_bool (by rw [HT.out]; simp [HQ2.out]), HB4.out⟩
theorem between0_any (a b : List UInt8) (w : World) (ha : a.length ≤ 100000) (hb : b.length ≤ 100000) (hg : Glob w) (hv : betV (outP a) (outP b) = zeroH) (hE : betE (outP a) (outP b) = 10) : Calls Tryd.prog 26 #[.string (bs a), .string (bs b), .string (bs [])] w fun e w' => e = .returned (.bool true) ∧ Below w.heap.size w w' := by
  have HLA := hide ha
  have HLB := hide hb
  have HV := hide hv
  have HE := hide hE
  have hte : (bs []).toList.isEmpty = true := by rw [ByteArray.toList_eq, bs_list]; rfl
  clear ha hb hv hE
  have HFA := hide (outP_fit a)
  have HFB := hide (outP_fit b)
  go_enter Tryd.func26, Tryd.ntmps26
  go_wp2_with fail
  refine (of_any a _ HLA.out hg).mono ?_
  rintro e w1 ⟨rfl, hb⟩
  have HB1 := hide hb
  have HG1 := hide (hg.below hb (Nat.le_refl _))
  clear hb hg
  go_wp2_with fail
  refine (of_any b _ HLB.out HG1.out).mono ?_
  rintro e w2 ⟨rfl, hb⟩
  have HB2 := hide (HB1.out.trans (hb.mono HB1.out.size))
  have HG2 := hide (HG1.out.below hb (Nat.le_refl _))
  clear hb HG1 HB1
  go_wp2_with fail
  refine (Between_any _ _ _ HFA.out HFB.out).mono ?_
  rintro e w3 ⟨rfl, hb⟩
  have HB3 := hide (HB2.out.trans (hb.mono HB2.out.size))
  clear hb HG2 HB2
  rw [HV.out, HE.out]
  unfold hval zeroH
  go_wp2_with fail
  go_ret
  exact ⟨ret_bool rfl, HB3.out.alloc HB3.out.size _⟩
end Go.Proofs.YtabphhclnboknaaDoor
