/- Walks of the statements: PrivacyChanged. -/
import Derived.Test.YtdiebacfbhjbdaaGreatDoorO5
set_option linter.unusedVariables false
set_option linter.unusedSimpArgs false
namespace Go.Proofs.YtdiebacfbhjbdaaGreatDoor
open Go.RowKit

theorem join4 {a b c d : List UInt8} (ha : a.length ≤ 100000000000) (hb : b.length ≤ 100000000000) (hc : c.length ≤ 100000000000) (hd : d.length ≤ 100000000000) : (joinD [a, b, c, d]).length ≤ 140737488355328 := by
  have := join_len [a, b, c, d] (fun l hl => by
    simp only [List.mem_cons, List.not_mem_nil, or_false] at hl
    rcases hl with rfl | rfl | rfl | rfl <;> omega)
  simp only [List.map_cons, List.map_nil, List.sum_cons, List.sum_nil, List.length_cons, List.length_nil] at this
  omega
theorem few_one {a b : Ln} (h : fewG [a, b] = true) : (a.p.length ≤ 500 ∧ a.t.length ≤ 500 ∧ a.s.length ≤ 500 ∧ a.d.length ≤ 500) ∧ b.p.length ≤ 500 ∧ b.t.length ≤ 500 ∧ b.s.length ≤ 500 ∧ b.d.length ≤ 500 := by
  unfold fewG smL at h
  simp at h
  omega
theorem List4 {x : Ln} (h : x.p.length ≤ 500 ∧ x.t.length ≤ 500 ∧ x.s.length ≤ 500 ∧ x.d.length ≤ 500) (b : Nat) (w : World) (hS : Blk w b 9 #[.string ⟨#[108, 105, 110, 101]⟩, .string (bs x.p), .string (bs x.t), .string (bs x.s)]) (hg : Glob w) :
    Calls Tryz.prog 20 #[.slice (some ⟨b, 0, none⟩) 4 4] w fun e w' => e = .returned (.string (bs (listD [lineT, x.p, x.t, x.s]))) ∧ Below w.heap.size w w' :=
  List_any [lineT, x.p, x.t, x.s] b _ w hS (by simp) (join4 (by decide) (by omega) (by omega) (by omega)) hg
set_option maxRecDepth 100000 in
set_option maxHeartbeats 8000000 in
theorem changed_law (a b : Ln) (w : World) (hg : Glob w) :
    Calls Tryz.prog 7 #[.agg #[.string (bs a.p), .string (bs a.t), .string (bs a.s), .string (bs a.d)], .agg #[.string (bs b.p), .string (bs b.t), .string (bs b.s), .string (bs b.d)]] w fun e w' => e = .returned (.bool true) ∧ Below w.heap.size w w' := by
  have HG := hide hg
  have HB0 := hide (below_two w (.cells #[.string (bs a.p), .string (bs a.t), .string (bs a.s), .string (bs a.d)] 32) (.cells #[.string (bs b.p), .string (bs b.t), .string (bs b.s), .string (bs b.d)] 32))
  have KA0 := hide ((Blk.new w 32 #[.string (bs a.p), .string (bs a.t), .string (bs a.s), .string (bs a.d)]).alloc (.cells #[.string (bs b.p), .string (bs b.t), .string (bs b.s), .string (bs b.d)] 32))
  have KB0 : Hid (Blk ((w.alloc (.cells #[.string (bs a.p), .string (bs a.t), .string (bs a.s), .string (bs a.d)] 32)).alloc (.cells #[.string (bs b.p), .string (bs b.t), .string (bs b.s), .string (bs b.d)] 32)) (w.heap.size + 1) 32 #[.string (bs b.p), .string (bs b.t), .string (bs b.s), .string (bs b.d)]) := by
    have := Blk.new (w.alloc (.cells #[.string (bs a.p), .string (bs a.t), .string (bs a.s), .string (bs a.d)] 32)) 32 #[.string (bs b.p), .string (bs b.t), .string (bs b.s), .string (bs b.d)]
    rw [show (w.alloc (.cells #[.string (bs a.p), .string (bs a.t), .string (bs a.s), .string (bs a.d)] 32)).heap.size = w.heap.size + 1 by simp] at this
    exact this
  clear hg
  go_enter Tryz.func7, Tryz.ntmps7
  go_wp2_with fail
  have C1 := head_any _ (HG.out.to HB0.out)
  refine C1.mono ?_
  rintro e w1 ⟨rfl, hb⟩
  have HB1 := hide (below_to HB0.out (Nat.le_refl _) hb)
  have KA1 := hide (KA0.out.to hb)
  have KB1 := hide (KB0.out.to hb)
  clear hb C1 HB0 KA0 KB0
  have xKA_0 := (KA1.out.cell 0).trans rfl
  have xKA_1 := (KA1.out.cell 1).trans rfl
  have xKA_2 := (KA1.out.cell 2).trans rfl
  have xKA_3 := (KA1.out.cell 3).trans rfl
  have fKA := fun i => KA1.out.frozen i
  have ltKA := KA1.out.lt
  have neKA := Nat.ne_of_lt ltKA
  have xKB_0 := (KB1.out.cell 0).trans rfl
  have xKB_1 := (KB1.out.cell 1).trans rfl
  have xKB_2 := (KB1.out.cell 2).trans rfl
  have xKB_3 := (KB1.out.cell 3).trans rfl
  have fKB := fun i => KB1.out.frozen i
  have ltKB := KB1.out.lt
  have neKB := Nat.ne_of_lt ltKB
  go_wp2_with fail
  clear xKA_0 xKA_1 xKA_2 xKA_3 xKB_0 xKB_1 xKB_2 xKB_3 fKA ltKA neKA fKB ltKB neKB
  have HB2 := hide (below_alloc HB1.out (Nat.le_refl _) (.cells #[.string (bs a.p), .string (bs a.t), .string (bs a.s), .string (bs a.d), .string (bs b.p), .string (bs b.t), .string (bs b.s), .string (bs b.d)] 32))
  have KA2 := hide (KA1.out.to (below_one w1 (.cells #[.string (bs a.p), .string (bs a.t), .string (bs a.s), .string (bs a.d), .string (bs b.p), .string (bs b.t), .string (bs b.s), .string (bs b.d)] 32)))
  have KB2 := hide (KB1.out.to (below_one w1 (.cells #[.string (bs a.p), .string (bs a.t), .string (bs a.s), .string (bs a.d), .string (bs b.p), .string (bs b.t), .string (bs b.s), .string (bs b.d)] 32)))
  clear HB1 KA1 KB1
  have CF := few_any [a, b] (by show 2 ≤ _; decide) [] (by decide) (.slice (some ⟨w1.heap.size, 0, none⟩) 2 2) (.slice none 0 0) _ (rows_new w1 4 32 ([a, b].map lnV) (by simp [lnV]) _ rfl 2 rfl) (RowsAt.nil _ _)
  rw [show shT [] = true from rfl, Bool.true_and] at CF
  cases hfew : fewG [a, b] with
  | false =>
    rw [hfew] at CF
    clear hfew
    have C3 := CF
    refine C3.mono ?_
    rintro e w3 ⟨rfl, hb⟩
    have HB3 := hide (below_to HB2.out (Nat.le_refl _) hb)
    have KA3 := hide (KA2.out.to hb)
    have KB3 := hide (KB2.out.to hb)
    clear hb C3 HB2 KA2 KB2
    go_wp2_with fail
    go_ret
    exact ⟨rfl, HB3.out⟩
  | true =>
    rw [hfew] at CF
    have HFA := hide (few_one hfew).1
    have HFB := hide (few_one hfew).2
    clear hfew
    have C3 := CF
    refine C3.mono ?_
    rintro e w3 ⟨rfl, hb⟩
    have HB3 := hide (below_to HB2.out (Nat.le_refl _) hb)
    have KA3 := hide (KA2.out.to hb)
    have KB3 := hide (KB2.out.to hb)
    clear hb C3 HB2 KA2 KB2
    have xKA_0 := (KA3.out.cell 0).trans rfl
    have xKA_1 := (KA3.out.cell 1).trans rfl
    have xKA_2 := (KA3.out.cell 2).trans rfl
    have xKA_3 := (KA3.out.cell 3).trans rfl
    have fKA := fun i => KA3.out.frozen i
    have ltKA := KA3.out.lt
    have neKA := Nat.ne_of_lt ltKA
    have xKB_0 := (KB3.out.cell 0).trans rfl
    have xKB_1 := (KB3.out.cell 1).trans rfl
    have xKB_2 := (KB3.out.cell 2).trans rfl
    have xKB_3 := (KB3.out.cell 3).trans rfl
    have fKB := fun i => KB3.out.frozen i
    have ltKB := KB3.out.lt
    have neKB := Nat.ne_of_lt ltKB
    go_wp2_with fail
    have CM := fun (h : canM a.p a.t a.s = true) => make_yes h (by have := HFA.out; omega) (by have := HFA.out; omega) (by have := HFA.out; omega) w3 (HG.out.to HB3.out) (l := mkL a.p a.t a.s) rfl
    have CM0 := fun (h : canM a.p a.t a.s = false) => make_no h (by have := HFA.out; omega) (by have := HFA.out; omega) (by have := HFA.out; omega) w3 (HG.out.to HB3.out)
    cases hcan : canM a.p a.t a.s with
    | false =>
      have CN := CM0 hcan
      have qz : ∀ w, (binOp .eql 32 (.agg #[.string ⟨#[]⟩, .string ⟨#[]⟩, .string ⟨#[]⟩, .string ⟨#[]⟩]) (.agg #[.string ⟨#[]⟩, .string ⟨#[]⟩, .string ⟨#[]⟩, .string ⟨#[]⟩])).run Tryz.prog w = .ok (.bool true) w := fun w => lnv_yes noL w
      clear hcan CM CM0
      clear xKA_0 xKA_1 xKA_2 xKA_3 xKB_0 xKB_1 xKB_2 xKB_3 fKA ltKA neKA fKB ltKB neKB
      have C4 := CN
      refine C4.mono ?_
      rintro e w4 ⟨rfl, hb⟩
      have HB4 := hide (below_to HB3.out (Nat.le_refl _) hb)
      have KA4 := hide (KA3.out.to hb)
      have KB4 := hide (KB3.out.to hb)
      clear hb C4 HB3 KA3 KB3
      go_wp2_with fail
      go_ret
      exact ⟨rfl, below_alloc HB4.out (Nat.le_refl _) _⟩
    | true =>
      have CN := CM hcan
      have HC := hide hcan
      obtain ⟨own, HOW⟩ : ∃ l, Hid (mkL a.p a.t a.s = l) := ⟨_, rfl⟩
      rw [HOW.out] at CN
      have hop : own.p = a.p := by rw [← HOW.out]; rfl
      have hot : own.t = a.t := by rw [← HOW.out]; rfl
      have hos : own.s = a.s := by rw [← HOW.out]; rfl
      have HVO : Hid (validL own = true) := by show _ = _; rw [← HOW.out]; exact full_valid HC.out
      have HFO : Hid own.fit := by
        have h := HFA.out
        refine ⟨by rw [hop]; omega, by rw [hot]; omega, by rw [hos]; omega, ?_⟩
        rw [← HOW.out]
        show (listD _).length ≤ _
        rw [isD_len (listD_isD _)]
        decide
      rw [hop, hot, hos] at CN
      clear hcan CM CM0
      clear xKA_0 xKA_1 xKA_2 xKA_3 xKB_0 xKB_1 xKB_2 xKB_3 fKA ltKA neKA fKB ltKB neKB
      have C4 := CN
      refine C4.mono ?_
      rintro e w4 ⟨rfl, hb⟩
      have HB4 := hide (below_to HB3.out (Nat.le_refl _) hb)
      have KA4 := hide (KA3.out.to hb)
      have KB4 := hide (KB3.out.to hb)
      clear hb C4 HB3 KA3 KB3
      have xKA_0 := (KA4.out.cell 0).trans rfl
      have xKA_1 := (KA4.out.cell 1).trans rfl
      have xKA_2 := (KA4.out.cell 2).trans rfl
      have xKA_3 := (KA4.out.cell 3).trans rfl
      have fKA := fun i => KA4.out.frozen i
      have ltKA := KA4.out.lt
      have neKA := Nat.ne_of_lt ltKA
      have xKB_0 := (KB4.out.cell 0).trans rfl
      have xKB_1 := (KB4.out.cell 1).trans rfl
      have xKB_2 := (KB4.out.cell 2).trans rfl
      have xKB_3 := (KB4.out.cell 3).trans rfl
      have fKB := fun i => KB4.out.frozen i
      have ltKB := KB4.out.lt
      have neKB := Nat.ne_of_lt ltKB
      have qp : ((bs a.p).toList == (bs a.p).toList) = true := by simp
      have qt : ((bs a.t).toList == (bs a.t).toList) = true := by simp
      have qs : ((bs a.s).toList == (bs a.s).toList) = true := by simp
      go_wp2_with fail
      clear xKA_0 xKA_1 xKA_2 xKA_3 xKB_0 xKB_1 xKB_2 xKB_3 fKA ltKA neKA fKB ltKB neKB
      have KO5 := hide (Blk.new w4 32 #[.string (bs a.p), .string (bs a.t), .string (bs a.s), .string (bs own.d)])
      have HB5 := hide (below_alloc HB4.out (Nat.le_refl _) (.cells #[.string (bs a.p), .string (bs a.t), .string (bs a.s), .string (bs own.d)] 32))
      have KA5 := hide (KA4.out.to (below_one w4 (.cells #[.string (bs a.p), .string (bs a.t), .string (bs a.s), .string (bs own.d)] 32)))
      have KB5 := hide (KB4.out.to (below_one w4 (.cells #[.string (bs a.p), .string (bs a.t), .string (bs a.s), .string (bs own.d)] 32)))
      clear HB4 KA4 KB4
      have CV := Valid_any own HFO.out (w4.alloc (.cells #[.string (bs a.p), .string (bs a.t), .string (bs a.s), .string (bs own.d)] 32)) (HG.out.to HB5.out)
      unfold lnC at CV
      rw [hop, hot, hos, HVO.out] at CV
      have C6 := CV
      refine C6.mono ?_
      rintro e w6 ⟨rfl, hb⟩
      have HB6 := hide (below_to HB5.out (Nat.le_refl _) hb)
      have KA6 := hide (KA5.out.to hb)
      have KB6 := hide (KB5.out.to hb)
      have KO6 := hide (KO5.out.to hb)
      clear hb C6 HB5 KA5 KB5 KO5
      have xKA_0 := (KA6.out.cell 0).trans rfl
      have xKA_1 := (KA6.out.cell 1).trans rfl
      have xKA_2 := (KA6.out.cell 2).trans rfl
      have xKA_3 := (KA6.out.cell 3).trans rfl
      have fKA := fun i => KA6.out.frozen i
      have ltKA := KA6.out.lt
      have neKA := Nat.ne_of_lt ltKA
      have xKB_0 := (KB6.out.cell 0).trans rfl
      have xKB_1 := (KB6.out.cell 1).trans rfl
      have xKB_2 := (KB6.out.cell 2).trans rfl
      have xKB_3 := (KB6.out.cell 3).trans rfl
      have fKB := fun i => KB6.out.frozen i
      have ltKB := KB6.out.lt
      have neKB := Nat.ne_of_lt ltKB
      have xKO_0 := (KO6.out.cell 0).trans rfl
      have xKO_1 := (KO6.out.cell 1).trans rfl
      have xKO_2 := (KO6.out.cell 2).trans rfl
      have xKO_3 := (KO6.out.cell 3).trans rfl
      have fKO := fun i => KO6.out.frozen i
      have ltKO := KO6.out.lt
      have neKO := Nat.ne_of_lt ltKO
      obtain ⟨chg, HCH⟩ : ∃ c : Ln, Hid (c = ⟨b.p, b.t, b.s, own.d⟩) := ⟨_, rfl⟩
      have c0 : chg.p = b.p := by rw [HCH.out]
      have c1 : chg.t = b.t := by rw [HCH.out]
      have c2 : chg.s = b.s := by rw [HCH.out]
      have c3 : chg.d = own.d := by rw [HCH.out]
      have HFC : Hid chg.fit := by
        have h := HFB.out
        have h2 := HFO.out
        exact ⟨by rw [c0]; omega, by rw [c1]; omega, by rw [c2]; omega, by rw [c3]; exact h2.d⟩
      go_wp2_with fail
      clear xKA_0 xKA_1 xKA_2 xKA_3 xKB_0 xKB_1 xKB_2 xKB_3 xKO_0 xKO_1 xKO_2 xKO_3 fKA ltKA neKA fKB ltKB neKB fKO ltKO neKO
      have KC7 := hide (Blk.new w6 32 #[.string (bs b.p), .string (bs b.t), .string (bs b.s), .string (bs own.d)])
      have HB7 := hide (below_alloc HB6.out (Nat.le_refl _) (.cells #[.string (bs b.p), .string (bs b.t), .string (bs b.s), .string (bs own.d)] 32))
      have KA7 := hide (KA6.out.to (below_one w6 (.cells #[.string (bs b.p), .string (bs b.t), .string (bs b.s), .string (bs own.d)] 32)))
      have KB7 := hide (KB6.out.to (below_one w6 (.cells #[.string (bs b.p), .string (bs b.t), .string (bs b.s), .string (bs own.d)] 32)))
      have KO7 := hide (KO6.out.to (below_one w6 (.cells #[.string (bs b.p), .string (bs b.t), .string (bs b.s), .string (bs own.d)] 32)))
      clear HB6 KA6 KB6 KO6
      have CV := Valid_any chg HFC.out (w6.alloc (.cells #[.string (bs b.p), .string (bs b.t), .string (bs b.s), .string (bs own.d)] 32)) (HG.out.to HB7.out)
      unfold lnC at CV
      rw [c0, c1, c2, c3] at CV
      have HDC : Hid (chg.d = (mkL a.p a.t a.s).d) := by show _ = _; rw [HOW.out]; exact c3
      cases hv : validL chg with
      | false =>
        rw [hv] at CV
        clear hv
        have C8 := CV
        refine C8.mono ?_
        rintro e w8 ⟨rfl, hb⟩
        have HB8 := hide (below_to HB7.out (Nat.le_refl _) hb)
        have KA8 := hide (KA7.out.to hb)
        have KB8 := hide (KB7.out.to hb)
        have KO8 := hide (KO7.out.to hb)
        have KC8 := hide (KC7.out.to hb)
        clear hb C8 HB7 KA7 KB7 KO7 KC7
        go_wp2_with fail
        go_ret
        exact ⟨rfl, HB8.out⟩
      | true =>
        rw [hv] at CV
        have HVC := hide hv
        clear hv
        have C8 := CV
        refine C8.mono ?_
        rintro e w8 ⟨rfl, hb⟩
        have HB8 := hide (below_to HB7.out (Nat.le_refl _) hb)
        have KA8 := hide (KA7.out.to hb)
        have KB8 := hide (KB7.out.to hb)
        have KO8 := hide (KO7.out.to hb)
        have KC8 := hide (KC7.out.to hb)
        clear hb C8 HB7 KA7 KB7 KO7 KC7
        by_cases hco : chg = own
        · have xKO_0 := (KO8.out.cell 0).trans rfl
          have xKO_1 := (KO8.out.cell 1).trans rfl
          have xKO_2 := (KO8.out.cell 2).trans rfl
          have xKO_3 := (KO8.out.cell 3).trans rfl
          have fKO := fun i => KO8.out.frozen i
          have ltKO := KO8.out.lt
          have neKO := Nat.ne_of_lt ltKO
          have xKC_0 := (KC8.out.cell 0).trans rfl
          have xKC_1 := (KC8.out.cell 1).trans rfl
          have xKC_2 := (KC8.out.cell 2).trans rfl
          have xKC_3 := (KC8.out.cell 3).trans rfl
          have fKC := fun i => KC8.out.frozen i
          have ltKC := KC8.out.lt
          have neKC := Nat.ne_of_lt ltKC
          have q1 : ∀ w, (binOp .eql 32 (.agg #[.string (bs b.p), .string (bs b.t), .string (bs b.s), .string (bs own.d)]) (.agg #[.string (bs a.p), .string (bs a.t), .string (bs a.s), .string (bs own.d)])).run Tryz.prog w = .ok (.bool true) w := by
            have := lnv_yes chg
            rw [c0, c1, c2, c3] at this
            have e0 : b.p = a.p := by rw [← c0, hco, hop]
            have e1 : b.t = a.t := by rw [← c1, hco, hot]
            have e2 : b.s = a.s := by rw [← c2, hco, hos]
            rw [← e0, ← e1, ← e2]
            exact this
          clear hco
          go_wp2_with fail
          go_ret
          exact ⟨rfl, HB8.out⟩
        · have q1 : ∀ w, (binOp .eql 32 (.agg #[.string (bs b.p), .string (bs b.t), .string (bs b.s), .string (bs own.d)]) (.agg #[.string (bs a.p), .string (bs a.t), .string (bs a.s), .string (bs own.d)])).run Tryz.prog w = .ok (.bool false) w := by
            have := lnv_no hco
            rw [c0, c1, c2, c3, hop, hot, hos] at this
            exact this
          clear hco
          by_cases hce : chg = er own
          · have xKO_0 := (KO8.out.cell 0).trans rfl
            have xKO_1 := (KO8.out.cell 1).trans rfl
            have xKO_2 := (KO8.out.cell 2).trans rfl
            have xKO_3 := (KO8.out.cell 3).trans rfl
            have fKO := fun i => KO8.out.frozen i
            have ltKO := KO8.out.lt
            have neKO := Nat.ne_of_lt ltKO
            have xKC_0 := (KC8.out.cell 0).trans rfl
            have xKC_1 := (KC8.out.cell 1).trans rfl
            have xKC_2 := (KC8.out.cell 2).trans rfl
            have xKC_3 := (KC8.out.cell 3).trans rfl
            have fKC := fun i => KC8.out.frozen i
            have ltKC := KC8.out.lt
            have neKC := Nat.ne_of_lt ltKC
            have q2 : ∀ w, (binOp .eql 32 (.agg #[.string (bs b.p), .string (bs b.t), .string (bs b.s), .string (bs own.d)]) (.agg #[.string ⟨#[]⟩, .string ⟨#[]⟩, .string ⟨#[]⟩, .string (bs own.d)])).run Tryz.prog w = .ok (.bool true) w := by
              have := lnv_yes chg
              rw [c0, c1, c2, c3] at this
              have e0 : b.p = [] := by rw [← c0, hce]; rfl
              have e1 : b.t = [] := by rw [← c1, hce]; rfl
              have e2 : b.s = [] := by rw [← c2, hce]; rfl
              rw [e0, e1, e2] at this ⊢
              exact this
            clear hce
            go_wp2_with fail
            go_ret
            exact ⟨rfl, HB8.out⟩
          · have HLL : Hid (listD [lineT, b.p, b.t, b.s] = listD [lineT, a.p, a.t, a.s]) := by
              have h := changed_same (p := a.p) (t := a.t) (s := a.s) chg HDC.out HVC.out (fun h => hce (by rw [h]; rw [show er chg = er own by unfold er; rw [c3]]))
              rw [c0, c1, c2] at h
              exact h.symm
            have q2 : ∀ w, (binOp .eql 32 (.agg #[.string (bs b.p), .string (bs b.t), .string (bs b.s), .string (bs own.d)]) (.agg #[.string ⟨#[]⟩, .string ⟨#[]⟩, .string ⟨#[]⟩, .string (bs own.d)])).run Tryz.prog w = .ok (.bool false) w := by
              have := lnv_no hce
              rw [c0, c1, c2, c3] at this
              exact this
            clear hce
            have xKO_0 := (KO8.out.cell 0).trans rfl
            have xKO_1 := (KO8.out.cell 1).trans rfl
            have xKO_2 := (KO8.out.cell 2).trans rfl
            have xKO_3 := (KO8.out.cell 3).trans rfl
            have fKO := fun i => KO8.out.frozen i
            have ltKO := KO8.out.lt
            have neKO := Nat.ne_of_lt ltKO
            have xKC_0 := (KC8.out.cell 0).trans rfl
            have xKC_1 := (KC8.out.cell 1).trans rfl
            have xKC_2 := (KC8.out.cell 2).trans rfl
            have xKC_3 := (KC8.out.cell 3).trans rfl
            have fKC := fun i => KC8.out.frozen i
            have ltKC := KC8.out.lt
            have neKC := Nat.ne_of_lt ltKC
            go_wp2_with fail
            clear xKO_0 xKO_1 xKO_2 xKO_3 xKC_0 xKC_1 xKC_2 xKC_3 fKO ltKO neKO fKC ltKC neKC
            have LA := fun b w hS hg => List4 HFA.out b w hS hg
            have LB := fun b w hS hg => List4 HFB.out b w hS hg
            rw [HLL.out] at LB
            generalize listD [lineT, a.p, a.t, a.s] = LD at *
            have qe : ((bs LD).toList == (bs LD).toList) = true := by simp
            obtain ⟨U, hU, g, u0, rfl, hgu, hi⟩ := cls w8
            have xA0 := blk_all hgu KA8.out 0 rfl
            have xA1 := blk_all hgu KA8.out 1 rfl
            have xA2 := blk_all hgu KA8.out 2 rfl
            have xB0 := blk_all hgu KB8.out 0 rfl
            have xB1 := blk_all hgu KB8.out 1 rfl
            have xB2 := blk_all hgu KB8.out 2 rfl
            apply wp_region_looseG g (V := [some _, some _, some _, some _, some _, some _, some _, some _, none, some _, some _, some _, some _, some _, some _, some _, none, some _, some _, some _, some _]) (Fs := [(8, RowIs 9 86 4 #[.string ⟨#[108, 105, 110, 101]⟩, .string (bs a.p), .string (bs a.t), .string (bs a.s)]), (16, RowIs 9 94 4 #[.string ⟨#[108, 105, 110, 101]⟩, .string (bs b.p), .string (bs b.t), .string (bs b.s)])]) (Rel := fun _ w w' => Below w.heap.size w w')
            case hm => kernel_rfl
            case hB => kernel_rfl
            case hCw => exact hi _ (hgu _).drew
            case hC =>
              rintro i uq w' hr
              exact hi _ (below_to (hgu uq) (Nat.le_refl _) hr)
            case hst =>
              refine keeps_cons (fun i a a' w w' hne hwt hs hr h => h.keep (hs 86 (by kernel_rfl)) (Or.inr hr)) ?_
              refine keeps_cons (fun i a a' w w' hne hwt hs hr h => h.keep (hs 94 (by kernel_rfl)) (Or.inr hr)) ?_
              exact keeps_nil
            case hop =>
              refine ⟨?_, ?_, ?_, ?_, ?_, ?_, ?_, ?_, ?_, ?_, ?_, ?_, ?_, ?_, ?_, ?_, ?_, ?_, ?_, ?_, ?_, trivial⟩
              · intro a uq K hS hd hK
                have s5 := hS.at 5 (by kernel_rfl) rfl
                rw [if_pos (want_free rfl)]
                go_simp
                exact hK _ _ (Below.refl _ _) (vok rfl) (facts_cons (fun h => absurd h (by decide)) (facts_cons (fun h => absurd h (by decide)) facts_nil))
              · intro a uq K hS hd hK
                have s78 := (waits_on hd 0 (by kernel_rfl)).at (d := 78) rfl rfl rfl
                rw [if_pos (want_free rfl)]
                go_simp
                exact hK _ _ (Below.refl _ _) (vok rfl) (facts_cons (fun h => absurd h (by decide)) (facts_cons (fun h => absurd h (by decide)) facts_nil))
              · intro a uq K hS hd hK
                have s79 := (waits_on hd 1 (by kernel_rfl)).at (d := 79) rfl rfl rfl
                have s2 := hS.at 2 (by kernel_rfl) rfl
                rw [if_pos (want_yes rfl rfl rfl s79)]
                go_simp
                exact hK _ _ (Below.refl _ _) (vok rfl) (facts_cons (fun h => absurd h (by decide)) (facts_cons (fun h => absurd h (by decide)) facts_nil))
              · intro a uq K hS hd hK
                have s79 := (waits_on hd 1 (by kernel_rfl)).at (d := 79) rfl rfl rfl
                have s80 := (waits_on hd 2 (by kernel_rfl)).at (d := 80) rfl rfl rfl
                rw [if_pos (want_yes rfl rfl rfl s79)]
                go_simp
                exact hK _ _ (Below.refl _ _) (vok rfl) (facts_cons (fun h => absurd h (by decide)) (facts_cons (fun h => absurd h (by decide)) facts_nil))
              · intro a uq K hS hd hK
                have s79 := (waits_on hd 1 (by kernel_rfl)).at (d := 79) rfl rfl rfl
                have s2 := hS.at 2 (by kernel_rfl) rfl
                rw [if_pos (want_yes rfl rfl rfl s79)]
                go_simp
                exact hK _ _ (Below.refl _ _) (vok rfl) (facts_cons (fun h => absurd h (by decide)) (facts_cons (fun h => absurd h (by decide)) facts_nil))
              · intro a uq K hS hd hK
                have s79 := (waits_on hd 1 (by kernel_rfl)).at (d := 79) rfl rfl rfl
                have s82 := (waits_on hd 4 (by kernel_rfl)).at (d := 82) rfl rfl rfl
                rw [if_pos (want_yes rfl rfl rfl s79)]
                go_simp
                exact hK _ _ (Below.refl _ _) (vok rfl) (facts_cons (fun h => absurd h (by decide)) (facts_cons (fun h => absurd h (by decide)) facts_nil))
              · intro a uq K hS hd hK
                have s79 := (waits_on hd 1 (by kernel_rfl)).at (d := 79) rfl rfl rfl
                have s2 := hS.at 2 (by kernel_rfl) rfl
                rw [if_pos (want_yes rfl rfl rfl s79)]
                go_simp
                exact hK _ _ (Below.refl _ _) (vok rfl) (facts_cons (fun h => absurd h (by decide)) (facts_cons (fun h => absurd h (by decide)) facts_nil))
              · intro a uq K hS hd hK
                have s79 := (waits_on hd 1 (by kernel_rfl)).at (d := 79) rfl rfl rfl
                have s84 := (waits_on hd 6 (by kernel_rfl)).at (d := 84) rfl rfl rfl
                rw [if_pos (want_yes rfl rfl rfl s79)]
                go_simp
                exact hK _ _ (Below.refl _ _) (vok rfl) (facts_cons (fun h => absurd h (by decide)) (facts_cons (fun h => absurd h (by decide)) facts_nil))
              · intro a uq K hS hd hK
                have s79 := (waits_on hd 1 (by kernel_rfl)).at (d := 79) rfl rfl rfl
                have s81 := (waits_on hd 3 (by kernel_rfl)).at (d := 81) rfl rfl rfl
                have s83 := (waits_on hd 5 (by kernel_rfl)).at (d := 83) rfl rfl rfl
                have s85 := (waits_on hd 7 (by kernel_rfl)).at (d := 85) rfl rfl rfl
                rw [if_pos (want_yes rfl rfl rfl s79)]
                go_simp
                exact hK _ _ (below_one _ _) (vfree rfl) (facts_cons (fun _ => ⟨_, hS.put_at (by kernel_rfl) _, Blk.new _ _ _⟩) (facts_cons (fun h => absurd h (by decide)) facts_nil))
              · intro a uq K hS hd hK
                have s79 := (waits_on hd 1 (by kernel_rfl)).at (d := 79) rfl rfl rfl
                obtain ⟨b86, s86, r86⟩ := (waits_on hd 8 (by kernel_rfl)).2 _ (List.mem_cons_self ..) rfl
                rw [if_pos (want_yes rfl rfl rfl s79)]
                go_simp
                with_reducible refine (LA _ _ r86 (HG.out.to (below_to HB8.out (Nat.le_refl _) (hgu uq)))).mono ?_
                rintro e w' ⟨rfl, hb⟩
                exact hK _ _ hb (vok rfl) (facts_cons (fun h => absurd h (by decide)) (facts_cons (fun h => absurd h (by decide)) facts_nil))
              · intro a uq K hS hd hK
                have s79 := (waits_on hd 1 (by kernel_rfl)).at (d := 79) rfl rfl rfl
                have s3 := hS.at 3 (by kernel_rfl) rfl
                rw [if_pos (want_yes rfl rfl rfl s79)]
                go_simp
                exact hK _ _ (Below.refl _ _) (vok rfl) (facts_cons (fun h => absurd h (by decide)) (facts_cons (fun h => absurd h (by decide)) facts_nil))
              · intro a uq K hS hd hK
                have s79 := (waits_on hd 1 (by kernel_rfl)).at (d := 79) rfl rfl rfl
                have s88 := (waits_on hd 10 (by kernel_rfl)).at (d := 88) rfl rfl rfl
                rw [if_pos (want_yes rfl rfl rfl s79)]
                go_simp
                exact hK _ _ (Below.refl _ _) (vok rfl) (facts_cons (fun h => absurd h (by decide)) (facts_cons (fun h => absurd h (by decide)) facts_nil))
              · intro a uq K hS hd hK
                have s79 := (waits_on hd 1 (by kernel_rfl)).at (d := 79) rfl rfl rfl
                have s3 := hS.at 3 (by kernel_rfl) rfl
                rw [if_pos (want_yes rfl rfl rfl s79)]
                go_simp
                exact hK _ _ (Below.refl _ _) (vok rfl) (facts_cons (fun h => absurd h (by decide)) (facts_cons (fun h => absurd h (by decide)) facts_nil))
              · intro a uq K hS hd hK
                have s79 := (waits_on hd 1 (by kernel_rfl)).at (d := 79) rfl rfl rfl
                have s90 := (waits_on hd 12 (by kernel_rfl)).at (d := 90) rfl rfl rfl
                rw [if_pos (want_yes rfl rfl rfl s79)]
                go_simp
                exact hK _ _ (Below.refl _ _) (vok rfl) (facts_cons (fun h => absurd h (by decide)) (facts_cons (fun h => absurd h (by decide)) facts_nil))
              · intro a uq K hS hd hK
                have s79 := (waits_on hd 1 (by kernel_rfl)).at (d := 79) rfl rfl rfl
                have s3 := hS.at 3 (by kernel_rfl) rfl
                rw [if_pos (want_yes rfl rfl rfl s79)]
                go_simp
                exact hK _ _ (Below.refl _ _) (vok rfl) (facts_cons (fun h => absurd h (by decide)) (facts_cons (fun h => absurd h (by decide)) facts_nil))
              · intro a uq K hS hd hK
                have s79 := (waits_on hd 1 (by kernel_rfl)).at (d := 79) rfl rfl rfl
                have s92 := (waits_on hd 14 (by kernel_rfl)).at (d := 92) rfl rfl rfl
                rw [if_pos (want_yes rfl rfl rfl s79)]
                go_simp
                exact hK _ _ (Below.refl _ _) (vok rfl) (facts_cons (fun h => absurd h (by decide)) (facts_cons (fun h => absurd h (by decide)) facts_nil))
              · intro a uq K hS hd hK
                have s79 := (waits_on hd 1 (by kernel_rfl)).at (d := 79) rfl rfl rfl
                have s89 := (waits_on hd 11 (by kernel_rfl)).at (d := 89) rfl rfl rfl
                have s91 := (waits_on hd 13 (by kernel_rfl)).at (d := 91) rfl rfl rfl
                have s93 := (waits_on hd 15 (by kernel_rfl)).at (d := 93) rfl rfl rfl
                rw [if_pos (want_yes rfl rfl rfl s79)]
                go_simp
                exact hK _ _ (below_one _ _) (vfree rfl) (facts_cons (fun h => absurd h (by decide)) (facts_cons (fun _ => ⟨_, hS.put_at (by kernel_rfl) _, Blk.new _ _ _⟩) facts_nil))
              · intro a uq K hS hd hK
                have s79 := (waits_on hd 1 (by kernel_rfl)).at (d := 79) rfl rfl rfl
                obtain ⟨b94, s94, r94⟩ := (waits_on hd 16 (by kernel_rfl)).2 _ (List.mem_cons_of_mem _ (List.mem_cons_self ..)) rfl
                rw [if_pos (want_yes rfl rfl rfl s79)]
                go_simp
                with_reducible refine (LB _ _ r94 (HG.out.to (below_to HB8.out (Nat.le_refl _) (hgu uq)))).mono ?_
                rintro e w' ⟨rfl, hb⟩
                exact hK _ _ hb (vok rfl) (facts_cons (fun h => absurd h (by decide)) (facts_cons (fun h => absurd h (by decide)) facts_nil))
              · intro a uq K hS hd hK
                have s79 := (waits_on hd 1 (by kernel_rfl)).at (d := 79) rfl rfl rfl
                have s87 := (waits_on hd 9 (by kernel_rfl)).at (d := 87) rfl rfl rfl
                have s95 := (waits_on hd 17 (by kernel_rfl)).at (d := 95) rfl rfl rfl
                rw [if_pos (want_yes rfl rfl rfl s79)]
                go_simp
                exact hK _ _ (Below.refl _ _) (vok rfl) (facts_cons (fun h => absurd h (by decide)) (facts_cons (fun h => absurd h (by decide)) facts_nil))
              · intro a uq K hS hd hK
                have s79 := (waits_on hd 1 (by kernel_rfl)).at (d := 79) rfl rfl rfl
                have s96 := (waits_on hd 18 (by kernel_rfl)).at (d := 96) rfl rfl rfl
                rw [if_pos (want_free rfl)]
                go_simp
                exact hK _ _ (Below.refl _ _) (vok rfl) (facts_cons (fun h => absurd h (by decide)) (facts_cons (fun h => absurd h (by decide)) facts_nil))
              · intro a uq K hS hd hK
                have s97 := (waits_on hd 19 (by kernel_rfl)).at (d := 97) rfl rfl rfl
                rw [if_pos (want_free rfl)]
                go_simp
                exact hK _ _ (Below.refl _ _) (vok rfl) (facts_cons (fun h => absurd h (by decide)) (facts_cons (fun h => absurd h (by decide)) facts_nil))
            case hfin =>
              intro a uq hS hk
              have s78 := (hk 0 (by decide)).at (d := 78) rfl rfl rfl
              have s79 := (hk 1 (by decide)).at (d := 79) rfl rfl rfl
              have s80 := (hk 2 (by decide)).at (d := 80) rfl rfl rfl
              have s81 := (hk 3 (by decide)).at (d := 81) rfl rfl rfl
              have s82 := (hk 4 (by decide)).at (d := 82) rfl rfl rfl
              have s83 := (hk 5 (by decide)).at (d := 83) rfl rfl rfl
              have s84 := (hk 6 (by decide)).at (d := 84) rfl rfl rfl
              have s85 := (hk 7 (by decide)).at (d := 85) rfl rfl rfl
              obtain ⟨b86, s86, r86⟩ := (hk 8 (by decide)).2 _ (List.mem_cons_self ..) rfl
              have s87 := (hk 9 (by decide)).at (d := 87) rfl rfl rfl
              have s88 := (hk 10 (by decide)).at (d := 88) rfl rfl rfl
              have s89 := (hk 11 (by decide)).at (d := 89) rfl rfl rfl
              have s90 := (hk 12 (by decide)).at (d := 90) rfl rfl rfl
              have s91 := (hk 13 (by decide)).at (d := 91) rfl rfl rfl
              have s92 := (hk 14 (by decide)).at (d := 92) rfl rfl rfl
              have s93 := (hk 15 (by decide)).at (d := 93) rfl rfl rfl
              obtain ⟨b94, s94, r94⟩ := (hk 16 (by decide)).2 _ (List.mem_cons_of_mem _ (List.mem_cons_self ..)) rfl
              have s95 := (hk 17 (by decide)).at (d := 95) rfl rfl rfl
              have s96 := (hk 18 (by decide)).at (d := 96) rfl rfl rfl
              have s97 := (hk 19 (by decide)).at (d := 97) rfl rfl rfl
              have s4 := (hk 20 (by decide)).at (d := 4) rfl rfl rfl
              have hlit := hS.lit _ (by kernel_rfl) (lits_cons s78 (lits_cons s79 (lits_cons s80 (lits_cons s81 (lits_cons s82 (lits_cons s83 (lits_cons s84 (lits_cons s85 (lits_cons s86 (lits_cons s87 (lits_cons s88 (lits_cons s89 (lits_cons s90 (lits_cons s91 (lits_cons s92 (lits_cons s93 (lits_cons s94 (lits_cons s95 (lits_cons s96 (lits_cons s97 (lits_cons s4 lits_nil)))))))))))))))))))))
              rw [hlit]
              clear hlit hk hS s78 s79 s80 s81 s82 s83 s84 s85 s86 s87 s88 s89 s90 s91 s92 s93 s94 s95 s96 s97 s4
              simp only [litT, List.setIfInBounds_toArray, List.set_cons_succ, List.set_cons_zero]
              go_wp2_with fail
              go_ret
              exact ⟨rfl, below_to HB8.out (Nat.le_refl _) (hgu _)⟩
end Go.Proofs.YtdiebacfbhjbdaaGreatDoor
