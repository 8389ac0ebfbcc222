/- Walks of package number: Odd, Compare. -/
import Derived.Test.YtabphhclnboknaaDoorW3
import Derived.Lib.RabinKarpLaws
set_option linter.unusedVariables false
set_option linter.unusedSimpArgs false
namespace Go.Proofs.YtabphhclnboknaaDoor
open Go.RowKit

theorem and_one_i64 (i : Int) (h0 : 0 ≤ i) (hi : i < 9223372036854775808) : bits BinOp.and IntKind.i64 i 1 = i % 2 := by
  have h := and_one i.toNat (by omega)
  rw [Int.toNat_of_nonneg h0] at h
  rw [h]; omega
set_option maxHeartbeats 2000000 in
theorem Odd_any (h : HN) (w : World) (hl : h.fit) : Calls Tryd.prog 21 #[hval h] w fun e w' => e = .returned (.bool h.odd) ∧ Below w.heap.size w w' := by
  have HB := hide (HBox.new w h)
  have HB0 := hide ((Below.refl w.heap.size w).alloc (Nat.le_refl _) (.cells #[.int .i64 h.n, .string ⟨h.l.toArray⟩, .int .i64 h.num, .int .i64 h.den] 23))
  have HL := hide hl
  clear hl
  cases h1 : h.valid
  · have HV : Hid (h.odd = false) := by unfold HN.odd; rw [h1]; rfl
    have H1 := hide h1
    clear h1
    go_enter Tryd.func21, Tryd.ntmps21
    unfold hval
    go_wp2_with fail
    refine (Valid_any h _ HL.out).mono ?_
    rintro e w1 ⟨rfl, hb⟩
    have HB1 := hide (HB0.out.trans (hb.mono HB0.out.size))
    clear hb
    rw [H1.out]
    go_wp2_with fail
    go_ret
    exact ⟨ret_bool HV.out.symm, HB1.out⟩
  · have HV : Hid (h.odd = decide (h.n % 2 = 1)) := by unfold HN.odd; rw [h1]; rfl
    have H1 := hide h1
    clear h1
    go_enter Tryd.func21, Tryd.ntmps21
    unfold hval
    go_wp2_with fail
    refine (Valid_any h _ HL.out).mono ?_
    rintro e w1 ⟨rfl, hb⟩
    have HB1 := hide (HB0.out.trans (hb.mono HB0.out.size))
    have HC := hide (HB.out.below hb (by simp)).facts
    clear hb
    rw [H1.out]
    obtain ⟨c0, _, _, _⟩ := HC.out
    go_wp2_with fail
    go_ret
    refine ⟨ret_bool ?_, HB1.out⟩
    rw [HV.out]
    obtain ⟨n1, n2, _⟩ := (valid_iff h).1 H1.out
    rw [and_one_i64 h.n (by omega) (by omega)]
    rfl

theorem hNew2 (w : World) (a b : HN) : HBox ((w.alloc (.cells #[.int .i64 a.n, .string ⟨a.l.toArray⟩, .int .i64 a.num, .int .i64 a.den] 23)).alloc (.cells #[.int .i64 b.n, .string ⟨b.l.toArray⟩, .int .i64 b.num, .int .i64 b.den] 23)) w.heap.size a ∧
    HBox ((w.alloc (.cells #[.int .i64 a.n, .string ⟨a.l.toArray⟩, .int .i64 a.num, .int .i64 a.den] 23)).alloc (.cells #[.int .i64 b.n, .string ⟨b.l.toArray⟩, .int .i64 b.num, .int .i64 b.den] 23)) (w.heap.size + 1) b := by
  refine ⟨(HBox.new w a).below (Below.alloc (Below.refl _ _) (Nat.le_refl _) _) (by simp), ?_⟩
  have := HBox.new (w.alloc (.cells #[.int .i64 a.n, .string ⟨a.l.toArray⟩, .int .i64 a.num, .int .i64 a.den] 23)) b
  simpa using this
theorem ret_two {a b a' b' : Int} (h1 : a = a') (h2 : b = b') : Ending.returned (.tuple #[.int .i64 a, .int .i64 b]) = .returned (.tuple #[.int .i64 a', .int .i64 b']) := by rw [h1, h2]
theorem compareInt_sgn (x y : Int) : Lib.compareInt x y = sgn x y := rfl
theorem compareBytes_rank {l m : List UInt8} (h : letterB l = true) (h' : letterB m = true) : Lib.compareBytes l m = sgn (rank l) (rank m) := by
  rcases (letterB_iff l).1 h with rfl | ⟨c, rfl, h1, h2⟩ <;> rcases (letterB_iff m).1 h' with rfl | ⟨d, rfl, h3, h4⟩
  · rfl
  · show (-1 : Int) = sgn 0 ((d.toNat : Int) - 96)
    unfold sgn; rw [if_pos (by omega)]
  · show (1 : Int) = sgn ((c.toNat : Int) - 96) 0
    unfold sgn; rw [if_neg (by omega), if_pos (by omega)]
  · show (if c < d then (-1 : Int) else if d < c then 1 else 0) = sgn ((c.toNat : Int) - 96) ((d.toNat : Int) - 96)
    simp only [UInt8.lt_iff_toNat_lt]
    unfold sgn
    (repeat' split) <;> first | rfl | (exfalso; omega)

set_option maxHeartbeats 4000000 in
theorem Compare_any (a b : HN) (w : World) (ha : a.fit) (hb : b.fit) : Calls Tryd.prog 11 #[hval a, hval b] w fun e w' => e = .returned (.tuple #[.int .i64 (cmpV a b), .int .i64 (cmpE a b)]) ∧ Below w.heap.size w w' := by
  have HA := hide (HBox.new w a)
  have HA0 := hide ((Below.refl w.heap.size w).alloc (Nat.le_refl _) (.cells #[.int .i64 a.n, .string ⟨a.l.toArray⟩, .int .i64 a.num, .int .i64 a.den] 23))
  have HLA := hide ha
  have HLB := hide hb
  clear ha hb
  cases h1 : a.valid
  · have H1 := hide h1
    have HV : Hid (cmpV a b = 0 ∧ cmpE a b = 1) := by unfold cmpV cmpE; rw [h1]; exact ⟨rfl, rfl⟩
    clear h1
    go_enter Tryd.func11, Tryd.ntmps11
    unfold hval
    go_wp2_with fail
    refine (Valid_any a _ HLA.out).mono ?_
    rintro e w1 ⟨rfl, hb⟩
    have HB1 := hide (((HA0.out.alloc HA0.out.size _).trans (hb.mono (by simp; omega))))
    clear hb
    rw [H1.out]
    go_wp2_with fail
    go_ret2
    exact ⟨ret_two HV.out.1.symm HV.out.2.symm, HB1.out⟩
  · cases h2 : b.valid
    · have H1 := hide h1
      have H2 := hide h2
      have HV : Hid (cmpV a b = 0 ∧ cmpE a b = 1) := by unfold cmpV cmpE; rw [h1, h2]; exact ⟨rfl, rfl⟩
      clear h1 h2
      go_enter Tryd.func11, Tryd.ntmps11
      unfold hval
      go_wp2_with fail
      refine (Valid_any a _ HLA.out).mono ?_
      rintro e w1 ⟨rfl, hb⟩
      have HB1 := hide (((HA0.out.alloc HA0.out.size _).trans (hb.mono (by simp; omega))))
      have HC1 := hide ((hNew2 w a b).2.below hb (by simp)).facts
      clear hb
      rw [H1.out]
      obtain ⟨c0, c1, c2, c3⟩ := HC1.out
      go_wp2_with fail
      refine (Valid_any b _ HLB.out).mono ?_
      rintro e w2 ⟨rfl, hb⟩
      have HB2 := hide (HB1.out.trans (hb.mono HB1.out.size))
      clear hb
      rw [H2.out]
      go_wp2_with fail
      go_ret2
      exact ⟨ret_two HV.out.1.symm HV.out.2.symm, HB2.out⟩
    · have H1 := hide h1
      have H2 := hide h2
      have HV : Hid (cmpV a b = fst3 (sgn a.n b.n) (sgn (rank a.l) (rank b.l)) (sgn (place (a.num, a.den)) (place (b.num, b.den))) ∧ cmpE a b = 0) := by unfold cmpV cmpE; rw [h1, h2]; exact ⟨rfl, rfl⟩
      clear h1 h2
      go_enter Tryd.func11, Tryd.ntmps11
      unfold hval
      go_wp2_with fail
      refine (Valid_any a _ HLA.out).mono ?_
      rintro e w1 ⟨rfl, hb⟩
      have HB1 := hide (((HA0.out.alloc HA0.out.size _).trans (hb.mono (by simp; omega))))
      have HX1 := hide ((hNew2 w a b).1.below hb (by simp; omega))
      have HC1 := hide ((hNew2 w a b).2.below hb (by simp))
      have HS1 : Hid (w.heap.size + 2 ≤ w1.heap.size) := by have := hb.size; simp at this; exact this
      clear hb
      rw [H1.out]
      obtain ⟨c0, c1, c2, c3⟩ := HC1.out.facts
      go_wp2_with fail
      refine (Valid_any b _ HLB.out).mono ?_
      rintro e w2 ⟨rfl, hb⟩
      have HB2 := hide (HB1.out.trans (hb.mono HB1.out.size))
      have HX2 := hide (HX1.out.below hb (by have := HS1.out; omega))
      have HC2 := hide (HC1.out.below hb (by have := HS1.out; omega))
      have HS2 : Hid (w.heap.size + 2 ≤ w2.heap.size) := by have := hb.size; have := HS1.out; simp only [Hid]; omega
      clear hb c0 c1 c2 c3
      rw [H2.out]
      go_wp2_with fail
      obtain ⟨U, hU, g, hg, hi⟩ := the_class (fun w' => Below w2.heap.size w2 w') (Below.refl w2.heap.size w2)
      have q0 := fun u => (HX2.out.below (hg u) (by have := HS2.out; omega)).facts.1
      have q1 := fun u => (HX2.out.below (hg u) (by have := HS2.out; omega)).facts.2.1
      have q2 := fun u => (HX2.out.below (hg u) (by have := HS2.out; omega)).facts.2.2.1
      have q3 := fun u => (HX2.out.below (hg u) (by have := HS2.out; omega)).facts.2.2.2
      have r0 := fun u => (HC2.out.below (hg u) (by have := HS2.out; omega)).facts.1
      have r1 := fun u => (HC2.out.below (hg u) (by have := HS2.out; omega)).facts.2.1
      have r2 := fun u => (HC2.out.below (hg u) (by have := HS2.out; omega)).facts.2.2.1
      have r3 := fun u => (HC2.out.below (hg u) (by have := HS2.out; omega)).facts.2.2.2
      refine wp_region_class_tail g 21 (by kernel_rfl) (by kernel_rfl) (hi _ (Below.refl w2.heap.size w2).drew) ?_
      simp only [List.take_succ_cons, List.take_zero, List.drop_succ_cons, List.drop_zero]
      repeat (go_big_quiet_step (first
        | exact class_call hi ((Tryd.cmp_Compare_int _ _ _).mono (fun _ _ h => ⟨h.1, h.2 ▸ hg _⟩))
        | exact class_call hi ((Tryd.strings_Compare _ _ _).mono (fun _ _ h => ⟨h.1, h.2 ▸ hg _⟩))
        | exact class_call hi ((place_any _ _ _).mono (fun _ _ h => ⟨h.1, (hg _).trans (h.2.mono (hg _).size)⟩))))
      refine wpQuiet_nil ?_
      intro w3 hw3
      obtain ⟨u, rfl⟩ := hw3
      have HG := hide (hg u)
      clear hi q0 q1 q2 q3 r0 r1 r2 r3
      go_wp2_with fail
      refine (first_any _ _ _ _ _ ((Blk.new _ _ _).cell 0) ((Blk.new _ _ _).cell 1) ((Blk.new _ _ _).cell 2)).mono ?_
      rintro e w3 ⟨rfl, rfl⟩
      have HB3 := hide (HB2.out.trans ((HG.out.mono HB2.out.size).alloc (by have := HG.out.size; have := HB2.out.size; omega) (.cells #[.int .i64 (Lib.compareInt a.n b.n), .int .i64 (Lib.compareBytes a.l b.l), .int .i64 (Lib.compareInt (place (a.num, a.den)) (place (b.num, b.den)))] 3)))
      clear HG
      go_wp2_with fail
      go_ret2
      refine ⟨ret_two ?_ HV.out.2.symm, ?_⟩
      · rw [HV.out.1]
        obtain ⟨_, _, l1, _⟩ := (valid_iff a).1 H1.out
        obtain ⟨_, _, l2, _⟩ := (valid_iff b).1 H2.out
        rw [compareInt_sgn, compareInt_sgn, ← compareBytes_rank l1 l2]
      · exact HB3.out
end Go.Proofs.YtabphhclnboknaaDoor
