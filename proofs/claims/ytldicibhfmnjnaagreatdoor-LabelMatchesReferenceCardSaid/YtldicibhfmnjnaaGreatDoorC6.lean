/- Walks of package label: Write. -/
import Derived.Test.YtldicibhfmnjnaaGreatDoorC5
set_option linter.unusedVariables false
set_option linter.unusedSimpArgs false
namespace Go.Proofs.YtldicibhfmnjnaaGreatDoor
open Go.RowKit

theorem index_mem : ∀ (l : List UInt8) (c : UInt8), decide (0 ≤ Lib.indexByte l c) = decide (c ∈ l)
  | [], c => by simp [Lib.indexByte]
  | b :: l, c => by
    have ih := index_mem l c
    have hge := Lib.indexByte_ge l c
    unfold Lib.indexByte
    by_cases h : b = c
    · subst h; simp
    · have h1 : (b == c) = false := by simpa using h
      rw [if_neg (by simp [h1])]
      by_cases h2 : Lib.indexByte l c = -1
      · have h3 : decide (c ∈ l) = false := by rw [← ih, h2]; decide
        simp [h2, Ne.symm h]; simpa using h3
      · have h3 : decide (c ∈ l) = true := by rw [← ih]; simp; omega
        have h4 : (Lib.indexByte l c == -1) = false := by simpa using h2
        rw [if_neg (by simp [h4])]
        have h5 : c ∈ l := by simpa using h3
        simp [h5]; omega
theorem own_shape {w : World} {base : Nat} {e : TypeId} {size : Nat} {v : Value} {n : Nat} {xs : List Value} (h : w.ownsRow base e size v n xs) : ∃ a c, v = .slice a n c := by
  rcases h.2 with ⟨h1, h2⟩ | ⟨g, cap, cur, hv, _⟩
  · subst h2; exact ⟨_, _, h1⟩
  · exact ⟨_, _, hv⟩
theorem sym_split {p : List UInt8} (h : p.all okC = true) (hq : (63 : UInt8) ∉ p) : p.all isSym = true := by
  rw [List.all_eq_true] at *
  intro c hc
  have := h c hc
  unfold okC at this
  simp only [Bool.or_eq_true, beq_iff_eq] at this
  exact this.resolve_right (fun e => hq (e ▸ hc))
theorem values_ok {s : List UInt8} (hs : s.length ≤ 1099511627776) (h : s.all okC = true) (w : World) : Calls Tryz.prog 31 #[.string (bs s)] w fun e w' => ∃ v, e = .returned (.tuple #[v, .bool true]) ∧ w'.ownsRow w.heap.size 3 1 v s.length (intV (vals s)) ∧ Below w.heap.size w w' :=
  (values_any s hs w).mono fun e w' h' => by unfold VaR at h'; rwa [if_pos h] at h'
theorem values_bad {s : List UInt8} (hs : s.length ≤ 1099511627776) (h : ¬ s.all okC = true) (w : World) : Calls Tryz.prog 31 #[.string (bs s)] w fun e w' => e = .returned (.tuple #[.slice none 0 0, .bool false]) ∧ Below w.heap.size w w' :=
  (values_any s hs w).mono fun e w' h' => by unfold VaR at h'; rwa [if_neg h] at h'
theorem canW_not {p : List UInt8} (h : ¬ (p.all isSym = true ∧ 1 ≤ p.length ∧ p.length ≤ 34)) : canW p = false := by
  rw [← Bool.not_eq_true]
  intro h'
  unfold canW at h'
  simp only [Bool.and_eq_true, decide_eq_true_eq] at h'
  exact h ⟨h'.1.1, h'.1.2, h'.2⟩
set_option maxRecDepth 100000 in
set_option maxHeartbeats 8000000 in
theorem Write_any (p : List UInt8) (hp : p.length ≤ 1099511627776) (w : World) : Calls Tryz.prog 16 #[.string (bs p)] w fun e w' => e = .returned (.tuple #[.string (bs (writeP p)), .int .i64 (writeE p)]) ∧ Below w.heap.size w w' := by
  have CC := fun w => Tryz.strings_Contains_one (bs p) 63 w
  have hidx : decide (0 ≤ Lib.indexByte (bs p).data.toList 63) = decide ((63 : UInt8) ∈ p) := by rw [bs_list]; exact index_mem p 63
  rw [hidx] at CC
  clear hidx
  by_cases hall : p.all okC = true
  · have CV := values_ok hp hall w
    by_cases hq : (63 : UInt8) ∈ p
    · have HN : Hid (writeE p = 1 ∧ writeP p = []) := write_no (canW_not (fun h => by
        have := List.all_eq_true.1 h.1 63 hq
        rw [sym_q] at this; cases this))
      rw [decide_eq_true hq] at CC
      clear hall hq
      go_enter Tryz.func16, Tryz.ntmps16
      go_wp2_with fail
      refine CV.mono ?_
      rintro e w1 ⟨v, rfl, ho, hb⟩
      obtain ⟨a, c, hv⟩ := own_shape ho
      rw [hv]
      have HB := hide hb
      clear CV ho hv hb
      go_wp2_with ((with_reducible refine (CC _).mono ?_); rintro e w' ⟨rfl, rfl⟩)
      go_ret2
      exact ⟨by rw [HN.out.1, HN.out.2]; rfl, HB.out⟩
    · rw [decide_eq_false hq] at CC
      have hsym := sym_split hall hq
      by_cases h1 : 1 ≤ p.length
      · have e1 : decide ((p.length : Int) < 1) = false := by simp; omega
        by_cases h34 : p.length ≤ 34
        · have e2 : decide ((34 : Int) < (p.length : Int)) = false := by simp; omega
          have hc : canW p = true := (canW_iff p).2 ⟨List.all_eq_true.1 hsym, h1, h34⟩
          have HN := hide (write_ok hc)
          have hvl : (vals p).length = p.length := by simp [vals]
          have HR := hide (vals_low p)
          have r1 := mod37_range (s1 ((vals p).map pos))
          have r2 := mod37_range (s2 0 ((vals p).map pos))
          have HP : Hid (prt p = p ++ [symC (solA (oneP (vals p)) (twoP (vals p)) p.length (p.length + 1)), symC (solB (oneP (vals p)) (twoP (vals p)) p.length (p.length + 1))]) := rfl
          clear hall hq hsym hc
          go_enter Tryz.func16, Tryz.ntmps16
          go_wp2_with fail
          refine CV.mono ?_
          rintro e w1 ⟨v, rfl, ho, hb⟩
          have hI : IntsAt w1 v (vals p) := IntsAt.of_own (by omega) (by rw [hvl]; exact ho)
          obtain ⟨b, c, hv, hI2⟩ := hI
          have hI : IntsAt w1 v (vals p) := ⟨b, c, hv, hI2⟩
          rw [hvl] at hv
          rw [hv] at hI ⊢
          have HB := hide hb
          clear CV ho hv hb hI2
          obtain ⟨U, hU, g, u0, rfl, hgu, hi⟩ := cls w1
          have C1 := cls_call hgu hi (fun w hb => sums_any (vals p) _ w (hI.to hb) (by omega) HR.out)
          have C2 := cls_call hgu hi (fun w hb => solve_any (oneP (vals p)) (twoP (vals p)) p.length (p.length + 1) r1 r2 (by omega) (by omega) w)
          have rA := solA_range (oneP (vals p)) (twoP (vals p)) p.length (p.length + 1)
          have rB := solB_range (oneP (vals p)) (twoP (vals p)) p.length (p.length + 1)
          have HGU := hide hgu
          clear r1 r2 hI HR
          generalize solA (oneP (vals p)) (twoP (vals p)) p.length (p.length + 1) = A at *
          generalize solB (oneP (vals p)) (twoP (vals p)) p.length (p.length + 1) = B at *
          have C3 : ∀ u, Calls Tryz.prog 35 #[.slice (some ⟨(g u).heap.size, 0, none⟩) 2 2] ((g u).alloc (.cells #[.int .i64 A, .int .i64 B] 3)) fun e w' => e = .returned (.string (bs [symC A, symC B])) ∧ ∃ u', w' = g u' :=
            cls_row hgu hi (fun w b h => text_any [A, B] _ w ⟨b, 2, rfl, h.lt, by simp, fun k x hx => by
              match k, hx with
              | 0, hx => simp at hx; subst hx; exact (h.cell 0).trans rfl
              | 1, hx => simp at hx; subst hx; exact (h.cell 1).trans rfl⟩ (by simp) (by
              intro x hx
              simp only [List.mem_cons, List.not_mem_nil, or_false] at hx
              rcases hx with rfl | rfl <;> assumption))
          clear hgu hi rA rB hvl
          have hcast : ((p.length + 1 : Nat) : Int) = (p.length : Int) + 1 := by omega
          rw [hcast] at C2
          clear hcast
          have hz1 : (bs p).size = p.length := bs_size p
          have hz2 : (bs [symC A, symC B]).size = 2 := rfl
          go_wp2_with (first | ((with_reducible refine (CC _).mono ?_); rintro e w' ⟨rfl, rfl⟩) | ((with_reducible refine (C1 _).mono ?_); rintro e w' ⟨rfl, u, rfl⟩) | ((with_reducible refine (C2 _).mono ?_); rintro e w' ⟨rfl, u, rfl⟩) | ((with_reducible refine (C3 _).mono ?_); rintro e w' ⟨rfl, u, rfl⟩))
          go_ret2
          exact ⟨by rw [HN.out.1, HN.out.2, HP.out, bs_app]; rfl, HB.out.trans ((HGU.out _).mono HB.out.size)⟩
        · have e2 : decide ((34 : Int) < (p.length : Int)) = true := by simp; omega
          have HN : Hid (writeE p = 1 ∧ writeP p = []) := write_no (canW_not (fun h => h34 h.2.2))
          clear hall hq h34
          go_enter Tryz.func16, Tryz.ntmps16
          go_wp2_with fail
          refine CV.mono ?_
          rintro e w1 ⟨v, rfl, ho, hb⟩
          obtain ⟨a, c, hv⟩ := own_shape ho
          rw [hv]
          have HB := hide hb
          clear CV ho hv hb
          go_wp2_with ((with_reducible refine (CC _).mono ?_); rintro e w' ⟨rfl, rfl⟩)
          go_ret2
          exact ⟨by rw [HN.out.1, HN.out.2]; rfl, HB.out⟩
      · have e1 : decide ((p.length : Int) < 1) = true := by simp; omega
        have HN : Hid (writeE p = 1 ∧ writeP p = []) := write_no (canW_not (fun h => h1 h.2.1))
        clear hall hq h1
        go_enter Tryz.func16, Tryz.ntmps16
        go_wp2_with fail
        refine CV.mono ?_
        rintro e w1 ⟨v, rfl, ho, hb⟩
        obtain ⟨a, c, hv⟩ := own_shape ho
        rw [hv]
        have HB := hide hb
        clear CV ho hv hb
        go_wp2_with ((with_reducible refine (CC _).mono ?_); rintro e w' ⟨rfl, rfl⟩)
        go_ret2
        exact ⟨by rw [HN.out.1, HN.out.2]; rfl, HB.out⟩
  · have CV := values_bad hp hall w
    have HN : Hid (writeE p = 1 ∧ writeP p = []) := write_no (canW_not (fun h => hall (by
      rw [List.all_eq_true]; intro c hc; exact sym_ok (List.all_eq_true.1 h.1 c hc))))
    clear hall
    go_enter Tryz.func16, Tryz.ntmps16
    go_wp2_with fail
    refine CV.mono ?_
    rintro e w1 ⟨rfl, hb⟩
    have HB := hide hb
    clear CV hb
    go_wp2_with ((with_reducible refine (CC _).mono ?_); rintro e w' ⟨rfl, rfl⟩)
    go_ret2
    exact ⟨by rw [HN.out.1, HN.out.2]; rfl, HB.out⟩
end Go.Proofs.YtldicibhfmnjnaaGreatDoor
