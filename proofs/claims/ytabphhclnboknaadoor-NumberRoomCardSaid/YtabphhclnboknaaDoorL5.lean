/- Walk of the law NumberRoom. -/
import Derived.Test.YtabphhclnboknaaDoorLC
set_option linter.unusedVariables false
set_option linter.unusedSimpArgs false
namespace Go.Proofs.YtabphhclnboknaaDoor
open Go.RowKit

theorem whole_fit' (n : Int) : (whole n).fit := fit_of rfl
theorem room_valid {v : Int} {l : List UInt8} (h1 : 1 ≤ v) (h2 : v ≤ 9997) (hl : letterB l = true) : HN.valid ⟨v, l, 0, 0⟩ = true := (valid_iff _).2 ⟨h1, by show v ≤ 9999; omega, hl, by show 0 ≤ place (0, 0); rw [p00]; omega⟩
theorem bet_of {a b x : HN} (ha : a.valid = true) (hb : b.valid = true) (h : between a b = some x) : betV a b = x ∧ betE a b = 0 := by
  have hl : a.lt b = true := by
    have := between_some ha hb h
    exact lt_trans' this.2.1 this.2.2.1
  exact ⟨by unfold betV; rw [hl, h]; rfl, by unfold betE; rw [(cmpV_key ha hb).2, hl, h]; rfl⟩
set_option maxHeartbeats 8000000 in
theorem room_law (q r t : Nat) (hq : q < 65536) (hr : r < 256) (ht : t < 256) (w : World) (hg : Glob w) : Calls Tryd.prog 8 #[.int .u16 q, .int .u8 r, .int .u8 t] w fun e w' => e = .returned (.bool true) ∧ Below w.heap.size w w' := by
  have HG := hide hg
  clear hg
  go_enter Tryd.func8, Tryd.ntmps8
  go_wp2_with fail
  refine (head_any _ HG.out).mono ?_
  rintro e w2 ⟨rfl, hb⟩
  have HB2 := hide hb
  have HG2 := hide (HG.out.to hb)
  clear hb HG
  by_cases hk : r % 27 = 0
  · have hk2 : (r : Int) % 27 = 0 := by omega
    go_wp2_with fail
    have hl : letterB [] = true := rfl
    have v1 : (1 : Int) ≤ 1 + (q : Int) % 9997 := by omega
    have v2 : 1 + (q : Int) % 9997 ≤ 9997 := by omega
    generalize (1 : Int) + (q : Int) % 9997 = v at *
    have hva := room_valid v1 v2 hl
    have Fa := hide (fit_of (h := ⟨v, [], 0, 0⟩) hl)
    have Xa : Hid (HBox (w2.alloc (.cells #[.int .i64 v, .string ⟨#[]⟩, .int .i64 0, .int .i64 0] 23)) w2.heap.size ⟨v, [], 0, 0⟩) := HBox.new w2 ⟨v, [], 0, 0⟩
    have HB3n := hide (below_alloc HB2.out (Nat.le_refl _) (.cells #[.int .i64 v, .string ⟨#[]⟩, .int .i64 0, .int .i64 0] 23))
    obtain ⟨x, hx1, hx2, hx3, hx4⟩ := room1 hva (by show place (0, 0) = 0; exact p00) (by show v < 9999; omega)
    obtain ⟨x5, x6⟩ := bet_of hva (whole_valid (n := v + 1) (by omega) (by omega)) hx1
    have Fx := hide (fit_of ((valid_iff x).1 hx3).2.2.1)
    have Qx := hide hx2
    have HVA := hide hva
    have Q4 := hide hx4
    have Q56 := hide (And.intro x5 x6)
    clear hx1 hx2 hx3 hx4 hva hl x5 x6
    generalize w2.alloc (.cells #[.int .i64 v, .string ⟨#[]⟩, .int .i64 0, .int .i64 0] 23) = w3n at *
    generalize w2.heap.size = B0 at *
    obtain ⟨U, hU, g, u0, rfl, hgu, hi⟩ := cls w3n
    obtain ⟨a0, a1, a2, a3⟩ := box_all hgu Xa.out
    have CB := cls_call hgu hi (fun w _ => Between_any ⟨v, [], 0, 0⟩ (whole (v + 1)) w Fa.out (whole_fit' _))
    rw [Q56.out.1, Q56.out.2] at CB
    unfold hval whole at CB
    simp only at CB a0 a1 a2 a3
    refine (CB _).mono ?_
    rintro e w' ⟨rfl, u, rfl⟩
    clear CB
    have la := (Xa.out.to (hgu u)).blk.lt
    have na := Nat.ne_of_lt la
    go_wp2_with fail
    have f1 : v + 2 ≤ min 9999 (v + 2 + (t : Int)) := by omega
    have f2 : min 9999 (v + 2 + (t : Int)) ≤ 9999 := by omega
    generalize min 9999 (v + 2 + (t : Int)) = f at *
    have f3 := room2 HVA.out (far := f) (by show v + 2 ≤ f; exact f1) f2
    obtain ⟨y5, y6⟩ := bet_of HVA.out (whole_valid (n := f) (by omega) f2) f3
    have Q78 := hide (And.intro y5 y6)
    clear f3 y5 y6
    have HB4n := hide (below_alloc (below_to HB3n.out (Nat.le_refl _) (hgu u)) (Nat.le_refl _) (.cells #[.int .i64 x.n, .string ⟨x.l.toArray⟩, .int .i64 x.num, .int .i64 x.den] 23))
    have Ya := hide ((Xa.out.to (hgu u)).alloc (.cells #[.int .i64 x.n, .string ⟨x.l.toArray⟩, .int .i64 x.num, .int .i64 x.den] 23))
    have Yx : Hid (HBox ((g u).alloc (.cells #[.int .i64 x.n, .string ⟨x.l.toArray⟩, .int .i64 x.num, .int .i64 x.den] 23)) (g u).heap.size x) := HBox.new (g u) x
    clear a0 a1 a2 a3 la na
    generalize (g u).alloc (.cells #[.int .i64 x.n, .string ⟨x.l.toArray⟩, .int .i64 x.num, .int .i64 x.den] 23) = w4n at *
    generalize (g u).heap.size = B1 at *
    obtain ⟨U4, hU4, g4, u40, rfl, hgu4, hi4⟩ := cls w4n
    obtain ⟨a0, a1, a2, a3⟩ := box_all hgu4 Ya.out
    obtain ⟨x0, x1, x2, x3⟩ := box_all hgu4 Yx.out
    have CB := cls_call hgu4 hi4 (fun w _ => Between_any ⟨v, [], 0, 0⟩ (whole f) w Fa.out (whole_fit' _))
    rw [Q78.out.1, Q78.out.2] at CB
    unfold hval whole at CB
    simp only at CB a0 a1 a2 a3
    refine (CB _).mono ?_
    rintro e w' ⟨rfl, u, rfl⟩
    clear CB
    have la := (Ya.out.to (hgu4 u)).blk.lt
    have na := Nat.ne_of_lt la
    have lx := (Yx.out.to (hgu4 u)).blk.lt
    have nx := Nat.ne_of_lt lx
    have hxv : (x.n == v) = true := by have := Qx.out; simpa using this
    go_wp2_with fail
    have HB5n := hide (below_alloc (below_to HB4n.out (Nat.le_refl _) (hgu4 u)) (Nat.le_refl _) (.cells #[.int .i64 (v + 1), .string ⟨#[]⟩, .int .i64 0, .int .i64 0] 23))
    have Za := hide ((Ya.out.to (hgu4 u)).alloc (.cells #[.int .i64 (v + 1), .string ⟨#[]⟩, .int .i64 0, .int .i64 0] 23))
    have Zx := hide ((Yx.out.to (hgu4 u)).alloc (.cells #[.int .i64 (v + 1), .string ⟨#[]⟩, .int .i64 0, .int .i64 0] 23))
    have Zy : Hid (HBox ((g4 u).alloc (.cells #[.int .i64 (v + 1), .string ⟨#[]⟩, .int .i64 0, .int .i64 0] 23)) (g4 u).heap.size (whole (v + 1))) := HBox.new (g4 u) (whole (v + 1))
    clear a0 a1 a2 a3 x0 x1 x2 x3 la na lx nx
    generalize (g4 u).alloc (.cells #[.int .i64 (v + 1), .string ⟨#[]⟩, .int .i64 0, .int .i64 0] 23) = w5n at *
    generalize (g4 u).heap.size = B2 at *
    obtain ⟨U5, hU5, g5, u50, rfl, hgu5, hi5⟩ := cls w5n
    obtain ⟨a0, a1, a2, a3⟩ := box_all hgu5 Za.out
    obtain ⟨x0, x1, x2, x3⟩ := box_all hgu5 Zx.out
    obtain ⟨y0, y1, y2, y3⟩ := box_all hgu5 Zy.out
    have CL := cls_call hgu5 hi5 (fun w _ => less_any ⟨v, [], 0, 0⟩ x w Fa.out Fx.out)
    rw [Q4.out] at CL
    unfold hval at CL
    unfold whole at y0 y1 y2 y3
    simp only at CL y0 y1 y2 y3
    go_wp2_with (first | ((with_reducible refine (CL _).mono ?_); rintro e w' ⟨rfl, u, rfl⟩))
    go_ret
    exact ⟨ret_bool rfl, below_to HB5n.out (Nat.le_refl _) (hgu5 _)⟩
  · have hk2 : 0 < (r : Int) % 27 := by omega
    have hk3 : (r : Int) % 27 ≤ 26 := by omega
    obtain ⟨l, hl, he⟩ : ∃ l : List UInt8, letterB l = true ∧ Utf8.encode (97 + (r : Int) % 27 - 1) = ⟨l.toArray⟩ := by
      refine ⟨[UInt8.ofNat (97 + r % 27 - 1)], (letterB_iff _).2 (.inr ⟨_, rfl, by simp; omega, by simp; omega⟩), ?_⟩
      have := enc_small (97 + r % 27 - 1) (by omega)
      rwa [show ((97 + r % 27 - 1 : Nat) : Int) = 97 + (r : Int) % 27 - 1 by omega] at this
    go_wp2_with fail
    clear he
    have v1 : (1 : Int) ≤ 1 + (q : Int) % 9997 := by omega
    have v2 : 1 + (q : Int) % 9997 ≤ 9997 := by omega
    generalize (1 : Int) + (q : Int) % 9997 = v at *
    have hva := room_valid v1 v2 hl
    have Fa := hide (fit_of (h := ⟨v, l, 0, 0⟩) hl)
    have Xa : Hid (HBox (w2.alloc (.cells #[.int .i64 v, .string ⟨l.toArray⟩, .int .i64 0, .int .i64 0] 23)) w2.heap.size ⟨v, l, 0, 0⟩) := HBox.new w2 ⟨v, l, 0, 0⟩
    have HB3n := hide (below_alloc HB2.out (Nat.le_refl _) (.cells #[.int .i64 v, .string ⟨l.toArray⟩, .int .i64 0, .int .i64 0] 23))
    obtain ⟨x, hx1, hx2, hx3, hx4⟩ := room1 hva (by show place (0, 0) = 0; exact p00) (by show v < 9999; omega)
    obtain ⟨x5, x6⟩ := bet_of hva (whole_valid (n := v + 1) (by omega) (by omega)) hx1
    have Fx := hide (fit_of ((valid_iff x).1 hx3).2.2.1)
    have Qx := hide hx2
    have HVA := hide hva
    have Q4 := hide hx4
    have Q56 := hide (And.intro x5 x6)
    clear hx1 hx2 hx3 hx4 hva hl x5 x6
    generalize w2.alloc (.cells #[.int .i64 v, .string ⟨l.toArray⟩, .int .i64 0, .int .i64 0] 23) = w3n at *
    generalize w2.heap.size = B0 at *
    obtain ⟨U, hU, g, u0, rfl, hgu, hi⟩ := cls w3n
    obtain ⟨a0, a1, a2, a3⟩ := box_all hgu Xa.out
    have CB := cls_call hgu hi (fun w _ => Between_any ⟨v, l, 0, 0⟩ (whole (v + 1)) w Fa.out (whole_fit' _))
    rw [Q56.out.1, Q56.out.2] at CB
    unfold hval whole at CB
    simp only at CB a0 a1 a2 a3
    refine (CB _).mono ?_
    rintro e w' ⟨rfl, u, rfl⟩
    clear CB
    have la := (Xa.out.to (hgu u)).blk.lt
    have na := Nat.ne_of_lt la
    go_wp2_with fail
    have f1 : v + 2 ≤ min 9999 (v + 2 + (t : Int)) := by omega
    have f2 : min 9999 (v + 2 + (t : Int)) ≤ 9999 := by omega
    generalize min 9999 (v + 2 + (t : Int)) = f at *
    have f3 := room2 HVA.out (far := f) (by show v + 2 ≤ f; exact f1) f2
    obtain ⟨y5, y6⟩ := bet_of HVA.out (whole_valid (n := f) (by omega) f2) f3
    have Q78 := hide (And.intro y5 y6)
    clear f3 y5 y6
    have HB4n := hide (below_alloc (below_to HB3n.out (Nat.le_refl _) (hgu u)) (Nat.le_refl _) (.cells #[.int .i64 x.n, .string ⟨x.l.toArray⟩, .int .i64 x.num, .int .i64 x.den] 23))
    have Ya := hide ((Xa.out.to (hgu u)).alloc (.cells #[.int .i64 x.n, .string ⟨x.l.toArray⟩, .int .i64 x.num, .int .i64 x.den] 23))
    have Yx : Hid (HBox ((g u).alloc (.cells #[.int .i64 x.n, .string ⟨x.l.toArray⟩, .int .i64 x.num, .int .i64 x.den] 23)) (g u).heap.size x) := HBox.new (g u) x
    clear a0 a1 a2 a3 la na
    generalize (g u).alloc (.cells #[.int .i64 x.n, .string ⟨x.l.toArray⟩, .int .i64 x.num, .int .i64 x.den] 23) = w4n at *
    generalize (g u).heap.size = B1 at *
    obtain ⟨U4, hU4, g4, u40, rfl, hgu4, hi4⟩ := cls w4n
    obtain ⟨a0, a1, a2, a3⟩ := box_all hgu4 Ya.out
    obtain ⟨x0, x1, x2, x3⟩ := box_all hgu4 Yx.out
    have CB := cls_call hgu4 hi4 (fun w _ => Between_any ⟨v, l, 0, 0⟩ (whole f) w Fa.out (whole_fit' _))
    rw [Q78.out.1, Q78.out.2] at CB
    unfold hval whole at CB
    simp only at CB a0 a1 a2 a3
    refine (CB _).mono ?_
    rintro e w' ⟨rfl, u, rfl⟩
    clear CB
    have la := (Ya.out.to (hgu4 u)).blk.lt
    have na := Nat.ne_of_lt la
    have lx := (Yx.out.to (hgu4 u)).blk.lt
    have nx := Nat.ne_of_lt lx
    have hxv : (x.n == v) = true := by have := Qx.out; simpa using this
    go_wp2_with fail
    have HB5n := hide (below_alloc (below_to HB4n.out (Nat.le_refl _) (hgu4 u)) (Nat.le_refl _) (.cells #[.int .i64 (v + 1), .string ⟨#[]⟩, .int .i64 0, .int .i64 0] 23))
    have Za := hide ((Ya.out.to (hgu4 u)).alloc (.cells #[.int .i64 (v + 1), .string ⟨#[]⟩, .int .i64 0, .int .i64 0] 23))
    have Zx := hide ((Yx.out.to (hgu4 u)).alloc (.cells #[.int .i64 (v + 1), .string ⟨#[]⟩, .int .i64 0, .int .i64 0] 23))
    have Zy : Hid (HBox ((g4 u).alloc (.cells #[.int .i64 (v + 1), .string ⟨#[]⟩, .int .i64 0, .int .i64 0] 23)) (g4 u).heap.size (whole (v + 1))) := HBox.new (g4 u) (whole (v + 1))
    clear a0 a1 a2 a3 x0 x1 x2 x3 la na lx nx
    generalize (g4 u).alloc (.cells #[.int .i64 (v + 1), .string ⟨#[]⟩, .int .i64 0, .int .i64 0] 23) = w5n at *
    generalize (g4 u).heap.size = B2 at *
    obtain ⟨U5, hU5, g5, u50, rfl, hgu5, hi5⟩ := cls w5n
    obtain ⟨a0, a1, a2, a3⟩ := box_all hgu5 Za.out
    obtain ⟨x0, x1, x2, x3⟩ := box_all hgu5 Zx.out
    obtain ⟨y0, y1, y2, y3⟩ := box_all hgu5 Zy.out
    have CL := cls_call hgu5 hi5 (fun w _ => less_any ⟨v, l, 0, 0⟩ x w Fa.out Fx.out)
    rw [Q4.out] at CL
    unfold hval at CL
    unfold whole at y0 y1 y2 y3
    simp only at CL y0 y1 y2 y3
    go_wp2_with (first | ((with_reducible refine (CL _).mono ?_); rintro e w' ⟨rfl, u, rfl⟩))
    go_ret
    exact ⟨ret_bool rfl, below_to HB5n.out (Nat.le_refl _) (hgu5 _)⟩
end Go.Proofs.YtabphhclnboknaaDoor
