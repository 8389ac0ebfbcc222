/- Walks of package label: modulo, inverse, solve. -/
import Derived.Test.YtldicibhfmnjnaaGreatDoorB4
import Derived.Test.YtldicibhfmnjnaaGreatDoorCl2
import Derived.Test.YtldicibhfmnjnaaGreatDoorIn
import Derived.Test.YtldicibhfmnjnaaGreatDoorLoose
import Derived.Outline
set_option linter.unusedVariables false
set_option linter.unusedSimpArgs false
namespace Go.Proofs.YtldicibhfmnjnaaGreatDoor
open Go.RowKit

theorem s1_take {l : List Int} {k : Nat} {v : Int} (h : l[k]? = some v) : s1 (l.take (k + 1)) = s1 (l.take k) + v := by
  rw [List.take_add_one, h, s1_app]; simp [s1]
theorem s1_bound {M : Int} : ∀ (l : List Int), (∀ v ∈ l, -M ≤ v ∧ v ≤ M) → -(M * l.length) ≤ s1 l ∧ s1 l ≤ M * l.length
  | [], _ => by simp [s1]
  | v :: l, h => by
    have h1 := s1_bound l (fun x hx => h x (by simp [hx]))
    have h2 := h v (by simp)
    simp only [s1, List.length_cons]
    rw [show M * ((l.length + 1 : Nat) : Int) = M * l.length + M by rw [Int.natCast_add, Int.mul_add]; simp]
    omega
def MoI (l : List Int) (w wr : World) (n i : Value) : Prop := ∃ k : Nat, k ≤ l.length ∧ i = .int .i64 (k : Int) ∧ n = .int .i64 (s1 (l.take k)) ∧ w = wr
theorem mod37_t (n : Int) : n.tmod 37 % 37 = mod37 n := by
  unfold mod37
  rcases Int.lt_or_le n 0 with h | h
  · have h1 : n.tmod 37 = -((-n) % 37) := by
      have := Int.tmod_eq_emod_of_nonneg (a := -n) (b := 37) (by omega)
      rw [← this, Int.neg_tmod, Int.neg_neg]
    rw [h1]; omega
  · rw [Int.tmod_eq_emod_of_nonneg h]; omega
set_option maxHeartbeats 2000000 in
theorem modulo_any (l : List Int) (b : Nat) (w : World) (h : Blk w b 3 (intC l)) (hn : l.length ≤ 4) (hs : ∀ v ∈ l, -1000000000000 ≤ v ∧ v ≤ 1000000000000) :
    Calls Tryz.prog 38 #[.slice (some ⟨b, 0, none⟩) l.length l.length] w fun e w' => e = .returned (.int .i64 (mod37 (s1 l))) ∧ w = w' := by
  have HS := hide h
  have HL := hide hs
  clear h hs
  go_enter Tryz.func38, Tryz.ntmps38
  go_wp2_with fail
  go_loopw [3, 5, 8] (fun n _ i wr => MoI l w wr n i) (fun _ _ i _ => l.length - (intOf i).toNat)
  case atStart => exact ⟨0, by omega, rfl, rfl, rfl⟩
  case round =>
    obtain ⟨k, hk, rfl, rfl, rfl⟩ := hrel
    have hbd := s1_bound (M := 1000000000000) (l.take k) (fun v hv => HL.out v (List.mem_of_mem_take hv))
    have hkl : ((l.take k).length : Int) ≤ 4 := by simp; omega
    have hb1 : -4000000000000 ≤ s1 (l.take k) ∧ s1 (l.take k) ≤ 4000000000000 := by omega
    clear hbd hkl
    by_cases hlt : k < l.length
    · obtain ⟨v, hv⟩ : ∃ v, l[k]? = some v := ⟨_, List.getElem?_eq_getElem hlt⟩
      have ck := (HS.out.cell k).trans (intC_at hv)
      have hb2 := HL.out v (List.mem_of_getElem? hv)
      have HT := hide (s1_take hv)
      clear hv
      generalize s1 (l.take k) = S at *
      go_wp2_with fail
      go_roundw
      case rel => exact ⟨k + 1, by omega, by go_num, by (rw [HT.out]) <;> go_num, rfl⟩
      case measure => simp [intOf]; omega
    · obtain rfl : k = l.length := by omega
      rw [List.take_length] at *
      have hm := mod37_t (s1 l)
      obtain ⟨S, hS⟩ : ∃ S, s1 l = S := ⟨_, rfl⟩
      have HM := hide hm
      rw [hS] at hb1 ⊢
      have HS := hide hS
      clear hm hS
      have hr : -37 < S.tmod 37 ∧ S.tmod 37 < 37 := by
        have h1 := Int.tmod_lt_of_pos S (show (0 : Int) < 37 by decide)
        have h2 := Int.lt_tmod_of_pos S (show (0 : Int) < 37 by decide)
        omega
      go_wp2_with fail
      go_ret
      exact ⟨ret_int (by (rw [HM.out.symm, HS.out]) <;> simp), rfl⟩
theorem modulo1 (x : Int) (hx : -1000000000000 ≤ x ∧ x ≤ 1000000000000) (b : Nat) (w : World) (h : Blk w b 3 #[.int .i64 x]) :
    Calls Tryz.prog 38 #[.slice (some ⟨b, 0, none⟩) 1 1] w fun e w' => e = .returned (.int .i64 (mod37 x)) ∧ Below w.heap.size w w' := by
  have := modulo_any [x] b w h (by simp) (by simpa using hx)
  refine this.mono ?_
  rintro e w' ⟨rfl, rfl⟩
  exact ⟨by simp [s1], Below.refl _ _⟩
theorem modulo2 (x y : Int) (hx : -1000000000000 ≤ x ∧ x ≤ 1000000000000) (hy : -1000000000000 ≤ y ∧ y ≤ 1000000000000) (b : Nat) (w : World) (h : Blk w b 3 #[.int .i64 x, .int .i64 y]) :
    Calls Tryz.prog 38 #[.slice (some ⟨b, 0, none⟩) 2 2] w fun e w' => e = .returned (.int .i64 (mod37 (x + y))) ∧ Below w.heap.size w w' := by
  have := modulo_any [x, y] b w h (by simp) (by
    intro v hv
    simp only [List.mem_cons, List.not_mem_nil, or_false] at hv
    rcases hv with rfl | rfl <;> assumption)
  refine this.mono ?_
  rintro e w' ⟨rfl, rfl⟩
  exact ⟨by simp [s1], Below.refl _ _⟩
/-! inverse -/
def InI (n : Int) (w wr : World) (i : Value) : Prop := ∃ k : Nat, 1 ≤ k ∧ k ≤ 37 ∧ i = .int .i64 (k : Int) ∧ (∀ j : Nat, 1 ≤ j → j < k → mod37 (n * j) ≠ 1) ∧ Below w.heap.size w wr
theorem inv_at {n : Int} {k : Nat} (h1 : 1 ≤ k) (h2 : k < 37) (hno : ∀ j : Nat, 1 ≤ j → j < k → mod37 (n * j) ≠ 1) (hk : mod37 (n * k) = 1) : invP n = k := by
  unfold invP
  have : (List.range 37).find? (fun (i : Nat) => decide (1 ≤ i) && (mod37 (n * (i : Int)) == 1)) = some k := by
    rw [List.find?_eq_some_iff_getElem]
    refine ⟨by simp [h1, hk], k, by simpa using h2, by simp, fun j hj => ?_⟩
    simp only [List.getElem_range]
    by_cases h0 : 1 ≤ j
    · simp [h0, hno j h0 hj]
    · simp [h0]
  rw [this]; rfl
theorem inv_none {n : Int} (hno : ∀ j : Nat, 1 ≤ j → j < 37 → mod37 (n * j) ≠ 1) : invP n = 0 := by
  unfold invP
  have : (List.range 37).find? (fun (i : Nat) => decide (1 ≤ i) && (mod37 (n * (i : Int)) == 1)) = none := by
    rw [List.find?_eq_none]
    intro j hj
    have hj' : j < 37 := by simpa using hj
    by_cases h0 : 1 ≤ j
    · simp [h0, hno j h0 hj']
    · simp [h0]
  rw [this]; rfl
set_option maxHeartbeats 2000000 in
theorem inverse_any (n : Int) (h0 : 0 ≤ n) (h1 : n < 37) (w : World) : Calls Tryz.prog 62 #[.int .i64 n] w fun e w' => e = .returned (.int .i64 (invP n)) ∧ Below w.heap.size w w' := by
  go_enter Tryz.func62, Tryz.ntmps62
  go_wp2_with fail
  go_loopw [3] (fun i wr => InI n w wr i) (fun i _ => 37 - (intOf i).toNat)
  case atStart => exact ⟨1, by omega, by omega, rfl, fun j h1 h2 => by omega, Below.refl _ _⟩
  case round =>
    obtain ⟨k, hk1, hk2, rfl, hA, hB⟩ := hrel
    have HA := hide hA
    have HB := hide hB
    clear hA hB
    by_cases hlt : k < 37
    · have e1 : decide ((k : Int) < 37) = true := by simp; omega
      have hp0 : 0 ≤ n * (k : Int) := Int.mul_nonneg h0 (by omega)
      have hp1 : n * (k : Int) ≤ 1369 := by
        have := Int.mul_le_mul (show n ≤ 37 by omega) (show (k : Int) ≤ 37 by omega) (by omega) (by omega)
        omega
      obtain ⟨p, hp⟩ : ∃ p, n * (k : Int) = p := ⟨_, rfl⟩
      have HP := hide hp
      rw [hp] at hp0 hp1
      have hw : wrap64 (n * (k : Int)) = p := by rw [hp]; unfold wrap64; omega
      have hw2 : IntKind.i64.wrap (n * (k : Int)) = p := by rw [hp]; exact w64 (by omega) (by omega)
      clear hp
      by_cases hm : mod37 p = 1
      · go_wp2_with ((with_reducible refine (modulo1 p (by omega) _ _ (Blk.new _ _ _)).mono ?_); rw [hm]; rintro e w' ⟨rfl, hb⟩)
        go_ret
        exact ⟨ret_int (inv_at hk1 hlt HA.out (by rw [HP.out]; exact hm)).symm, below_to (below_alloc HB.out (Nat.le_refl _) _) (Nat.le_refl _) hb⟩
      · have e2 : (mod37 p == 1) = false := by simpa using hm
        have HM := hide hm
        clear hm
        go_wp2_with ((with_reducible refine (modulo1 p (by omega) _ _ (Blk.new _ _ _)).mono ?_); rintro e w' ⟨rfl, hb⟩)
        refine ⟨⟨k + 1, by omega, by omega, by go_num, fun j hj1 hj2 => ?_, below_to (below_alloc HB.out (Nat.le_refl _) _) (Nat.le_refl _) hb⟩, ?_⟩
        · rcases Nat.lt_or_ge j k with h | h
          · exact HA.out j hj1 h
          · obtain rfl : j = k := by omega
            rw [HP.out]; exact HM.out
        · simp [intOf]; omega
    · obtain rfl : k = 37 := by omega
      have e1 : decide (((37 : Nat) : Int) < 37) = false := by decide
      go_wp2_with fail
      go_ret
      exact ⟨ret_int (inv_none HA.out).symm, HB.out⟩
/-! solve -/
set_option maxRecDepth 100000 in
set_option maxHeartbeats 4000000 in
theorem solve_any (one two : Int) (i j : Nat) (h1 : 0 ≤ one ∧ one < 37) (h2 : 0 ≤ two ∧ two < 37) (hi : i ≤ 100) (hj : j ≤ 100) (w : World) :
    Calls Tryz.prog 34 #[.int .i64 one, .int .i64 two, .int .i64 (i : Int), .int .i64 (j : Int)] w fun e w' => e = .returned (.tuple #[.int .i64 (solA one two i j), .int .i64 (solB one two i j)]) ∧ Below w.heap.size w w' := by
  have ha : -100 ≤ (j : Int) - (i : Int) ∧ (j : Int) - (i : Int) ≤ 100 := by omega
  have hp : 0 ≤ one * ((i : Int) + 1) ∧ one * ((i : Int) + 1) ≤ 4000 := by
    have a := Int.mul_nonneg h1.1 (show 0 ≤ (i : Int) + 1 by omega)
    have b := Int.mul_le_mul (show one ≤ 37 by omega) (show (i : Int) + 1 ≤ 101 by omega) (by omega) (by omega)
    omega
  have HB : Hid (solB one two i j = mod37 (invP (mod37 ((j : Int) - i)) * mod37 (one * ((i : Int) + 1) + -two))) := rfl
  have HA : Hid (solA one two i j = mod37 (-one + -(solB one two i j))) := rfl
  have hm := mod37_range ((j : Int) - i)
  have hm2 := mod37_range (one * ((i : Int) + 1) + -two)
  have hq := mod37_range (invP (mod37 ((j : Int) - i)) * mod37 (one * ((i : Int) + 1) + -two))
  have hv : 0 ≤ invP (mod37 ((j : Int) - i)) ∧ invP (mod37 ((j : Int) - i)) < 37 := by
    generalize mod37 ((j : Int) - i) = m at *
    by_cases hz : m = 0
    · subst hz; decide +kernel
    · have := inv_spec m.toNat (by omega) (by omega)
      rw [show ((m.toNat : Nat) : Int) = m by omega] at this
      exact this.2
  have hwp : wrap64 (one * ((i : Int) + 1)) = one * ((i : Int) + 1) := by unfold wrap64; omega
  have hn : 0 ≤ invP (mod37 ((j : Int) - i)) * mod37 (one * ((i : Int) + 1) + -two) ∧ invP (mod37 ((j : Int) - i)) * mod37 (one * ((i : Int) + 1) + -two) ≤ 1369 := by
    have a := Int.mul_nonneg hv.1 hm2.1
    have b := Int.mul_le_mul (show invP (mod37 ((j : Int) - i)) ≤ 37 by omega) (show mod37 (one * ((i : Int) + 1) + -two) ≤ 37 by omega) hm2.1 (by omega)
    omega
  have hwn : wrap64 (invP (mod37 ((j : Int) - i)) * mod37 (one * ((i : Int) + 1) + -two)) = invP (mod37 ((j : Int) - i)) * mod37 (one * ((i : Int) + 1) + -two) := by unfold wrap64; omega
  obtain ⟨U, hU, g, u0, hw0, hgu, hi'⟩ := cls w
  have C1 := cls_row hgu hi' (fun w b h => modulo1 ((j : Int) - i) (by omega) b w h)
  have C2 := cls_call hgu hi' (fun w _ => inverse_any (mod37 ((j : Int) - i)) hm.1 hm.2 w)
  have C3 := cls_row hgu hi' (fun w b h => modulo2 (one * ((i : Int) + 1)) (-two) (by omega) (by omega) b w h)
  have C4 := cls_row hgu hi' (fun w b h => modulo1 (invP (mod37 ((j : Int) - i)) * mod37 (one * ((i : Int) + 1) + -two)) (by omega) b w h)
  rw [← HB.out] at C4
  have C5 := cls_row hgu hi' (fun w b h => modulo2 (-one) (-(solB one two i j)) (by omega) (by rw [HB.out]; omega) b w h)
  rw [← HA.out] at C5
  have hb : 0 ≤ solB one two i j ∧ solB one two i j < 37 := by rw [HB.out]; exact hq
  have HGU := hide hgu
  rw [hw0] at HGU ⊢
  clear hgu hi' hq HA HB hw0
  go_enter Tryz.func34, Tryz.ntmps34
  go_wp2_with (first | ((with_reducible refine (C1 _).mono ?_); rintro e w' ⟨rfl, u, rfl⟩) | ((with_reducible refine (C2 _).mono ?_); rintro e w' ⟨rfl, u, rfl⟩) | ((with_reducible refine (C3 _).mono ?_); rintro e w' ⟨rfl, u, rfl⟩) | ((with_reducible refine (C4 _).mono ?_); rintro e w' ⟨rfl, u, rfl⟩) | ((with_reducible refine (C5 _).mono ?_); rintro e w' ⟨rfl, u, rfl⟩))
  go_ret2
  exact ⟨rfl, HGU.out _⟩
end Go.Proofs.YtldicibhfmnjnaaGreatDoor
