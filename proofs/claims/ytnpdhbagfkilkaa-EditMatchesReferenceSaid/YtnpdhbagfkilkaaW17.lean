/- Walks: Before. -/
import Derived.Test.YtnpdhbagfkilkaaW2
import Derived.Test.YtnpdhbagfkilkaaPlain10
set_option linter.unusedVariables false
set_option linter.unusedSimpArgs false
namespace Go.Proofs.Ytnpdhbagfkilkaa
open Go.RowKit

theorem takeEq_cons {a b : Int} {l m : List Int} {k : Nat} (h : takeEq (a :: l) (b :: m) (k + 1)) : a = b ∧ takeEq l m k := by
  unfold takeEq at h ⊢
  simpa using h
theorem before_ne : ∀ {xs ys : List Int} {k : Nat}, takeEq xs ys k → k < xs.length → k < ys.length → xs[k]?.getD 0 ≠ ys[k]?.getD 0 → beforeL xs ys = decide (xs[k]?.getD 0 < ys[k]?.getD 0)
  | [], _, _, _, h, _, _ => by simp at h
  | _ :: _, [], _, _, _, h, _ => by simp at h
  | a :: l, b :: m, 0, _, _, _, hne => by
    simp only [List.getElem?_cons_zero, Option.getD_some] at hne ⊢
    rw [beforeL, if_pos hne]
  | a :: l, b :: m, k + 1, h, h1, h2, hne => by
    obtain ⟨e, h'⟩ := takeEq_cons h
    simp only [List.getElem?_cons_succ] at hne ⊢
    rw [beforeL, if_neg (by simp [e])]
    exact before_ne h' (by simpa using h1) (by simpa using h2) hne
theorem before_end : ∀ {xs ys : List Int} {k : Nat}, takeEq xs ys k → k ≤ xs.length → k ≤ ys.length → (k = xs.length ∨ k = ys.length) → beforeL xs ys = decide (xs.length < ys.length)
  | [], ys, _, _, _, _, _ => by simp [beforeL]
  | a :: l, [], _, _, _, _, _ => by simp [beforeL]
  | a :: l, b :: m, 0, _, _, _, h => by simp at h
  | a :: l, b :: m, k + 1, h, h1, h2, h3 => by
    obtain ⟨e, h'⟩ := takeEq_cons h
    rw [beforeL, if_neg (by simp [e]), before_end h' (by simpa using h1) (by simpa using h2) (by simpa using h3)]
    simp

set_option maxHeartbeats 400000 in
theorem before_any (A B : Option Addr) (n m c d : Nat) (xs ys : List Int) (X : Nat) (w : World) (ha : Ints w X A n xs) (hb : Ints w X B m ys) (hn : n ≤ 140737488355328) (hm : m ≤ 140737488355328) :
    Calls Try.prog 23 #[.slice A n c, .slice B m d] w fun e w' => e = .returned (.bool (beforeL xs ys)) ∧ ∃ k, w' = w.drewN k := by
  have la := hide ha.len
  have lb := hide hb.len
  have HA := hide ha
  have HB := hide hb
  clear ha hb
  go_enter Try.func23, Try.ntmps23
  go_wp2
  go_loopw [5] (fun i wr => ∃ k : Nat, k ≤ n ∧ k ≤ m ∧ i = .int .i64 k ∧ takeEq xs ys k ∧ ∃ q, wr = w.drewN q) (fun i _ => n - (intOf i).toNat)
  case atStart => exact ⟨0, Nat.zero_le _, Nat.zero_le _, rfl, by simp [takeEq], 0, rfl⟩
  case round =>
    obtain ⟨k, hk, hkm, rfl, heq, q, rfl⟩ := hrel
    have Heq := hide heq
    clear heq
    by_cases hlt : k < n
    · by_cases hlm : k < m
      · obtain ⟨ad, rfl, _, hca⟩ := HA.out.at_ hlt
        obtain ⟨bd, rfl, _, hcb⟩ := HB.out.at_ hlm
        by_cases hxy : xs[k]?.getD 0 = ys[k]?.getD 0
        · have hb0 : ((xs[k]?.getD 0) != (ys[k]?.getD 0)) = false := by simp [hxy]
          have HX := hide hxy
          clear hxy
          go_wp2
          go_quiet (fail)
          go_wp2
          go_roundw
          case rel => exact ⟨k + 1, by omega, by omega, by go_num, takeEq_succ Heq.out (by rw [la.out]; exact hlt) (by rw [lb.out]; exact hlm) HX.out, by first | exact ⟨_, rfl⟩ | exact ⟨_, World.drewN_drewN _ _ _⟩⟩
          case measure => simp [intOf]; omega
        · have hb0 : ((xs[k]?.getD 0) != (ys[k]?.getD 0)) = true := by simp [hxy]
          have HX := hide (before_ne Heq.out (by rw [la.out]; exact hlt) (by rw [lb.out]; exact hlm) hxy)
          clear hxy
          go_wp2
          go_quiet (fail)
          go_wp2
          go_quiet (fail)
          go_wp2
          go_ret
          exact ⟨ret_bool HX.out.symm, by first | exact ⟨_, rfl⟩ | exact ⟨_, World.drewN_drewN _ _ _⟩ | exact ⟨_, by rw [World.drewN_drewN]; exact World.drewN_drewN _ _ _⟩⟩
      · obtain rfl : k = m := by omega
        have HX := hide (before_end Heq.out (by rw [la.out]; omega) (by rw [lb.out]; omega) (.inr (by rw [lb.out])))
        go_wp2
        go_ret
        exact ⟨ret_bool (by rw [HX.out, la.out, lb.out]), q, rfl⟩
    · obtain rfl : k = n := by omega
      have HX := hide (before_end Heq.out (by rw [la.out]; omega) (by rw [lb.out]; omega) (.inl (by rw [la.out])))
      go_wp2
      go_ret
      exact ⟨ret_bool (by rw [HX.out, la.out, lb.out]), q, rfl⟩
end Go.Proofs.Ytnpdhbagfkilkaa
