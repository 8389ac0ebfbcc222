/- Package lexer: gap at every text. -/
import Derived.Test.YtdiebacfbhjbdaaGreatDoorY2
set_option linter.unusedVariables false
set_option linter.unusedSimpArgs false
namespace Go.Proofs.YtdiebacfbhjbdaaGreatDoor
open Go.RowKit

theorem bs_from (t : List UInt8) (i : Nat) : (bs t).extract i t.length = bs (t.drop i) := by
  rw [bs_cut, List.take_of_length_le (by rw [List.length_drop]; omega)]
theorem wh_ne (t : List UInt8) (i : Nat) (hi : i ≤ t.length) : atP t (whP t i [1]) ≠ 1 := by
  rcases Nat.lt_or_ge (whP t i [1]) t.length with h | h
  · have := wh_class t i hi [1] h
    simpa using this
  · unfold atP; rw [List.getElem?_eq_none h]; decide
set_option maxRecDepth 100000 in
set_option maxHeartbeats 4000000 in
theorem gap_any (t : List UInt8) (ht : t.length ≤ 1000000000) (i : Nat) (hi : i ≤ t.length) (sc : Nat) (T : TypeId) (w : World) (h : Blk w sc T (scC t)) :
    Calls Tryz.prog 104 #[.pointer (some ⟨sc, 0, none⟩), .int .i64 (i : Int)] w fun e w' => e = .returned (.int .i64 (gapP t i : Int)) ∧ Below w.heap.size w w' := by
  have hsz : (bs t).size = t.length := bs_size t
  obtain ⟨U, hU, g, u0, rfl, hgu, hi'⟩ := cls w
  have C1 : ∀ k, k ≤ t.length → ∀ u, Calls Tryz.prog 130 #[.pointer (some ⟨sc, 0, none⟩), .int .i64 (k : Int)] (g u) fun e w' => e = .returned (.int .i64 (atP t k)) ∧ ∃ u', w' = g u' := fun k hk => cls_call hgu hi' (fun w hb => at_any t k (by omega) sc T w (h.to hb))
  have C2 : ∀ k, k ≤ t.length → ∀ u, Calls Tryz.prog 129 #[.pointer (some ⟨sc, 0, none⟩), .int .i64 (k : Int), .slice (some ⟨(g u).heap.size, 0, none⟩) 1 1] ((g u).alloc (.cells #[.int .i64 1] 3)) fun e w' => e = .returned (.int .i64 (whP t k [1] : Int)) ∧ ∃ u', w' = g u' := fun k hk u => by
    have hb := below_alloc (hgu u) (Nat.le_refl _) (.cells #[.int .i64 1] 3)
    have hn := Blk.new (g u) 3 #[.int .i64 1]
    have := while_any t ht k (by omega) [1] (by simp) (.slice (some ⟨(g u).heap.size, 0, none⟩) 1 1) sc T _ (h.to hb) ⟨_, 1, rfl, hn.lt, Nat.le_refl _, fun k x hx => by
      match k, hx with
      | 0, hx => simp at hx; subst hx; exact (hn.cell 0).trans rfl⟩
    exact this.mono fun e w' ⟨he, hb2⟩ => ⟨he, hi' _ (below_to hb (Nat.le_refl _) hb2)⟩
  have CB : ∀ k, ∀ u, Calls Tryz.prog 131 #[.string (bs (t.drop k)), .int .u8 10] (g u) fun e w' => e = .returned (.int .i64 (Lib.indexByte (t.drop k) 10)) ∧ ∃ u', w' = g u' := fun k u => (Tryz.strings_IndexByte (bs (t.drop k)) 10 (g u)).mono fun e w' ⟨he, hw⟩ => ⟨he, u, hw⟩
  have s0 := blk_all hgu h 0 (scC_0 t)
  have HGU := hide hgu
  have D2 := C2 i hi
  have hle := whP_le hi [1]
  have HW1 := hide (gapP_wh t i)
  have HW2 := hide (wh_ne t i hi)
  clear hgu hi' h
  generalize whP t i [1] = k0 at *
  go_enter Tryz.func104, Tryz.ntmps104
  go_wp2_with ((with_reducible refine (D2 _).mono ?_); rintro e w' ⟨rfl, u, rfl⟩)
  clear D2
  go_loopw [1, 5] (fun v _ wr => ∃ k : Nat, v = .int .i64 (k : Int) ∧ (k ≤ t.length ∧ gapP t k = gapP t i ∧ atP t k ≠ 1) ∧ ∃ u, wr = g u) (fun v _ _ => t.length - (intOf v).toNat)
  case atStart => exact ⟨k0, rfl, ⟨hle, HW1.out, HW2.out⟩, _, rfl⟩
  case round =>
    obtain ⟨k, rfl, ⟨hk, hg, hne⟩, u', rfl⟩ := hrel
    have HG := hide hg
    have HNE := hide hne
    clear hg hne HW1 HW2 hle
    have E1 := C1 k hk
    by_cases ha : atP t k = 2
    · have e1 : (atP t k == 2) = true := by rw [ha]; rfl
      have hx : (bs t).extract k t.length = bs (t.drop k) := bs_from t k
      have EB := CB k
      rcases Int.lt_or_le (Lib.indexByte (t.drop k) 10) 0 with hn | hn
      · have hm1 : Lib.indexByte (t.drop k) 10 = -1 := by have := Lib.indexByte_ge (t.drop k) 10; omega
        have HV := hide (gapP_hash_none ha hm1)
        rw [ha] at E1
        rw [hm1] at EB
        clear C1 C2 CB hn hm1 ha e1
        generalize bs (t.drop k) = R at *
        go_wp2_with (first | ((with_reducible refine (E1 _).mono ?_); rintro e w' ⟨rfl, u, rfl⟩) | ((with_reducible refine (EB _).mono ?_); rintro e w' ⟨rfl, u, rfl⟩))
        go_ret
        exact ⟨ret_int (by rw [← HG.out, HV.out]), HGU.out _⟩
      · obtain ⟨n, hn'⟩ : ∃ n : Nat, Lib.indexByte (t.drop k) 10 = n := ⟨(Lib.indexByte (t.drop k) 10).toNat, by omega⟩
        obtain ⟨h1, h2, h3⟩ := gapP_hash_some ha hn'
        have HV := hide h1
        have E2 := C2 (k + n) (by omega)
        rw [Int.natCast_add] at E2
        rw [ha] at E1
        rw [hn'] at EB
        have hle := whP_le (show k + n ≤ t.length by omega) [1]
        have hge := whP_ge t (k + n) [1]
        have HW1 := hide (gapP_wh t (k + n))
        have HW2 := hide (wh_ne t (k + n) (by omega))
        clear C1 C2 CB hn hn' ha e1 h1
        generalize bs (t.drop k) = R at *
        generalize whP t (k + n) [1] = m at *
        go_wp2_with (first | ((with_reducible refine (E1 _).mono ?_); rintro e w' ⟨rfl, u, rfl⟩) | ((with_reducible refine (EB _).mono ?_); rintro e w' ⟨rfl, u, rfl⟩) | ((with_reducible refine (E2 _).mono ?_); rintro e w' ⟨rfl, u, rfl⟩))
        refine ⟨⟨m, rfl, ⟨hle, by rw [HW1.out, HV.out, HG.out], HW2.out⟩, _, rfl⟩, ?_⟩
        simp [intOf]; omega
    · have e1 : (atP t k == 2) = false := by rw [beq_eq_false_iff_ne]; exact ha
      have HV := hide (gapP_none HNE.out ha)
      clear C1 C2 CB ha
      generalize atP t k = A at *
      go_wp2_with ((with_reducible refine (E1 _).mono ?_); rintro e w' ⟨rfl, u, rfl⟩)
      go_ret
      exact ⟨ret_int (by rw [← HG.out, HV.out]), HGU.out _⟩
end Go.Proofs.YtdiebacfbhjbdaaGreatDoor
