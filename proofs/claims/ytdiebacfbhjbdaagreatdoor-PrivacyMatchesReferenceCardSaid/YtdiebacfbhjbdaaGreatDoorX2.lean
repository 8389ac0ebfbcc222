/- Package lexer: at, while. -/
import Derived.Test.YtdiebacfbhjbdaaGreatDoorX1
import Derived.Test.YtdiebacfbhjbdaaGreatDoorShelf
set_option linter.unusedVariables false
set_option linter.unusedSimpArgs false
namespace Go.Proofs.YtdiebacfbhjbdaaGreatDoor
open Go.RowKit

/-- a scanner's cells -/
def scC (t : List UInt8) : Array Value := #[.string (bs t)] ++ intC clsL
theorem scC_0 (t : List UInt8) : (scC t)[0]? = some (.string (bs t)) := by unfold scC; rw [Array.getElem?_append_left (by simp)]; rfl
theorem scC_c (t : List UInt8) (c : UInt8) : (scC t)[1 + c.toNat]? = some (.int .i64 (clsB c)) := by
  unfold scC
  rw [Array.getElem?_append_right (by simp)]
  show (intC clsL)[1 + c.toNat - 1]? = _
  rw [Nat.add_sub_cancel_left]
  exact intC_at (clsL_at c)
def atP (t : List UInt8) (i : Nat) : Int := match t[i]? with | some c => clsB c | none => 0
theorem clsB_range (c : UInt8) : 0 ≤ clsB c ∧ clsB c ≤ 9 := by
  unfold clsB clsN
  (repeat' split) <;> omega
theorem atP_range (t : List UInt8) (i : Nat) : 0 ≤ atP t i ∧ atP t i ≤ 9 := by
  unfold atP
  split
  · exact clsB_range _
  · omega
theorem drewN_below (w : World) (n : Nat) : Below w.heap.size w (w.drewN n) := below_drewN (Below.refl _ _) n
set_option maxRecDepth 100000 in
set_option maxHeartbeats 4000000 in
theorem at_any (t : List UInt8) (i : Nat) (hi : i ≤ 1099511627776) (sc : Nat) (T : TypeId) (w : World) (h : Blk w sc T (scC t)) :
    Calls Tryz.prog 130 #[.pointer (some ⟨sc, 0, none⟩), .int .i64 (i : Int)] w fun e w' => e = .returned (.int .i64 (atP t i)) ∧ Below w.heap.size w w' := by
  have c0 := (h.cell 0).trans (scC_0 t)
  have hsz : (bs t).size = t.length := bs_size t
  by_cases hlt : i < t.length
  · obtain ⟨c, hc⟩ : ∃ c, t[i]? = some c := ⟨_, List.getElem?_eq_getElem hlt⟩
    have ci := index_bs t i c hc
    have cc := (h.cell (1 + c.toNat)).trans (scC_c t c)
    have HV : Hid (atP t i = clsB c) := by show _ = _; unfold atP; rw [hc]
    have hu := c.toNat_lt
    have e1 : decide ((t.length : Int) ≤ (i : Int)) = false := by simp; omega
    clear hc h
    generalize clsB c = C at *
    go_enter Tryz.func130, Tryz.ntmps130
    go_wp2_with fail
    go_quiet (fail)
    go_wp2_with fail
    go_ret
    exact ⟨ret_int HV.out.symm, drewN_below _ _⟩
  · have HV : Hid (atP t i = 0) := by show _ = _; unfold atP; rw [List.getElem?_eq_none (by omega)]
    have e1 : decide ((t.length : Int) ≤ (i : Int)) = true := by simp; omega
    clear h
    go_enter Tryz.func130, Tryz.ntmps130
    go_wp2_with fail
    go_ret
    exact ⟨ret_int HV.out.symm, Below.refl _ _⟩
/-- how far bytes of some classes go -/
def runL (K : List Int) (t : List UInt8) : Nat := (t.takeWhile fun c => K.contains (clsB c)).length
def whP (t : List UInt8) (i : Nat) (K : List Int) : Nat := i + runL K (t.drop i)
theorem runL_le (K : List Int) (t : List UInt8) : runL K t ≤ t.length := by unfold runL; exact (List.takeWhile_sublist _).length_le
theorem whP_step {t : List UInt8} {i : Nat} {c : UInt8} {K : List Int} (h : t[i]? = some c) : whP t i K = if K.contains (clsB c) then whP t (i + 1) K else i := by
  have hi : i < t.length := by rcases Nat.lt_or_ge i t.length with h' | h'; exact h'; rw [List.getElem?_eq_none h'] at h; cases h
  have e : t.drop i = c :: t.drop (i + 1) := by
    rw [List.drop_eq_getElem_cons hi]
    rw [List.getElem?_eq_getElem hi] at h
    rw [Option.some.inj h]
  unfold whP runL
  rw [e, List.takeWhile_cons]
  split
  · rw [List.length_cons]; omega
  · rfl
theorem whP_end {t : List UInt8} {i : Nat} {K : List Int} (h : t.length ≤ i) : whP t i K = i := by
  unfold whP runL
  rw [List.drop_of_length_le h]; rfl
def WhI (t : List UInt8) (K : List Int) (i0 : Nat) (w wr : World) (i : Value) : Prop := ∃ k : Nat, i0 ≤ k ∧ (k ≤ t.length ∨ k = i0) ∧ i = .int .i64 (k : Int) ∧ whP t k K = whP t i0 K ∧ Below w.heap.size w wr
set_option maxRecDepth 100000 in
set_option maxHeartbeats 4000000 in
theorem while_any (t : List UInt8) (ht : t.length ≤ 1000000000) (i : Nat) (hi : i ≤ 1000000001) (K : List Int) (hK : K.length ≤ 10) (v : Value) (sc : Nat) (T : TypeId) (w : World) (h : Blk w sc T (scC t)) (hv : IntsAt w v K) :
    Calls Tryz.prog 129 #[.pointer (some ⟨sc, 0, none⟩), .int .i64 (i : Int), v] w fun e w' => e = .returned (.int .i64 (whP t i K : Int)) ∧ Below w.heap.size w w' := by
  obtain ⟨b, c, rfl, hb, hc, hcell⟩ := hv
  have HC := hide hcell
  have Hb := hide hb
  have HS := hide h
  have hsz : (bs t).size = t.length := bs_size t
  clear hcell hb h
  go_enter Tryz.func129, Tryz.ntmps129
  go_wp2_with fail
  go_loopw [1] (fun i' wr => WhI t K i w wr i') (fun i' _ => t.length - (intOf i').toNat)
  case atStart => exact ⟨i, by omega, .inr rfl, rfl, rfl, Below.refl _ _⟩
  case round =>
    obtain ⟨k, hk0, hk1, rfl, hE, hB⟩ := hrel
    have HE := hide hE
    have HB := hide hB
    clear hE hB
    have hk2 : k ≤ 1000000001 := by omega
    have HS1 := hide (HS.out.to HB.out)
    have c0 := (HS1.out.cell 0).trans (scC_0 t)
    by_cases hlt : k < t.length
    · have e1 : decide ((k : Int) < (t.length : Int)) = true := by simp; omega
      obtain ⟨d, hd⟩ : ∃ d, t[k]? = some d := ⟨_, List.getElem?_eq_getElem hlt⟩
      have HW := hide (whP_step (K := K) hd)
      have hA : atP t k = clsB d := by unfold atP; rw [hd]
      have CA := fun w h => at_any t k (by omega) sc T w h
      rw [hA] at CA
      clear hA hd
      have CC := fun (w : World) (h : ∀ j, j < K.length → w.cell? ⟨b, 0 + j, none⟩ = some (.int .i64 (K.getD j 0))) => Tryz.slices_Contains_int b 0 K.length c K (clsB d) w (Nat.le_refl _) (by omega) h
      rw [List.take_length] at CC
      have HK : Hid (∀ w', Below wr.heap.size wr w' → ∀ j, j < K.length → w'.cell? ⟨b, 0 + j, none⟩ = some (.int .i64 (K.getD j 0))) := fun w' hb' j hj => by
        rw [Nat.zero_add]
        have hbr : b < wr.heap.size := Nat.lt_of_lt_of_le Hb.out HB.out.size
        rw [hb'.cell (p := ⟨b, j, none⟩) hbr, HB.out.cell (p := ⟨b, j, none⟩) Hb.out, HC.out j K[j] (List.getElem?_eq_getElem hj)]
        rw [List.getD_eq_getElem?_getD, List.getElem?_eq_getElem hj]; rfl
      by_cases hin : K.contains (clsB d) = true
      · rw [hin] at CC
        rw [if_pos hin] at HW
        clear hin
        generalize clsB d = D at *
        go_wp2_with (first | ((with_reducible refine (CA _ HS1.out).mono ?_); rintro e w' ⟨rfl, hb1⟩) | ((with_reducible refine (CC _ (HK.out _ hb1)).mono ?_); rintro e w9 ⟨rfl, rfl⟩))
        refine ⟨⟨k + 1, by omega, by omega, by go_num, by rw [← HW.out]; exact HE.out, below_to HB.out (Nat.le_refl _) hb1⟩, ?_⟩
        simp [intOf]; omega
      · have hin' : K.contains (clsB d) = false := by simpa using hin
        rw [hin'] at CC
        rw [if_neg hin] at HW
        clear hin hin'
        generalize clsB d = D at *
        go_wp2_with (first | ((with_reducible refine (CA _ HS1.out).mono ?_); rintro e w' ⟨rfl, hb1⟩) | ((with_reducible refine (CC _ (HK.out _ hb1)).mono ?_); rintro e w9 ⟨rfl, rfl⟩))
        go_ret
        exact ⟨ret_int (by rw [← HE.out, HW.out]), below_to HB.out (Nat.le_refl _) hb1⟩
    · have e1 : decide ((k : Int) < (t.length : Int)) = false := by simp; omega
      have HW : Hid (whP t k K = k) := whP_end (by omega)
      go_wp2_with fail
      go_ret
      exact ⟨ret_int (by rw [← HE.out, HW.out]), HB.out⟩
end Go.Proofs.YtdiebacfbhjbdaaGreatDoor
