/- Walks of package label: sums. -/
import Derived.Test.YtldicibhfmnjnaaGreatDoorC4
set_option linter.unusedVariables false
set_option linter.unusedSimpArgs false
namespace Go.Proofs.YtldicibhfmnjnaaGreatDoor
open Go.RowKit

theorem mod_add (a b : Int) : mod37 (mod37 a + b) = mod37 (a + b) := by unfold mod37; omega
theorem s2_take {l : List Int} {k : Nat} {v : Int} (h : l[k]? = some v) : s2 0 (l.take (k + 1)) = s2 0 (l.take k) + v * ((k : Int) + 1) := by
  have hk : k < l.length := by rcases Nat.lt_or_ge k l.length with h' | h'; exact h'; rw [List.getElem?_eq_none h'] at h; cases h
  rw [List.take_add_one, h, s2_app]
  simp only [Option.toList_some, s2, List.length_take, Nat.zero_add]
  rw [Nat.min_eq_left (by omega)]; omega
theorem pos_at {l : List Int} {k : Nat} {v : Int} (h : l[k]? = some v) : (l.map pos)[k]? = some (pos v) := by rw [List.getElem?_map, h]; rfl
theorem w_one (k : Int) (w : World) : Calls Tryz.prog 60 #[.int .i64 k] w fun e w' => e = .returned (.int .i64 1) ∧ w = w' := by
  go_enter Tryz.func60, Tryz.ntmps60
  go_wp2_with fail
  go_ret
  exact ⟨rfl, rfl⟩
theorem w_two (k : Int) (h0 : 0 ≤ k) (h1 : k ≤ 1000) (w : World) : Calls Tryz.prog 61 #[.int .i64 k] w fun e w' => e = .returned (.int .i64 (k + 1)) ∧ w = w' := by
  go_enter Tryz.func61, Tryz.ntmps61
  go_wp2_with fail
  go_ret
  exact ⟨rfl, rfl⟩
def SuoneI (l : List Int) (w wr : World) (n i : Value) : Prop := ∃ k : Nat, k ≤ l.length ∧ i = .int .i64 (k : Int) ∧ n = .int .i64 (mod37 (s1 ((l.map pos).take k))) ∧ Below w.heap.size w wr
set_option maxRecDepth 100000 in
set_option maxHeartbeats 4000000 in
theorem sum_one (l : List Int) (v : Value) (bx t : Nat) (w : World) (hv : IntsAt w v l) (hx : Blk w bx t #[v]) (hn : l.length ≤ 100) (hr : ∀ x ∈ l, -1 ≤ x ∧ x < 37) :
    Calls Tryz.prog 59 #[.func (.func 60) #[] #[], .pointer (some ⟨bx, 0, none⟩)] w fun e w' => e = .returned (.int .i64 (oneP l)) ∧ Below w.heap.size w w' := by
  obtain ⟨b, c, rfl, hb, hc, hcell⟩ := hv
  have HC := hide hcell
  have HR := hide hr
  have Hb := hide hb
  have cx := hx.cell 0
  clear hcell hr hb hx
  go_enter Tryz.func59, Tryz.ntmps59
  go_wp2_with fail
  clear cx
  go_loopw [4, 5, 6, 9] (fun n _ _ i wr => SuoneI l w wr n i) (fun _ _ _ i _ => l.length - (intOf i).toNat)
  case atStart => exact ⟨0, by omega, rfl, rfl, Below.refl _ _⟩
  case round =>
    obtain ⟨k, hk, rfl, rfl, hB⟩ := hrel
    have HB := hide hB
    clear hB
    by_cases hlt : k < l.length
    · obtain ⟨x, hx⟩ : ∃ x, l[k]? = some x := ⟨_, List.getElem?_eq_getElem hlt⟩
      have ck : wr.cell? ⟨b, k, none⟩ = some (.int .i64 x) := (HB.out.cell (p := ⟨b, k, none⟩) Hb.out).trans (HC.out k x hx)
      have hx2 := HR.out x (List.mem_of_getElem? hx)
      have HT := hide (s1_take (pos_at hx))
      have hm := mod37_range (s1 ((l.map pos).take k))
      clear hx
      have hp : 0 ≤ max x 0 ∧ max x 0 ≤ 36 := by omega
      have HP : Hid (pos x = max x 0) := rfl
      rw [HP.out] at HT
      have HM := hide (mod_add (s1 ((l.map pos).take k)) (max x 0))
      have hq : 0 ≤ max x 0 * 1 ∧ max x 0 * 1 ≤ 4000 := by
        have a := Int.mul_nonneg hp.1 (show (0 : Int) ≤ 1 by omega)
        have b := Int.mul_le_mul hp.2 (show 1 ≤ (101 : Int) by omega) (by omega) (by omega)
        omega
      rw [← HT.out] at HM
      generalize mod37 (s1 ((l.map pos).take k)) = M at *
      have hw : wrap64 (max x 0) = max x 0 := by unfold wrap64; omega
      have CM := fun w b h => modulo2 M (max x 0) (by omega) (by omega) b w h
      rw [HM.out] at CM
      go_wp2_with (first | ((with_reducible refine (w_one (k : Int) _).mono ?_); rintro e w' ⟨rfl, rfl⟩) | ((with_reducible refine (CM _ _ (Blk.new _ _ _)).mono ?_); rintro e w' ⟨rfl, hb2⟩))
      refine ⟨⟨k + 1, by omega, by go_num, rfl, below_to (below_alloc HB.out (Nat.le_refl _) _) (Nat.le_refl _) hb2⟩, ?_⟩
      simp [intOf]; omega
    · obtain rfl : k = l.length := by omega
      have e : (l.map pos).take l.length = l.map pos := List.take_of_length_le (by simp)
      rw [e]
      have HF : Hid (oneP l = mod37 (s1 ((l.map pos)))) := rfl
      go_wp2_with fail
      go_ret
      exact ⟨ret_int HF.out.symm, HB.out⟩
def SutwoI (l : List Int) (w wr : World) (n i : Value) : Prop := ∃ k : Nat, k ≤ l.length ∧ i = .int .i64 (k : Int) ∧ n = .int .i64 (mod37 (s2 0 ((l.map pos).take k))) ∧ Below w.heap.size w wr
set_option maxRecDepth 100000 in
set_option maxHeartbeats 4000000 in
theorem sum_two (l : List Int) (v : Value) (bx t : Nat) (w : World) (hv : IntsAt w v l) (hx : Blk w bx t #[v]) (hn : l.length ≤ 100) (hr : ∀ x ∈ l, -1 ≤ x ∧ x < 37) :
    Calls Tryz.prog 59 #[.func (.func 61) #[] #[], .pointer (some ⟨bx, 0, none⟩)] w fun e w' => e = .returned (.int .i64 (twoP l)) ∧ Below w.heap.size w w' := by
  obtain ⟨b, c, rfl, hb, hc, hcell⟩ := hv
  have HC := hide hcell
  have HR := hide hr
  have Hb := hide hb
  have cx := hx.cell 0
  clear hcell hr hb hx
  go_enter Tryz.func59, Tryz.ntmps59
  go_wp2_with fail
  clear cx
  go_loopw [4, 5, 6, 9] (fun n _ _ i wr => SutwoI l w wr n i) (fun _ _ _ i _ => l.length - (intOf i).toNat)
  case atStart => exact ⟨0, by omega, rfl, rfl, Below.refl _ _⟩
  case round =>
    obtain ⟨k, hk, rfl, rfl, hB⟩ := hrel
    have HB := hide hB
    clear hB
    by_cases hlt : k < l.length
    · obtain ⟨x, hx⟩ : ∃ x, l[k]? = some x := ⟨_, List.getElem?_eq_getElem hlt⟩
      have ck : wr.cell? ⟨b, k, none⟩ = some (.int .i64 x) := (HB.out.cell (p := ⟨b, k, none⟩) Hb.out).trans (HC.out k x hx)
      have hx2 := HR.out x (List.mem_of_getElem? hx)
      have HT := hide (s2_take (pos_at hx))
      have hm := mod37_range (s2 0 ((l.map pos).take k))
      clear hx
      have hp : 0 ≤ max x 0 ∧ max x 0 ≤ 36 := by omega
      have HP : Hid (pos x = max x 0) := rfl
      rw [HP.out] at HT
      have HM := hide (mod_add (s2 0 ((l.map pos).take k)) (max x 0 * ((k : Int) + 1)))
      have hq : 0 ≤ max x 0 * ((k : Int) + 1) ∧ max x 0 * ((k : Int) + 1) ≤ 4000 := by
        have a := Int.mul_nonneg hp.1 (show (0 : Int) ≤ ((k : Int) + 1) by omega)
        have b := Int.mul_le_mul hp.2 (show ((k : Int) + 1) ≤ (101 : Int) by omega) (by omega) (by omega)
        omega
      rw [← HT.out] at HM
      generalize mod37 (s2 0 ((l.map pos).take k)) = M at *
      have hw : wrap64 (max x 0 * ((k : Int) + 1)) = max x 0 * ((k : Int) + 1) := by unfold wrap64; omega
      have CM := fun w b h => modulo2 M (max x 0 * ((k : Int) + 1)) (by omega) (by omega) b w h
      rw [HM.out] at CM
      go_wp2_with (first | ((with_reducible refine (w_two (k : Int) (by omega) (by omega) _).mono ?_); rintro e w' ⟨rfl, rfl⟩) | ((with_reducible refine (CM _ _ (Blk.new _ _ _)).mono ?_); rintro e w' ⟨rfl, hb2⟩))
      refine ⟨⟨k + 1, by omega, by go_num, rfl, below_to (below_alloc HB.out (Nat.le_refl _) _) (Nat.le_refl _) hb2⟩, ?_⟩
      simp [intOf]; omega
    · obtain rfl : k = l.length := by omega
      have e : (l.map pos).take l.length = l.map pos := List.take_of_length_le (by simp)
      rw [e]
      have HF : Hid (twoP l = mod37 (s2 0 ((l.map pos)))) := rfl
      go_wp2_with fail
      go_ret
      exact ⟨ret_int HF.out.symm, HB.out⟩
set_option maxRecDepth 100000 in
set_option maxHeartbeats 4000000 in
theorem sums_any (l : List Int) (v : Value) (w : World) (hv : IntsAt w v l) (hn : l.length ≤ 100) (hr : ∀ x ∈ l, -1 ≤ x ∧ x < 37) :
    Calls Tryz.prog 33 #[v] w fun e w' => e = .returned (.tuple #[.int .i64 (oneP l), .int .i64 (twoP l)]) ∧ Below w.heap.size w w' := by
  obtain ⟨b, c, rfl, hb, hc, hcell⟩ := hv
  have hv : IntsAt w (.slice (some ⟨b, 0, none⟩) l.length c) l := ⟨b, c, rfl, hb, hc, hcell⟩
  clear hb hc hcell
  have HX := hide (Blk.new w 46 #[.slice (some ⟨b, 0, none⟩) l.length c])
  have HV := hide (hv.to (below_one w (.cells #[.slice (some ⟨b, 0, none⟩) l.length c] 46)))
  have HB := hide (below_one w (.cells #[.slice (some ⟨b, 0, none⟩) l.length c] 46))
  have HR := hide hr
  clear hv hr
  go_enter Tryz.func33, Tryz.ntmps33
  go_wp2_with fail
  generalize w.alloc (.cells #[.slice (some ⟨b, 0, none⟩) l.length c] 46) = w1 at *
  obtain ⟨bx, hbx⟩ : ∃ bx, Hid (w.heap.size = bx) := ⟨_, rfl⟩
  rw [hbx.out] at HX ⊢
  obtain ⟨U, hU, g, u0, rfl, hgu, hi⟩ := cls w1
  have C1 := cls_call hgu hi (fun w hb => sum_one l _ bx _ w (HV.out.to hb) (HX.out.to hb) hn HR.out)
  have C2 := cls_call hgu hi (fun w hb => sum_two l _ bx _ w (HV.out.to hb) (HX.out.to hb) hn HR.out)
  have HGU := hide hgu
  clear hgu hi
  go_wp2_with (first | ((with_reducible refine (C1 _).mono ?_); rintro e w' ⟨rfl, u, rfl⟩) | ((with_reducible refine (C2 _).mono ?_); rintro e w' ⟨rfl, u, rfl⟩))
  go_ret2
  exact ⟨rfl, HB.out.trans ((HGU.out _).mono HB.out.size)⟩
end Go.Proofs.YtldicibhfmnjnaaGreatDoor
