/- Walks of package number: Valid, Odd, first, Compare. -/
import Derived.Test.YtabphhclnboknaaDoorW2
import Derived.Test.YtabphhclnboknaaDoorCls
import Derived.Test.YtabphhclnboknaaDoorShelf
set_option linter.unusedVariables false
set_option linter.unusedSimpArgs false
namespace Go.Proofs.YtabphhclnboknaaDoor
open Go.RowKit

def hCells (h : HN) : Array Value := #[.int .i64 h.n, .string ⟨h.l.toArray⟩, .int .i64 h.num, .int .i64 h.den]
structure HBox (wc : World) (b : Nat) (h : HN) : Prop where
  blk : Blk wc b 23 (hCells h)
theorem HBox.facts {wc : World} {b : Nat} {h : HN} (H : HBox wc b h) : wc.cell? ⟨b, 0, none⟩ = some (.int .i64 h.n) ∧ wc.cell? ⟨b, 1, none⟩ = some (.string ⟨h.l.toArray⟩) ∧ wc.cell? ⟨b, 2, none⟩ = some (.int .i64 h.num) ∧ wc.cell? ⟨b, 3, none⟩ = some (.int .i64 h.den) :=
  ⟨H.blk.cell 0, H.blk.cell 1, H.blk.cell 2, H.blk.cell 3⟩
theorem HBox.below {w w' : World} {b B : Nat} {h : HN} (H : HBox w b h) (hb : Below B w w') (hB : b < B) : HBox w' b h := ⟨H.blk.below hb hB⟩
theorem HBox.new (w : World) (h : HN) : HBox (w.alloc (.cells #[.int .i64 h.n, .string ⟨h.l.toArray⟩, .int .i64 h.num, .int .i64 h.den] 23)) w.heap.size h := ⟨Blk.new w _ _⟩

def HN.fit (h : HN) : Prop := (ByteArray.mk h.l.toArray).size ≤ maxLen
theorem valid_f1 {h : HN} (h1 : ¬ 1 ≤ h.n) : h.valid = false := by unfold HN.valid; simp [h1]
theorem valid_f2 {h : HN} (h1 : ¬ h.n ≤ 9999) : h.valid = false := by unfold HN.valid; simp [h1]
theorem valid_f3 {h : HN} (h1 : letterB h.l = false) : h.valid = false := by unfold HN.valid; simp [h1]
theorem valid_t {h : HN} (h1 : 1 ≤ h.n) (h2 : h.n ≤ 9999) (h3 : letterB h.l = true) : h.valid = decide (0 ≤ place (h.num, h.den)) := by unfold HN.valid; simp [h1, h2, h3]

set_option maxHeartbeats 2000000 in
theorem Valid_any (h : HN) (w : World) (hl : h.fit) : Calls Tryd.prog 19 #[hval h] w fun e w' => e = .returned (.bool h.valid) ∧ Below w.heap.size w w' := by
  have HB := hide (HBox.new w h)
  have HB0 := hide ((Below.refl w.heap.size w).alloc (Nat.le_refl _) (.cells #[.int .i64 h.n, .string ⟨h.l.toArray⟩, .int .i64 h.num, .int .i64 h.den] 23))
  have HL := hide hl
  clear hl
  by_cases h1 : 1 ≤ h.n
  · by_cases h2 : h.n ≤ 9999
    · cases h3 : letterB h.l
      · have HV := hide (valid_f3 h3)
        go_enter Tryd.func19, Tryd.ntmps19
        unfold hval
        go_wp2_with fail
        refine (letter_any ⟨h.l.toArray⟩ _ HL.out).mono ?_
        rintro e w1 ⟨rfl, rfl⟩
        rw [show letterB (ByteArray.mk h.l.toArray).data.toList = false from h3]
        go_wp2_with fail
        go_ret
        exact ⟨ret_bool HV.out.symm, HB0.out⟩
      · have HV := hide (valid_t h1 h2 h3)
        go_enter Tryd.func19, Tryd.ntmps19
        unfold hval
        go_wp2_with fail
        refine (letter_any ⟨h.l.toArray⟩ _ HL.out).mono ?_
        rintro e w1 ⟨rfl, rfl⟩
        rw [show letterB (ByteArray.mk h.l.toArray).data.toList = true from h3]
        go_wp2_with fail
        refine (place_any h.num h.den _).mono ?_
        rintro e w2 ⟨rfl, hb⟩
        have HB2 := hide (HB0.out.trans (hb.mono HB0.out.size))
        clear hb
        generalize place (h.num, h.den) = p at HV ⊢
        by_cases hp : 0 ≤ p
        all_goals
          go_wp2_with fail
          go_ret
          exact ⟨ret_bool (by rw [HV.out]; try simp [hp]), HB2.out⟩
    · have HV := hide (valid_f2 h2)
      go_enter Tryd.func19, Tryd.ntmps19
      unfold hval
      go_wp2_with fail
      go_ret
      exact ⟨ret_bool HV.out.symm, HB0.out⟩
  · have HV := hide (valid_f1 h1)
    go_enter Tryd.func19, Tryd.ntmps19
    unfold hval
    go_wp2_with fail
    go_ret
    exact ⟨ret_bool HV.out.symm, HB0.out⟩

def F3I (w wr : World) (x y z : Int) (t : Value) : Prop := ∃ k : Nat, k ≤ 3 ∧ t = .int .i64 k ∧ (0 < k → x = 0) ∧ (1 < k → y = 0) ∧ (2 < k → z = 0) ∧ w = wr
set_option maxHeartbeats 2000000 in
theorem first_any (x y z : Int) (b : Nat) (w : World) (h0 : w.cell? ⟨b, 0, none⟩ = some (.int .i64 x)) (h1 : w.cell? ⟨b, 1, none⟩ = some (.int .i64 y)) (h2 : w.cell? ⟨b, 2, none⟩ = some (.int .i64 z)) :
    Calls Tryd.prog 27 #[.slice (some ⟨b, 0, none⟩) 3 3] w fun e w' => e = .returned (.int .i64 (fst3 x y z)) ∧ w = w' := by
  have HF := hide (show fst3 x y z = if x ≠ 0 then x else if y ≠ 0 then y else if z ≠ 0 then z else 0 from rfl)
  have H0 := hide h0
  have H1 := hide h1
  have H2 := hide h2
  clear h0 h1 h2
  go_enter Tryd.func27, Tryd.ntmps27
  go_wp2
  go_loopw [8] (fun t wr => F3I w wr x y z t) (fun t _ => 3 - (intOf t).toNat)
  case atStart => exact ⟨0, by omega, rfl, by simp, by simp, by simp, rfl⟩
  case round =>
    obtain ⟨k, hk, rfl, hx, hy, hz, rfl⟩ := hrel
    have HX := hide hx
    have HY := hide hy
    have HZ := hide hz
    clear hx hy hz
    have hc0 := H0.out
    have hc1 := H1.out
    have hc2 := H2.out
    clear H0 H1 H2
    match k, hk with
    | 0, _ =>
      by_cases hx : x = 0
      · have HQ : Hid (0 < 1 → x = 0) := fun _ => hx
        have hb : (x == 0) = true := by simpa using hx
        go_wp2
        go_roundw
        case rel => exact ⟨1, by omega, by go_num, fun _ => hx, by omega, by omega, rfl⟩
        case measure => simp [intOf]
      · have HQ : Hid (fst3 x y z = x) := by rw [Hid, HF.out, if_pos hx]
        have hb : (x == 0) = false := by simpa using hx
        go_wp2
        go_ret
        exact ⟨ret_int HQ.out.symm, rfl⟩
    | 1, _ =>
      by_cases hy : y = 0
      · have hb : (y == 0) = true := by simpa using hy
        go_wp2
        go_roundw
        case rel => exact ⟨2, by omega, by go_num, fun _ => HX.out (by omega), fun _ => hy, by omega, rfl⟩
        case measure => simp [intOf]
      · have HQ : Hid (fst3 x y z = y) := by rw [Hid, HF.out, if_neg (by simp [HX.out (by omega)]), if_pos hy]
        have hb : (y == 0) = false := by simpa using hy
        go_wp2
        go_ret
        exact ⟨ret_int HQ.out.symm, rfl⟩
    | 2, _ =>
      by_cases hz : z = 0
      · have hb : (z == 0) = true := by simpa using hz
        go_wp2
        go_roundw
        case rel => exact ⟨3, by omega, by go_num, fun _ => HX.out (by omega), fun _ => HY.out (by omega), fun _ => hz, rfl⟩
        case measure => simp [intOf]
      · have HQ : Hid (fst3 x y z = z) := by rw [Hid, HF.out, if_neg (by simp [HX.out (by omega)]), if_neg (by simp [HY.out (by omega)]), if_pos hz]
        have hb : (z == 0) = false := by simpa using hz
        go_wp2
        go_ret
        exact ⟨ret_int HQ.out.symm, rfl⟩
    | 3, _ =>
      have HQ : Hid (fst3 x y z = 0) := by rw [Hid, HF.out, if_neg (by simp [HX.out (by omega)]), if_neg (by simp [HY.out (by omega)]), if_neg (by simp [HZ.out (by omega)])]
      go_wp2
      go_ret
      exact ⟨ret_int HQ.out.symm, rfl⟩
end Go.Proofs.YtabphhclnboknaaDoor
