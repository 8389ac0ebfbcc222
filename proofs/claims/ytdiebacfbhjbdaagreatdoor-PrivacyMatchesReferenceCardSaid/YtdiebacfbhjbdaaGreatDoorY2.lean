/- strings.IndexAny with a quote and a line feed, at every text. -/
import Derived.Test.YtdiebacfbhjbdaaGreatDoorY1
import Derived.Test.YtdiebacfbhjbdaaGreatDoorShelf
import Derived.Laws.RangeAny
import Derived.Laws.Runes
import Derived.Scope
import Derived.Lib.OthersKept
import Derived.Shelf.Small.Utf8
import Derived.Shelf.Strings.IndexAnyAll
set_option linter.unusedVariables false
set_option linter.unusedSimpArgs false
namespace Go.Proofs.YtdiebacfbhjbdaaGreatDoor
open Go.RowKit

theorem valid_eq (r : Int) : Lib.validRune r = Utf8.valid r := by
  unfold Lib.validRune Utf8.valid
  rw [Bool.eq_iff_iff]
  simp
  omega
set_option maxRecDepth 100000 in
set_option maxHeartbeats 4000000 in
theorem IndexRune_hi (r : Int) (h0 : 128 ≤ r) (h1 : r ≤ 2147483647) (w : World) :
    Calls Tryz.prog 146 #[.string ⟨#[34, 10]⟩, .int .i32 r] w fun e w' => e = .returned (.int .i64 (-1)) ∧ Below w.heap.size w w' := by
  have CV : ∀ w, Calls Tryz.prog 156 #[.int .i32 r] w fun e w' => e = .returned (.bool (Utf8.valid r)) ∧ w' = w := fun w => by
    rw [← valid_eq]; exact Any.utf8_ValidRune (ρ := Tryz.lays153_ren) { Tryz.lays153 with } r w
  by_cases he : r = 65533
  · subst he
    go_enter Tryz.func146, Tryz.ntmps146
    go_wp2_with fail
    go_loopg [5, 6] 2 (fun g _ _ wx => ∃ i : Nat, i + g = 2 ∧ wx = w.iter ⟨#[34, 10]⟩ i)
    case atStart => exact ⟨0, by omega, rfl⟩
    case round =>
      obtain ⟨i, hi, rfl⟩ := hrel
      have hs2 : (⟨#[34, 10]⟩ : ByteArray).size = 2 := rfl
      match gk, i, hi with
      | 0, 2, _ =>
        have hnx := run_next_end (P := Tryz.prog) w ⟨#[34, 10]⟩ 2
        go_wp2
        go_ret
        exact ⟨rfl, (Below.refl _ _).alloc (Nat.le_refl _) _⟩
      | 1, 1, _ =>
        have hnx := fun ty => run_next_ascii (P := Tryz.prog) w ⟨#[34, 10]⟩ 1 ty (by decide) (by decide)
        go_wp2
        go_roundg 0
        case measure => omega
        case rel => exact ⟨2, by omega, rfl⟩
      | 2, 0, _ =>
        have hnx := fun ty => run_next_ascii (P := Tryz.prog) w ⟨#[34, 10]⟩ 0 ty (by decide) (by decide)
        go_wp2
        go_roundg 1
        case measure => omega
        case rel => exact ⟨1, by omega, rfl⟩
  · have e1 : (r == 65533) = false := by rw [beq_eq_false_iff_ne]; exact he
    cases hv : Utf8.valid r with
    | false =>
      rw [hv] at CV
      clear he hv
      go_enter Tryz.func146, Tryz.ntmps146
      go_wp2_with ((with_reducible refine (CV _).mono ?_); rintro e w' ⟨rfl, rfl⟩)
      go_ret
      exact ⟨rfl, Below.refl _ _⟩
    | true =>
      rw [hv] at CV
      obtain ⟨hs2, hs4, hlast⟩ := encode_facts r hv h0
      go_enter Tryz.func146, Tryz.ntmps146
      go_wp2_with ((with_reducible refine (CV _).mono ?_); rintro e w' ⟨rfl, rfl⟩)
      by_cases h2 : (Utf8.encode r).size = 2
      · obtain ⟨y, x, hE⟩ : ∃ y x, Utf8.encode r = bs [y, x] := by
          have h2' := h2
          generalize Utf8.encode r = E at h2'
          obtain ⟨⟨l⟩⟩ := E
          match l, h2' with
          | [y, x], _ => exact ⟨y, x, rfl⟩
        have hx128 : 128 ≤ x.toNat := by
          have h3 := hlast
          rw [hE] at h3
          exact h3 (show (2 : Nat) - 1 < 2 by omega)
        have hsz : (bs [y, x]).size = 2 := rfl
        have cx : ∀ w, (Instr.index 9 (.string (bs [y, x])) (.int .i64 1)).run Tryz.prog w = .ok (.int .u8 (x.toNat : Int)) w := index_bs [y, x] 1 x rfl
        have ca : ∀ w, (Instr.index 9 (.string ⟨#[34, 10]⟩) (.int .i64 1)).run Tryz.prog w = .ok (.int .u8 10) w := index_bs [34, 10] 1 10 rfl
        have e2 : ((10 : Int) != (x.toNat : Int)) = true := by rw [bne_iff_ne]; omega
        have CB : ∀ w, Calls Tryz.prog 131 #[.string ByteArray.empty, .int .u8 (x.toNat : Int)] w fun e w' => e = .returned (.int .i64 (-1)) ∧ w' = w := fun w => Tryz.strings_IndexByte ByteArray.empty _ w
        clear hlast CV hv hs2 hs4
        generalize bs [y, x] = E at *
        go_wp2_with (refine wp_scope_straight ?_)
        clear hE h2
        go_loopw [9, 10] (fun i _ wr => i = .int .i64 1 ∧ wr = w') (fun _ _ _ => 0)
        case atStart => exact ⟨rfl, rfl⟩
        case round =>
          obtain ⟨rfl, rfl⟩ := hrel
          go_wp2_with (refine wp_scope_straight ?_)
          obtain ⟨U, hU, g, u0, rfl, hgu, hi⟩ := cls wr
          have CB' := cls_call hgu hi (fun w _ => (CB w).mono fun e w' ⟨he, hw⟩ => ⟨he, hw ▸ Below.refl _ _⟩)
          refine wp_region_class g (by kernel_rfl) (by kernel_rfl) (hi _ (hgu _).drew) ?_
          repeat (go_big_quiet_step (fail))
          refine wpQuiet_nil ?_
          intro w5 hw5
          obtain ⟨u, rfl⟩ := hw5
          go_wp2_with fail
          refine wp_region_class g (by kernel_rfl) (by kernel_rfl) (hi _ (hgu _).drew) ?_
          repeat (go_big_quiet_step (with_reducible exact CB' _))
          refine wpQuiet_nil ?_
          intro w6 hw6
          obtain ⟨u, rfl⟩ := hw6
          go_wp2_with (refine wp_scope_straight ?_)
          simp +zetaDelta only [Exit.noGoto, Exit.inBlock, Exit.then]
          go_ret
          exact ⟨rfl, hgu _⟩
      · have hs3 : 3 ≤ (Utf8.encode r).size := by omega
        clear hlast h2 CV hv
        go_wp2_with (refine wp_scope_straight ?_)
        generalize Utf8.encode r = E at *
        go_loopw [9, 10] (fun i _ wr => i = .int .i64 ((E.size : Int) - 1) ∧ wr = w') (fun _ _ _ => 0)
        case atStart => exact ⟨rfl, rfl⟩
        case round =>
          obtain ⟨rfl, rfl⟩ := hrel
          go_wp2_with (refine wp_scope_straight ?_)
          simp only [Exit.noGoto]
          go_ret
          exact ⟨rfl, Below.refl _ _⟩
theorem decode_cont (s : ByteArray) (pos k : Nat) (h : k < (Utf8.decode s pos).2) (h1 : 1 ≤ k) : pos + k < s.size ∧ (s.get! (pos + k)).toNat / 64 = 2 := by
  simp only [Utf8.decode] at h
  split at h
  · simp at h; omega
  · split at h
    · rename_i hc
      simp only [Bool.and_eq_true, decide_eq_true_eq, beq_iff_eq] at hc
      split at h
      · obtain rfl : k = 1 := by simp at h; omega
        exact hc.2
      · simp at h; omega
    · split at h
      · rename_i hc
        simp only [Bool.and_eq_true, decide_eq_true_eq, beq_iff_eq] at hc
        split at h
        · have : k = 1 ∨ k = 2 := by simp at h; omega
          rcases this with rfl | rfl
          · exact hc.1.2
          · exact hc.2
        · simp at h; omega
      · split at h
        · rename_i hc
          simp only [Bool.and_eq_true, decide_eq_true_eq, beq_iff_eq] at hc
          split at h
          · have : k = 1 ∨ k = 2 ∨ k = 3 := by simp at h; omega
            rcases this with rfl | rfl | rfl
            · exact hc.1.1.2
            · exact hc.1.2
            · exact hc.2
          · simp at h; omega
        · simp at h; omega
theorem below_iterAt {B k p : Nat} {w wr : World} {s : ByteArray} (h : Below B w wr) (hk : B ≤ k) : Below B w (wr.iterAt k s p) :=
  ⟨h.os, h.tape, h.output, by simp [World.iterAt]; exact h.size, fun j hj => by
    have := h.block j hj
    simp only [World.iterAt]
    rw [Array.getElem?_setIfInBounds_ne (by omega)]
    exact this⟩
theorem get_list (s : ByteArray) (k : Nat) (h : k < s.size) : s.data.toList[k]? = some (s.get! k) := by
  have h1 : s.data[k]? = some s.data[k] := Array.getElem?_eq_getElem h
  have h2 : s.get! k = s.data[k] := by
    show s.data[k]! = _
    rw [getElem!_pos s.data k h]
  rw [h2, Array.getElem?_toList]
  exact h1
theorem NoAny_high (s : ByteArray) (i : Nat) (hi : i < s.size) (hc : 128 ≤ (s[i]'hi).toNat) (h : Lib.NoAny s.data.toList [34, 10] i) : Lib.NoAny s.data.toList [34, 10] (i + (Utf8.decode s i).2) := by
  intro j b hj hb
  rcases Nat.lt_or_ge j i with hlt | hge
  · exact h j b hlt hb
  · obtain ⟨k, rfl⟩ : ∃ k, j = i + k := ⟨j - i, by omega⟩
    rcases Nat.eq_zero_or_pos k with rfl | hk
    · have := get_list s i hi
      rw [Nat.add_zero, this] at hb
      have e : s.get! i = s[i]'hi := by show s.data[i]! = _; rw [getElem!_pos s.data i hi]; rfl
      rw [← Option.some.inj hb, e]
      generalize s[i]'hi = x at hc
      have h1 : x ≠ 34 := by rintro rfl; revert hc; decide
      have h2 : x ≠ 10 := by rintro rfl; revert hc; decide
      simp [h1, h2]
    · obtain ⟨h1, h2⟩ := decode_cont s i k (by omega) hk
      have := get_list s (i + k) h1
      rw [this] at hb
      rw [Option.some.inj hb] at h2
      have h3 : b ≠ 34 := by rintro rfl; revert h2; decide
      have h4 : b ≠ 10 := by rintro rfl; revert h2; decide
      simp [h3, h4]
theorem decode_end (s : ByteArray) (i : Nat) (hi : i < s.size) : 1 ≤ (Utf8.decode s i).2 ∧ i + (Utf8.decode s i).2 ≤ s.size := by
  have h1 : 1 ≤ (Utf8.decode s i).2 := by
    rcases Nat.lt_or_ge (s[i]'hi).toNat 128 with h | h
    · rw [decode_ascii s i hi h]; exact Nat.le_refl _
    · exact (decode_high s i hi h).2
  refine ⟨h1, ?_⟩
  rcases Nat.lt_or_ge 1 (Utf8.decode s i).2 with h | h
  · have := (decode_cont s i ((Utf8.decode s i).2 - 1) (by omega) (by omega)).1
    omega
  · omega
set_option maxRecDepth 100000 in
set_option maxHeartbeats 4000000 in
theorem IndexAny_short (s : ByteArray) (h8 : s.size ≤ 8) (w : World) :
    Calls Tryz.prog 133 #[.string s, .string ⟨#[34, 10]⟩] w fun e w' => e = .returned (.int .i64 (Lib.indexAny s.data.toList [34, 10])) ∧ Below w.heap.size w w' := by
  have CS : ∀ w, Calls Tryz.prog 151 #[.int .i64 (s.size : Int)] w fun e w' => e = .returned (.bool false) ∧ w' = w := fun w => by
    have := Any.strings_shouldUseASCIISet (ρ := Tryz.lays153_ren) { Tryz.lays153 with } (s.size : Int) w
    rwa [show decide ((8 : Int) < (s.size : Int)) = false by simp; omega] at this
  go_enter Tryz.func133, Tryz.ntmps133
  go_wp2_with ((with_reducible refine (CS _).mono ?_); rintro e w' ⟨rfl, rfl⟩)
  generalize hk0 : w'.heap.size = k0
  go_loopg [9, 10] s.size (fun g _ _ wx => ∃ i : Nat, i + g = s.size ∧ wx.heap[k0]? = some (.stringIter s i) ∧ Below w'.heap.size w' wx ∧ Lib.NoAny s.data.toList [34, 10] i)
  case atStart =>
    refine ⟨0, by omega, ?_, ?_, Lib.NoAny.zero _ _⟩
    · rw [← hk0]; exact World.iter_heap _ _ _
    · exact (Below.refl _ _).alloc (Nat.le_refl _) _
  case round =>
    obtain ⟨i, hig, hit, hB, hno⟩ := hrel
    have HN := hide hno
    have HB := hide hB
    have HI := hide hit
    clear hno hB
    by_cases hlt : i < s.size
    · have hnx := fun ty => Lib.run_next_any_at (P := Tryz.prog) wr k0 s i ty hit hlt
      obtain ⟨hd1, hd2⟩ := decode_end s i hlt
      have HI2 := hide (Lib.iterAt_heap wr k0 s i (i + (Utf8.decode s i).2) hit)
      have HB2 := hide (below_iterAt (s := s) (p := i + (Utf8.decode s i).2) HB.out (Nat.le_of_eq hk0))
      clear hit
      have hk1 : k0 < (wr.iterAt k0 s (i + (Utf8.decode s i).2)).heap.size := (Array.getElem?_eq_some_iff.1 HI2.out).1
      have HK := hide hk1
      clear hk1
      rcases Nat.lt_or_ge (s[i]'hlt).toNat 128 with hc | hc
      · have hd := decode_ascii s i hlt hc
        rw [hd] at hnx HI2 HB2 hd1 hd2 HK
        obtain ⟨x, hx⟩ : ∃ x : UInt8, s[i]'hlt = x := ⟨_, rfl⟩
        have hxl : s.data.toList[i]? = some x := by rw [← hx]; exact Lib.data_getElem? s i hlt
        rw [hx] at hc hnx
        have CR : ∀ w, Calls Tryz.prog 146 #[.string ⟨#[34, 10]⟩, .int .i32 (x.toNat : Int)] w fun e w' => e = .returned (.int .i64 (Lib.indexByte [34, 10] x)) ∧ w' = w := fun w => by
          have := Any.strings_IndexRune_ascii (ρ := Tryz.lays153_ren) { Tryz.lays153 with } ⟨#[34, 10]⟩ (x.toNat : Int) w (by omega) (by omega)
          rwa [show ((x.toNat : Int)).toNat.toUInt8 = x by simp] at this
        have hcon := Lib.contains_iff_indexByte [34, 10] x
        have HX := hide hxl
        clear hxl hx hd
        simp only [] at hnx HI2 HB2 hd1 hd2 HK
        generalize wr.iterAt k0 s (i + 1) = w2 at *
        cases hin : ([34, 10] : List UInt8).contains x with
        | false =>
          rw [hin] at hcon
          have hlt0 : ¬ ((0 : Int) ≤ Lib.indexByte [34, 10] x) := of_decide_eq_false hcon.symm
          have HN2 := hide (HN.out.succ HX.out hin)
          clear hcon hin
          generalize Lib.indexByte [34, 10] x = v at *
          go_wp2_with ((with_reducible refine (CR _).mono ?_); rintro e w3 ⟨rfl, rfl⟩)
          go_roundg (s.size - (i + 1))
          case measure => omega
          case rel => exact ⟨i + 1, by omega, HI2.out, HB2.out, HN2.out⟩
        | true =>
          rw [hin] at hcon
          have hge : (0 : Int) ≤ Lib.indexByte [34, 10] x := of_decide_eq_true hcon.symm
          have HV : Hid (Lib.indexAny s.data.toList [34, 10] = i) := Lib.indexAny_hit HN.out HX.out hin
          clear hcon hin
          generalize Lib.indexByte [34, 10] x = v at *
          go_wp2_with ((with_reducible refine (CR _).mono ?_); rintro e w3 ⟨rfl, rfl⟩)
          go_ret
          exact ⟨by rw [HV.out]; rfl, HB2.out⟩
      · have CR := fun w => IndexRune_hi ((Utf8.decode s i).1 : Int) (by have := (decode_high s i hlt hc).1; omega) (by have := decode_le s i; omega) w
        have HN2 := hide (NoAny_high s i hlt hc HN.out)
        clear hc HN
        generalize wr.iterAt k0 s (i + (Utf8.decode s i).2) = w2 at *
        generalize (Utf8.decode s i).1 = r at *
        generalize (Utf8.decode s i).2 = m at *
        go_wp2_with ((with_reducible refine (CR _).mono ?_); rintro e w3 ⟨rfl, hb3⟩)
        go_roundg (s.size - (i + m))
        case measure => omega
        case rel => exact ⟨i + m, by omega, by rw [hb3.block k0 HK.out]; exact HI2.out, below_to HB2.out (Nat.le_refl _) hb3, HN2.out⟩
    · have hnx := fun ty => Lib.run_next_end_at (P := Tryz.prog) wr k0 s i ty hit hlt
      obtain rfl : i = s.size := by omega
      clear hit hlt
      go_wp2_with fail
      go_ret
      exact ⟨by rw [Lib.indexAny_none (by rw [← Lib.size_eq]; exact HN.out)]; rfl, HB.out⟩
/-- strings.IndexAny with a quote and a line feed, at every text -/
theorem IndexAny_qn (s : ByteArray) (hs : s.size < 4294967281) (w : World) :
    Calls Tryz.prog 133 #[.string s, .string ⟨#[34, 10]⟩] w fun e w' => e = .returned (.int .i64 (Lib.indexAny s.data.toList [34, 10])) ∧ Below w.heap.size w w' := by
  by_cases h8 : s.size ≤ 8
  · exact IndexAny_short s h8 w
  · have hz := zero_of_info (P := Tryz.prog) (t := 124) (show (Tryz.prog.info? 124).map (fun i => (i.zero, i.size)) = some (some (.agg (Array.replicate 256 (.bool false))), 256) by kernel_rfl)
    refine (Any.strings_IndexAny_long (ρ := Tryz.lays153_ren) { Tryz.lays153 with } hz.1 hz.2 s ⟨#[34, 10]⟩ w (by decide) (by omega) hs (by decide) (fun j b h => by
      match j, h with
      | 0, h => simp at h; subst h; decide
      | 1, h => simp at h; subst h; decide)).mono fun e w' ⟨h1, h2⟩ => ⟨h1, ?_⟩
    rw [h2]
    exact ((Below.refl _ _).alloc (Nat.le_refl _) _).alloc (by simp) _
end Go.Proofs.YtdiebacfbhjbdaaGreatDoor
