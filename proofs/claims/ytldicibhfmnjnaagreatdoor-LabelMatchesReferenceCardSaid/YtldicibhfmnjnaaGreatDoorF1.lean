/- Walks of package label: Pack of a label that is not valid. -/
import Derived.Test.YtldicibhfmnjnaaGreatDoorD2
import Derived.Test.YtldicibhfmnjnaaGreatDoorY5
set_option linter.unusedVariables false
set_option linter.unusedSimpArgs false
namespace Go.Proofs.YtldicibhfmnjnaaGreatDoor
open Go.RowKit
theorem sym36_of : ∀ c ∈ symT.take 36, sym36 c = true := by decide +kernel
theorem Trim_bad (d : List UInt8) (hd : d.all sym36 = false) (hl : d.length ≤ 100) : ∃ T : ByteArray, T.toList.isEmpty = false ∧ ∀ w : World, Calls Tryz.prog 23 #[.string (bs d), .string (bs (symT.take 36))] w fun e w' => e = .returned (.string T) ∧ Below w.heap.size w w' := by
  refine ⟨bs (Lib.trimS d (symT.take 36)), ?_, fun w => ?_⟩
  · rw [bs_toList]
    cases hT : Lib.trimS d (symT.take 36) with
    | cons _ _ => rfl
    | nil =>
      rw [trimS_nil] at hT
      have : d.all sym36 = true := List.all_eq_true.2 fun c hc => sym36_of c (hT c hc)
      rw [this] at hd; cases hd
  · have h := Tryz.strings_Trim_laid (bs d) (bs (symT.take 36)) w (by rw [bs_size]; omega) (by rw [bs_size]; decide) (fun j b hb => by rw [bs_list] at hb; exact sym36_ascii b (List.mem_of_getElem? hb))
    rw [bs_list, bs_list] at h
    exact h
set_option maxRecDepth 100000 in
set_option maxHeartbeats 8000000 in
theorem pk_e (d : List UInt8) (hl : d.length ≤ 140737488355328) (o s h : Int) (b : Bool) (E : Int) (hE : (lexP d).2.1 = E) (hne : E ≠ 0) (w : World) : Calls Tryz.prog 12 #[lval d o s h b] w fun e w' => e = .returned (.tuple #[.string (bs []), .int .i64 1]) ∧ Below w.heap.size w w' := by
  have HB1 := hide (below_one w (.cells #[.string (bs d), .int .i64 o, .int .i64 s, .int .i64 h, .bool b] 23))
  have HX := hide (Blk.new w 23 #[.string (bs d), .int .i64 o, .int .i64 s, .int .i64 h, .bool b])
  have hsz : (bs d).size = d.length := bs_size d
  have hemp : (bs ([] : List UInt8)).toList.isEmpty = true := by rw [bs_toList]; rfl
  have h36 : (bs symT).extract 0 36 = bs (symT.take 36) := by rw [bs_cut]; rfl
  have hsy : (bs symT).size = 37 := rfl
  have CL := fun w => Lex_any d hl w
  rw [hE] at CL
  have e1 : (E == 0) = false := by rw [beq_eq_false_iff_ne]; exact hne
  clear hE hne
  go_enter Tryz.func12, Tryz.ntmps12
  unfold lval
  go_wp2_with fail
  generalize w.alloc (.cells #[.string (bs d), .int .i64 o, .int .i64 s, .int .i64 h, .bool b] 23) = w1 at *
  obtain ⟨bx, hbx⟩ : ∃ bx, Hid (w.heap.size = bx) := ⟨_, rfl⟩
  rw [hbx.out] at HX ⊢
  refine (CL _).mono ?_
  rintro e w2 ⟨v, rfl, hv, hb⟩
  have HB2 := hide (below_to HB1.out (Nat.le_refl _) hb)
  have HX2 := hide (HX.out.to hb)
  clear hb HB1 HX CL
  clear hv
  obtain ⟨U, hU, g, u0, rfl, hgu, hi'⟩ := cls w2
  have x0 := blk_all hgu HX2.out 0 rfl
  have x1 := blk_all hgu HX2.out 1 rfl
  have x2 := blk_all hgu HX2.out 2 rfl
  have x3 := blk_all hgu HX2.out 3 rfl
  have x4 := blk_all hgu HX2.out 4 rfl
  have HGU := hide hgu
  have HHI := hide hi'
  have hstart : ∀ u, ∃ u', (g u).drew = g u' := fun u => hi' _ (hgu u).drew
  clear hgu hi'
  have CSY : ∀ w : World, Calls Tryz.prog 24 #[] w fun e w' => e = .returned (.string (bs symT)) ∧ Below w.heap.size w w' := fun w => (symbols_any w).mono fun e w' ⟨he, hw⟩ => ⟨he, hw ▸ Below.refl _ _⟩
  go_wp2_with fail
  apply wp_region_looseG g (V := [some _, some _, some _, some _, some _, some _, some _, some _, some _, some _, some _, some _, some _, some _, some _, some _, some _, some _, some _, some _, some _, some _, some _, some _]) (Fs := []) (Rel := fun _ w w' => Below w.heap.size w w')
  case hm => kernel_rfl
  case hB => kernel_rfl
  case hCw => exact hstart _
  case hC =>
    rintro i uq w' hr
    exact HHI.out _ (below_to (HGU.out uq) (Nat.le_refl _) hr)
  case hst =>
    exact keeps_nil
  case hop =>
    refine ⟨?_, ?_, ?_, ?_, ?_, ?_, ?_, ?_, ?_, ?_, ?_, ?_, ?_, ?_, ?_, ?_, ?_, ?_, ?_, ?_, ?_, ?_, ?_, ?_, trivial⟩
    · intro a uq K hS hd hK
      have s5 := hS.at 5 (by kernel_rfl) rfl
      rw [if_pos (want_free rfl)]
      go_simp
      exact hK _ _ (Below.refl _ _) (vok rfl) facts_nil
    · intro a uq K hS hd hK
      have s18 := (waits_on hd 0 (by kernel_rfl)).at (d := 18) rfl rfl rfl
      rw [if_pos (want_free rfl)]
      go_simp
      exact hK _ _ (Below.refl _ _) (vok rfl) facts_nil
    · intro a uq K hS hd hK
      have s19 := (waits_on hd 1 (by kernel_rfl)).at (d := 19) rfl rfl rfl
      rw [if_pos (want_free rfl)]
      go_simp
      exact hK _ _ (Below.refl _ _) (vok rfl) facts_nil
    · intro a uq K hS hd hK
      have s20 := (waits_on hd 2 (by kernel_rfl)).at (d := 20) rfl rfl rfl
      rw [if_neg (want_no rfl rfl rfl s20 rfl)]
      exact hK _ _ (Below.refl _ _) (vok rfl) facts_nil
    · intro a uq K hS hd hK
      have s20 := (waits_on hd 2 (by kernel_rfl)).at (d := 20) rfl rfl rfl
      rw [if_neg (want_no rfl rfl rfl s20 rfl)]
      exact hK _ _ (Below.refl _ _) (vok rfl) facts_nil
    · intro a uq K hS hd hK
      have s20 := (waits_on hd 2 (by kernel_rfl)).at (d := 20) rfl rfl rfl
      rw [if_neg (want_no rfl rfl rfl s20 rfl)]
      exact hK _ _ (Below.refl _ _) (vok rfl) facts_nil
    · intro a uq K hS hd hK
      have s20 := (waits_on hd 2 (by kernel_rfl)).at (d := 20) rfl rfl rfl
      have s23 := (waits_on hd 5 (by kernel_rfl)).at (d := 23) rfl rfl rfl
      rw [if_pos (want_free rfl)]
      go_simp
      exact hK _ _ (Below.refl _ _) (vok rfl) facts_nil
    · intro a uq K hS hd hK
      have s24 := (waits_on hd 6 (by kernel_rfl)).at (d := 24) rfl rfl rfl
      rw [if_pos (want_free rfl)]
      go_simp
      exact hK _ _ (Below.refl _ _) (vok rfl) facts_nil
    · intro a uq K hS hd hK
      have s25 := (waits_on hd 7 (by kernel_rfl)).at (d := 25) rfl rfl rfl
      rw [if_neg (want_no rfl rfl rfl s25 rfl)]
      exact hK _ _ (Below.refl _ _) (vok rfl) facts_nil
    · intro a uq K hS hd hK
      have s25 := (waits_on hd 7 (by kernel_rfl)).at (d := 25) rfl rfl rfl
      rw [if_neg (want_no rfl rfl rfl s25 rfl)]
      exact hK _ _ (Below.refl _ _) (vok rfl) facts_nil
    · intro a uq K hS hd hK
      have s25 := (waits_on hd 7 (by kernel_rfl)).at (d := 25) rfl rfl rfl
      rw [if_neg (want_no rfl rfl rfl s25 rfl)]
      exact hK _ _ (Below.refl _ _) (vok rfl) facts_nil
    · intro a uq K hS hd hK
      have s25 := (waits_on hd 7 (by kernel_rfl)).at (d := 25) rfl rfl rfl
      rw [if_neg (want_no rfl rfl rfl s25 rfl)]
      exact hK _ _ (Below.refl _ _) (vok rfl) facts_nil
    · intro a uq K hS hd hK
      have s25 := (waits_on hd 7 (by kernel_rfl)).at (d := 25) rfl rfl rfl
      rw [if_neg (want_no rfl rfl rfl s25 rfl)]
      exact hK _ _ (Below.refl _ _) (vok rfl) facts_nil
    · intro a uq K hS hd hK
      have s25 := (waits_on hd 7 (by kernel_rfl)).at (d := 25) rfl rfl rfl
      have s30 := (waits_on hd 12 (by kernel_rfl)).at (d := 30) rfl rfl rfl
      rw [if_pos (want_free rfl)]
      go_simp
      exact hK _ _ (Below.refl _ _) (vok rfl) facts_nil
    · intro a uq K hS hd hK
      have s31 := (waits_on hd 13 (by kernel_rfl)).at (d := 31) rfl rfl rfl
      rw [if_pos (want_free rfl)]
      go_simp
      exact hK _ _ (Below.refl _ _) (vok rfl) facts_nil
    · intro a uq K hS hd hK
      have s32 := (waits_on hd 14 (by kernel_rfl)).at (d := 32) rfl rfl rfl
      rw [if_neg (want_no rfl rfl rfl s32 rfl)]
      exact hK _ _ (Below.refl _ _) (vok rfl) facts_nil
    · intro a uq K hS hd hK
      have s32 := (waits_on hd 14 (by kernel_rfl)).at (d := 32) rfl rfl rfl
      rw [if_neg (want_no rfl rfl rfl s32 rfl)]
      exact hK _ _ (Below.refl _ _) (vok rfl) facts_nil
    · intro a uq K hS hd hK
      have s32 := (waits_on hd 14 (by kernel_rfl)).at (d := 32) rfl rfl rfl
      rw [if_neg (want_no rfl rfl rfl s32 rfl)]
      exact hK _ _ (Below.refl _ _) (vok rfl) facts_nil
    · intro a uq K hS hd hK
      have s32 := (waits_on hd 14 (by kernel_rfl)).at (d := 32) rfl rfl rfl
      rw [if_neg (want_no rfl rfl rfl s32 rfl)]
      exact hK _ _ (Below.refl _ _) (vok rfl) facts_nil
    · intro a uq K hS hd hK
      have s32 := (waits_on hd 14 (by kernel_rfl)).at (d := 32) rfl rfl rfl
      rw [if_neg (want_no rfl rfl rfl s32 rfl)]
      exact hK _ _ (Below.refl _ _) (vok rfl) facts_nil
    · intro a uq K hS hd hK
      have s32 := (waits_on hd 14 (by kernel_rfl)).at (d := 32) rfl rfl rfl
      rw [if_neg (want_no rfl rfl rfl s32 rfl)]
      exact hK _ _ (Below.refl _ _) (vok rfl) facts_nil
    · intro a uq K hS hd hK
      have s32 := (waits_on hd 14 (by kernel_rfl)).at (d := 32) rfl rfl rfl
      rw [if_neg (want_no rfl rfl rfl s32 rfl)]
      exact hK _ _ (Below.refl _ _) (vok rfl) facts_nil
    · intro a uq K hS hd hK
      have s32 := (waits_on hd 14 (by kernel_rfl)).at (d := 32) rfl rfl rfl
      have s39 := (waits_on hd 21 (by kernel_rfl)).at (d := 39) rfl rfl rfl
      rw [if_pos (want_free rfl)]
      go_simp
      exact hK _ _ (Below.refl _ _) (vok rfl) facts_nil
    · intro a uq K hS hd hK
      have s40 := (waits_on hd 22 (by kernel_rfl)).at (d := 40) rfl rfl rfl
      rw [if_pos (want_free rfl)]
      go_simp
      exact hK _ _ (Below.refl _ _) (vok rfl) facts_nil
  case hfin =>
    intro a uq hS hk
    have s18 := (hk 0 (by decide)).at (d := 18) rfl rfl rfl
    have s19 := (hk 1 (by decide)).at (d := 19) rfl rfl rfl
    have s20 := (hk 2 (by decide)).at (d := 20) rfl rfl rfl
    have s21 := (hk 3 (by decide)).at (d := 21) rfl rfl rfl
    have s22 := (hk 4 (by decide)).at (d := 22) rfl rfl rfl
    have s23 := (hk 5 (by decide)).at (d := 23) rfl rfl rfl
    have s24 := (hk 6 (by decide)).at (d := 24) rfl rfl rfl
    have s25 := (hk 7 (by decide)).at (d := 25) rfl rfl rfl
    have s26 := (hk 8 (by decide)).at (d := 26) rfl rfl rfl
    have s27 := (hk 9 (by decide)).at (d := 27) rfl rfl rfl
    have s28 := (hk 10 (by decide)).at (d := 28) rfl rfl rfl
    have s29 := (hk 11 (by decide)).at (d := 29) rfl rfl rfl
    have s30 := (hk 12 (by decide)).at (d := 30) rfl rfl rfl
    have s31 := (hk 13 (by decide)).at (d := 31) rfl rfl rfl
    have s32 := (hk 14 (by decide)).at (d := 32) rfl rfl rfl
    have s33 := (hk 15 (by decide)).at (d := 33) rfl rfl rfl
    have s34 := (hk 16 (by decide)).at (d := 34) rfl rfl rfl
    have s35 := (hk 17 (by decide)).at (d := 35) rfl rfl rfl
    have s36 := (hk 18 (by decide)).at (d := 36) rfl rfl rfl
    have s37 := (hk 19 (by decide)).at (d := 37) rfl rfl rfl
    have s38 := (hk 20 (by decide)).at (d := 38) rfl rfl rfl
    have s39 := (hk 21 (by decide)).at (d := 39) rfl rfl rfl
    have s40 := (hk 22 (by decide)).at (d := 40) rfl rfl rfl
    have s7 := (hk 23 (by decide)).at (d := 7) rfl rfl rfl
    have hlit := hS.lit _ (by kernel_rfl) (lits_cons s18 (lits_cons s19 (lits_cons s20 (lits_cons s21 (lits_cons s22 (lits_cons s23 (lits_cons s24 (lits_cons s25 (lits_cons s26 (lits_cons s27 (lits_cons s28 (lits_cons s29 (lits_cons s30 (lits_cons s31 (lits_cons s32 (lits_cons s33 (lits_cons s34 (lits_cons s35 (lits_cons s36 (lits_cons s37 (lits_cons s38 (lits_cons s39 (lits_cons s40 (lits_cons s7 lits_nil))))))))))))))))))))))))
    rw [hlit]
    clear hlit hk hS s18 s19 s20 s21 s22 s23 s24 s25 s26 s27 s28 s29 s30 s31 s32 s33 s34 s35 s36 s37 s38 s39 s40 s7
    simp only [litT, List.setIfInBounds_toArray, List.set_cons_succ, List.set_cons_zero]
    go_wp2_with fail
    apply wp_region_looseG g (V := [some _, some _, some _, some _, some _, some _, some _, some _, some _, some _, some _, some _, some _, some _, some _, some _, some _, some _, some _, some _, some _, some _, some _, some _, some _, some _]) (Fs := []) (Rel := fun _ w w' => Below w.heap.size w w')
    case hm => kernel_rfl
    case hB => kernel_rfl
    case hCw => exact hstart _
    case hC =>
      rintro i uq w' hr
      exact HHI.out _ (below_to (HGU.out uq) (Nat.le_refl _) hr)
    case hst =>
      exact keeps_nil
    case hop =>
      refine ⟨?_, ?_, ?_, ?_, ?_, ?_, ?_, ?_, ?_, ?_, ?_, ?_, ?_, ?_, ?_, ?_, ?_, ?_, ?_, ?_, ?_, ?_, ?_, ?_, ?_, ?_, trivial⟩
      · intro a uq K hS hd hK
        have s7 := hS.at 7 (by kernel_rfl) rfl
        rw [if_pos (want_free rfl)]
        go_simp
        exact hK _ _ (Below.refl _ _) (vok rfl) facts_nil
      · intro a uq K hS hd hK
        have s41 := (waits_on hd 0 (by kernel_rfl)).at (d := 41) rfl rfl rfl
        rw [if_pos (want_free rfl)]
        go_simp
        exact hK _ _ (Below.refl _ _) (vok rfl) facts_nil
      · intro a uq K hS hd hK
        have s42 := (waits_on hd 1 (by kernel_rfl)).at (d := 42) rfl rfl rfl
        rw [if_pos (want_free rfl)]
        go_simp
        exact hK _ _ (Below.refl _ _) (vok rfl) facts_nil
      · intro a uq K hS hd hK
        have s43 := (waits_on hd 2 (by kernel_rfl)).at (d := 43) rfl rfl rfl
        rw [if_neg (want_no rfl rfl rfl s43 rfl)]
        exact hK _ _ (Below.refl _ _) (vok rfl) facts_nil
      · intro a uq K hS hd hK
        have s43 := (waits_on hd 2 (by kernel_rfl)).at (d := 43) rfl rfl rfl
        rw [if_neg (want_no rfl rfl rfl s43 rfl)]
        exact hK _ _ (Below.refl _ _) (vok rfl) facts_nil
      · intro a uq K hS hd hK
        have s43 := (waits_on hd 2 (by kernel_rfl)).at (d := 43) rfl rfl rfl
        rw [if_neg (want_no rfl rfl rfl s43 rfl)]
        exact hK _ _ (Below.refl _ _) (vok rfl) facts_nil
      · intro a uq K hS hd hK
        have s43 := (waits_on hd 2 (by kernel_rfl)).at (d := 43) rfl rfl rfl
        rw [if_neg (want_no rfl rfl rfl s43 rfl)]
        exact hK _ _ (Below.refl _ _) (vok rfl) facts_nil
      · intro a uq K hS hd hK
        have s43 := (waits_on hd 2 (by kernel_rfl)).at (d := 43) rfl rfl rfl
        have s47 := (waits_on hd 6 (by kernel_rfl)).at (d := 47) rfl rfl rfl
        rw [if_pos (want_free rfl)]
        go_simp
        exact hK _ _ (Below.refl _ _) (vok rfl) facts_nil
      · intro a uq K hS hd hK
        have s48 := (waits_on hd 7 (by kernel_rfl)).at (d := 48) rfl rfl rfl
        rw [if_pos (want_free rfl)]
        go_simp
        exact hK _ _ (Below.refl _ _) (vok rfl) facts_nil
      · intro a uq K hS hd hK
        have s49 := (waits_on hd 8 (by kernel_rfl)).at (d := 49) rfl rfl rfl
        rw [if_neg (want_no rfl rfl rfl s49 rfl)]
        exact hK _ _ (Below.refl _ _) (vok rfl) facts_nil
      · intro a uq K hS hd hK
        have s49 := (waits_on hd 8 (by kernel_rfl)).at (d := 49) rfl rfl rfl
        rw [if_neg (want_no rfl rfl rfl s49 rfl)]
        exact hK _ _ (Below.refl _ _) (vok rfl) facts_nil
      · intro a uq K hS hd hK
        have s49 := (waits_on hd 8 (by kernel_rfl)).at (d := 49) rfl rfl rfl
        rw [if_neg (want_no rfl rfl rfl s49 rfl)]
        exact hK _ _ (Below.refl _ _) (vok rfl) facts_nil
      · intro a uq K hS hd hK
        have s49 := (waits_on hd 8 (by kernel_rfl)).at (d := 49) rfl rfl rfl
        rw [if_neg (want_no rfl rfl rfl s49 rfl)]
        exact hK _ _ (Below.refl _ _) (vok rfl) facts_nil
      · intro a uq K hS hd hK
        have s49 := (waits_on hd 8 (by kernel_rfl)).at (d := 49) rfl rfl rfl
        rw [if_neg (want_no rfl rfl rfl s49 rfl)]
        exact hK _ _ (Below.refl _ _) (vok rfl) facts_nil
      · intro a uq K hS hd hK
        have s49 := (waits_on hd 8 (by kernel_rfl)).at (d := 49) rfl rfl rfl
        rw [if_neg (want_no rfl rfl rfl s49 rfl)]
        exact hK _ _ (Below.refl _ _) (vok rfl) facts_nil
      · intro a uq K hS hd hK
        have s49 := (waits_on hd 8 (by kernel_rfl)).at (d := 49) rfl rfl rfl
        have s55 := (waits_on hd 14 (by kernel_rfl)).at (d := 55) rfl rfl rfl
        rw [if_pos (want_free rfl)]
        go_simp
        exact hK _ _ (Below.refl _ _) (vok rfl) facts_nil
      · intro a uq K hS hd hK
        have s56 := (waits_on hd 15 (by kernel_rfl)).at (d := 56) rfl rfl rfl
        rw [if_pos (want_free rfl)]
        go_simp
        exact hK _ _ (Below.refl _ _) (vok rfl) facts_nil
      · intro a uq K hS hd hK
        have s57 := (waits_on hd 16 (by kernel_rfl)).at (d := 57) rfl rfl rfl
        rw [if_neg (want_no rfl rfl rfl s57 rfl)]
        exact hK _ _ (Below.refl _ _) (vok rfl) facts_nil
      · intro a uq K hS hd hK
        have s57 := (waits_on hd 16 (by kernel_rfl)).at (d := 57) rfl rfl rfl
        rw [if_neg (want_no rfl rfl rfl s57 rfl)]
        exact hK _ _ (Below.refl _ _) (vok rfl) facts_nil
      · intro a uq K hS hd hK
        have s57 := (waits_on hd 16 (by kernel_rfl)).at (d := 57) rfl rfl rfl
        rw [if_neg (want_no rfl rfl rfl s57 rfl)]
        exact hK _ _ (Below.refl _ _) (vok rfl) facts_nil
      · intro a uq K hS hd hK
        have s57 := (waits_on hd 16 (by kernel_rfl)).at (d := 57) rfl rfl rfl
        have s60 := (waits_on hd 19 (by kernel_rfl)).at (d := 60) rfl rfl rfl
        rw [if_pos (want_free rfl)]
        go_simp
        exact hK _ _ (Below.refl _ _) (vok rfl) facts_nil
      · intro a uq K hS hd hK
        have s61 := (waits_on hd 20 (by kernel_rfl)).at (d := 61) rfl rfl rfl
        rw [if_pos (want_free rfl)]
        go_simp
        exact hK _ _ (Below.refl _ _) (vok rfl) facts_nil
      · intro a uq K hS hd hK
        have s62 := (waits_on hd 21 (by kernel_rfl)).at (d := 62) rfl rfl rfl
        rw [if_neg (want_no rfl rfl rfl s62 rfl)]
        exact hK _ _ (Below.refl _ _) (vok rfl) facts_nil
      · intro a uq K hS hd hK
        have s62 := (waits_on hd 21 (by kernel_rfl)).at (d := 62) rfl rfl rfl
        rw [if_neg (want_no rfl rfl rfl s62 rfl)]
        exact hK _ _ (Below.refl _ _) (vok rfl) facts_nil
      · intro a uq K hS hd hK
        have s62 := (waits_on hd 21 (by kernel_rfl)).at (d := 62) rfl rfl rfl
        rw [if_neg (want_no rfl rfl rfl s62 rfl)]
        exact hK _ _ (Below.refl _ _) (vok rfl) facts_nil
      · intro a uq K hS hd hK
        have s62 := (waits_on hd 21 (by kernel_rfl)).at (d := 62) rfl rfl rfl
        have s65 := (waits_on hd 24 (by kernel_rfl)).at (d := 65) rfl rfl rfl
        rw [if_pos (want_free rfl)]
        go_simp
        exact hK _ _ (Below.refl _ _) (vok rfl) facts_nil
    case hfin =>
      intro a uq hS hk
      have s41 := (hk 0 (by decide)).at (d := 41) rfl rfl rfl
      have s42 := (hk 1 (by decide)).at (d := 42) rfl rfl rfl
      have s43 := (hk 2 (by decide)).at (d := 43) rfl rfl rfl
      have s44 := (hk 3 (by decide)).at (d := 44) rfl rfl rfl
      have s45 := (hk 4 (by decide)).at (d := 45) rfl rfl rfl
      have s46 := (hk 5 (by decide)).at (d := 46) rfl rfl rfl
      have s47 := (hk 6 (by decide)).at (d := 47) rfl rfl rfl
      have s48 := (hk 7 (by decide)).at (d := 48) rfl rfl rfl
      have s49 := (hk 8 (by decide)).at (d := 49) rfl rfl rfl
      have s50 := (hk 9 (by decide)).at (d := 50) rfl rfl rfl
      have s51 := (hk 10 (by decide)).at (d := 51) rfl rfl rfl
      have s52 := (hk 11 (by decide)).at (d := 52) rfl rfl rfl
      have s53 := (hk 12 (by decide)).at (d := 53) rfl rfl rfl
      have s54 := (hk 13 (by decide)).at (d := 54) rfl rfl rfl
      have s55 := (hk 14 (by decide)).at (d := 55) rfl rfl rfl
      have s56 := (hk 15 (by decide)).at (d := 56) rfl rfl rfl
      have s57 := (hk 16 (by decide)).at (d := 57) rfl rfl rfl
      have s58 := (hk 17 (by decide)).at (d := 58) rfl rfl rfl
      have s59 := (hk 18 (by decide)).at (d := 59) rfl rfl rfl
      have s60 := (hk 19 (by decide)).at (d := 60) rfl rfl rfl
      have s61 := (hk 20 (by decide)).at (d := 61) rfl rfl rfl
      have s62 := (hk 21 (by decide)).at (d := 62) rfl rfl rfl
      have s63 := (hk 22 (by decide)).at (d := 63) rfl rfl rfl
      have s64 := (hk 23 (by decide)).at (d := 64) rfl rfl rfl
      have s65 := (hk 24 (by decide)).at (d := 65) rfl rfl rfl
      have s66 := (hk 25 (by decide)).at (d := 66) rfl rfl rfl
      have hlit := hS.lit _ (by kernel_rfl) (lits_cons s41 (lits_cons s42 (lits_cons s43 (lits_cons s44 (lits_cons s45 (lits_cons s46 (lits_cons s47 (lits_cons s48 (lits_cons s49 (lits_cons s50 (lits_cons s51 (lits_cons s52 (lits_cons s53 (lits_cons s54 (lits_cons s55 (lits_cons s56 (lits_cons s57 (lits_cons s58 (lits_cons s59 (lits_cons s60 (lits_cons s61 (lits_cons s62 (lits_cons s63 (lits_cons s64 (lits_cons s65 (lits_cons s66 lits_nil))))))))))))))))))))))))))
      rw [hlit]
      clear hlit hk hS s41 s42 s43 s44 s45 s46 s47 s48 s49 s50 s51 s52 s53 s54 s55 s56 s57 s58 s59 s60 s61 s62 s63 s64 s65 s66
      simp only [litT, List.setIfInBounds_toArray, List.set_cons_succ, List.set_cons_zero]
      go_wp2_with fail
      go_ret2
      exact ⟨rfl, below_to HB2.out (Nat.le_refl _) (HGU.out _)⟩
set_option maxRecDepth 100000 in
set_option maxHeartbeats 8000000 in
theorem pk_n (d : List UInt8) (hl : d.length ≤ 140737488355328) (o s h : Int) (b : Bool) (hE : (lexP d).2.1 = 0) (n : Nat) (hn : (lexP d).1.length = n) (hne : n ≠ 1) (w : World) : Calls Tryz.prog 12 #[lval d o s h b] w fun e w' => e = .returned (.tuple #[.string (bs []), .int .i64 1]) ∧ Below w.heap.size w w' := by
  have HB1 := hide (below_one w (.cells #[.string (bs d), .int .i64 o, .int .i64 s, .int .i64 h, .bool b] 23))
  have HX := hide (Blk.new w 23 #[.string (bs d), .int .i64 o, .int .i64 s, .int .i64 h, .bool b])
  have hsz : (bs d).size = d.length := bs_size d
  have hemp : (bs ([] : List UInt8)).toList.isEmpty = true := by rw [bs_toList]; rfl
  have h36 : (bs symT).extract 0 36 = bs (symT.take 36) := by rw [bs_cut]; rfl
  have hsy : (bs symT).size = 37 := rfl
  have CL := fun w => Lex_any d hl w
  rw [hE] at CL
  have e1 : ((n : Int) == 1) = false := by rw [beq_eq_false_iff_ne]; omega
  clear hE
  go_enter Tryz.func12, Tryz.ntmps12
  unfold lval
  go_wp2_with fail
  generalize w.alloc (.cells #[.string (bs d), .int .i64 o, .int .i64 s, .int .i64 h, .bool b] 23) = w1 at *
  obtain ⟨bx, hbx⟩ : ∃ bx, Hid (w.heap.size = bx) := ⟨_, rfl⟩
  rw [hbx.out] at HX ⊢
  refine (CL _).mono ?_
  rintro e w2 ⟨v, rfl, hv, hb⟩
  have HB2 := hide (below_to HB1.out (Nat.le_refl _) hb)
  have HX2 := hide (HX.out.to hb)
  clear hb HB1 HX CL
  obtain ⟨A, c, rfl⟩ : ∃ A c, v = .slice A n c := by
    rcases hv with ⟨h1, A, c, h2⟩ | ⟨b, c, h1, _⟩
    · rw [h1] at hn; subst hn; exact ⟨A, c, h2⟩
    · rw [hn] at h1; exact ⟨_, _, h1⟩
  clear hv hn hne
  obtain ⟨U, hU, g, u0, rfl, hgu, hi'⟩ := cls w2
  have x0 := blk_all hgu HX2.out 0 rfl
  have x1 := blk_all hgu HX2.out 1 rfl
  have x2 := blk_all hgu HX2.out 2 rfl
  have x3 := blk_all hgu HX2.out 3 rfl
  have x4 := blk_all hgu HX2.out 4 rfl
  have HGU := hide hgu
  have HHI := hide hi'
  have hstart : ∀ u, ∃ u', (g u).drew = g u' := fun u => hi' _ (hgu u).drew
  clear hgu hi'
  have CSY : ∀ w : World, Calls Tryz.prog 24 #[] w fun e w' => e = .returned (.string (bs symT)) ∧ Below w.heap.size w w' := fun w => (symbols_any w).mono fun e w' ⟨he, hw⟩ => ⟨he, hw ▸ Below.refl _ _⟩
  go_wp2_with fail
  apply wp_region_looseG g (V := [some _, some _, some _, some _, some _, some _, some _, some _, some _, some _, some _, some _, some _, some _, some _, some _, some _, some _, some _, some _, some _, some _, some _, some _]) (Fs := []) (Rel := fun _ w w' => Below w.heap.size w w')
  case hm => kernel_rfl
  case hB => kernel_rfl
  case hCw => exact hstart _
  case hC =>
    rintro i uq w' hr
    exact HHI.out _ (below_to (HGU.out uq) (Nat.le_refl _) hr)
  case hst =>
    exact keeps_nil
  case hop =>
    refine ⟨?_, ?_, ?_, ?_, ?_, ?_, ?_, ?_, ?_, ?_, ?_, ?_, ?_, ?_, ?_, ?_, ?_, ?_, ?_, ?_, ?_, ?_, ?_, ?_, trivial⟩
    · intro a uq K hS hd hK
      have s5 := hS.at 5 (by kernel_rfl) rfl
      rw [if_pos (want_free rfl)]
      go_simp
      exact hK _ _ (Below.refl _ _) (vok rfl) facts_nil
    · intro a uq K hS hd hK
      have s18 := (waits_on hd 0 (by kernel_rfl)).at (d := 18) rfl rfl rfl
      rw [if_pos (want_free rfl)]
      go_simp
      exact hK _ _ (Below.refl _ _) (vok rfl) facts_nil
    · intro a uq K hS hd hK
      have s19 := (waits_on hd 1 (by kernel_rfl)).at (d := 19) rfl rfl rfl
      rw [if_pos (want_free rfl)]
      go_simp
      exact hK _ _ (Below.refl _ _) (vok rfl) facts_nil
    · intro a uq K hS hd hK
      have s20 := (waits_on hd 2 (by kernel_rfl)).at (d := 20) rfl rfl rfl
      have s4 := hS.at 4 (by kernel_rfl) rfl
      rw [if_pos (want_yes rfl rfl rfl s20)]
      go_simp
      exact hK _ _ (Below.refl _ _) (vok rfl) facts_nil
    · intro a uq K hS hd hK
      have s20 := (waits_on hd 2 (by kernel_rfl)).at (d := 20) rfl rfl rfl
      have s21 := (waits_on hd 3 (by kernel_rfl)).at (d := 21) rfl rfl rfl
      rw [if_pos (want_yes rfl rfl rfl s20)]
      go_simp
      exact hK _ _ (Below.refl _ _) (vok rfl) facts_nil
    · intro a uq K hS hd hK
      have s20 := (waits_on hd 2 (by kernel_rfl)).at (d := 20) rfl rfl rfl
      have s22 := (waits_on hd 4 (by kernel_rfl)).at (d := 22) rfl rfl rfl
      rw [if_pos (want_yes rfl rfl rfl s20)]
      go_simp
      exact hK _ _ (Below.refl _ _) (vok rfl) facts_nil
    · intro a uq K hS hd hK
      have s20 := (waits_on hd 2 (by kernel_rfl)).at (d := 20) rfl rfl rfl
      have s23 := (waits_on hd 5 (by kernel_rfl)).at (d := 23) rfl rfl rfl
      rw [if_pos (want_free rfl)]
      go_simp
      exact hK _ _ (Below.refl _ _) (vok rfl) facts_nil
    · intro a uq K hS hd hK
      have s24 := (waits_on hd 6 (by kernel_rfl)).at (d := 24) rfl rfl rfl
      rw [if_pos (want_free rfl)]
      go_simp
      exact hK _ _ (Below.refl _ _) (vok rfl) facts_nil
    · intro a uq K hS hd hK
      have s25 := (waits_on hd 7 (by kernel_rfl)).at (d := 25) rfl rfl rfl
      rw [if_neg (want_no rfl rfl rfl s25 rfl)]
      exact hK _ _ (Below.refl _ _) (vok rfl) facts_nil
    · intro a uq K hS hd hK
      have s25 := (waits_on hd 7 (by kernel_rfl)).at (d := 25) rfl rfl rfl
      rw [if_neg (want_no rfl rfl rfl s25 rfl)]
      exact hK _ _ (Below.refl _ _) (vok rfl) facts_nil
    · intro a uq K hS hd hK
      have s25 := (waits_on hd 7 (by kernel_rfl)).at (d := 25) rfl rfl rfl
      rw [if_neg (want_no rfl rfl rfl s25 rfl)]
      exact hK _ _ (Below.refl _ _) (vok rfl) facts_nil
    · intro a uq K hS hd hK
      have s25 := (waits_on hd 7 (by kernel_rfl)).at (d := 25) rfl rfl rfl
      rw [if_neg (want_no rfl rfl rfl s25 rfl)]
      exact hK _ _ (Below.refl _ _) (vok rfl) facts_nil
    · intro a uq K hS hd hK
      have s25 := (waits_on hd 7 (by kernel_rfl)).at (d := 25) rfl rfl rfl
      rw [if_neg (want_no rfl rfl rfl s25 rfl)]
      exact hK _ _ (Below.refl _ _) (vok rfl) facts_nil
    · intro a uq K hS hd hK
      have s25 := (waits_on hd 7 (by kernel_rfl)).at (d := 25) rfl rfl rfl
      have s30 := (waits_on hd 12 (by kernel_rfl)).at (d := 30) rfl rfl rfl
      rw [if_pos (want_free rfl)]
      go_simp
      exact hK _ _ (Below.refl _ _) (vok rfl) facts_nil
    · intro a uq K hS hd hK
      have s31 := (waits_on hd 13 (by kernel_rfl)).at (d := 31) rfl rfl rfl
      rw [if_pos (want_free rfl)]
      go_simp
      exact hK _ _ (Below.refl _ _) (vok rfl) facts_nil
    · intro a uq K hS hd hK
      have s32 := (waits_on hd 14 (by kernel_rfl)).at (d := 32) rfl rfl rfl
      rw [if_neg (want_no rfl rfl rfl s32 rfl)]
      exact hK _ _ (Below.refl _ _) (vok rfl) facts_nil
    · intro a uq K hS hd hK
      have s32 := (waits_on hd 14 (by kernel_rfl)).at (d := 32) rfl rfl rfl
      rw [if_neg (want_no rfl rfl rfl s32 rfl)]
      exact hK _ _ (Below.refl _ _) (vok rfl) facts_nil
    · intro a uq K hS hd hK
      have s32 := (waits_on hd 14 (by kernel_rfl)).at (d := 32) rfl rfl rfl
      rw [if_neg (want_no rfl rfl rfl s32 rfl)]
      exact hK _ _ (Below.refl _ _) (vok rfl) facts_nil
    · intro a uq K hS hd hK
      have s32 := (waits_on hd 14 (by kernel_rfl)).at (d := 32) rfl rfl rfl
      rw [if_neg (want_no rfl rfl rfl s32 rfl)]
      exact hK _ _ (Below.refl _ _) (vok rfl) facts_nil
    · intro a uq K hS hd hK
      have s32 := (waits_on hd 14 (by kernel_rfl)).at (d := 32) rfl rfl rfl
      rw [if_neg (want_no rfl rfl rfl s32 rfl)]
      exact hK _ _ (Below.refl _ _) (vok rfl) facts_nil
    · intro a uq K hS hd hK
      have s32 := (waits_on hd 14 (by kernel_rfl)).at (d := 32) rfl rfl rfl
      rw [if_neg (want_no rfl rfl rfl s32 rfl)]
      exact hK _ _ (Below.refl _ _) (vok rfl) facts_nil
    · intro a uq K hS hd hK
      have s32 := (waits_on hd 14 (by kernel_rfl)).at (d := 32) rfl rfl rfl
      rw [if_neg (want_no rfl rfl rfl s32 rfl)]
      exact hK _ _ (Below.refl _ _) (vok rfl) facts_nil
    · intro a uq K hS hd hK
      have s32 := (waits_on hd 14 (by kernel_rfl)).at (d := 32) rfl rfl rfl
      have s39 := (waits_on hd 21 (by kernel_rfl)).at (d := 39) rfl rfl rfl
      rw [if_pos (want_free rfl)]
      go_simp
      exact hK _ _ (Below.refl _ _) (vok rfl) facts_nil
    · intro a uq K hS hd hK
      have s40 := (waits_on hd 22 (by kernel_rfl)).at (d := 40) rfl rfl rfl
      rw [if_pos (want_free rfl)]
      go_simp
      exact hK _ _ (Below.refl _ _) (vok rfl) facts_nil
  case hfin =>
    intro a uq hS hk
    have s18 := (hk 0 (by decide)).at (d := 18) rfl rfl rfl
    have s19 := (hk 1 (by decide)).at (d := 19) rfl rfl rfl
    have s20 := (hk 2 (by decide)).at (d := 20) rfl rfl rfl
    have s21 := (hk 3 (by decide)).at (d := 21) rfl rfl rfl
    have s22 := (hk 4 (by decide)).at (d := 22) rfl rfl rfl
    have s23 := (hk 5 (by decide)).at (d := 23) rfl rfl rfl
    have s24 := (hk 6 (by decide)).at (d := 24) rfl rfl rfl
    have s25 := (hk 7 (by decide)).at (d := 25) rfl rfl rfl
    have s26 := (hk 8 (by decide)).at (d := 26) rfl rfl rfl
    have s27 := (hk 9 (by decide)).at (d := 27) rfl rfl rfl
    have s28 := (hk 10 (by decide)).at (d := 28) rfl rfl rfl
    have s29 := (hk 11 (by decide)).at (d := 29) rfl rfl rfl
    have s30 := (hk 12 (by decide)).at (d := 30) rfl rfl rfl
    have s31 := (hk 13 (by decide)).at (d := 31) rfl rfl rfl
    have s32 := (hk 14 (by decide)).at (d := 32) rfl rfl rfl
    have s33 := (hk 15 (by decide)).at (d := 33) rfl rfl rfl
    have s34 := (hk 16 (by decide)).at (d := 34) rfl rfl rfl
    have s35 := (hk 17 (by decide)).at (d := 35) rfl rfl rfl
    have s36 := (hk 18 (by decide)).at (d := 36) rfl rfl rfl
    have s37 := (hk 19 (by decide)).at (d := 37) rfl rfl rfl
    have s38 := (hk 20 (by decide)).at (d := 38) rfl rfl rfl
    have s39 := (hk 21 (by decide)).at (d := 39) rfl rfl rfl
    have s40 := (hk 22 (by decide)).at (d := 40) rfl rfl rfl
    have s7 := (hk 23 (by decide)).at (d := 7) rfl rfl rfl
    have hlit := hS.lit _ (by kernel_rfl) (lits_cons s18 (lits_cons s19 (lits_cons s20 (lits_cons s21 (lits_cons s22 (lits_cons s23 (lits_cons s24 (lits_cons s25 (lits_cons s26 (lits_cons s27 (lits_cons s28 (lits_cons s29 (lits_cons s30 (lits_cons s31 (lits_cons s32 (lits_cons s33 (lits_cons s34 (lits_cons s35 (lits_cons s36 (lits_cons s37 (lits_cons s38 (lits_cons s39 (lits_cons s40 (lits_cons s7 lits_nil))))))))))))))))))))))))
    rw [hlit]
    clear hlit hk hS s18 s19 s20 s21 s22 s23 s24 s25 s26 s27 s28 s29 s30 s31 s32 s33 s34 s35 s36 s37 s38 s39 s40 s7
    simp only [litT, List.setIfInBounds_toArray, List.set_cons_succ, List.set_cons_zero]
    go_wp2_with fail
    apply wp_region_looseG g (V := [some _, some _, some _, some _, some _, some _, some _, some _, some _, some _, some _, some _, some _, some _, some _, some _, some _, some _, some _, some _, some _, some _, some _, some _, some _, some _]) (Fs := []) (Rel := fun _ w w' => Below w.heap.size w w')
    case hm => kernel_rfl
    case hB => kernel_rfl
    case hCw => exact hstart _
    case hC =>
      rintro i uq w' hr
      exact HHI.out _ (below_to (HGU.out uq) (Nat.le_refl _) hr)
    case hst =>
      exact keeps_nil
    case hop =>
      refine ⟨?_, ?_, ?_, ?_, ?_, ?_, ?_, ?_, ?_, ?_, ?_, ?_, ?_, ?_, ?_, ?_, ?_, ?_, ?_, ?_, ?_, ?_, ?_, ?_, ?_, ?_, trivial⟩
      · intro a uq K hS hd hK
        have s7 := hS.at 7 (by kernel_rfl) rfl
        rw [if_pos (want_free rfl)]
        go_simp
        exact hK _ _ (Below.refl _ _) (vok rfl) facts_nil
      · intro a uq K hS hd hK
        have s41 := (waits_on hd 0 (by kernel_rfl)).at (d := 41) rfl rfl rfl
        rw [if_pos (want_free rfl)]
        go_simp
        exact hK _ _ (Below.refl _ _) (vok rfl) facts_nil
      · intro a uq K hS hd hK
        have s42 := (waits_on hd 1 (by kernel_rfl)).at (d := 42) rfl rfl rfl
        rw [if_pos (want_free rfl)]
        go_simp
        exact hK _ _ (Below.refl _ _) (vok rfl) facts_nil
      · intro a uq K hS hd hK
        have s43 := (waits_on hd 2 (by kernel_rfl)).at (d := 43) rfl rfl rfl
        rw [if_neg (want_no rfl rfl rfl s43 rfl)]
        exact hK _ _ (Below.refl _ _) (vok rfl) facts_nil
      · intro a uq K hS hd hK
        have s43 := (waits_on hd 2 (by kernel_rfl)).at (d := 43) rfl rfl rfl
        rw [if_neg (want_no rfl rfl rfl s43 rfl)]
        exact hK _ _ (Below.refl _ _) (vok rfl) facts_nil
      · intro a uq K hS hd hK
        have s43 := (waits_on hd 2 (by kernel_rfl)).at (d := 43) rfl rfl rfl
        rw [if_neg (want_no rfl rfl rfl s43 rfl)]
        exact hK _ _ (Below.refl _ _) (vok rfl) facts_nil
      · intro a uq K hS hd hK
        have s43 := (waits_on hd 2 (by kernel_rfl)).at (d := 43) rfl rfl rfl
        rw [if_neg (want_no rfl rfl rfl s43 rfl)]
        exact hK _ _ (Below.refl _ _) (vok rfl) facts_nil
      · intro a uq K hS hd hK
        have s43 := (waits_on hd 2 (by kernel_rfl)).at (d := 43) rfl rfl rfl
        have s47 := (waits_on hd 6 (by kernel_rfl)).at (d := 47) rfl rfl rfl
        rw [if_pos (want_free rfl)]
        go_simp
        exact hK _ _ (Below.refl _ _) (vok rfl) facts_nil
      · intro a uq K hS hd hK
        have s48 := (waits_on hd 7 (by kernel_rfl)).at (d := 48) rfl rfl rfl
        rw [if_pos (want_free rfl)]
        go_simp
        exact hK _ _ (Below.refl _ _) (vok rfl) facts_nil
      · intro a uq K hS hd hK
        have s49 := (waits_on hd 8 (by kernel_rfl)).at (d := 49) rfl rfl rfl
        rw [if_neg (want_no rfl rfl rfl s49 rfl)]
        exact hK _ _ (Below.refl _ _) (vok rfl) facts_nil
      · intro a uq K hS hd hK
        have s49 := (waits_on hd 8 (by kernel_rfl)).at (d := 49) rfl rfl rfl
        rw [if_neg (want_no rfl rfl rfl s49 rfl)]
        exact hK _ _ (Below.refl _ _) (vok rfl) facts_nil
      · intro a uq K hS hd hK
        have s49 := (waits_on hd 8 (by kernel_rfl)).at (d := 49) rfl rfl rfl
        rw [if_neg (want_no rfl rfl rfl s49 rfl)]
        exact hK _ _ (Below.refl _ _) (vok rfl) facts_nil
      · intro a uq K hS hd hK
        have s49 := (waits_on hd 8 (by kernel_rfl)).at (d := 49) rfl rfl rfl
        rw [if_neg (want_no rfl rfl rfl s49 rfl)]
        exact hK _ _ (Below.refl _ _) (vok rfl) facts_nil
      · intro a uq K hS hd hK
        have s49 := (waits_on hd 8 (by kernel_rfl)).at (d := 49) rfl rfl rfl
        rw [if_neg (want_no rfl rfl rfl s49 rfl)]
        exact hK _ _ (Below.refl _ _) (vok rfl) facts_nil
      · intro a uq K hS hd hK
        have s49 := (waits_on hd 8 (by kernel_rfl)).at (d := 49) rfl rfl rfl
        rw [if_neg (want_no rfl rfl rfl s49 rfl)]
        exact hK _ _ (Below.refl _ _) (vok rfl) facts_nil
      · intro a uq K hS hd hK
        have s49 := (waits_on hd 8 (by kernel_rfl)).at (d := 49) rfl rfl rfl
        have s55 := (waits_on hd 14 (by kernel_rfl)).at (d := 55) rfl rfl rfl
        rw [if_pos (want_free rfl)]
        go_simp
        exact hK _ _ (Below.refl _ _) (vok rfl) facts_nil
      · intro a uq K hS hd hK
        have s56 := (waits_on hd 15 (by kernel_rfl)).at (d := 56) rfl rfl rfl
        rw [if_pos (want_free rfl)]
        go_simp
        exact hK _ _ (Below.refl _ _) (vok rfl) facts_nil
      · intro a uq K hS hd hK
        have s57 := (waits_on hd 16 (by kernel_rfl)).at (d := 57) rfl rfl rfl
        rw [if_neg (want_no rfl rfl rfl s57 rfl)]
        exact hK _ _ (Below.refl _ _) (vok rfl) facts_nil
      · intro a uq K hS hd hK
        have s57 := (waits_on hd 16 (by kernel_rfl)).at (d := 57) rfl rfl rfl
        rw [if_neg (want_no rfl rfl rfl s57 rfl)]
        exact hK _ _ (Below.refl _ _) (vok rfl) facts_nil
      · intro a uq K hS hd hK
        have s57 := (waits_on hd 16 (by kernel_rfl)).at (d := 57) rfl rfl rfl
        rw [if_neg (want_no rfl rfl rfl s57 rfl)]
        exact hK _ _ (Below.refl _ _) (vok rfl) facts_nil
      · intro a uq K hS hd hK
        have s57 := (waits_on hd 16 (by kernel_rfl)).at (d := 57) rfl rfl rfl
        have s60 := (waits_on hd 19 (by kernel_rfl)).at (d := 60) rfl rfl rfl
        rw [if_pos (want_free rfl)]
        go_simp
        exact hK _ _ (Below.refl _ _) (vok rfl) facts_nil
      · intro a uq K hS hd hK
        have s61 := (waits_on hd 20 (by kernel_rfl)).at (d := 61) rfl rfl rfl
        rw [if_pos (want_free rfl)]
        go_simp
        exact hK _ _ (Below.refl _ _) (vok rfl) facts_nil
      · intro a uq K hS hd hK
        have s62 := (waits_on hd 21 (by kernel_rfl)).at (d := 62) rfl rfl rfl
        rw [if_neg (want_no rfl rfl rfl s62 rfl)]
        exact hK _ _ (Below.refl _ _) (vok rfl) facts_nil
      · intro a uq K hS hd hK
        have s62 := (waits_on hd 21 (by kernel_rfl)).at (d := 62) rfl rfl rfl
        rw [if_neg (want_no rfl rfl rfl s62 rfl)]
        exact hK _ _ (Below.refl _ _) (vok rfl) facts_nil
      · intro a uq K hS hd hK
        have s62 := (waits_on hd 21 (by kernel_rfl)).at (d := 62) rfl rfl rfl
        rw [if_neg (want_no rfl rfl rfl s62 rfl)]
        exact hK _ _ (Below.refl _ _) (vok rfl) facts_nil
      · intro a uq K hS hd hK
        have s62 := (waits_on hd 21 (by kernel_rfl)).at (d := 62) rfl rfl rfl
        have s65 := (waits_on hd 24 (by kernel_rfl)).at (d := 65) rfl rfl rfl
        rw [if_pos (want_free rfl)]
        go_simp
        exact hK _ _ (Below.refl _ _) (vok rfl) facts_nil
    case hfin =>
      intro a uq hS hk
      have s41 := (hk 0 (by decide)).at (d := 41) rfl rfl rfl
      have s42 := (hk 1 (by decide)).at (d := 42) rfl rfl rfl
      have s43 := (hk 2 (by decide)).at (d := 43) rfl rfl rfl
      have s44 := (hk 3 (by decide)).at (d := 44) rfl rfl rfl
      have s45 := (hk 4 (by decide)).at (d := 45) rfl rfl rfl
      have s46 := (hk 5 (by decide)).at (d := 46) rfl rfl rfl
      have s47 := (hk 6 (by decide)).at (d := 47) rfl rfl rfl
      have s48 := (hk 7 (by decide)).at (d := 48) rfl rfl rfl
      have s49 := (hk 8 (by decide)).at (d := 49) rfl rfl rfl
      have s50 := (hk 9 (by decide)).at (d := 50) rfl rfl rfl
      have s51 := (hk 10 (by decide)).at (d := 51) rfl rfl rfl
      have s52 := (hk 11 (by decide)).at (d := 52) rfl rfl rfl
      have s53 := (hk 12 (by decide)).at (d := 53) rfl rfl rfl
      have s54 := (hk 13 (by decide)).at (d := 54) rfl rfl rfl
      have s55 := (hk 14 (by decide)).at (d := 55) rfl rfl rfl
      have s56 := (hk 15 (by decide)).at (d := 56) rfl rfl rfl
      have s57 := (hk 16 (by decide)).at (d := 57) rfl rfl rfl
      have s58 := (hk 17 (by decide)).at (d := 58) rfl rfl rfl
      have s59 := (hk 18 (by decide)).at (d := 59) rfl rfl rfl
      have s60 := (hk 19 (by decide)).at (d := 60) rfl rfl rfl
      have s61 := (hk 20 (by decide)).at (d := 61) rfl rfl rfl
      have s62 := (hk 21 (by decide)).at (d := 62) rfl rfl rfl
      have s63 := (hk 22 (by decide)).at (d := 63) rfl rfl rfl
      have s64 := (hk 23 (by decide)).at (d := 64) rfl rfl rfl
      have s65 := (hk 24 (by decide)).at (d := 65) rfl rfl rfl
      have s66 := (hk 25 (by decide)).at (d := 66) rfl rfl rfl
      have hlit := hS.lit _ (by kernel_rfl) (lits_cons s41 (lits_cons s42 (lits_cons s43 (lits_cons s44 (lits_cons s45 (lits_cons s46 (lits_cons s47 (lits_cons s48 (lits_cons s49 (lits_cons s50 (lits_cons s51 (lits_cons s52 (lits_cons s53 (lits_cons s54 (lits_cons s55 (lits_cons s56 (lits_cons s57 (lits_cons s58 (lits_cons s59 (lits_cons s60 (lits_cons s61 (lits_cons s62 (lits_cons s63 (lits_cons s64 (lits_cons s65 (lits_cons s66 lits_nil))))))))))))))))))))))))))
      rw [hlit]
      clear hlit hk hS s41 s42 s43 s44 s45 s46 s47 s48 s49 s50 s51 s52 s53 s54 s55 s56 s57 s58 s59 s60 s61 s62 s63 s64 s65 s66
      simp only [litT, List.setIfInBounds_toArray, List.set_cons_succ, List.set_cons_zero]
      go_wp2_with fail
      go_ret2
      exact ⟨rfl, below_to HB2.out (Nat.le_refl _) (HGU.out _)⟩
set_option maxRecDepth 100000 in
set_option maxHeartbeats 8000000 in
theorem pk_k (d : List UInt8) (hl : d.length ≤ 140737488355328) (o s h : Int) (b : Bool) (hE : (lexP d).2.1 = 0) (xk xa xn : Int) (xs : List UInt8) (hn : (lexP d).1 = [⟨xk, xa, xn, xs⟩]) (hne : xk ≠ 1) (w : World) : Calls Tryz.prog 12 #[lval d o s h b] w fun e w' => e = .returned (.tuple #[.string (bs []), .int .i64 1]) ∧ Below w.heap.size w w' := by
  have HB1 := hide (below_one w (.cells #[.string (bs d), .int .i64 o, .int .i64 s, .int .i64 h, .bool b] 23))
  have HX := hide (Blk.new w 23 #[.string (bs d), .int .i64 o, .int .i64 s, .int .i64 h, .bool b])
  have hsz : (bs d).size = d.length := bs_size d
  have hemp : (bs ([] : List UInt8)).toList.isEmpty = true := by rw [bs_toList]; rfl
  have h36 : (bs symT).extract 0 36 = bs (symT.take 36) := by rw [bs_cut]; rfl
  have hsy : (bs symT).size = 37 := rfl
  have CL := fun w => Lex_any d hl w
  rw [hE] at CL
  have e1 : (xk == 1) = false := by rw [beq_eq_false_iff_ne]; exact hne
  clear hE hne
  go_enter Tryz.func12, Tryz.ntmps12
  unfold lval
  go_wp2_with fail
  generalize w.alloc (.cells #[.string (bs d), .int .i64 o, .int .i64 s, .int .i64 h, .bool b] 23) = w1 at *
  obtain ⟨bx, hbx⟩ : ∃ bx, Hid (w.heap.size = bx) := ⟨_, rfl⟩
  rw [hbx.out] at HX ⊢
  refine (CL _).mono ?_
  rintro e w2 ⟨v, rfl, hv, hb⟩
  have HB2 := hide (below_to HB1.out (Nat.le_refl _) hb)
  have HX2 := hide (HX.out.to hb)
  clear hb HB1 HX CL
  rw [hn] at hv
  obtain ⟨tb, tc, rfl, htl, htc⟩ : ∃ tb tc, v = .slice (some ⟨tb, 0, none⟩) 1 tc ∧ tb < w2.heap.size ∧ ∀ (j : Nat) u, (tcells ⟨xk, xa, xn, xs⟩)[j]? = some u → w2.cell? ⟨tb, j, none⟩ = some u := by
    rcases hv with ⟨h1, _⟩ | ⟨b, c, h1, h2, h3⟩
    · cases h1
    · exact ⟨b, c, h1, h2, fun j u hu => by have := h3 0 _ rfl j u hu; simpa using this⟩
  have HT := hide (⟨htl, htc⟩ : tb < w2.heap.size ∧ ∀ (j : Nat) u, (tcells ⟨xk, xa, xn, xs⟩)[j]? = some u → w2.cell? ⟨tb, j, none⟩ = some u)
  clear hv hn htl htc
  obtain ⟨U, hU, g, u0, rfl, hgu, hi'⟩ := cls w2
  have x0 := blk_all hgu HX2.out 0 rfl
  have x1 := blk_all hgu HX2.out 1 rfl
  have x2 := blk_all hgu HX2.out 2 rfl
  have x3 := blk_all hgu HX2.out 3 rfl
  have x4 := blk_all hgu HX2.out 4 rfl
  have t0 : ∀ u, (g u).cell? ⟨tb, 0, none⟩ = some (.int .i64 xk) := fun u => ((hgu u).cell (p := ⟨tb, 0, none⟩) HT.out.1).trans (HT.out.2 0 _ rfl)
  have t3 : ∀ u, (g u).cell? ⟨tb, 3, none⟩ = some (.string (bs xs)) := fun u => ((hgu u).cell (p := ⟨tb, 3, none⟩) HT.out.1).trans (HT.out.2 3 _ rfl)
  have HGU := hide hgu
  have HHI := hide hi'
  have hstart : ∀ u, ∃ u', (g u).drew = g u' := fun u => hi' _ (hgu u).drew
  clear hgu hi'
  have CSY : ∀ w : World, Calls Tryz.prog 24 #[] w fun e w' => e = .returned (.string (bs symT)) ∧ Below w.heap.size w w' := fun w => (symbols_any w).mono fun e w' ⟨he, hw⟩ => ⟨he, hw ▸ Below.refl _ _⟩
  go_wp2_with fail
  apply wp_region_looseG g (V := [some _, some _, some _, some _, some _, some _, some _, some _, some _, some _, some _, some _, some _, some _, some _, some _, some _, some _, some _, some _, some _, some _, some _, some _]) (Fs := []) (Rel := fun _ w w' => Below w.heap.size w w')
  case hm => kernel_rfl
  case hB => kernel_rfl
  case hCw => exact hstart _
  case hC =>
    rintro i uq w' hr
    exact HHI.out _ (below_to (HGU.out uq) (Nat.le_refl _) hr)
  case hst =>
    exact keeps_nil
  case hop =>
    refine ⟨?_, ?_, ?_, ?_, ?_, ?_, ?_, ?_, ?_, ?_, ?_, ?_, ?_, ?_, ?_, ?_, ?_, ?_, ?_, ?_, ?_, ?_, ?_, ?_, trivial⟩
    · intro a uq K hS hd hK
      have s5 := hS.at 5 (by kernel_rfl) rfl
      rw [if_pos (want_free rfl)]
      go_simp
      exact hK _ _ (Below.refl _ _) (vok rfl) facts_nil
    · intro a uq K hS hd hK
      have s18 := (waits_on hd 0 (by kernel_rfl)).at (d := 18) rfl rfl rfl
      rw [if_pos (want_free rfl)]
      go_simp
      exact hK _ _ (Below.refl _ _) (vok rfl) facts_nil
    · intro a uq K hS hd hK
      have s19 := (waits_on hd 1 (by kernel_rfl)).at (d := 19) rfl rfl rfl
      rw [if_pos (want_free rfl)]
      go_simp
      exact hK _ _ (Below.refl _ _) (vok rfl) facts_nil
    · intro a uq K hS hd hK
      have s20 := (waits_on hd 2 (by kernel_rfl)).at (d := 20) rfl rfl rfl
      have s4 := hS.at 4 (by kernel_rfl) rfl
      rw [if_pos (want_yes rfl rfl rfl s20)]
      go_simp
      exact hK _ _ (Below.refl _ _) (vok rfl) facts_nil
    · intro a uq K hS hd hK
      have s20 := (waits_on hd 2 (by kernel_rfl)).at (d := 20) rfl rfl rfl
      have s21 := (waits_on hd 3 (by kernel_rfl)).at (d := 21) rfl rfl rfl
      rw [if_pos (want_yes rfl rfl rfl s20)]
      go_simp
      exact hK _ _ (Below.refl _ _) (vok rfl) facts_nil
    · intro a uq K hS hd hK
      have s20 := (waits_on hd 2 (by kernel_rfl)).at (d := 20) rfl rfl rfl
      have s22 := (waits_on hd 4 (by kernel_rfl)).at (d := 22) rfl rfl rfl
      rw [if_pos (want_yes rfl rfl rfl s20)]
      go_simp
      exact hK _ _ (Below.refl _ _) (vok rfl) facts_nil
    · intro a uq K hS hd hK
      have s20 := (waits_on hd 2 (by kernel_rfl)).at (d := 20) rfl rfl rfl
      have s23 := (waits_on hd 5 (by kernel_rfl)).at (d := 23) rfl rfl rfl
      rw [if_pos (want_free rfl)]
      go_simp
      exact hK _ _ (Below.refl _ _) (vok rfl) facts_nil
    · intro a uq K hS hd hK
      have s24 := (waits_on hd 6 (by kernel_rfl)).at (d := 24) rfl rfl rfl
      rw [if_pos (want_free rfl)]
      go_simp
      exact hK _ _ (Below.refl _ _) (vok rfl) facts_nil
    · intro a uq K hS hd hK
      have s25 := (waits_on hd 7 (by kernel_rfl)).at (d := 25) rfl rfl rfl
      have s4 := hS.at 4 (by kernel_rfl) rfl
      rw [if_pos (want_yes rfl rfl rfl s25)]
      go_simp
      exact hK _ _ (Below.refl _ _) (vok rfl) facts_nil
    · intro a uq K hS hd hK
      have s25 := (waits_on hd 7 (by kernel_rfl)).at (d := 25) rfl rfl rfl
      have s26 := (waits_on hd 8 (by kernel_rfl)).at (d := 26) rfl rfl rfl
      rw [if_pos (want_yes rfl rfl rfl s25)]
      go_simp
      exact hK _ _ (Below.refl _ _) (vok rfl) facts_nil
    · intro a uq K hS hd hK
      have s25 := (waits_on hd 7 (by kernel_rfl)).at (d := 25) rfl rfl rfl
      have s27 := (waits_on hd 9 (by kernel_rfl)).at (d := 27) rfl rfl rfl
      rw [if_pos (want_yes rfl rfl rfl s25)]
      go_simp
      exact hK _ _ (Below.refl _ _) (vok rfl) facts_nil
    · intro a uq K hS hd hK
      have s25 := (waits_on hd 7 (by kernel_rfl)).at (d := 25) rfl rfl rfl
      have s28 := (waits_on hd 10 (by kernel_rfl)).at (d := 28) rfl rfl rfl
      rw [if_pos (want_yes rfl rfl rfl s25)]
      go_simp
      exact hK _ _ (Below.refl _ _) (vok rfl) facts_nil
    · intro a uq K hS hd hK
      have s25 := (waits_on hd 7 (by kernel_rfl)).at (d := 25) rfl rfl rfl
      have s29 := (waits_on hd 11 (by kernel_rfl)).at (d := 29) rfl rfl rfl
      rw [if_pos (want_yes rfl rfl rfl s25)]
      go_simp
      exact hK _ _ (Below.refl _ _) (vok rfl) facts_nil
    · intro a uq K hS hd hK
      have s25 := (waits_on hd 7 (by kernel_rfl)).at (d := 25) rfl rfl rfl
      have s30 := (waits_on hd 12 (by kernel_rfl)).at (d := 30) rfl rfl rfl
      rw [if_pos (want_free rfl)]
      go_simp
      exact hK _ _ (Below.refl _ _) (vok rfl) facts_nil
    · intro a uq K hS hd hK
      have s31 := (waits_on hd 13 (by kernel_rfl)).at (d := 31) rfl rfl rfl
      rw [if_pos (want_free rfl)]
      go_simp
      exact hK _ _ (Below.refl _ _) (vok rfl) facts_nil
    · intro a uq K hS hd hK
      have s32 := (waits_on hd 14 (by kernel_rfl)).at (d := 32) rfl rfl rfl
      rw [if_neg (want_no rfl rfl rfl s32 rfl)]
      exact hK _ _ (Below.refl _ _) (vok rfl) facts_nil
    · intro a uq K hS hd hK
      have s32 := (waits_on hd 14 (by kernel_rfl)).at (d := 32) rfl rfl rfl
      rw [if_neg (want_no rfl rfl rfl s32 rfl)]
      exact hK _ _ (Below.refl _ _) (vok rfl) facts_nil
    · intro a uq K hS hd hK
      have s32 := (waits_on hd 14 (by kernel_rfl)).at (d := 32) rfl rfl rfl
      rw [if_neg (want_no rfl rfl rfl s32 rfl)]
      exact hK _ _ (Below.refl _ _) (vok rfl) facts_nil
    · intro a uq K hS hd hK
      have s32 := (waits_on hd 14 (by kernel_rfl)).at (d := 32) rfl rfl rfl
      rw [if_neg (want_no rfl rfl rfl s32 rfl)]
      exact hK _ _ (Below.refl _ _) (vok rfl) facts_nil
    · intro a uq K hS hd hK
      have s32 := (waits_on hd 14 (by kernel_rfl)).at (d := 32) rfl rfl rfl
      rw [if_neg (want_no rfl rfl rfl s32 rfl)]
      exact hK _ _ (Below.refl _ _) (vok rfl) facts_nil
    · intro a uq K hS hd hK
      have s32 := (waits_on hd 14 (by kernel_rfl)).at (d := 32) rfl rfl rfl
      rw [if_neg (want_no rfl rfl rfl s32 rfl)]
      exact hK _ _ (Below.refl _ _) (vok rfl) facts_nil
    · intro a uq K hS hd hK
      have s32 := (waits_on hd 14 (by kernel_rfl)).at (d := 32) rfl rfl rfl
      rw [if_neg (want_no rfl rfl rfl s32 rfl)]
      exact hK _ _ (Below.refl _ _) (vok rfl) facts_nil
    · intro a uq K hS hd hK
      have s32 := (waits_on hd 14 (by kernel_rfl)).at (d := 32) rfl rfl rfl
      have s39 := (waits_on hd 21 (by kernel_rfl)).at (d := 39) rfl rfl rfl
      rw [if_pos (want_free rfl)]
      go_simp
      exact hK _ _ (Below.refl _ _) (vok rfl) facts_nil
    · intro a uq K hS hd hK
      have s40 := (waits_on hd 22 (by kernel_rfl)).at (d := 40) rfl rfl rfl
      rw [if_pos (want_free rfl)]
      go_simp
      exact hK _ _ (Below.refl _ _) (vok rfl) facts_nil
  case hfin =>
    intro a uq hS hk
    have s18 := (hk 0 (by decide)).at (d := 18) rfl rfl rfl
    have s19 := (hk 1 (by decide)).at (d := 19) rfl rfl rfl
    have s20 := (hk 2 (by decide)).at (d := 20) rfl rfl rfl
    have s21 := (hk 3 (by decide)).at (d := 21) rfl rfl rfl
    have s22 := (hk 4 (by decide)).at (d := 22) rfl rfl rfl
    have s23 := (hk 5 (by decide)).at (d := 23) rfl rfl rfl
    have s24 := (hk 6 (by decide)).at (d := 24) rfl rfl rfl
    have s25 := (hk 7 (by decide)).at (d := 25) rfl rfl rfl
    have s26 := (hk 8 (by decide)).at (d := 26) rfl rfl rfl
    have s27 := (hk 9 (by decide)).at (d := 27) rfl rfl rfl
    have s28 := (hk 10 (by decide)).at (d := 28) rfl rfl rfl
    have s29 := (hk 11 (by decide)).at (d := 29) rfl rfl rfl
    have s30 := (hk 12 (by decide)).at (d := 30) rfl rfl rfl
    have s31 := (hk 13 (by decide)).at (d := 31) rfl rfl rfl
    have s32 := (hk 14 (by decide)).at (d := 32) rfl rfl rfl
    have s33 := (hk 15 (by decide)).at (d := 33) rfl rfl rfl
    have s34 := (hk 16 (by decide)).at (d := 34) rfl rfl rfl
    have s35 := (hk 17 (by decide)).at (d := 35) rfl rfl rfl
    have s36 := (hk 18 (by decide)).at (d := 36) rfl rfl rfl
    have s37 := (hk 19 (by decide)).at (d := 37) rfl rfl rfl
    have s38 := (hk 20 (by decide)).at (d := 38) rfl rfl rfl
    have s39 := (hk 21 (by decide)).at (d := 39) rfl rfl rfl
    have s40 := (hk 22 (by decide)).at (d := 40) rfl rfl rfl
    have s7 := (hk 23 (by decide)).at (d := 7) rfl rfl rfl
    have hlit := hS.lit _ (by kernel_rfl) (lits_cons s18 (lits_cons s19 (lits_cons s20 (lits_cons s21 (lits_cons s22 (lits_cons s23 (lits_cons s24 (lits_cons s25 (lits_cons s26 (lits_cons s27 (lits_cons s28 (lits_cons s29 (lits_cons s30 (lits_cons s31 (lits_cons s32 (lits_cons s33 (lits_cons s34 (lits_cons s35 (lits_cons s36 (lits_cons s37 (lits_cons s38 (lits_cons s39 (lits_cons s40 (lits_cons s7 lits_nil))))))))))))))))))))))))
    rw [hlit]
    clear hlit hk hS s18 s19 s20 s21 s22 s23 s24 s25 s26 s27 s28 s29 s30 s31 s32 s33 s34 s35 s36 s37 s38 s39 s40 s7
    simp only [litT, List.setIfInBounds_toArray, List.set_cons_succ, List.set_cons_zero]
    go_wp2_with fail
    apply wp_region_looseG g (V := [some _, some _, some _, some _, some _, some _, some _, some _, some _, some _, some _, some _, some _, some _, some _, some _, some _, some _, some _, some _, some _, some _, some _, some _, some _, some _]) (Fs := []) (Rel := fun _ w w' => Below w.heap.size w w')
    case hm => kernel_rfl
    case hB => kernel_rfl
    case hCw => exact hstart _
    case hC =>
      rintro i uq w' hr
      exact HHI.out _ (below_to (HGU.out uq) (Nat.le_refl _) hr)
    case hst =>
      exact keeps_nil
    case hop =>
      refine ⟨?_, ?_, ?_, ?_, ?_, ?_, ?_, ?_, ?_, ?_, ?_, ?_, ?_, ?_, ?_, ?_, ?_, ?_, ?_, ?_, ?_, ?_, ?_, ?_, ?_, ?_, trivial⟩
      · intro a uq K hS hd hK
        have s7 := hS.at 7 (by kernel_rfl) rfl
        rw [if_pos (want_free rfl)]
        go_simp
        exact hK _ _ (Below.refl _ _) (vok rfl) facts_nil
      · intro a uq K hS hd hK
        have s41 := (waits_on hd 0 (by kernel_rfl)).at (d := 41) rfl rfl rfl
        rw [if_pos (want_free rfl)]
        go_simp
        exact hK _ _ (Below.refl _ _) (vok rfl) facts_nil
      · intro a uq K hS hd hK
        have s42 := (waits_on hd 1 (by kernel_rfl)).at (d := 42) rfl rfl rfl
        rw [if_pos (want_free rfl)]
        go_simp
        exact hK _ _ (Below.refl _ _) (vok rfl) facts_nil
      · intro a uq K hS hd hK
        have s43 := (waits_on hd 2 (by kernel_rfl)).at (d := 43) rfl rfl rfl
        rw [if_neg (want_no rfl rfl rfl s43 rfl)]
        exact hK _ _ (Below.refl _ _) (vok rfl) facts_nil
      · intro a uq K hS hd hK
        have s43 := (waits_on hd 2 (by kernel_rfl)).at (d := 43) rfl rfl rfl
        rw [if_neg (want_no rfl rfl rfl s43 rfl)]
        exact hK _ _ (Below.refl _ _) (vok rfl) facts_nil
      · intro a uq K hS hd hK
        have s43 := (waits_on hd 2 (by kernel_rfl)).at (d := 43) rfl rfl rfl
        rw [if_neg (want_no rfl rfl rfl s43 rfl)]
        exact hK _ _ (Below.refl _ _) (vok rfl) facts_nil
      · intro a uq K hS hd hK
        have s43 := (waits_on hd 2 (by kernel_rfl)).at (d := 43) rfl rfl rfl
        rw [if_neg (want_no rfl rfl rfl s43 rfl)]
        exact hK _ _ (Below.refl _ _) (vok rfl) facts_nil
      · intro a uq K hS hd hK
        have s43 := (waits_on hd 2 (by kernel_rfl)).at (d := 43) rfl rfl rfl
        have s47 := (waits_on hd 6 (by kernel_rfl)).at (d := 47) rfl rfl rfl
        rw [if_pos (want_free rfl)]
        go_simp
        exact hK _ _ (Below.refl _ _) (vok rfl) facts_nil
      · intro a uq K hS hd hK
        have s48 := (waits_on hd 7 (by kernel_rfl)).at (d := 48) rfl rfl rfl
        rw [if_pos (want_free rfl)]
        go_simp
        exact hK _ _ (Below.refl _ _) (vok rfl) facts_nil
      · intro a uq K hS hd hK
        have s49 := (waits_on hd 8 (by kernel_rfl)).at (d := 49) rfl rfl rfl
        rw [if_neg (want_no rfl rfl rfl s49 rfl)]
        exact hK _ _ (Below.refl _ _) (vok rfl) facts_nil
      · intro a uq K hS hd hK
        have s49 := (waits_on hd 8 (by kernel_rfl)).at (d := 49) rfl rfl rfl
        rw [if_neg (want_no rfl rfl rfl s49 rfl)]
        exact hK _ _ (Below.refl _ _) (vok rfl) facts_nil
      · intro a uq K hS hd hK
        have s49 := (waits_on hd 8 (by kernel_rfl)).at (d := 49) rfl rfl rfl
        rw [if_neg (want_no rfl rfl rfl s49 rfl)]
        exact hK _ _ (Below.refl _ _) (vok rfl) facts_nil
      · intro a uq K hS hd hK
        have s49 := (waits_on hd 8 (by kernel_rfl)).at (d := 49) rfl rfl rfl
        rw [if_neg (want_no rfl rfl rfl s49 rfl)]
        exact hK _ _ (Below.refl _ _) (vok rfl) facts_nil
      · intro a uq K hS hd hK
        have s49 := (waits_on hd 8 (by kernel_rfl)).at (d := 49) rfl rfl rfl
        rw [if_neg (want_no rfl rfl rfl s49 rfl)]
        exact hK _ _ (Below.refl _ _) (vok rfl) facts_nil
      · intro a uq K hS hd hK
        have s49 := (waits_on hd 8 (by kernel_rfl)).at (d := 49) rfl rfl rfl
        rw [if_neg (want_no rfl rfl rfl s49 rfl)]
        exact hK _ _ (Below.refl _ _) (vok rfl) facts_nil
      · intro a uq K hS hd hK
        have s49 := (waits_on hd 8 (by kernel_rfl)).at (d := 49) rfl rfl rfl
        have s55 := (waits_on hd 14 (by kernel_rfl)).at (d := 55) rfl rfl rfl
        rw [if_pos (want_free rfl)]
        go_simp
        exact hK _ _ (Below.refl _ _) (vok rfl) facts_nil
      · intro a uq K hS hd hK
        have s56 := (waits_on hd 15 (by kernel_rfl)).at (d := 56) rfl rfl rfl
        rw [if_pos (want_free rfl)]
        go_simp
        exact hK _ _ (Below.refl _ _) (vok rfl) facts_nil
      · intro a uq K hS hd hK
        have s57 := (waits_on hd 16 (by kernel_rfl)).at (d := 57) rfl rfl rfl
        rw [if_neg (want_no rfl rfl rfl s57 rfl)]
        exact hK _ _ (Below.refl _ _) (vok rfl) facts_nil
      · intro a uq K hS hd hK
        have s57 := (waits_on hd 16 (by kernel_rfl)).at (d := 57) rfl rfl rfl
        rw [if_neg (want_no rfl rfl rfl s57 rfl)]
        exact hK _ _ (Below.refl _ _) (vok rfl) facts_nil
      · intro a uq K hS hd hK
        have s57 := (waits_on hd 16 (by kernel_rfl)).at (d := 57) rfl rfl rfl
        rw [if_neg (want_no rfl rfl rfl s57 rfl)]
        exact hK _ _ (Below.refl _ _) (vok rfl) facts_nil
      · intro a uq K hS hd hK
        have s57 := (waits_on hd 16 (by kernel_rfl)).at (d := 57) rfl rfl rfl
        have s60 := (waits_on hd 19 (by kernel_rfl)).at (d := 60) rfl rfl rfl
        rw [if_pos (want_free rfl)]
        go_simp
        exact hK _ _ (Below.refl _ _) (vok rfl) facts_nil
      · intro a uq K hS hd hK
        have s61 := (waits_on hd 20 (by kernel_rfl)).at (d := 61) rfl rfl rfl
        rw [if_pos (want_free rfl)]
        go_simp
        exact hK _ _ (Below.refl _ _) (vok rfl) facts_nil
      · intro a uq K hS hd hK
        have s62 := (waits_on hd 21 (by kernel_rfl)).at (d := 62) rfl rfl rfl
        rw [if_neg (want_no rfl rfl rfl s62 rfl)]
        exact hK _ _ (Below.refl _ _) (vok rfl) facts_nil
      · intro a uq K hS hd hK
        have s62 := (waits_on hd 21 (by kernel_rfl)).at (d := 62) rfl rfl rfl
        rw [if_neg (want_no rfl rfl rfl s62 rfl)]
        exact hK _ _ (Below.refl _ _) (vok rfl) facts_nil
      · intro a uq K hS hd hK
        have s62 := (waits_on hd 21 (by kernel_rfl)).at (d := 62) rfl rfl rfl
        rw [if_neg (want_no rfl rfl rfl s62 rfl)]
        exact hK _ _ (Below.refl _ _) (vok rfl) facts_nil
      · intro a uq K hS hd hK
        have s62 := (waits_on hd 21 (by kernel_rfl)).at (d := 62) rfl rfl rfl
        have s65 := (waits_on hd 24 (by kernel_rfl)).at (d := 65) rfl rfl rfl
        rw [if_pos (want_free rfl)]
        go_simp
        exact hK _ _ (Below.refl _ _) (vok rfl) facts_nil
    case hfin =>
      intro a uq hS hk
      have s41 := (hk 0 (by decide)).at (d := 41) rfl rfl rfl
      have s42 := (hk 1 (by decide)).at (d := 42) rfl rfl rfl
      have s43 := (hk 2 (by decide)).at (d := 43) rfl rfl rfl
      have s44 := (hk 3 (by decide)).at (d := 44) rfl rfl rfl
      have s45 := (hk 4 (by decide)).at (d := 45) rfl rfl rfl
      have s46 := (hk 5 (by decide)).at (d := 46) rfl rfl rfl
      have s47 := (hk 6 (by decide)).at (d := 47) rfl rfl rfl
      have s48 := (hk 7 (by decide)).at (d := 48) rfl rfl rfl
      have s49 := (hk 8 (by decide)).at (d := 49) rfl rfl rfl
      have s50 := (hk 9 (by decide)).at (d := 50) rfl rfl rfl
      have s51 := (hk 10 (by decide)).at (d := 51) rfl rfl rfl
      have s52 := (hk 11 (by decide)).at (d := 52) rfl rfl rfl
      have s53 := (hk 12 (by decide)).at (d := 53) rfl rfl rfl
      have s54 := (hk 13 (by decide)).at (d := 54) rfl rfl rfl
      have s55 := (hk 14 (by decide)).at (d := 55) rfl rfl rfl
      have s56 := (hk 15 (by decide)).at (d := 56) rfl rfl rfl
      have s57 := (hk 16 (by decide)).at (d := 57) rfl rfl rfl
      have s58 := (hk 17 (by decide)).at (d := 58) rfl rfl rfl
      have s59 := (hk 18 (by decide)).at (d := 59) rfl rfl rfl
      have s60 := (hk 19 (by decide)).at (d := 60) rfl rfl rfl
      have s61 := (hk 20 (by decide)).at (d := 61) rfl rfl rfl
      have s62 := (hk 21 (by decide)).at (d := 62) rfl rfl rfl
      have s63 := (hk 22 (by decide)).at (d := 63) rfl rfl rfl
      have s64 := (hk 23 (by decide)).at (d := 64) rfl rfl rfl
      have s65 := (hk 24 (by decide)).at (d := 65) rfl rfl rfl
      have s66 := (hk 25 (by decide)).at (d := 66) rfl rfl rfl
      have hlit := hS.lit _ (by kernel_rfl) (lits_cons s41 (lits_cons s42 (lits_cons s43 (lits_cons s44 (lits_cons s45 (lits_cons s46 (lits_cons s47 (lits_cons s48 (lits_cons s49 (lits_cons s50 (lits_cons s51 (lits_cons s52 (lits_cons s53 (lits_cons s54 (lits_cons s55 (lits_cons s56 (lits_cons s57 (lits_cons s58 (lits_cons s59 (lits_cons s60 (lits_cons s61 (lits_cons s62 (lits_cons s63 (lits_cons s64 (lits_cons s65 (lits_cons s66 lits_nil))))))))))))))))))))))))))
      rw [hlit]
      clear hlit hk hS s41 s42 s43 s44 s45 s46 s47 s48 s49 s50 s51 s52 s53 s54 s55 s56 s57 s58 s59 s60 s61 s62 s63 s64 s65 s66
      simp only [litT, List.setIfInBounds_toArray, List.set_cons_succ, List.set_cons_zero]
      go_wp2_with fail
      go_ret2
      exact ⟨rfl, below_to HB2.out (Nat.le_refl _) (HGU.out _)⟩
set_option maxRecDepth 100000 in
set_option maxHeartbeats 8000000 in
theorem pk_t (d : List UInt8) (hl : d.length ≤ 140737488355328) (o s h : Int) (b : Bool) (hE : (lexP d).2.1 = 0) (xa xn : Int) (xs : List UInt8) (hn : (lexP d).1 = [⟨1, xa, xn, xs⟩]) (hne : xs ≠ d) (w : World) : Calls Tryz.prog 12 #[lval d o s h b] w fun e w' => e = .returned (.tuple #[.string (bs []), .int .i64 1]) ∧ Below w.heap.size w w' := by
  have HB1 := hide (below_one w (.cells #[.string (bs d), .int .i64 o, .int .i64 s, .int .i64 h, .bool b] 23))
  have HX := hide (Blk.new w 23 #[.string (bs d), .int .i64 o, .int .i64 s, .int .i64 h, .bool b])
  have hsz : (bs d).size = d.length := bs_size d
  have hemp : (bs ([] : List UInt8)).toList.isEmpty = true := by rw [bs_toList]; rfl
  have h36 : (bs symT).extract 0 36 = bs (symT.take 36) := by rw [bs_cut]; rfl
  have hsy : (bs symT).size = 37 := rfl
  have CL := fun w => Lex_any d hl w
  rw [hE] at CL
  have e1 : ((bs xs).toList == (bs d).toList) = false := by rw [beq_eq_false_iff_ne, bs_toList, bs_toList]; exact hne
  clear hE hne
  go_enter Tryz.func12, Tryz.ntmps12
  unfold lval
  go_wp2_with fail
  generalize w.alloc (.cells #[.string (bs d), .int .i64 o, .int .i64 s, .int .i64 h, .bool b] 23) = w1 at *
  obtain ⟨bx, hbx⟩ : ∃ bx, Hid (w.heap.size = bx) := ⟨_, rfl⟩
  rw [hbx.out] at HX ⊢
  refine (CL _).mono ?_
  rintro e w2 ⟨v, rfl, hv, hb⟩
  have HB2 := hide (below_to HB1.out (Nat.le_refl _) hb)
  have HX2 := hide (HX.out.to hb)
  clear hb HB1 HX CL
  rw [hn] at hv
  obtain ⟨tb, tc, rfl, htl, htc⟩ : ∃ tb tc, v = .slice (some ⟨tb, 0, none⟩) 1 tc ∧ tb < w2.heap.size ∧ ∀ (j : Nat) u, (tcells ⟨1, xa, xn, xs⟩)[j]? = some u → w2.cell? ⟨tb, j, none⟩ = some u := by
    rcases hv with ⟨h1, _⟩ | ⟨b, c, h1, h2, h3⟩
    · cases h1
    · exact ⟨b, c, h1, h2, fun j u hu => by have := h3 0 _ rfl j u hu; simpa using this⟩
  have HT := hide (⟨htl, htc⟩ : tb < w2.heap.size ∧ ∀ (j : Nat) u, (tcells ⟨1, xa, xn, xs⟩)[j]? = some u → w2.cell? ⟨tb, j, none⟩ = some u)
  clear hv hn htl htc
  obtain ⟨U, hU, g, u0, rfl, hgu, hi'⟩ := cls w2
  have x0 := blk_all hgu HX2.out 0 rfl
  have x1 := blk_all hgu HX2.out 1 rfl
  have x2 := blk_all hgu HX2.out 2 rfl
  have x3 := blk_all hgu HX2.out 3 rfl
  have x4 := blk_all hgu HX2.out 4 rfl
  have t0 : ∀ u, (g u).cell? ⟨tb, 0, none⟩ = some (.int .i64 1) := fun u => ((hgu u).cell (p := ⟨tb, 0, none⟩) HT.out.1).trans (HT.out.2 0 _ rfl)
  have t3 : ∀ u, (g u).cell? ⟨tb, 3, none⟩ = some (.string (bs xs)) := fun u => ((hgu u).cell (p := ⟨tb, 3, none⟩) HT.out.1).trans (HT.out.2 3 _ rfl)
  have HGU := hide hgu
  have HHI := hide hi'
  have hstart : ∀ u, ∃ u', (g u).drew = g u' := fun u => hi' _ (hgu u).drew
  clear hgu hi'
  have CSY : ∀ w : World, Calls Tryz.prog 24 #[] w fun e w' => e = .returned (.string (bs symT)) ∧ Below w.heap.size w w' := fun w => (symbols_any w).mono fun e w' ⟨he, hw⟩ => ⟨he, hw ▸ Below.refl _ _⟩
  go_wp2_with fail
  apply wp_region_looseG g (V := [some _, some _, some _, some _, some _, some _, some _, some _, some _, some _, some _, some _, some _, some _, some _, some _, some _, some _, some _, some _, some _, some _, some _, some _]) (Fs := []) (Rel := fun _ w w' => Below w.heap.size w w')
  case hm => kernel_rfl
  case hB => kernel_rfl
  case hCw => exact hstart _
  case hC =>
    rintro i uq w' hr
    exact HHI.out _ (below_to (HGU.out uq) (Nat.le_refl _) hr)
  case hst =>
    exact keeps_nil
  case hop =>
    refine ⟨?_, ?_, ?_, ?_, ?_, ?_, ?_, ?_, ?_, ?_, ?_, ?_, ?_, ?_, ?_, ?_, ?_, ?_, ?_, ?_, ?_, ?_, ?_, ?_, trivial⟩
    · intro a uq K hS hd hK
      have s5 := hS.at 5 (by kernel_rfl) rfl
      rw [if_pos (want_free rfl)]
      go_simp
      exact hK _ _ (Below.refl _ _) (vok rfl) facts_nil
    · intro a uq K hS hd hK
      have s18 := (waits_on hd 0 (by kernel_rfl)).at (d := 18) rfl rfl rfl
      rw [if_pos (want_free rfl)]
      go_simp
      exact hK _ _ (Below.refl _ _) (vok rfl) facts_nil
    · intro a uq K hS hd hK
      have s19 := (waits_on hd 1 (by kernel_rfl)).at (d := 19) rfl rfl rfl
      rw [if_pos (want_free rfl)]
      go_simp
      exact hK _ _ (Below.refl _ _) (vok rfl) facts_nil
    · intro a uq K hS hd hK
      have s20 := (waits_on hd 2 (by kernel_rfl)).at (d := 20) rfl rfl rfl
      have s4 := hS.at 4 (by kernel_rfl) rfl
      rw [if_pos (want_yes rfl rfl rfl s20)]
      go_simp
      exact hK _ _ (Below.refl _ _) (vok rfl) facts_nil
    · intro a uq K hS hd hK
      have s20 := (waits_on hd 2 (by kernel_rfl)).at (d := 20) rfl rfl rfl
      have s21 := (waits_on hd 3 (by kernel_rfl)).at (d := 21) rfl rfl rfl
      rw [if_pos (want_yes rfl rfl rfl s20)]
      go_simp
      exact hK _ _ (Below.refl _ _) (vok rfl) facts_nil
    · intro a uq K hS hd hK
      have s20 := (waits_on hd 2 (by kernel_rfl)).at (d := 20) rfl rfl rfl
      have s22 := (waits_on hd 4 (by kernel_rfl)).at (d := 22) rfl rfl rfl
      rw [if_pos (want_yes rfl rfl rfl s20)]
      go_simp
      exact hK _ _ (Below.refl _ _) (vok rfl) facts_nil
    · intro a uq K hS hd hK
      have s20 := (waits_on hd 2 (by kernel_rfl)).at (d := 20) rfl rfl rfl
      have s23 := (waits_on hd 5 (by kernel_rfl)).at (d := 23) rfl rfl rfl
      rw [if_pos (want_free rfl)]
      go_simp
      exact hK _ _ (Below.refl _ _) (vok rfl) facts_nil
    · intro a uq K hS hd hK
      have s24 := (waits_on hd 6 (by kernel_rfl)).at (d := 24) rfl rfl rfl
      rw [if_pos (want_free rfl)]
      go_simp
      exact hK _ _ (Below.refl _ _) (vok rfl) facts_nil
    · intro a uq K hS hd hK
      have s25 := (waits_on hd 7 (by kernel_rfl)).at (d := 25) rfl rfl rfl
      have s4 := hS.at 4 (by kernel_rfl) rfl
      rw [if_pos (want_yes rfl rfl rfl s25)]
      go_simp
      exact hK _ _ (Below.refl _ _) (vok rfl) facts_nil
    · intro a uq K hS hd hK
      have s25 := (waits_on hd 7 (by kernel_rfl)).at (d := 25) rfl rfl rfl
      have s26 := (waits_on hd 8 (by kernel_rfl)).at (d := 26) rfl rfl rfl
      rw [if_pos (want_yes rfl rfl rfl s25)]
      go_simp
      exact hK _ _ (Below.refl _ _) (vok rfl) facts_nil
    · intro a uq K hS hd hK
      have s25 := (waits_on hd 7 (by kernel_rfl)).at (d := 25) rfl rfl rfl
      have s27 := (waits_on hd 9 (by kernel_rfl)).at (d := 27) rfl rfl rfl
      rw [if_pos (want_yes rfl rfl rfl s25)]
      go_simp
      exact hK _ _ (Below.refl _ _) (vok rfl) facts_nil
    · intro a uq K hS hd hK
      have s25 := (waits_on hd 7 (by kernel_rfl)).at (d := 25) rfl rfl rfl
      have s28 := (waits_on hd 10 (by kernel_rfl)).at (d := 28) rfl rfl rfl
      rw [if_pos (want_yes rfl rfl rfl s25)]
      go_simp
      exact hK _ _ (Below.refl _ _) (vok rfl) facts_nil
    · intro a uq K hS hd hK
      have s25 := (waits_on hd 7 (by kernel_rfl)).at (d := 25) rfl rfl rfl
      have s29 := (waits_on hd 11 (by kernel_rfl)).at (d := 29) rfl rfl rfl
      rw [if_pos (want_yes rfl rfl rfl s25)]
      go_simp
      exact hK _ _ (Below.refl _ _) (vok rfl) facts_nil
    · intro a uq K hS hd hK
      have s25 := (waits_on hd 7 (by kernel_rfl)).at (d := 25) rfl rfl rfl
      have s30 := (waits_on hd 12 (by kernel_rfl)).at (d := 30) rfl rfl rfl
      rw [if_pos (want_free rfl)]
      go_simp
      exact hK _ _ (Below.refl _ _) (vok rfl) facts_nil
    · intro a uq K hS hd hK
      have s31 := (waits_on hd 13 (by kernel_rfl)).at (d := 31) rfl rfl rfl
      rw [if_pos (want_free rfl)]
      go_simp
      exact hK _ _ (Below.refl _ _) (vok rfl) facts_nil
    · intro a uq K hS hd hK
      have s32 := (waits_on hd 14 (by kernel_rfl)).at (d := 32) rfl rfl rfl
      have s4 := hS.at 4 (by kernel_rfl) rfl
      rw [if_pos (want_yes rfl rfl rfl s32)]
      go_simp
      exact hK _ _ (Below.refl _ _) (vok rfl) facts_nil
    · intro a uq K hS hd hK
      have s32 := (waits_on hd 14 (by kernel_rfl)).at (d := 32) rfl rfl rfl
      have s33 := (waits_on hd 15 (by kernel_rfl)).at (d := 33) rfl rfl rfl
      rw [if_pos (want_yes rfl rfl rfl s32)]
      go_simp
      exact hK _ _ (Below.refl _ _) (vok rfl) facts_nil
    · intro a uq K hS hd hK
      have s32 := (waits_on hd 14 (by kernel_rfl)).at (d := 32) rfl rfl rfl
      have s34 := (waits_on hd 16 (by kernel_rfl)).at (d := 34) rfl rfl rfl
      rw [if_pos (want_yes rfl rfl rfl s32)]
      go_simp
      exact hK _ _ (Below.refl _ _) (vok rfl) facts_nil
    · intro a uq K hS hd hK
      have s32 := (waits_on hd 14 (by kernel_rfl)).at (d := 32) rfl rfl rfl
      have s35 := (waits_on hd 17 (by kernel_rfl)).at (d := 35) rfl rfl rfl
      rw [if_pos (want_yes rfl rfl rfl s32)]
      go_simp
      exact hK _ _ (Below.refl _ _) (vok rfl) facts_nil
    · intro a uq K hS hd hK
      have s32 := (waits_on hd 14 (by kernel_rfl)).at (d := 32) rfl rfl rfl
      have s1 := hS.at 1 (by kernel_rfl) rfl
      rw [if_pos (want_yes rfl rfl rfl s32)]
      go_simp
      exact hK _ _ (Below.refl _ _) (vok rfl) facts_nil
    · intro a uq K hS hd hK
      have s32 := (waits_on hd 14 (by kernel_rfl)).at (d := 32) rfl rfl rfl
      have s37 := (waits_on hd 19 (by kernel_rfl)).at (d := 37) rfl rfl rfl
      rw [if_pos (want_yes rfl rfl rfl s32)]
      go_simp
      exact hK _ _ (Below.refl _ _) (vok rfl) facts_nil
    · intro a uq K hS hd hK
      have s32 := (waits_on hd 14 (by kernel_rfl)).at (d := 32) rfl rfl rfl
      have s36 := (waits_on hd 18 (by kernel_rfl)).at (d := 36) rfl rfl rfl
      have s38 := (waits_on hd 20 (by kernel_rfl)).at (d := 38) rfl rfl rfl
      rw [if_pos (want_yes rfl rfl rfl s32)]
      go_simp
      exact hK _ _ (Below.refl _ _) (vok rfl) facts_nil
    · intro a uq K hS hd hK
      have s32 := (waits_on hd 14 (by kernel_rfl)).at (d := 32) rfl rfl rfl
      have s39 := (waits_on hd 21 (by kernel_rfl)).at (d := 39) rfl rfl rfl
      rw [if_pos (want_free rfl)]
      go_simp
      exact hK _ _ (Below.refl _ _) (vok rfl) facts_nil
    · intro a uq K hS hd hK
      have s40 := (waits_on hd 22 (by kernel_rfl)).at (d := 40) rfl rfl rfl
      rw [if_pos (want_free rfl)]
      go_simp
      exact hK _ _ (Below.refl _ _) (vok rfl) facts_nil
  case hfin =>
    intro a uq hS hk
    have s18 := (hk 0 (by decide)).at (d := 18) rfl rfl rfl
    have s19 := (hk 1 (by decide)).at (d := 19) rfl rfl rfl
    have s20 := (hk 2 (by decide)).at (d := 20) rfl rfl rfl
    have s21 := (hk 3 (by decide)).at (d := 21) rfl rfl rfl
    have s22 := (hk 4 (by decide)).at (d := 22) rfl rfl rfl
    have s23 := (hk 5 (by decide)).at (d := 23) rfl rfl rfl
    have s24 := (hk 6 (by decide)).at (d := 24) rfl rfl rfl
    have s25 := (hk 7 (by decide)).at (d := 25) rfl rfl rfl
    have s26 := (hk 8 (by decide)).at (d := 26) rfl rfl rfl
    have s27 := (hk 9 (by decide)).at (d := 27) rfl rfl rfl
    have s28 := (hk 10 (by decide)).at (d := 28) rfl rfl rfl
    have s29 := (hk 11 (by decide)).at (d := 29) rfl rfl rfl
    have s30 := (hk 12 (by decide)).at (d := 30) rfl rfl rfl
    have s31 := (hk 13 (by decide)).at (d := 31) rfl rfl rfl
    have s32 := (hk 14 (by decide)).at (d := 32) rfl rfl rfl
    have s33 := (hk 15 (by decide)).at (d := 33) rfl rfl rfl
    have s34 := (hk 16 (by decide)).at (d := 34) rfl rfl rfl
    have s35 := (hk 17 (by decide)).at (d := 35) rfl rfl rfl
    have s36 := (hk 18 (by decide)).at (d := 36) rfl rfl rfl
    have s37 := (hk 19 (by decide)).at (d := 37) rfl rfl rfl
    have s38 := (hk 20 (by decide)).at (d := 38) rfl rfl rfl
    have s39 := (hk 21 (by decide)).at (d := 39) rfl rfl rfl
    have s40 := (hk 22 (by decide)).at (d := 40) rfl rfl rfl
    have s7 := (hk 23 (by decide)).at (d := 7) rfl rfl rfl
    have hlit := hS.lit _ (by kernel_rfl) (lits_cons s18 (lits_cons s19 (lits_cons s20 (lits_cons s21 (lits_cons s22 (lits_cons s23 (lits_cons s24 (lits_cons s25 (lits_cons s26 (lits_cons s27 (lits_cons s28 (lits_cons s29 (lits_cons s30 (lits_cons s31 (lits_cons s32 (lits_cons s33 (lits_cons s34 (lits_cons s35 (lits_cons s36 (lits_cons s37 (lits_cons s38 (lits_cons s39 (lits_cons s40 (lits_cons s7 lits_nil))))))))))))))))))))))))
    rw [hlit]
    clear hlit hk hS s18 s19 s20 s21 s22 s23 s24 s25 s26 s27 s28 s29 s30 s31 s32 s33 s34 s35 s36 s37 s38 s39 s40 s7
    simp only [litT, List.setIfInBounds_toArray, List.set_cons_succ, List.set_cons_zero]
    go_wp2_with fail
    apply wp_region_looseG g (V := [some _, some _, some _, some _, some _, some _, some _, some _, some _, some _, some _, some _, some _, some _, some _, some _, some _, some _, some _, some _, some _, some _, some _, some _, some _, some _]) (Fs := []) (Rel := fun _ w w' => Below w.heap.size w w')
    case hm => kernel_rfl
    case hB => kernel_rfl
    case hCw => exact hstart _
    case hC =>
      rintro i uq w' hr
      exact HHI.out _ (below_to (HGU.out uq) (Nat.le_refl _) hr)
    case hst =>
      exact keeps_nil
    case hop =>
      refine ⟨?_, ?_, ?_, ?_, ?_, ?_, ?_, ?_, ?_, ?_, ?_, ?_, ?_, ?_, ?_, ?_, ?_, ?_, ?_, ?_, ?_, ?_, ?_, ?_, ?_, ?_, trivial⟩
      · intro a uq K hS hd hK
        have s7 := hS.at 7 (by kernel_rfl) rfl
        rw [if_pos (want_free rfl)]
        go_simp
        exact hK _ _ (Below.refl _ _) (vok rfl) facts_nil
      · intro a uq K hS hd hK
        have s41 := (waits_on hd 0 (by kernel_rfl)).at (d := 41) rfl rfl rfl
        rw [if_pos (want_free rfl)]
        go_simp
        exact hK _ _ (Below.refl _ _) (vok rfl) facts_nil
      · intro a uq K hS hd hK
        have s42 := (waits_on hd 1 (by kernel_rfl)).at (d := 42) rfl rfl rfl
        rw [if_pos (want_free rfl)]
        go_simp
        exact hK _ _ (Below.refl _ _) (vok rfl) facts_nil
      · intro a uq K hS hd hK
        have s43 := (waits_on hd 2 (by kernel_rfl)).at (d := 43) rfl rfl rfl
        rw [if_neg (want_no rfl rfl rfl s43 rfl)]
        exact hK _ _ (Below.refl _ _) (vok rfl) facts_nil
      · intro a uq K hS hd hK
        have s43 := (waits_on hd 2 (by kernel_rfl)).at (d := 43) rfl rfl rfl
        rw [if_neg (want_no rfl rfl rfl s43 rfl)]
        exact hK _ _ (Below.refl _ _) (vok rfl) facts_nil
      · intro a uq K hS hd hK
        have s43 := (waits_on hd 2 (by kernel_rfl)).at (d := 43) rfl rfl rfl
        rw [if_neg (want_no rfl rfl rfl s43 rfl)]
        exact hK _ _ (Below.refl _ _) (vok rfl) facts_nil
      · intro a uq K hS hd hK
        have s43 := (waits_on hd 2 (by kernel_rfl)).at (d := 43) rfl rfl rfl
        rw [if_neg (want_no rfl rfl rfl s43 rfl)]
        exact hK _ _ (Below.refl _ _) (vok rfl) facts_nil
      · intro a uq K hS hd hK
        have s43 := (waits_on hd 2 (by kernel_rfl)).at (d := 43) rfl rfl rfl
        have s47 := (waits_on hd 6 (by kernel_rfl)).at (d := 47) rfl rfl rfl
        rw [if_pos (want_free rfl)]
        go_simp
        exact hK _ _ (Below.refl _ _) (vok rfl) facts_nil
      · intro a uq K hS hd hK
        have s48 := (waits_on hd 7 (by kernel_rfl)).at (d := 48) rfl rfl rfl
        rw [if_pos (want_free rfl)]
        go_simp
        exact hK _ _ (Below.refl _ _) (vok rfl) facts_nil
      · intro a uq K hS hd hK
        have s49 := (waits_on hd 8 (by kernel_rfl)).at (d := 49) rfl rfl rfl
        rw [if_neg (want_no rfl rfl rfl s49 rfl)]
        exact hK _ _ (Below.refl _ _) (vok rfl) facts_nil
      · intro a uq K hS hd hK
        have s49 := (waits_on hd 8 (by kernel_rfl)).at (d := 49) rfl rfl rfl
        rw [if_neg (want_no rfl rfl rfl s49 rfl)]
        exact hK _ _ (Below.refl _ _) (vok rfl) facts_nil
      · intro a uq K hS hd hK
        have s49 := (waits_on hd 8 (by kernel_rfl)).at (d := 49) rfl rfl rfl
        rw [if_neg (want_no rfl rfl rfl s49 rfl)]
        exact hK _ _ (Below.refl _ _) (vok rfl) facts_nil
      · intro a uq K hS hd hK
        have s49 := (waits_on hd 8 (by kernel_rfl)).at (d := 49) rfl rfl rfl
        rw [if_neg (want_no rfl rfl rfl s49 rfl)]
        exact hK _ _ (Below.refl _ _) (vok rfl) facts_nil
      · intro a uq K hS hd hK
        have s49 := (waits_on hd 8 (by kernel_rfl)).at (d := 49) rfl rfl rfl
        rw [if_neg (want_no rfl rfl rfl s49 rfl)]
        exact hK _ _ (Below.refl _ _) (vok rfl) facts_nil
      · intro a uq K hS hd hK
        have s49 := (waits_on hd 8 (by kernel_rfl)).at (d := 49) rfl rfl rfl
        rw [if_neg (want_no rfl rfl rfl s49 rfl)]
        exact hK _ _ (Below.refl _ _) (vok rfl) facts_nil
      · intro a uq K hS hd hK
        have s49 := (waits_on hd 8 (by kernel_rfl)).at (d := 49) rfl rfl rfl
        have s55 := (waits_on hd 14 (by kernel_rfl)).at (d := 55) rfl rfl rfl
        rw [if_pos (want_free rfl)]
        go_simp
        exact hK _ _ (Below.refl _ _) (vok rfl) facts_nil
      · intro a uq K hS hd hK
        have s56 := (waits_on hd 15 (by kernel_rfl)).at (d := 56) rfl rfl rfl
        rw [if_pos (want_free rfl)]
        go_simp
        exact hK _ _ (Below.refl _ _) (vok rfl) facts_nil
      · intro a uq K hS hd hK
        have s57 := (waits_on hd 16 (by kernel_rfl)).at (d := 57) rfl rfl rfl
        rw [if_neg (want_no rfl rfl rfl s57 rfl)]
        exact hK _ _ (Below.refl _ _) (vok rfl) facts_nil
      · intro a uq K hS hd hK
        have s57 := (waits_on hd 16 (by kernel_rfl)).at (d := 57) rfl rfl rfl
        rw [if_neg (want_no rfl rfl rfl s57 rfl)]
        exact hK _ _ (Below.refl _ _) (vok rfl) facts_nil
      · intro a uq K hS hd hK
        have s57 := (waits_on hd 16 (by kernel_rfl)).at (d := 57) rfl rfl rfl
        rw [if_neg (want_no rfl rfl rfl s57 rfl)]
        exact hK _ _ (Below.refl _ _) (vok rfl) facts_nil
      · intro a uq K hS hd hK
        have s57 := (waits_on hd 16 (by kernel_rfl)).at (d := 57) rfl rfl rfl
        have s60 := (waits_on hd 19 (by kernel_rfl)).at (d := 60) rfl rfl rfl
        rw [if_pos (want_free rfl)]
        go_simp
        exact hK _ _ (Below.refl _ _) (vok rfl) facts_nil
      · intro a uq K hS hd hK
        have s61 := (waits_on hd 20 (by kernel_rfl)).at (d := 61) rfl rfl rfl
        rw [if_pos (want_free rfl)]
        go_simp
        exact hK _ _ (Below.refl _ _) (vok rfl) facts_nil
      · intro a uq K hS hd hK
        have s62 := (waits_on hd 21 (by kernel_rfl)).at (d := 62) rfl rfl rfl
        rw [if_neg (want_no rfl rfl rfl s62 rfl)]
        exact hK _ _ (Below.refl _ _) (vok rfl) facts_nil
      · intro a uq K hS hd hK
        have s62 := (waits_on hd 21 (by kernel_rfl)).at (d := 62) rfl rfl rfl
        rw [if_neg (want_no rfl rfl rfl s62 rfl)]
        exact hK _ _ (Below.refl _ _) (vok rfl) facts_nil
      · intro a uq K hS hd hK
        have s62 := (waits_on hd 21 (by kernel_rfl)).at (d := 62) rfl rfl rfl
        rw [if_neg (want_no rfl rfl rfl s62 rfl)]
        exact hK _ _ (Below.refl _ _) (vok rfl) facts_nil
      · intro a uq K hS hd hK
        have s62 := (waits_on hd 21 (by kernel_rfl)).at (d := 62) rfl rfl rfl
        have s65 := (waits_on hd 24 (by kernel_rfl)).at (d := 65) rfl rfl rfl
        rw [if_pos (want_free rfl)]
        go_simp
        exact hK _ _ (Below.refl _ _) (vok rfl) facts_nil
    case hfin =>
      intro a uq hS hk
      have s41 := (hk 0 (by decide)).at (d := 41) rfl rfl rfl
      have s42 := (hk 1 (by decide)).at (d := 42) rfl rfl rfl
      have s43 := (hk 2 (by decide)).at (d := 43) rfl rfl rfl
      have s44 := (hk 3 (by decide)).at (d := 44) rfl rfl rfl
      have s45 := (hk 4 (by decide)).at (d := 45) rfl rfl rfl
      have s46 := (hk 5 (by decide)).at (d := 46) rfl rfl rfl
      have s47 := (hk 6 (by decide)).at (d := 47) rfl rfl rfl
      have s48 := (hk 7 (by decide)).at (d := 48) rfl rfl rfl
      have s49 := (hk 8 (by decide)).at (d := 49) rfl rfl rfl
      have s50 := (hk 9 (by decide)).at (d := 50) rfl rfl rfl
      have s51 := (hk 10 (by decide)).at (d := 51) rfl rfl rfl
      have s52 := (hk 11 (by decide)).at (d := 52) rfl rfl rfl
      have s53 := (hk 12 (by decide)).at (d := 53) rfl rfl rfl
      have s54 := (hk 13 (by decide)).at (d := 54) rfl rfl rfl
      have s55 := (hk 14 (by decide)).at (d := 55) rfl rfl rfl
      have s56 := (hk 15 (by decide)).at (d := 56) rfl rfl rfl
      have s57 := (hk 16 (by decide)).at (d := 57) rfl rfl rfl
      have s58 := (hk 17 (by decide)).at (d := 58) rfl rfl rfl
      have s59 := (hk 18 (by decide)).at (d := 59) rfl rfl rfl
      have s60 := (hk 19 (by decide)).at (d := 60) rfl rfl rfl
      have s61 := (hk 20 (by decide)).at (d := 61) rfl rfl rfl
      have s62 := (hk 21 (by decide)).at (d := 62) rfl rfl rfl
      have s63 := (hk 22 (by decide)).at (d := 63) rfl rfl rfl
      have s64 := (hk 23 (by decide)).at (d := 64) rfl rfl rfl
      have s65 := (hk 24 (by decide)).at (d := 65) rfl rfl rfl
      have s66 := (hk 25 (by decide)).at (d := 66) rfl rfl rfl
      have hlit := hS.lit _ (by kernel_rfl) (lits_cons s41 (lits_cons s42 (lits_cons s43 (lits_cons s44 (lits_cons s45 (lits_cons s46 (lits_cons s47 (lits_cons s48 (lits_cons s49 (lits_cons s50 (lits_cons s51 (lits_cons s52 (lits_cons s53 (lits_cons s54 (lits_cons s55 (lits_cons s56 (lits_cons s57 (lits_cons s58 (lits_cons s59 (lits_cons s60 (lits_cons s61 (lits_cons s62 (lits_cons s63 (lits_cons s64 (lits_cons s65 (lits_cons s66 lits_nil))))))))))))))))))))))))))
      rw [hlit]
      clear hlit hk hS s41 s42 s43 s44 s45 s46 s47 s48 s49 s50 s51 s52 s53 s54 s55 s56 s57 s58 s59 s60 s61 s62 s63 s64 s65 s66
      simp only [litT, List.setIfInBounds_toArray, List.set_cons_succ, List.set_cons_zero]
      go_wp2_with fail
      go_ret2
      exact ⟨rfl, below_to HB2.out (Nat.le_refl _) (HGU.out _)⟩
set_option maxRecDepth 100000 in
set_option maxHeartbeats 8000000 in
theorem pk_long (d : List UInt8) (hl : d.length ≤ 140737488355328) (o s h : Int) (b : Bool) (hE : (lexP d).2.1 = 0) (xa xn : Int) (hn : (lexP d).1 = [⟨1, xa, xn, d⟩]) (h12 : 12 < d.length) (w : World) : Calls Tryz.prog 12 #[lval d o s h b] w fun e w' => e = .returned (.tuple #[.string (bs []), .int .i64 1]) ∧ Below w.heap.size w w' := by
  have HB1 := hide (below_one w (.cells #[.string (bs d), .int .i64 o, .int .i64 s, .int .i64 h, .bool b] 23))
  have HX := hide (Blk.new w 23 #[.string (bs d), .int .i64 o, .int .i64 s, .int .i64 h, .bool b])
  have hsz : (bs d).size = d.length := bs_size d
  have hemp : (bs ([] : List UInt8)).toList.isEmpty = true := by rw [bs_toList]; rfl
  have h36 : (bs symT).extract 0 36 = bs (symT.take 36) := by rw [bs_cut]; rfl
  have hsy : (bs symT).size = 37 := rfl
  have CL := fun w => Lex_any d hl w
  rw [hE] at CL
  have e12 : decide ((12 : Int) < (d.length : Int)) = true := by simp; omega
  clear hE
  go_enter Tryz.func12, Tryz.ntmps12
  unfold lval
  go_wp2_with fail
  generalize w.alloc (.cells #[.string (bs d), .int .i64 o, .int .i64 s, .int .i64 h, .bool b] 23) = w1 at *
  obtain ⟨bx, hbx⟩ : ∃ bx, Hid (w.heap.size = bx) := ⟨_, rfl⟩
  rw [hbx.out] at HX ⊢
  refine (CL _).mono ?_
  rintro e w2 ⟨v, rfl, hv, hb⟩
  have HB2 := hide (below_to HB1.out (Nat.le_refl _) hb)
  have HX2 := hide (HX.out.to hb)
  clear hb HB1 HX CL
  rw [hn] at hv
  obtain ⟨tb, tc, rfl, htl, htc⟩ : ∃ tb tc, v = .slice (some ⟨tb, 0, none⟩) 1 tc ∧ tb < w2.heap.size ∧ ∀ (j : Nat) u, (tcells ⟨1, xa, xn, d⟩)[j]? = some u → w2.cell? ⟨tb, j, none⟩ = some u := by
    rcases hv with ⟨h1, _⟩ | ⟨b, c, h1, h2, h3⟩
    · cases h1
    · exact ⟨b, c, h1, h2, fun j u hu => by have := h3 0 _ rfl j u hu; simpa using this⟩
  have HT := hide (⟨htl, htc⟩ : tb < w2.heap.size ∧ ∀ (j : Nat) u, (tcells ⟨1, xa, xn, d⟩)[j]? = some u → w2.cell? ⟨tb, j, none⟩ = some u)
  clear hv hn htl htc
  obtain ⟨U, hU, g, u0, rfl, hgu, hi'⟩ := cls w2
  have x0 := blk_all hgu HX2.out 0 rfl
  have x1 := blk_all hgu HX2.out 1 rfl
  have x2 := blk_all hgu HX2.out 2 rfl
  have x3 := blk_all hgu HX2.out 3 rfl
  have x4 := blk_all hgu HX2.out 4 rfl
  have t0 : ∀ u, (g u).cell? ⟨tb, 0, none⟩ = some (.int .i64 1) := fun u => ((hgu u).cell (p := ⟨tb, 0, none⟩) HT.out.1).trans (HT.out.2 0 _ rfl)
  have t3 : ∀ u, (g u).cell? ⟨tb, 3, none⟩ = some (.string (bs d)) := fun u => ((hgu u).cell (p := ⟨tb, 3, none⟩) HT.out.1).trans (HT.out.2 3 _ rfl)
  have HGU := hide hgu
  have HHI := hide hi'
  have hstart : ∀ u, ∃ u', (g u).drew = g u' := fun u => hi' _ (hgu u).drew
  clear hgu hi'
  have CSY : ∀ w : World, Calls Tryz.prog 24 #[] w fun e w' => e = .returned (.string (bs symT)) ∧ Below w.heap.size w w' := fun w => (symbols_any w).mono fun e w' ⟨he, hw⟩ => ⟨he, hw ▸ Below.refl _ _⟩
  go_wp2_with fail
  apply wp_region_looseG g (V := [some _, some _, some _, some _, some _, some _, some _, some _, some _, some _, some _, some _, some _, some _, some _, some _, some _, some _, some _, some _, some _, some _, some _, some _]) (Fs := []) (Rel := fun _ w w' => Below w.heap.size w w')
  case hm => kernel_rfl
  case hB => kernel_rfl
  case hCw => exact hstart _
  case hC =>
    rintro i uq w' hr
    exact HHI.out _ (below_to (HGU.out uq) (Nat.le_refl _) hr)
  case hst =>
    exact keeps_nil
  case hop =>
    refine ⟨?_, ?_, ?_, ?_, ?_, ?_, ?_, ?_, ?_, ?_, ?_, ?_, ?_, ?_, ?_, ?_, ?_, ?_, ?_, ?_, ?_, ?_, ?_, ?_, trivial⟩
    · intro a uq K hS hd hK
      have s5 := hS.at 5 (by kernel_rfl) rfl
      rw [if_pos (want_free rfl)]
      go_simp
      exact hK _ _ (Below.refl _ _) (vok rfl) facts_nil
    · intro a uq K hS hd hK
      have s18 := (waits_on hd 0 (by kernel_rfl)).at (d := 18) rfl rfl rfl
      rw [if_pos (want_free rfl)]
      go_simp
      exact hK _ _ (Below.refl _ _) (vok rfl) facts_nil
    · intro a uq K hS hd hK
      have s19 := (waits_on hd 1 (by kernel_rfl)).at (d := 19) rfl rfl rfl
      rw [if_pos (want_free rfl)]
      go_simp
      exact hK _ _ (Below.refl _ _) (vok rfl) facts_nil
    · intro a uq K hS hd hK
      have s20 := (waits_on hd 2 (by kernel_rfl)).at (d := 20) rfl rfl rfl
      have s4 := hS.at 4 (by kernel_rfl) rfl
      rw [if_pos (want_yes rfl rfl rfl s20)]
      go_simp
      exact hK _ _ (Below.refl _ _) (vok rfl) facts_nil
    · intro a uq K hS hd hK
      have s20 := (waits_on hd 2 (by kernel_rfl)).at (d := 20) rfl rfl rfl
      have s21 := (waits_on hd 3 (by kernel_rfl)).at (d := 21) rfl rfl rfl
      rw [if_pos (want_yes rfl rfl rfl s20)]
      go_simp
      exact hK _ _ (Below.refl _ _) (vok rfl) facts_nil
    · intro a uq K hS hd hK
      have s20 := (waits_on hd 2 (by kernel_rfl)).at (d := 20) rfl rfl rfl
      have s22 := (waits_on hd 4 (by kernel_rfl)).at (d := 22) rfl rfl rfl
      rw [if_pos (want_yes rfl rfl rfl s20)]
      go_simp
      exact hK _ _ (Below.refl _ _) (vok rfl) facts_nil
    · intro a uq K hS hd hK
      have s20 := (waits_on hd 2 (by kernel_rfl)).at (d := 20) rfl rfl rfl
      have s23 := (waits_on hd 5 (by kernel_rfl)).at (d := 23) rfl rfl rfl
      rw [if_pos (want_free rfl)]
      go_simp
      exact hK _ _ (Below.refl _ _) (vok rfl) facts_nil
    · intro a uq K hS hd hK
      have s24 := (waits_on hd 6 (by kernel_rfl)).at (d := 24) rfl rfl rfl
      rw [if_pos (want_free rfl)]
      go_simp
      exact hK _ _ (Below.refl _ _) (vok rfl) facts_nil
    · intro a uq K hS hd hK
      have s25 := (waits_on hd 7 (by kernel_rfl)).at (d := 25) rfl rfl rfl
      have s4 := hS.at 4 (by kernel_rfl) rfl
      rw [if_pos (want_yes rfl rfl rfl s25)]
      go_simp
      exact hK _ _ (Below.refl _ _) (vok rfl) facts_nil
    · intro a uq K hS hd hK
      have s25 := (waits_on hd 7 (by kernel_rfl)).at (d := 25) rfl rfl rfl
      have s26 := (waits_on hd 8 (by kernel_rfl)).at (d := 26) rfl rfl rfl
      rw [if_pos (want_yes rfl rfl rfl s25)]
      go_simp
      exact hK _ _ (Below.refl _ _) (vok rfl) facts_nil
    · intro a uq K hS hd hK
      have s25 := (waits_on hd 7 (by kernel_rfl)).at (d := 25) rfl rfl rfl
      have s27 := (waits_on hd 9 (by kernel_rfl)).at (d := 27) rfl rfl rfl
      rw [if_pos (want_yes rfl rfl rfl s25)]
      go_simp
      exact hK _ _ (Below.refl _ _) (vok rfl) facts_nil
    · intro a uq K hS hd hK
      have s25 := (waits_on hd 7 (by kernel_rfl)).at (d := 25) rfl rfl rfl
      have s28 := (waits_on hd 10 (by kernel_rfl)).at (d := 28) rfl rfl rfl
      rw [if_pos (want_yes rfl rfl rfl s25)]
      go_simp
      exact hK _ _ (Below.refl _ _) (vok rfl) facts_nil
    · intro a uq K hS hd hK
      have s25 := (waits_on hd 7 (by kernel_rfl)).at (d := 25) rfl rfl rfl
      have s29 := (waits_on hd 11 (by kernel_rfl)).at (d := 29) rfl rfl rfl
      rw [if_pos (want_yes rfl rfl rfl s25)]
      go_simp
      exact hK _ _ (Below.refl _ _) (vok rfl) facts_nil
    · intro a uq K hS hd hK
      have s25 := (waits_on hd 7 (by kernel_rfl)).at (d := 25) rfl rfl rfl
      have s30 := (waits_on hd 12 (by kernel_rfl)).at (d := 30) rfl rfl rfl
      rw [if_pos (want_free rfl)]
      go_simp
      exact hK _ _ (Below.refl _ _) (vok rfl) facts_nil
    · intro a uq K hS hd hK
      have s31 := (waits_on hd 13 (by kernel_rfl)).at (d := 31) rfl rfl rfl
      rw [if_pos (want_free rfl)]
      go_simp
      exact hK _ _ (Below.refl _ _) (vok rfl) facts_nil
    · intro a uq K hS hd hK
      have s32 := (waits_on hd 14 (by kernel_rfl)).at (d := 32) rfl rfl rfl
      have s4 := hS.at 4 (by kernel_rfl) rfl
      rw [if_pos (want_yes rfl rfl rfl s32)]
      go_simp
      exact hK _ _ (Below.refl _ _) (vok rfl) facts_nil
    · intro a uq K hS hd hK
      have s32 := (waits_on hd 14 (by kernel_rfl)).at (d := 32) rfl rfl rfl
      have s33 := (waits_on hd 15 (by kernel_rfl)).at (d := 33) rfl rfl rfl
      rw [if_pos (want_yes rfl rfl rfl s32)]
      go_simp
      exact hK _ _ (Below.refl _ _) (vok rfl) facts_nil
    · intro a uq K hS hd hK
      have s32 := (waits_on hd 14 (by kernel_rfl)).at (d := 32) rfl rfl rfl
      have s34 := (waits_on hd 16 (by kernel_rfl)).at (d := 34) rfl rfl rfl
      rw [if_pos (want_yes rfl rfl rfl s32)]
      go_simp
      exact hK _ _ (Below.refl _ _) (vok rfl) facts_nil
    · intro a uq K hS hd hK
      have s32 := (waits_on hd 14 (by kernel_rfl)).at (d := 32) rfl rfl rfl
      have s35 := (waits_on hd 17 (by kernel_rfl)).at (d := 35) rfl rfl rfl
      rw [if_pos (want_yes rfl rfl rfl s32)]
      go_simp
      exact hK _ _ (Below.refl _ _) (vok rfl) facts_nil
    · intro a uq K hS hd hK
      have s32 := (waits_on hd 14 (by kernel_rfl)).at (d := 32) rfl rfl rfl
      have s1 := hS.at 1 (by kernel_rfl) rfl
      rw [if_pos (want_yes rfl rfl rfl s32)]
      go_simp
      exact hK _ _ (Below.refl _ _) (vok rfl) facts_nil
    · intro a uq K hS hd hK
      have s32 := (waits_on hd 14 (by kernel_rfl)).at (d := 32) rfl rfl rfl
      have s37 := (waits_on hd 19 (by kernel_rfl)).at (d := 37) rfl rfl rfl
      rw [if_pos (want_yes rfl rfl rfl s32)]
      go_simp
      exact hK _ _ (Below.refl _ _) (vok rfl) facts_nil
    · intro a uq K hS hd hK
      have s32 := (waits_on hd 14 (by kernel_rfl)).at (d := 32) rfl rfl rfl
      have s36 := (waits_on hd 18 (by kernel_rfl)).at (d := 36) rfl rfl rfl
      have s38 := (waits_on hd 20 (by kernel_rfl)).at (d := 38) rfl rfl rfl
      rw [if_pos (want_yes rfl rfl rfl s32)]
      go_simp
      exact hK _ _ (Below.refl _ _) (vok rfl) facts_nil
    · intro a uq K hS hd hK
      have s32 := (waits_on hd 14 (by kernel_rfl)).at (d := 32) rfl rfl rfl
      have s39 := (waits_on hd 21 (by kernel_rfl)).at (d := 39) rfl rfl rfl
      rw [if_pos (want_free rfl)]
      go_simp
      exact hK _ _ (Below.refl _ _) (vok rfl) facts_nil
    · intro a uq K hS hd hK
      have s40 := (waits_on hd 22 (by kernel_rfl)).at (d := 40) rfl rfl rfl
      rw [if_pos (want_free rfl)]
      go_simp
      exact hK _ _ (Below.refl _ _) (vok rfl) facts_nil
  case hfin =>
    intro a uq hS hk
    have s18 := (hk 0 (by decide)).at (d := 18) rfl rfl rfl
    have s19 := (hk 1 (by decide)).at (d := 19) rfl rfl rfl
    have s20 := (hk 2 (by decide)).at (d := 20) rfl rfl rfl
    have s21 := (hk 3 (by decide)).at (d := 21) rfl rfl rfl
    have s22 := (hk 4 (by decide)).at (d := 22) rfl rfl rfl
    have s23 := (hk 5 (by decide)).at (d := 23) rfl rfl rfl
    have s24 := (hk 6 (by decide)).at (d := 24) rfl rfl rfl
    have s25 := (hk 7 (by decide)).at (d := 25) rfl rfl rfl
    have s26 := (hk 8 (by decide)).at (d := 26) rfl rfl rfl
    have s27 := (hk 9 (by decide)).at (d := 27) rfl rfl rfl
    have s28 := (hk 10 (by decide)).at (d := 28) rfl rfl rfl
    have s29 := (hk 11 (by decide)).at (d := 29) rfl rfl rfl
    have s30 := (hk 12 (by decide)).at (d := 30) rfl rfl rfl
    have s31 := (hk 13 (by decide)).at (d := 31) rfl rfl rfl
    have s32 := (hk 14 (by decide)).at (d := 32) rfl rfl rfl
    have s33 := (hk 15 (by decide)).at (d := 33) rfl rfl rfl
    have s34 := (hk 16 (by decide)).at (d := 34) rfl rfl rfl
    have s35 := (hk 17 (by decide)).at (d := 35) rfl rfl rfl
    have s36 := (hk 18 (by decide)).at (d := 36) rfl rfl rfl
    have s37 := (hk 19 (by decide)).at (d := 37) rfl rfl rfl
    have s38 := (hk 20 (by decide)).at (d := 38) rfl rfl rfl
    have s39 := (hk 21 (by decide)).at (d := 39) rfl rfl rfl
    have s40 := (hk 22 (by decide)).at (d := 40) rfl rfl rfl
    have s7 := (hk 23 (by decide)).at (d := 7) rfl rfl rfl
    have hlit := hS.lit _ (by kernel_rfl) (lits_cons s18 (lits_cons s19 (lits_cons s20 (lits_cons s21 (lits_cons s22 (lits_cons s23 (lits_cons s24 (lits_cons s25 (lits_cons s26 (lits_cons s27 (lits_cons s28 (lits_cons s29 (lits_cons s30 (lits_cons s31 (lits_cons s32 (lits_cons s33 (lits_cons s34 (lits_cons s35 (lits_cons s36 (lits_cons s37 (lits_cons s38 (lits_cons s39 (lits_cons s40 (lits_cons s7 lits_nil))))))))))))))))))))))))
    rw [hlit]
    clear hlit hk hS s18 s19 s20 s21 s22 s23 s24 s25 s26 s27 s28 s29 s30 s31 s32 s33 s34 s35 s36 s37 s38 s39 s40 s7
    simp only [litT, List.setIfInBounds_toArray, List.set_cons_succ, List.set_cons_zero]
    go_wp2_with fail
    apply wp_region_looseG g (V := [some _, some _, some _, some _, some _, some _, some _, some _, some _, some _, some _, some _, some _, some _, some _, some _, some _, some _, some _, some _, some _, some _, some _, some _, some _, some _]) (Fs := []) (Rel := fun _ w w' => Below w.heap.size w w')
    case hm => kernel_rfl
    case hB => kernel_rfl
    case hCw => exact hstart _
    case hC =>
      rintro i uq w' hr
      exact HHI.out _ (below_to (HGU.out uq) (Nat.le_refl _) hr)
    case hst =>
      exact keeps_nil
    case hop =>
      refine ⟨?_, ?_, ?_, ?_, ?_, ?_, ?_, ?_, ?_, ?_, ?_, ?_, ?_, ?_, ?_, ?_, ?_, ?_, ?_, ?_, ?_, ?_, ?_, ?_, ?_, ?_, trivial⟩
      · intro a uq K hS hd hK
        have s7 := hS.at 7 (by kernel_rfl) rfl
        rw [if_pos (want_free rfl)]
        go_simp
        exact hK _ _ (Below.refl _ _) (vok rfl) facts_nil
      · intro a uq K hS hd hK
        have s41 := (waits_on hd 0 (by kernel_rfl)).at (d := 41) rfl rfl rfl
        rw [if_pos (want_free rfl)]
        go_simp
        exact hK _ _ (Below.refl _ _) (vok rfl) facts_nil
      · intro a uq K hS hd hK
        have s42 := (waits_on hd 1 (by kernel_rfl)).at (d := 42) rfl rfl rfl
        rw [if_pos (want_free rfl)]
        go_simp
        exact hK _ _ (Below.refl _ _) (vok rfl) facts_nil
      · intro a uq K hS hd hK
        have s43 := (waits_on hd 2 (by kernel_rfl)).at (d := 43) rfl rfl rfl
        have s1 := hS.at 1 (by kernel_rfl) rfl
        rw [if_pos (want_yes rfl rfl rfl s43)]
        go_simp
        exact hK _ _ (Below.refl _ _) (vok rfl) facts_nil
      · intro a uq K hS hd hK
        have s43 := (waits_on hd 2 (by kernel_rfl)).at (d := 43) rfl rfl rfl
        have s44 := (waits_on hd 3 (by kernel_rfl)).at (d := 44) rfl rfl rfl
        rw [if_pos (want_yes rfl rfl rfl s43)]
        go_simp
        exact hK _ _ (Below.refl _ _) (vok rfl) facts_nil
      · intro a uq K hS hd hK
        have s43 := (waits_on hd 2 (by kernel_rfl)).at (d := 43) rfl rfl rfl
        have s45 := (waits_on hd 4 (by kernel_rfl)).at (d := 45) rfl rfl rfl
        rw [if_pos (want_yes rfl rfl rfl s43)]
        go_simp
        exact hK _ _ (Below.refl _ _) (vok rfl) facts_nil
      · intro a uq K hS hd hK
        have s43 := (waits_on hd 2 (by kernel_rfl)).at (d := 43) rfl rfl rfl
        have s46 := (waits_on hd 5 (by kernel_rfl)).at (d := 46) rfl rfl rfl
        rw [if_pos (want_yes rfl rfl rfl s43)]
        go_simp
        exact hK _ _ (Below.refl _ _) (vok rfl) facts_nil
      · intro a uq K hS hd hK
        have s43 := (waits_on hd 2 (by kernel_rfl)).at (d := 43) rfl rfl rfl
        have s47 := (waits_on hd 6 (by kernel_rfl)).at (d := 47) rfl rfl rfl
        rw [if_pos (want_free rfl)]
        go_simp
        exact hK _ _ (Below.refl _ _) (vok rfl) facts_nil
      · intro a uq K hS hd hK
        have s48 := (waits_on hd 7 (by kernel_rfl)).at (d := 48) rfl rfl rfl
        rw [if_pos (want_free rfl)]
        go_simp
        exact hK _ _ (Below.refl _ _) (vok rfl) facts_nil
      · intro a uq K hS hd hK
        have s49 := (waits_on hd 8 (by kernel_rfl)).at (d := 49) rfl rfl rfl
        rw [if_neg (want_no rfl rfl rfl s49 rfl)]
        exact hK _ _ (Below.refl _ _) (vok rfl) facts_nil
      · intro a uq K hS hd hK
        have s49 := (waits_on hd 8 (by kernel_rfl)).at (d := 49) rfl rfl rfl
        rw [if_neg (want_no rfl rfl rfl s49 rfl)]
        exact hK _ _ (Below.refl _ _) (vok rfl) facts_nil
      · intro a uq K hS hd hK
        have s49 := (waits_on hd 8 (by kernel_rfl)).at (d := 49) rfl rfl rfl
        rw [if_neg (want_no rfl rfl rfl s49 rfl)]
        exact hK _ _ (Below.refl _ _) (vok rfl) facts_nil
      · intro a uq K hS hd hK
        have s49 := (waits_on hd 8 (by kernel_rfl)).at (d := 49) rfl rfl rfl
        rw [if_neg (want_no rfl rfl rfl s49 rfl)]
        exact hK _ _ (Below.refl _ _) (vok rfl) facts_nil
      · intro a uq K hS hd hK
        have s49 := (waits_on hd 8 (by kernel_rfl)).at (d := 49) rfl rfl rfl
        rw [if_neg (want_no rfl rfl rfl s49 rfl)]
        exact hK _ _ (Below.refl _ _) (vok rfl) facts_nil
      · intro a uq K hS hd hK
        have s49 := (waits_on hd 8 (by kernel_rfl)).at (d := 49) rfl rfl rfl
        rw [if_neg (want_no rfl rfl rfl s49 rfl)]
        exact hK _ _ (Below.refl _ _) (vok rfl) facts_nil
      · intro a uq K hS hd hK
        have s49 := (waits_on hd 8 (by kernel_rfl)).at (d := 49) rfl rfl rfl
        have s55 := (waits_on hd 14 (by kernel_rfl)).at (d := 55) rfl rfl rfl
        rw [if_pos (want_free rfl)]
        go_simp
        exact hK _ _ (Below.refl _ _) (vok rfl) facts_nil
      · intro a uq K hS hd hK
        have s56 := (waits_on hd 15 (by kernel_rfl)).at (d := 56) rfl rfl rfl
        rw [if_pos (want_free rfl)]
        go_simp
        exact hK _ _ (Below.refl _ _) (vok rfl) facts_nil
      · intro a uq K hS hd hK
        have s57 := (waits_on hd 16 (by kernel_rfl)).at (d := 57) rfl rfl rfl
        rw [if_neg (want_no rfl rfl rfl s57 rfl)]
        exact hK _ _ (Below.refl _ _) (vok rfl) facts_nil
      · intro a uq K hS hd hK
        have s57 := (waits_on hd 16 (by kernel_rfl)).at (d := 57) rfl rfl rfl
        rw [if_neg (want_no rfl rfl rfl s57 rfl)]
        exact hK _ _ (Below.refl _ _) (vok rfl) facts_nil
      · intro a uq K hS hd hK
        have s57 := (waits_on hd 16 (by kernel_rfl)).at (d := 57) rfl rfl rfl
        rw [if_neg (want_no rfl rfl rfl s57 rfl)]
        exact hK _ _ (Below.refl _ _) (vok rfl) facts_nil
      · intro a uq K hS hd hK
        have s57 := (waits_on hd 16 (by kernel_rfl)).at (d := 57) rfl rfl rfl
        have s60 := (waits_on hd 19 (by kernel_rfl)).at (d := 60) rfl rfl rfl
        rw [if_pos (want_free rfl)]
        go_simp
        exact hK _ _ (Below.refl _ _) (vok rfl) facts_nil
      · intro a uq K hS hd hK
        have s61 := (waits_on hd 20 (by kernel_rfl)).at (d := 61) rfl rfl rfl
        rw [if_pos (want_free rfl)]
        go_simp
        exact hK _ _ (Below.refl _ _) (vok rfl) facts_nil
      · intro a uq K hS hd hK
        have s62 := (waits_on hd 21 (by kernel_rfl)).at (d := 62) rfl rfl rfl
        rw [if_neg (want_no rfl rfl rfl s62 rfl)]
        exact hK _ _ (Below.refl _ _) (vok rfl) facts_nil
      · intro a uq K hS hd hK
        have s62 := (waits_on hd 21 (by kernel_rfl)).at (d := 62) rfl rfl rfl
        rw [if_neg (want_no rfl rfl rfl s62 rfl)]
        exact hK _ _ (Below.refl _ _) (vok rfl) facts_nil
      · intro a uq K hS hd hK
        have s62 := (waits_on hd 21 (by kernel_rfl)).at (d := 62) rfl rfl rfl
        rw [if_neg (want_no rfl rfl rfl s62 rfl)]
        exact hK _ _ (Below.refl _ _) (vok rfl) facts_nil
      · intro a uq K hS hd hK
        have s62 := (waits_on hd 21 (by kernel_rfl)).at (d := 62) rfl rfl rfl
        have s65 := (waits_on hd 24 (by kernel_rfl)).at (d := 65) rfl rfl rfl
        rw [if_pos (want_free rfl)]
        go_simp
        exact hK _ _ (Below.refl _ _) (vok rfl) facts_nil
    case hfin =>
      intro a uq hS hk
      have s41 := (hk 0 (by decide)).at (d := 41) rfl rfl rfl
      have s42 := (hk 1 (by decide)).at (d := 42) rfl rfl rfl
      have s43 := (hk 2 (by decide)).at (d := 43) rfl rfl rfl
      have s44 := (hk 3 (by decide)).at (d := 44) rfl rfl rfl
      have s45 := (hk 4 (by decide)).at (d := 45) rfl rfl rfl
      have s46 := (hk 5 (by decide)).at (d := 46) rfl rfl rfl
      have s47 := (hk 6 (by decide)).at (d := 47) rfl rfl rfl
      have s48 := (hk 7 (by decide)).at (d := 48) rfl rfl rfl
      have s49 := (hk 8 (by decide)).at (d := 49) rfl rfl rfl
      have s50 := (hk 9 (by decide)).at (d := 50) rfl rfl rfl
      have s51 := (hk 10 (by decide)).at (d := 51) rfl rfl rfl
      have s52 := (hk 11 (by decide)).at (d := 52) rfl rfl rfl
      have s53 := (hk 12 (by decide)).at (d := 53) rfl rfl rfl
      have s54 := (hk 13 (by decide)).at (d := 54) rfl rfl rfl
      have s55 := (hk 14 (by decide)).at (d := 55) rfl rfl rfl
      have s56 := (hk 15 (by decide)).at (d := 56) rfl rfl rfl
      have s57 := (hk 16 (by decide)).at (d := 57) rfl rfl rfl
      have s58 := (hk 17 (by decide)).at (d := 58) rfl rfl rfl
      have s59 := (hk 18 (by decide)).at (d := 59) rfl rfl rfl
      have s60 := (hk 19 (by decide)).at (d := 60) rfl rfl rfl
      have s61 := (hk 20 (by decide)).at (d := 61) rfl rfl rfl
      have s62 := (hk 21 (by decide)).at (d := 62) rfl rfl rfl
      have s63 := (hk 22 (by decide)).at (d := 63) rfl rfl rfl
      have s64 := (hk 23 (by decide)).at (d := 64) rfl rfl rfl
      have s65 := (hk 24 (by decide)).at (d := 65) rfl rfl rfl
      have s66 := (hk 25 (by decide)).at (d := 66) rfl rfl rfl
      have hlit := hS.lit _ (by kernel_rfl) (lits_cons s41 (lits_cons s42 (lits_cons s43 (lits_cons s44 (lits_cons s45 (lits_cons s46 (lits_cons s47 (lits_cons s48 (lits_cons s49 (lits_cons s50 (lits_cons s51 (lits_cons s52 (lits_cons s53 (lits_cons s54 (lits_cons s55 (lits_cons s56 (lits_cons s57 (lits_cons s58 (lits_cons s59 (lits_cons s60 (lits_cons s61 (lits_cons s62 (lits_cons s63 (lits_cons s64 (lits_cons s65 (lits_cons s66 lits_nil))))))))))))))))))))))))))
      rw [hlit]
      clear hlit hk hS s41 s42 s43 s44 s45 s46 s47 s48 s49 s50 s51 s52 s53 s54 s55 s56 s57 s58 s59 s60 s61 s62 s63 s64 s65 s66
      simp only [litT, List.setIfInBounds_toArray, List.set_cons_succ, List.set_cons_zero]
      go_wp2_with fail
      go_ret2
      exact ⟨rfl, below_to HB2.out (Nat.le_refl _) (HGU.out _)⟩
set_option maxRecDepth 100000 in
set_option maxHeartbeats 8000000 in
theorem pk_trim (d : List UInt8) (hl : d.length ≤ 140737488355328) (o s h : Int) (b : Bool) (hE : (lexP d).2.1 = 0) (xa xn : Int) (hn : (lexP d).1 = [⟨1, xa, xn, d⟩]) (h12 : d.length ≤ 12) (hall : d.all sym36 = false) (w : World) : Calls Tryz.prog 12 #[lval d o s h b] w fun e w' => e = .returned (.tuple #[.string (bs []), .int .i64 1]) ∧ Below w.heap.size w w' := by
  have HB1 := hide (below_one w (.cells #[.string (bs d), .int .i64 o, .int .i64 s, .int .i64 h, .bool b] 23))
  have HX := hide (Blk.new w 23 #[.string (bs d), .int .i64 o, .int .i64 s, .int .i64 h, .bool b])
  have hsz : (bs d).size = d.length := bs_size d
  have hemp : (bs ([] : List UInt8)).toList.isEmpty = true := by rw [bs_toList]; rfl
  have h36 : (bs symT).extract 0 36 = bs (symT.take 36) := by rw [bs_cut]; rfl
  have hsy : (bs symT).size = 37 := rfl
  have CL := fun w => Lex_any d hl w
  rw [hE] at CL
  have e12 : decide ((12 : Int) < (d.length : Int)) = false := by simp; omega
  obtain ⟨T, hT, CTR⟩ := Trim_bad d hall (by omega)
  clear hE hall
  go_enter Tryz.func12, Tryz.ntmps12
  unfold lval
  go_wp2_with fail
  generalize w.alloc (.cells #[.string (bs d), .int .i64 o, .int .i64 s, .int .i64 h, .bool b] 23) = w1 at *
  obtain ⟨bx, hbx⟩ : ∃ bx, Hid (w.heap.size = bx) := ⟨_, rfl⟩
  rw [hbx.out] at HX ⊢
  refine (CL _).mono ?_
  rintro e w2 ⟨v, rfl, hv, hb⟩
  have HB2 := hide (below_to HB1.out (Nat.le_refl _) hb)
  have HX2 := hide (HX.out.to hb)
  clear hb HB1 HX CL
  rw [hn] at hv
  obtain ⟨tb, tc, rfl, htl, htc⟩ : ∃ tb tc, v = .slice (some ⟨tb, 0, none⟩) 1 tc ∧ tb < w2.heap.size ∧ ∀ (j : Nat) u, (tcells ⟨1, xa, xn, d⟩)[j]? = some u → w2.cell? ⟨tb, j, none⟩ = some u := by
    rcases hv with ⟨h1, _⟩ | ⟨b, c, h1, h2, h3⟩
    · cases h1
    · exact ⟨b, c, h1, h2, fun j u hu => by have := h3 0 _ rfl j u hu; simpa using this⟩
  have HT := hide (⟨htl, htc⟩ : tb < w2.heap.size ∧ ∀ (j : Nat) u, (tcells ⟨1, xa, xn, d⟩)[j]? = some u → w2.cell? ⟨tb, j, none⟩ = some u)
  clear hv hn htl htc
  obtain ⟨U, hU, g, u0, rfl, hgu, hi'⟩ := cls w2
  have x0 := blk_all hgu HX2.out 0 rfl
  have x1 := blk_all hgu HX2.out 1 rfl
  have x2 := blk_all hgu HX2.out 2 rfl
  have x3 := blk_all hgu HX2.out 3 rfl
  have x4 := blk_all hgu HX2.out 4 rfl
  have t0 : ∀ u, (g u).cell? ⟨tb, 0, none⟩ = some (.int .i64 1) := fun u => ((hgu u).cell (p := ⟨tb, 0, none⟩) HT.out.1).trans (HT.out.2 0 _ rfl)
  have t3 : ∀ u, (g u).cell? ⟨tb, 3, none⟩ = some (.string (bs d)) := fun u => ((hgu u).cell (p := ⟨tb, 3, none⟩) HT.out.1).trans (HT.out.2 3 _ rfl)
  have HGU := hide hgu
  have HHI := hide hi'
  have hstart : ∀ u, ∃ u', (g u).drew = g u' := fun u => hi' _ (hgu u).drew
  clear hgu hi'
  have CSY : ∀ w : World, Calls Tryz.prog 24 #[] w fun e w' => e = .returned (.string (bs symT)) ∧ Below w.heap.size w w' := fun w => (symbols_any w).mono fun e w' ⟨he, hw⟩ => ⟨he, hw ▸ Below.refl _ _⟩
  go_wp2_with fail
  apply wp_region_looseG g (V := [some _, some _, some _, some _, some _, some _, some _, some _, some _, some _, some _, some _, some _, some _, some _, some _, some _, some _, some _, some _, some _, some _, some _, some _]) (Fs := []) (Rel := fun _ w w' => Below w.heap.size w w')
  case hm => kernel_rfl
  case hB => kernel_rfl
  case hCw => exact hstart _
  case hC =>
    rintro i uq w' hr
    exact HHI.out _ (below_to (HGU.out uq) (Nat.le_refl _) hr)
  case hst =>
    exact keeps_nil
  case hop =>
    refine ⟨?_, ?_, ?_, ?_, ?_, ?_, ?_, ?_, ?_, ?_, ?_, ?_, ?_, ?_, ?_, ?_, ?_, ?_, ?_, ?_, ?_, ?_, ?_, ?_, trivial⟩
    · intro a uq K hS hd hK
      have s5 := hS.at 5 (by kernel_rfl) rfl
      rw [if_pos (want_free rfl)]
      go_simp
      exact hK _ _ (Below.refl _ _) (vok rfl) facts_nil
    · intro a uq K hS hd hK
      have s18 := (waits_on hd 0 (by kernel_rfl)).at (d := 18) rfl rfl rfl
      rw [if_pos (want_free rfl)]
      go_simp
      exact hK _ _ (Below.refl _ _) (vok rfl) facts_nil
    · intro a uq K hS hd hK
      have s19 := (waits_on hd 1 (by kernel_rfl)).at (d := 19) rfl rfl rfl
      rw [if_pos (want_free rfl)]
      go_simp
      exact hK _ _ (Below.refl _ _) (vok rfl) facts_nil
    · intro a uq K hS hd hK
      have s20 := (waits_on hd 2 (by kernel_rfl)).at (d := 20) rfl rfl rfl
      have s4 := hS.at 4 (by kernel_rfl) rfl
      rw [if_pos (want_yes rfl rfl rfl s20)]
      go_simp
      exact hK _ _ (Below.refl _ _) (vok rfl) facts_nil
    · intro a uq K hS hd hK
      have s20 := (waits_on hd 2 (by kernel_rfl)).at (d := 20) rfl rfl rfl
      have s21 := (waits_on hd 3 (by kernel_rfl)).at (d := 21) rfl rfl rfl
      rw [if_pos (want_yes rfl rfl rfl s20)]
      go_simp
      exact hK _ _ (Below.refl _ _) (vok rfl) facts_nil
    · intro a uq K hS hd hK
      have s20 := (waits_on hd 2 (by kernel_rfl)).at (d := 20) rfl rfl rfl
      have s22 := (waits_on hd 4 (by kernel_rfl)).at (d := 22) rfl rfl rfl
      rw [if_pos (want_yes rfl rfl rfl s20)]
      go_simp
      exact hK _ _ (Below.refl _ _) (vok rfl) facts_nil
    · intro a uq K hS hd hK
      have s20 := (waits_on hd 2 (by kernel_rfl)).at (d := 20) rfl rfl rfl
      have s23 := (waits_on hd 5 (by kernel_rfl)).at (d := 23) rfl rfl rfl
      rw [if_pos (want_free rfl)]
      go_simp
      exact hK _ _ (Below.refl _ _) (vok rfl) facts_nil
    · intro a uq K hS hd hK
      have s24 := (waits_on hd 6 (by kernel_rfl)).at (d := 24) rfl rfl rfl
      rw [if_pos (want_free rfl)]
      go_simp
      exact hK _ _ (Below.refl _ _) (vok rfl) facts_nil
    · intro a uq K hS hd hK
      have s25 := (waits_on hd 7 (by kernel_rfl)).at (d := 25) rfl rfl rfl
      have s4 := hS.at 4 (by kernel_rfl) rfl
      rw [if_pos (want_yes rfl rfl rfl s25)]
      go_simp
      exact hK _ _ (Below.refl _ _) (vok rfl) facts_nil
    · intro a uq K hS hd hK
      have s25 := (waits_on hd 7 (by kernel_rfl)).at (d := 25) rfl rfl rfl
      have s26 := (waits_on hd 8 (by kernel_rfl)).at (d := 26) rfl rfl rfl
      rw [if_pos (want_yes rfl rfl rfl s25)]
      go_simp
      exact hK _ _ (Below.refl _ _) (vok rfl) facts_nil
    · intro a uq K hS hd hK
      have s25 := (waits_on hd 7 (by kernel_rfl)).at (d := 25) rfl rfl rfl
      have s27 := (waits_on hd 9 (by kernel_rfl)).at (d := 27) rfl rfl rfl
      rw [if_pos (want_yes rfl rfl rfl s25)]
      go_simp
      exact hK _ _ (Below.refl _ _) (vok rfl) facts_nil
    · intro a uq K hS hd hK
      have s25 := (waits_on hd 7 (by kernel_rfl)).at (d := 25) rfl rfl rfl
      have s28 := (waits_on hd 10 (by kernel_rfl)).at (d := 28) rfl rfl rfl
      rw [if_pos (want_yes rfl rfl rfl s25)]
      go_simp
      exact hK _ _ (Below.refl _ _) (vok rfl) facts_nil
    · intro a uq K hS hd hK
      have s25 := (waits_on hd 7 (by kernel_rfl)).at (d := 25) rfl rfl rfl
      have s29 := (waits_on hd 11 (by kernel_rfl)).at (d := 29) rfl rfl rfl
      rw [if_pos (want_yes rfl rfl rfl s25)]
      go_simp
      exact hK _ _ (Below.refl _ _) (vok rfl) facts_nil
    · intro a uq K hS hd hK
      have s25 := (waits_on hd 7 (by kernel_rfl)).at (d := 25) rfl rfl rfl
      have s30 := (waits_on hd 12 (by kernel_rfl)).at (d := 30) rfl rfl rfl
      rw [if_pos (want_free rfl)]
      go_simp
      exact hK _ _ (Below.refl _ _) (vok rfl) facts_nil
    · intro a uq K hS hd hK
      have s31 := (waits_on hd 13 (by kernel_rfl)).at (d := 31) rfl rfl rfl
      rw [if_pos (want_free rfl)]
      go_simp
      exact hK _ _ (Below.refl _ _) (vok rfl) facts_nil
    · intro a uq K hS hd hK
      have s32 := (waits_on hd 14 (by kernel_rfl)).at (d := 32) rfl rfl rfl
      have s4 := hS.at 4 (by kernel_rfl) rfl
      rw [if_pos (want_yes rfl rfl rfl s32)]
      go_simp
      exact hK _ _ (Below.refl _ _) (vok rfl) facts_nil
    · intro a uq K hS hd hK
      have s32 := (waits_on hd 14 (by kernel_rfl)).at (d := 32) rfl rfl rfl
      have s33 := (waits_on hd 15 (by kernel_rfl)).at (d := 33) rfl rfl rfl
      rw [if_pos (want_yes rfl rfl rfl s32)]
      go_simp
      exact hK _ _ (Below.refl _ _) (vok rfl) facts_nil
    · intro a uq K hS hd hK
      have s32 := (waits_on hd 14 (by kernel_rfl)).at (d := 32) rfl rfl rfl
      have s34 := (waits_on hd 16 (by kernel_rfl)).at (d := 34) rfl rfl rfl
      rw [if_pos (want_yes rfl rfl rfl s32)]
      go_simp
      exact hK _ _ (Below.refl _ _) (vok rfl) facts_nil
    · intro a uq K hS hd hK
      have s32 := (waits_on hd 14 (by kernel_rfl)).at (d := 32) rfl rfl rfl
      have s35 := (waits_on hd 17 (by kernel_rfl)).at (d := 35) rfl rfl rfl
      rw [if_pos (want_yes rfl rfl rfl s32)]
      go_simp
      exact hK _ _ (Below.refl _ _) (vok rfl) facts_nil
    · intro a uq K hS hd hK
      have s32 := (waits_on hd 14 (by kernel_rfl)).at (d := 32) rfl rfl rfl
      have s1 := hS.at 1 (by kernel_rfl) rfl
      rw [if_pos (want_yes rfl rfl rfl s32)]
      go_simp
      exact hK _ _ (Below.refl _ _) (vok rfl) facts_nil
    · intro a uq K hS hd hK
      have s32 := (waits_on hd 14 (by kernel_rfl)).at (d := 32) rfl rfl rfl
      have s37 := (waits_on hd 19 (by kernel_rfl)).at (d := 37) rfl rfl rfl
      rw [if_pos (want_yes rfl rfl rfl s32)]
      go_simp
      exact hK _ _ (Below.refl _ _) (vok rfl) facts_nil
    · intro a uq K hS hd hK
      have s32 := (waits_on hd 14 (by kernel_rfl)).at (d := 32) rfl rfl rfl
      have s36 := (waits_on hd 18 (by kernel_rfl)).at (d := 36) rfl rfl rfl
      have s38 := (waits_on hd 20 (by kernel_rfl)).at (d := 38) rfl rfl rfl
      rw [if_pos (want_yes rfl rfl rfl s32)]
      go_simp
      exact hK _ _ (Below.refl _ _) (vok rfl) facts_nil
    · intro a uq K hS hd hK
      have s32 := (waits_on hd 14 (by kernel_rfl)).at (d := 32) rfl rfl rfl
      have s39 := (waits_on hd 21 (by kernel_rfl)).at (d := 39) rfl rfl rfl
      rw [if_pos (want_free rfl)]
      go_simp
      exact hK _ _ (Below.refl _ _) (vok rfl) facts_nil
    · intro a uq K hS hd hK
      have s40 := (waits_on hd 22 (by kernel_rfl)).at (d := 40) rfl rfl rfl
      rw [if_pos (want_free rfl)]
      go_simp
      exact hK _ _ (Below.refl _ _) (vok rfl) facts_nil
  case hfin =>
    intro a uq hS hk
    have s18 := (hk 0 (by decide)).at (d := 18) rfl rfl rfl
    have s19 := (hk 1 (by decide)).at (d := 19) rfl rfl rfl
    have s20 := (hk 2 (by decide)).at (d := 20) rfl rfl rfl
    have s21 := (hk 3 (by decide)).at (d := 21) rfl rfl rfl
    have s22 := (hk 4 (by decide)).at (d := 22) rfl rfl rfl
    have s23 := (hk 5 (by decide)).at (d := 23) rfl rfl rfl
    have s24 := (hk 6 (by decide)).at (d := 24) rfl rfl rfl
    have s25 := (hk 7 (by decide)).at (d := 25) rfl rfl rfl
    have s26 := (hk 8 (by decide)).at (d := 26) rfl rfl rfl
    have s27 := (hk 9 (by decide)).at (d := 27) rfl rfl rfl
    have s28 := (hk 10 (by decide)).at (d := 28) rfl rfl rfl
    have s29 := (hk 11 (by decide)).at (d := 29) rfl rfl rfl
    have s30 := (hk 12 (by decide)).at (d := 30) rfl rfl rfl
    have s31 := (hk 13 (by decide)).at (d := 31) rfl rfl rfl
    have s32 := (hk 14 (by decide)).at (d := 32) rfl rfl rfl
    have s33 := (hk 15 (by decide)).at (d := 33) rfl rfl rfl
    have s34 := (hk 16 (by decide)).at (d := 34) rfl rfl rfl
    have s35 := (hk 17 (by decide)).at (d := 35) rfl rfl rfl
    have s36 := (hk 18 (by decide)).at (d := 36) rfl rfl rfl
    have s37 := (hk 19 (by decide)).at (d := 37) rfl rfl rfl
    have s38 := (hk 20 (by decide)).at (d := 38) rfl rfl rfl
    have s39 := (hk 21 (by decide)).at (d := 39) rfl rfl rfl
    have s40 := (hk 22 (by decide)).at (d := 40) rfl rfl rfl
    have s7 := (hk 23 (by decide)).at (d := 7) rfl rfl rfl
    have hlit := hS.lit _ (by kernel_rfl) (lits_cons s18 (lits_cons s19 (lits_cons s20 (lits_cons s21 (lits_cons s22 (lits_cons s23 (lits_cons s24 (lits_cons s25 (lits_cons s26 (lits_cons s27 (lits_cons s28 (lits_cons s29 (lits_cons s30 (lits_cons s31 (lits_cons s32 (lits_cons s33 (lits_cons s34 (lits_cons s35 (lits_cons s36 (lits_cons s37 (lits_cons s38 (lits_cons s39 (lits_cons s40 (lits_cons s7 lits_nil))))))))))))))))))))))))
    rw [hlit]
    clear hlit hk hS s18 s19 s20 s21 s22 s23 s24 s25 s26 s27 s28 s29 s30 s31 s32 s33 s34 s35 s36 s37 s38 s39 s40 s7
    simp only [litT, List.setIfInBounds_toArray, List.set_cons_succ, List.set_cons_zero]
    go_wp2_with fail
    apply wp_region_looseG g (V := [some _, some _, some _, some _, some _, some _, some _, some _, some _, some _, some _, some _, some _, some _, some _, some _, some _, some _, some _, some _, some _, some _, some _, some _, some _, some _]) (Fs := []) (Rel := fun _ w w' => Below w.heap.size w w')
    case hm => kernel_rfl
    case hB => kernel_rfl
    case hCw => exact hstart _
    case hC =>
      rintro i uq w' hr
      exact HHI.out _ (below_to (HGU.out uq) (Nat.le_refl _) hr)
    case hst =>
      exact keeps_nil
    case hop =>
      refine ⟨?_, ?_, ?_, ?_, ?_, ?_, ?_, ?_, ?_, ?_, ?_, ?_, ?_, ?_, ?_, ?_, ?_, ?_, ?_, ?_, ?_, ?_, ?_, ?_, ?_, ?_, trivial⟩
      · intro a uq K hS hd hK
        have s7 := hS.at 7 (by kernel_rfl) rfl
        rw [if_pos (want_free rfl)]
        go_simp
        exact hK _ _ (Below.refl _ _) (vok rfl) facts_nil
      · intro a uq K hS hd hK
        have s41 := (waits_on hd 0 (by kernel_rfl)).at (d := 41) rfl rfl rfl
        rw [if_pos (want_free rfl)]
        go_simp
        exact hK _ _ (Below.refl _ _) (vok rfl) facts_nil
      · intro a uq K hS hd hK
        have s42 := (waits_on hd 1 (by kernel_rfl)).at (d := 42) rfl rfl rfl
        rw [if_pos (want_free rfl)]
        go_simp
        exact hK _ _ (Below.refl _ _) (vok rfl) facts_nil
      · intro a uq K hS hd hK
        have s43 := (waits_on hd 2 (by kernel_rfl)).at (d := 43) rfl rfl rfl
        have s1 := hS.at 1 (by kernel_rfl) rfl
        rw [if_pos (want_yes rfl rfl rfl s43)]
        go_simp
        exact hK _ _ (Below.refl _ _) (vok rfl) facts_nil
      · intro a uq K hS hd hK
        have s43 := (waits_on hd 2 (by kernel_rfl)).at (d := 43) rfl rfl rfl
        have s44 := (waits_on hd 3 (by kernel_rfl)).at (d := 44) rfl rfl rfl
        rw [if_pos (want_yes rfl rfl rfl s43)]
        go_simp
        exact hK _ _ (Below.refl _ _) (vok rfl) facts_nil
      · intro a uq K hS hd hK
        have s43 := (waits_on hd 2 (by kernel_rfl)).at (d := 43) rfl rfl rfl
        have s45 := (waits_on hd 4 (by kernel_rfl)).at (d := 45) rfl rfl rfl
        rw [if_pos (want_yes rfl rfl rfl s43)]
        go_simp
        exact hK _ _ (Below.refl _ _) (vok rfl) facts_nil
      · intro a uq K hS hd hK
        have s43 := (waits_on hd 2 (by kernel_rfl)).at (d := 43) rfl rfl rfl
        have s46 := (waits_on hd 5 (by kernel_rfl)).at (d := 46) rfl rfl rfl
        rw [if_pos (want_yes rfl rfl rfl s43)]
        go_simp
        exact hK _ _ (Below.refl _ _) (vok rfl) facts_nil
      · intro a uq K hS hd hK
        have s43 := (waits_on hd 2 (by kernel_rfl)).at (d := 43) rfl rfl rfl
        have s47 := (waits_on hd 6 (by kernel_rfl)).at (d := 47) rfl rfl rfl
        rw [if_pos (want_free rfl)]
        go_simp
        exact hK _ _ (Below.refl _ _) (vok rfl) facts_nil
      · intro a uq K hS hd hK
        have s48 := (waits_on hd 7 (by kernel_rfl)).at (d := 48) rfl rfl rfl
        rw [if_pos (want_free rfl)]
        go_simp
        exact hK _ _ (Below.refl _ _) (vok rfl) facts_nil
      · intro a uq K hS hd hK
        have s49 := (waits_on hd 8 (by kernel_rfl)).at (d := 49) rfl rfl rfl
        have s1 := hS.at 1 (by kernel_rfl) rfl
        rw [if_pos (want_yes rfl rfl rfl s49)]
        go_simp
        exact hK _ _ (Below.refl _ _) (vok rfl) facts_nil
      · intro a uq K hS hd hK
        have s49 := (waits_on hd 8 (by kernel_rfl)).at (d := 49) rfl rfl rfl
        have s50 := (waits_on hd 9 (by kernel_rfl)).at (d := 50) rfl rfl rfl
        rw [if_pos (want_yes rfl rfl rfl s49)]
        go_simp
        exact hK _ _ (Below.refl _ _) (vok rfl) facts_nil
      · intro a uq K hS hd hK
        have s49 := (waits_on hd 8 (by kernel_rfl)).at (d := 49) rfl rfl rfl
        rw [if_pos (want_yes rfl rfl rfl s49)]
        go_simp
        with_reducible refine (CSY (g uq)).mono ?_
        rintro e w' ⟨rfl, hb⟩
        exact hK _ _ hb (vok rfl) facts_nil
      · intro a uq K hS hd hK
        have s49 := (waits_on hd 8 (by kernel_rfl)).at (d := 49) rfl rfl rfl
        have s52 := (waits_on hd 11 (by kernel_rfl)).at (d := 52) rfl rfl rfl
        rw [if_pos (want_yes rfl rfl rfl s49)]
        go_simp
        exact hK _ _ (Below.refl _ _) (vok rfl) facts_nil
      · intro a uq K hS hd hK
        have s49 := (waits_on hd 8 (by kernel_rfl)).at (d := 49) rfl rfl rfl
        have s51 := (waits_on hd 10 (by kernel_rfl)).at (d := 51) rfl rfl rfl
        have s53 := (waits_on hd 12 (by kernel_rfl)).at (d := 53) rfl rfl rfl
        rw [if_pos (want_yes rfl rfl rfl s49)]
        go_simp
        with_reducible refine (CTR (g uq)).mono ?_
        rintro e w' ⟨rfl, hb⟩
        exact hK _ _ hb (vok rfl) facts_nil
      · intro a uq K hS hd hK
        have s49 := (waits_on hd 8 (by kernel_rfl)).at (d := 49) rfl rfl rfl
        have s54 := (waits_on hd 13 (by kernel_rfl)).at (d := 54) rfl rfl rfl
        rw [if_pos (want_yes rfl rfl rfl s49)]
        go_simp
        exact hK _ _ (Below.refl _ _) (vok rfl) facts_nil
      · intro a uq K hS hd hK
        have s49 := (waits_on hd 8 (by kernel_rfl)).at (d := 49) rfl rfl rfl
        have s55 := (waits_on hd 14 (by kernel_rfl)).at (d := 55) rfl rfl rfl
        rw [if_pos (want_free rfl)]
        go_simp
        exact hK _ _ (Below.refl _ _) (vok rfl) facts_nil
      · intro a uq K hS hd hK
        have s56 := (waits_on hd 15 (by kernel_rfl)).at (d := 56) rfl rfl rfl
        rw [if_pos (want_free rfl)]
        go_simp
        exact hK _ _ (Below.refl _ _) (vok rfl) facts_nil
      · intro a uq K hS hd hK
        have s57 := (waits_on hd 16 (by kernel_rfl)).at (d := 57) rfl rfl rfl
        rw [if_neg (want_no rfl rfl rfl s57 rfl)]
        exact hK _ _ (Below.refl _ _) (vok rfl) facts_nil
      · intro a uq K hS hd hK
        have s57 := (waits_on hd 16 (by kernel_rfl)).at (d := 57) rfl rfl rfl
        rw [if_neg (want_no rfl rfl rfl s57 rfl)]
        exact hK _ _ (Below.refl _ _) (vok rfl) facts_nil
      · intro a uq K hS hd hK
        have s57 := (waits_on hd 16 (by kernel_rfl)).at (d := 57) rfl rfl rfl
        rw [if_neg (want_no rfl rfl rfl s57 rfl)]
        exact hK _ _ (Below.refl _ _) (vok rfl) facts_nil
      · intro a uq K hS hd hK
        have s57 := (waits_on hd 16 (by kernel_rfl)).at (d := 57) rfl rfl rfl
        have s60 := (waits_on hd 19 (by kernel_rfl)).at (d := 60) rfl rfl rfl
        rw [if_pos (want_free rfl)]
        go_simp
        exact hK _ _ (Below.refl _ _) (vok rfl) facts_nil
      · intro a uq K hS hd hK
        have s61 := (waits_on hd 20 (by kernel_rfl)).at (d := 61) rfl rfl rfl
        rw [if_pos (want_free rfl)]
        go_simp
        exact hK _ _ (Below.refl _ _) (vok rfl) facts_nil
      · intro a uq K hS hd hK
        have s62 := (waits_on hd 21 (by kernel_rfl)).at (d := 62) rfl rfl rfl
        rw [if_neg (want_no rfl rfl rfl s62 rfl)]
        exact hK _ _ (Below.refl _ _) (vok rfl) facts_nil
      · intro a uq K hS hd hK
        have s62 := (waits_on hd 21 (by kernel_rfl)).at (d := 62) rfl rfl rfl
        rw [if_neg (want_no rfl rfl rfl s62 rfl)]
        exact hK _ _ (Below.refl _ _) (vok rfl) facts_nil
      · intro a uq K hS hd hK
        have s62 := (waits_on hd 21 (by kernel_rfl)).at (d := 62) rfl rfl rfl
        rw [if_neg (want_no rfl rfl rfl s62 rfl)]
        exact hK _ _ (Below.refl _ _) (vok rfl) facts_nil
      · intro a uq K hS hd hK
        have s62 := (waits_on hd 21 (by kernel_rfl)).at (d := 62) rfl rfl rfl
        have s65 := (waits_on hd 24 (by kernel_rfl)).at (d := 65) rfl rfl rfl
        rw [if_pos (want_free rfl)]
        go_simp
        exact hK _ _ (Below.refl _ _) (vok rfl) facts_nil
    case hfin =>
      intro a uq hS hk
      have s41 := (hk 0 (by decide)).at (d := 41) rfl rfl rfl
      have s42 := (hk 1 (by decide)).at (d := 42) rfl rfl rfl
      have s43 := (hk 2 (by decide)).at (d := 43) rfl rfl rfl
      have s44 := (hk 3 (by decide)).at (d := 44) rfl rfl rfl
      have s45 := (hk 4 (by decide)).at (d := 45) rfl rfl rfl
      have s46 := (hk 5 (by decide)).at (d := 46) rfl rfl rfl
      have s47 := (hk 6 (by decide)).at (d := 47) rfl rfl rfl
      have s48 := (hk 7 (by decide)).at (d := 48) rfl rfl rfl
      have s49 := (hk 8 (by decide)).at (d := 49) rfl rfl rfl
      have s50 := (hk 9 (by decide)).at (d := 50) rfl rfl rfl
      have s51 := (hk 10 (by decide)).at (d := 51) rfl rfl rfl
      have s52 := (hk 11 (by decide)).at (d := 52) rfl rfl rfl
      have s53 := (hk 12 (by decide)).at (d := 53) rfl rfl rfl
      have s54 := (hk 13 (by decide)).at (d := 54) rfl rfl rfl
      have s55 := (hk 14 (by decide)).at (d := 55) rfl rfl rfl
      have s56 := (hk 15 (by decide)).at (d := 56) rfl rfl rfl
      have s57 := (hk 16 (by decide)).at (d := 57) rfl rfl rfl
      have s58 := (hk 17 (by decide)).at (d := 58) rfl rfl rfl
      have s59 := (hk 18 (by decide)).at (d := 59) rfl rfl rfl
      have s60 := (hk 19 (by decide)).at (d := 60) rfl rfl rfl
      have s61 := (hk 20 (by decide)).at (d := 61) rfl rfl rfl
      have s62 := (hk 21 (by decide)).at (d := 62) rfl rfl rfl
      have s63 := (hk 22 (by decide)).at (d := 63) rfl rfl rfl
      have s64 := (hk 23 (by decide)).at (d := 64) rfl rfl rfl
      have s65 := (hk 24 (by decide)).at (d := 65) rfl rfl rfl
      have s66 := (hk 25 (by decide)).at (d := 66) rfl rfl rfl
      have hlit := hS.lit _ (by kernel_rfl) (lits_cons s41 (lits_cons s42 (lits_cons s43 (lits_cons s44 (lits_cons s45 (lits_cons s46 (lits_cons s47 (lits_cons s48 (lits_cons s49 (lits_cons s50 (lits_cons s51 (lits_cons s52 (lits_cons s53 (lits_cons s54 (lits_cons s55 (lits_cons s56 (lits_cons s57 (lits_cons s58 (lits_cons s59 (lits_cons s60 (lits_cons s61 (lits_cons s62 (lits_cons s63 (lits_cons s64 (lits_cons s65 (lits_cons s66 lits_nil))))))))))))))))))))))))))
      rw [hlit]
      clear hlit hk hS s41 s42 s43 s44 s45 s46 s47 s48 s49 s50 s51 s52 s53 s54 s55 s56 s57 s58 s59 s60 s61 s62 s63 s64 s65 s66
      simp only [litT, List.setIfInBounds_toArray, List.set_cons_succ, List.set_cons_zero]
      go_wp2_with fail
      go_ret2
      exact ⟨rfl, below_to HB2.out (Nat.le_refl _) (HGU.out _)⟩
set_option maxRecDepth 100000 in
set_option maxHeartbeats 8000000 in
theorem pk_s0 (d : List UInt8) (hl : d.length ≤ 140737488355328) (o s h : Int) (b : Bool) (hE : (lexP d).2.1 = 0) (xa xn : Int) (hn : (lexP d).1 = [⟨1, xa, xn, d⟩]) (h12 : d.length ≤ 12) (hall : d.all sym36 = true) (hs : s < -1) (w : World) : Calls Tryz.prog 12 #[lval d o s h b] w fun e w' => e = .returned (.tuple #[.string (bs []), .int .i64 1]) ∧ Below w.heap.size w w' := by
  have HB1 := hide (below_one w (.cells #[.string (bs d), .int .i64 o, .int .i64 s, .int .i64 h, .bool b] 23))
  have HX := hide (Blk.new w 23 #[.string (bs d), .int .i64 o, .int .i64 s, .int .i64 h, .bool b])
  have hsz : (bs d).size = d.length := bs_size d
  have hemp : (bs ([] : List UInt8)).toList.isEmpty = true := by rw [bs_toList]; rfl
  have h36 : (bs symT).extract 0 36 = bs (symT.take 36) := by rw [bs_cut]; rfl
  have hsy : (bs symT).size = 37 := rfl
  have CL := fun w => Lex_any d hl w
  rw [hE] at CL
  have e12 : decide ((12 : Int) < (d.length : Int)) = false := by simp; omega
  have CTR := fun w => Trim_good d hall (by omega) w
  have es0 : decide (s < -1) = true := by simp; omega
  clear hE hall hs
  go_enter Tryz.func12, Tryz.ntmps12
  unfold lval
  go_wp2_with fail
  generalize w.alloc (.cells #[.string (bs d), .int .i64 o, .int .i64 s, .int .i64 h, .bool b] 23) = w1 at *
  obtain ⟨bx, hbx⟩ : ∃ bx, Hid (w.heap.size = bx) := ⟨_, rfl⟩
  rw [hbx.out] at HX ⊢
  refine (CL _).mono ?_
  rintro e w2 ⟨v, rfl, hv, hb⟩
  have HB2 := hide (below_to HB1.out (Nat.le_refl _) hb)
  have HX2 := hide (HX.out.to hb)
  clear hb HB1 HX CL
  rw [hn] at hv
  obtain ⟨tb, tc, rfl, htl, htc⟩ : ∃ tb tc, v = .slice (some ⟨tb, 0, none⟩) 1 tc ∧ tb < w2.heap.size ∧ ∀ (j : Nat) u, (tcells ⟨1, xa, xn, d⟩)[j]? = some u → w2.cell? ⟨tb, j, none⟩ = some u := by
    rcases hv with ⟨h1, _⟩ | ⟨b, c, h1, h2, h3⟩
    · cases h1
    · exact ⟨b, c, h1, h2, fun j u hu => by have := h3 0 _ rfl j u hu; simpa using this⟩
  have HT := hide (⟨htl, htc⟩ : tb < w2.heap.size ∧ ∀ (j : Nat) u, (tcells ⟨1, xa, xn, d⟩)[j]? = some u → w2.cell? ⟨tb, j, none⟩ = some u)
  clear hv hn htl htc
  obtain ⟨U, hU, g, u0, rfl, hgu, hi'⟩ := cls w2
  have x0 := blk_all hgu HX2.out 0 rfl
  have x1 := blk_all hgu HX2.out 1 rfl
  have x2 := blk_all hgu HX2.out 2 rfl
  have x3 := blk_all hgu HX2.out 3 rfl
  have x4 := blk_all hgu HX2.out 4 rfl
  have t0 : ∀ u, (g u).cell? ⟨tb, 0, none⟩ = some (.int .i64 1) := fun u => ((hgu u).cell (p := ⟨tb, 0, none⟩) HT.out.1).trans (HT.out.2 0 _ rfl)
  have t3 : ∀ u, (g u).cell? ⟨tb, 3, none⟩ = some (.string (bs d)) := fun u => ((hgu u).cell (p := ⟨tb, 3, none⟩) HT.out.1).trans (HT.out.2 3 _ rfl)
  have HGU := hide hgu
  have HHI := hide hi'
  have hstart : ∀ u, ∃ u', (g u).drew = g u' := fun u => hi' _ (hgu u).drew
  clear hgu hi'
  have CSY : ∀ w : World, Calls Tryz.prog 24 #[] w fun e w' => e = .returned (.string (bs symT)) ∧ Below w.heap.size w w' := fun w => (symbols_any w).mono fun e w' ⟨he, hw⟩ => ⟨he, hw ▸ Below.refl _ _⟩
  go_wp2_with fail
  apply wp_region_looseG g (V := [some _, some _, some _, some _, some _, some _, some _, some _, some _, some _, some _, some _, some _, some _, some _, some _, some _, some _, some _, some _, some _, some _, some _, some _]) (Fs := []) (Rel := fun _ w w' => Below w.heap.size w w')
  case hm => kernel_rfl
  case hB => kernel_rfl
  case hCw => exact hstart _
  case hC =>
    rintro i uq w' hr
    exact HHI.out _ (below_to (HGU.out uq) (Nat.le_refl _) hr)
  case hst =>
    exact keeps_nil
  case hop =>
    refine ⟨?_, ?_, ?_, ?_, ?_, ?_, ?_, ?_, ?_, ?_, ?_, ?_, ?_, ?_, ?_, ?_, ?_, ?_, ?_, ?_, ?_, ?_, ?_, ?_, trivial⟩
    · intro a uq K hS hd hK
      have s5 := hS.at 5 (by kernel_rfl) rfl
      rw [if_pos (want_free rfl)]
      go_simp
      exact hK _ _ (Below.refl _ _) (vok rfl) facts_nil
    · intro a uq K hS hd hK
      have s18 := (waits_on hd 0 (by kernel_rfl)).at (d := 18) rfl rfl rfl
      rw [if_pos (want_free rfl)]
      go_simp
      exact hK _ _ (Below.refl _ _) (vok rfl) facts_nil
    · intro a uq K hS hd hK
      have s19 := (waits_on hd 1 (by kernel_rfl)).at (d := 19) rfl rfl rfl
      rw [if_pos (want_free rfl)]
      go_simp
      exact hK _ _ (Below.refl _ _) (vok rfl) facts_nil
    · intro a uq K hS hd hK
      have s20 := (waits_on hd 2 (by kernel_rfl)).at (d := 20) rfl rfl rfl
      have s4 := hS.at 4 (by kernel_rfl) rfl
      rw [if_pos (want_yes rfl rfl rfl s20)]
      go_simp
      exact hK _ _ (Below.refl _ _) (vok rfl) facts_nil
    · intro a uq K hS hd hK
      have s20 := (waits_on hd 2 (by kernel_rfl)).at (d := 20) rfl rfl rfl
      have s21 := (waits_on hd 3 (by kernel_rfl)).at (d := 21) rfl rfl rfl
      rw [if_pos (want_yes rfl rfl rfl s20)]
      go_simp
      exact hK _ _ (Below.refl _ _) (vok rfl) facts_nil
    · intro a uq K hS hd hK
      have s20 := (waits_on hd 2 (by kernel_rfl)).at (d := 20) rfl rfl rfl
      have s22 := (waits_on hd 4 (by kernel_rfl)).at (d := 22) rfl rfl rfl
      rw [if_pos (want_yes rfl rfl rfl s20)]
      go_simp
      exact hK _ _ (Below.refl _ _) (vok rfl) facts_nil
    · intro a uq K hS hd hK
      have s20 := (waits_on hd 2 (by kernel_rfl)).at (d := 20) rfl rfl rfl
      have s23 := (waits_on hd 5 (by kernel_rfl)).at (d := 23) rfl rfl rfl
      rw [if_pos (want_free rfl)]
      go_simp
      exact hK _ _ (Below.refl _ _) (vok rfl) facts_nil
    · intro a uq K hS hd hK
      have s24 := (waits_on hd 6 (by kernel_rfl)).at (d := 24) rfl rfl rfl
      rw [if_pos (want_free rfl)]
      go_simp
      exact hK _ _ (Below.refl _ _) (vok rfl) facts_nil
    · intro a uq K hS hd hK
      have s25 := (waits_on hd 7 (by kernel_rfl)).at (d := 25) rfl rfl rfl
      have s4 := hS.at 4 (by kernel_rfl) rfl
      rw [if_pos (want_yes rfl rfl rfl s25)]
      go_simp
      exact hK _ _ (Below.refl _ _) (vok rfl) facts_nil
    · intro a uq K hS hd hK
      have s25 := (waits_on hd 7 (by kernel_rfl)).at (d := 25) rfl rfl rfl
      have s26 := (waits_on hd 8 (by kernel_rfl)).at (d := 26) rfl rfl rfl
      rw [if_pos (want_yes rfl rfl rfl s25)]
      go_simp
      exact hK _ _ (Below.refl _ _) (vok rfl) facts_nil
    · intro a uq K hS hd hK
      have s25 := (waits_on hd 7 (by kernel_rfl)).at (d := 25) rfl rfl rfl
      have s27 := (waits_on hd 9 (by kernel_rfl)).at (d := 27) rfl rfl rfl
      rw [if_pos (want_yes rfl rfl rfl s25)]
      go_simp
      exact hK _ _ (Below.refl _ _) (vok rfl) facts_nil
    · intro a uq K hS hd hK
      have s25 := (waits_on hd 7 (by kernel_rfl)).at (d := 25) rfl rfl rfl
      have s28 := (waits_on hd 10 (by kernel_rfl)).at (d := 28) rfl rfl rfl
      rw [if_pos (want_yes rfl rfl rfl s25)]
      go_simp
      exact hK _ _ (Below.refl _ _) (vok rfl) facts_nil
    · intro a uq K hS hd hK
      have s25 := (waits_on hd 7 (by kernel_rfl)).at (d := 25) rfl rfl rfl
      have s29 := (waits_on hd 11 (by kernel_rfl)).at (d := 29) rfl rfl rfl
      rw [if_pos (want_yes rfl rfl rfl s25)]
      go_simp
      exact hK _ _ (Below.refl _ _) (vok rfl) facts_nil
    · intro a uq K hS hd hK
      have s25 := (waits_on hd 7 (by kernel_rfl)).at (d := 25) rfl rfl rfl
      have s30 := (waits_on hd 12 (by kernel_rfl)).at (d := 30) rfl rfl rfl
      rw [if_pos (want_free rfl)]
      go_simp
      exact hK _ _ (Below.refl _ _) (vok rfl) facts_nil
    · intro a uq K hS hd hK
      have s31 := (waits_on hd 13 (by kernel_rfl)).at (d := 31) rfl rfl rfl
      rw [if_pos (want_free rfl)]
      go_simp
      exact hK _ _ (Below.refl _ _) (vok rfl) facts_nil
    · intro a uq K hS hd hK
      have s32 := (waits_on hd 14 (by kernel_rfl)).at (d := 32) rfl rfl rfl
      have s4 := hS.at 4 (by kernel_rfl) rfl
      rw [if_pos (want_yes rfl rfl rfl s32)]
      go_simp
      exact hK _ _ (Below.refl _ _) (vok rfl) facts_nil
    · intro a uq K hS hd hK
      have s32 := (waits_on hd 14 (by kernel_rfl)).at (d := 32) rfl rfl rfl
      have s33 := (waits_on hd 15 (by kernel_rfl)).at (d := 33) rfl rfl rfl
      rw [if_pos (want_yes rfl rfl rfl s32)]
      go_simp
      exact hK _ _ (Below.refl _ _) (vok rfl) facts_nil
    · intro a uq K hS hd hK
      have s32 := (waits_on hd 14 (by kernel_rfl)).at (d := 32) rfl rfl rfl
      have s34 := (waits_on hd 16 (by kernel_rfl)).at (d := 34) rfl rfl rfl
      rw [if_pos (want_yes rfl rfl rfl s32)]
      go_simp
      exact hK _ _ (Below.refl _ _) (vok rfl) facts_nil
    · intro a uq K hS hd hK
      have s32 := (waits_on hd 14 (by kernel_rfl)).at (d := 32) rfl rfl rfl
      have s35 := (waits_on hd 17 (by kernel_rfl)).at (d := 35) rfl rfl rfl
      rw [if_pos (want_yes rfl rfl rfl s32)]
      go_simp
      exact hK _ _ (Below.refl _ _) (vok rfl) facts_nil
    · intro a uq K hS hd hK
      have s32 := (waits_on hd 14 (by kernel_rfl)).at (d := 32) rfl rfl rfl
      have s1 := hS.at 1 (by kernel_rfl) rfl
      rw [if_pos (want_yes rfl rfl rfl s32)]
      go_simp
      exact hK _ _ (Below.refl _ _) (vok rfl) facts_nil
    · intro a uq K hS hd hK
      have s32 := (waits_on hd 14 (by kernel_rfl)).at (d := 32) rfl rfl rfl
      have s37 := (waits_on hd 19 (by kernel_rfl)).at (d := 37) rfl rfl rfl
      rw [if_pos (want_yes rfl rfl rfl s32)]
      go_simp
      exact hK _ _ (Below.refl _ _) (vok rfl) facts_nil
    · intro a uq K hS hd hK
      have s32 := (waits_on hd 14 (by kernel_rfl)).at (d := 32) rfl rfl rfl
      have s36 := (waits_on hd 18 (by kernel_rfl)).at (d := 36) rfl rfl rfl
      have s38 := (waits_on hd 20 (by kernel_rfl)).at (d := 38) rfl rfl rfl
      rw [if_pos (want_yes rfl rfl rfl s32)]
      go_simp
      exact hK _ _ (Below.refl _ _) (vok rfl) facts_nil
    · intro a uq K hS hd hK
      have s32 := (waits_on hd 14 (by kernel_rfl)).at (d := 32) rfl rfl rfl
      have s39 := (waits_on hd 21 (by kernel_rfl)).at (d := 39) rfl rfl rfl
      rw [if_pos (want_free rfl)]
      go_simp
      exact hK _ _ (Below.refl _ _) (vok rfl) facts_nil
    · intro a uq K hS hd hK
      have s40 := (waits_on hd 22 (by kernel_rfl)).at (d := 40) rfl rfl rfl
      rw [if_pos (want_free rfl)]
      go_simp
      exact hK _ _ (Below.refl _ _) (vok rfl) facts_nil
  case hfin =>
    intro a uq hS hk
    have s18 := (hk 0 (by decide)).at (d := 18) rfl rfl rfl
    have s19 := (hk 1 (by decide)).at (d := 19) rfl rfl rfl
    have s20 := (hk 2 (by decide)).at (d := 20) rfl rfl rfl
    have s21 := (hk 3 (by decide)).at (d := 21) rfl rfl rfl
    have s22 := (hk 4 (by decide)).at (d := 22) rfl rfl rfl
    have s23 := (hk 5 (by decide)).at (d := 23) rfl rfl rfl
    have s24 := (hk 6 (by decide)).at (d := 24) rfl rfl rfl
    have s25 := (hk 7 (by decide)).at (d := 25) rfl rfl rfl
    have s26 := (hk 8 (by decide)).at (d := 26) rfl rfl rfl
    have s27 := (hk 9 (by decide)).at (d := 27) rfl rfl rfl
    have s28 := (hk 10 (by decide)).at (d := 28) rfl rfl rfl
    have s29 := (hk 11 (by decide)).at (d := 29) rfl rfl rfl
    have s30 := (hk 12 (by decide)).at (d := 30) rfl rfl rfl
    have s31 := (hk 13 (by decide)).at (d := 31) rfl rfl rfl
    have s32 := (hk 14 (by decide)).at (d := 32) rfl rfl rfl
    have s33 := (hk 15 (by decide)).at (d := 33) rfl rfl rfl
    have s34 := (hk 16 (by decide)).at (d := 34) rfl rfl rfl
    have s35 := (hk 17 (by decide)).at (d := 35) rfl rfl rfl
    have s36 := (hk 18 (by decide)).at (d := 36) rfl rfl rfl
    have s37 := (hk 19 (by decide)).at (d := 37) rfl rfl rfl
    have s38 := (hk 20 (by decide)).at (d := 38) rfl rfl rfl
    have s39 := (hk 21 (by decide)).at (d := 39) rfl rfl rfl
    have s40 := (hk 22 (by decide)).at (d := 40) rfl rfl rfl
    have s7 := (hk 23 (by decide)).at (d := 7) rfl rfl rfl
    have hlit := hS.lit _ (by kernel_rfl) (lits_cons s18 (lits_cons s19 (lits_cons s20 (lits_cons s21 (lits_cons s22 (lits_cons s23 (lits_cons s24 (lits_cons s25 (lits_cons s26 (lits_cons s27 (lits_cons s28 (lits_cons s29 (lits_cons s30 (lits_cons s31 (lits_cons s32 (lits_cons s33 (lits_cons s34 (lits_cons s35 (lits_cons s36 (lits_cons s37 (lits_cons s38 (lits_cons s39 (lits_cons s40 (lits_cons s7 lits_nil))))))))))))))))))))))))
    rw [hlit]
    clear hlit hk hS s18 s19 s20 s21 s22 s23 s24 s25 s26 s27 s28 s29 s30 s31 s32 s33 s34 s35 s36 s37 s38 s39 s40 s7
    simp only [litT, List.setIfInBounds_toArray, List.set_cons_succ, List.set_cons_zero]
    go_wp2_with fail
    apply wp_region_looseG g (V := [some _, some _, some _, some _, some _, some _, some _, some _, some _, some _, some _, some _, some _, some _, some _, some _, some _, some _, some _, some _, some _, some _, some _, some _, some _, some _]) (Fs := []) (Rel := fun _ w w' => Below w.heap.size w w')
    case hm => kernel_rfl
    case hB => kernel_rfl
    case hCw => exact hstart _
    case hC =>
      rintro i uq w' hr
      exact HHI.out _ (below_to (HGU.out uq) (Nat.le_refl _) hr)
    case hst =>
      exact keeps_nil
    case hop =>
      refine ⟨?_, ?_, ?_, ?_, ?_, ?_, ?_, ?_, ?_, ?_, ?_, ?_, ?_, ?_, ?_, ?_, ?_, ?_, ?_, ?_, ?_, ?_, ?_, ?_, ?_, ?_, trivial⟩
      · intro a uq K hS hd hK
        have s7 := hS.at 7 (by kernel_rfl) rfl
        rw [if_pos (want_free rfl)]
        go_simp
        exact hK _ _ (Below.refl _ _) (vok rfl) facts_nil
      · intro a uq K hS hd hK
        have s41 := (waits_on hd 0 (by kernel_rfl)).at (d := 41) rfl rfl rfl
        rw [if_pos (want_free rfl)]
        go_simp
        exact hK _ _ (Below.refl _ _) (vok rfl) facts_nil
      · intro a uq K hS hd hK
        have s42 := (waits_on hd 1 (by kernel_rfl)).at (d := 42) rfl rfl rfl
        rw [if_pos (want_free rfl)]
        go_simp
        exact hK _ _ (Below.refl _ _) (vok rfl) facts_nil
      · intro a uq K hS hd hK
        have s43 := (waits_on hd 2 (by kernel_rfl)).at (d := 43) rfl rfl rfl
        have s1 := hS.at 1 (by kernel_rfl) rfl
        rw [if_pos (want_yes rfl rfl rfl s43)]
        go_simp
        exact hK _ _ (Below.refl _ _) (vok rfl) facts_nil
      · intro a uq K hS hd hK
        have s43 := (waits_on hd 2 (by kernel_rfl)).at (d := 43) rfl rfl rfl
        have s44 := (waits_on hd 3 (by kernel_rfl)).at (d := 44) rfl rfl rfl
        rw [if_pos (want_yes rfl rfl rfl s43)]
        go_simp
        exact hK _ _ (Below.refl _ _) (vok rfl) facts_nil
      · intro a uq K hS hd hK
        have s43 := (waits_on hd 2 (by kernel_rfl)).at (d := 43) rfl rfl rfl
        have s45 := (waits_on hd 4 (by kernel_rfl)).at (d := 45) rfl rfl rfl
        rw [if_pos (want_yes rfl rfl rfl s43)]
        go_simp
        exact hK _ _ (Below.refl _ _) (vok rfl) facts_nil
      · intro a uq K hS hd hK
        have s43 := (waits_on hd 2 (by kernel_rfl)).at (d := 43) rfl rfl rfl
        have s46 := (waits_on hd 5 (by kernel_rfl)).at (d := 46) rfl rfl rfl
        rw [if_pos (want_yes rfl rfl rfl s43)]
        go_simp
        exact hK _ _ (Below.refl _ _) (vok rfl) facts_nil
      · intro a uq K hS hd hK
        have s43 := (waits_on hd 2 (by kernel_rfl)).at (d := 43) rfl rfl rfl
        have s47 := (waits_on hd 6 (by kernel_rfl)).at (d := 47) rfl rfl rfl
        rw [if_pos (want_free rfl)]
        go_simp
        exact hK _ _ (Below.refl _ _) (vok rfl) facts_nil
      · intro a uq K hS hd hK
        have s48 := (waits_on hd 7 (by kernel_rfl)).at (d := 48) rfl rfl rfl
        rw [if_pos (want_free rfl)]
        go_simp
        exact hK _ _ (Below.refl _ _) (vok rfl) facts_nil
      · intro a uq K hS hd hK
        have s49 := (waits_on hd 8 (by kernel_rfl)).at (d := 49) rfl rfl rfl
        have s1 := hS.at 1 (by kernel_rfl) rfl
        rw [if_pos (want_yes rfl rfl rfl s49)]
        go_simp
        exact hK _ _ (Below.refl _ _) (vok rfl) facts_nil
      · intro a uq K hS hd hK
        have s49 := (waits_on hd 8 (by kernel_rfl)).at (d := 49) rfl rfl rfl
        have s50 := (waits_on hd 9 (by kernel_rfl)).at (d := 50) rfl rfl rfl
        rw [if_pos (want_yes rfl rfl rfl s49)]
        go_simp
        exact hK _ _ (Below.refl _ _) (vok rfl) facts_nil
      · intro a uq K hS hd hK
        have s49 := (waits_on hd 8 (by kernel_rfl)).at (d := 49) rfl rfl rfl
        rw [if_pos (want_yes rfl rfl rfl s49)]
        go_simp
        with_reducible refine (CSY (g uq)).mono ?_
        rintro e w' ⟨rfl, hb⟩
        exact hK _ _ hb (vok rfl) facts_nil
      · intro a uq K hS hd hK
        have s49 := (waits_on hd 8 (by kernel_rfl)).at (d := 49) rfl rfl rfl
        have s52 := (waits_on hd 11 (by kernel_rfl)).at (d := 52) rfl rfl rfl
        rw [if_pos (want_yes rfl rfl rfl s49)]
        go_simp
        exact hK _ _ (Below.refl _ _) (vok rfl) facts_nil
      · intro a uq K hS hd hK
        have s49 := (waits_on hd 8 (by kernel_rfl)).at (d := 49) rfl rfl rfl
        have s51 := (waits_on hd 10 (by kernel_rfl)).at (d := 51) rfl rfl rfl
        have s53 := (waits_on hd 12 (by kernel_rfl)).at (d := 53) rfl rfl rfl
        rw [if_pos (want_yes rfl rfl rfl s49)]
        go_simp
        with_reducible refine (CTR (g uq)).mono ?_
        rintro e w' ⟨rfl, hb⟩
        exact hK _ _ hb (vok rfl) facts_nil
      · intro a uq K hS hd hK
        have s49 := (waits_on hd 8 (by kernel_rfl)).at (d := 49) rfl rfl rfl
        have s54 := (waits_on hd 13 (by kernel_rfl)).at (d := 54) rfl rfl rfl
        rw [if_pos (want_yes rfl rfl rfl s49)]
        go_simp
        exact hK _ _ (Below.refl _ _) (vok rfl) facts_nil
      · intro a uq K hS hd hK
        have s49 := (waits_on hd 8 (by kernel_rfl)).at (d := 49) rfl rfl rfl
        have s55 := (waits_on hd 14 (by kernel_rfl)).at (d := 55) rfl rfl rfl
        rw [if_pos (want_free rfl)]
        go_simp
        exact hK _ _ (Below.refl _ _) (vok rfl) facts_nil
      · intro a uq K hS hd hK
        have s56 := (waits_on hd 15 (by kernel_rfl)).at (d := 56) rfl rfl rfl
        rw [if_pos (want_free rfl)]
        go_simp
        exact hK _ _ (Below.refl _ _) (vok rfl) facts_nil
      · intro a uq K hS hd hK
        have s57 := (waits_on hd 16 (by kernel_rfl)).at (d := 57) rfl rfl rfl
        have s1 := hS.at 1 (by kernel_rfl) rfl
        rw [if_pos (want_yes rfl rfl rfl s57)]
        go_simp
        exact hK _ _ (Below.refl _ _) (vok rfl) facts_nil
      · intro a uq K hS hd hK
        have s57 := (waits_on hd 16 (by kernel_rfl)).at (d := 57) rfl rfl rfl
        have s58 := (waits_on hd 17 (by kernel_rfl)).at (d := 58) rfl rfl rfl
        rw [if_pos (want_yes rfl rfl rfl s57)]
        go_simp
        exact hK _ _ (Below.refl _ _) (vok rfl) facts_nil
      · intro a uq K hS hd hK
        have s57 := (waits_on hd 16 (by kernel_rfl)).at (d := 57) rfl rfl rfl
        have s59 := (waits_on hd 18 (by kernel_rfl)).at (d := 59) rfl rfl rfl
        rw [if_pos (want_yes rfl rfl rfl s57)]
        go_simp
        exact hK _ _ (Below.refl _ _) (vok rfl) facts_nil
      · intro a uq K hS hd hK
        have s57 := (waits_on hd 16 (by kernel_rfl)).at (d := 57) rfl rfl rfl
        have s60 := (waits_on hd 19 (by kernel_rfl)).at (d := 60) rfl rfl rfl
        rw [if_pos (want_free rfl)]
        go_simp
        exact hK _ _ (Below.refl _ _) (vok rfl) facts_nil
      · intro a uq K hS hd hK
        have s61 := (waits_on hd 20 (by kernel_rfl)).at (d := 61) rfl rfl rfl
        rw [if_pos (want_free rfl)]
        go_simp
        exact hK _ _ (Below.refl _ _) (vok rfl) facts_nil
      · intro a uq K hS hd hK
        have s62 := (waits_on hd 21 (by kernel_rfl)).at (d := 62) rfl rfl rfl
        rw [if_neg (want_no rfl rfl rfl s62 rfl)]
        exact hK _ _ (Below.refl _ _) (vok rfl) facts_nil
      · intro a uq K hS hd hK
        have s62 := (waits_on hd 21 (by kernel_rfl)).at (d := 62) rfl rfl rfl
        rw [if_neg (want_no rfl rfl rfl s62 rfl)]
        exact hK _ _ (Below.refl _ _) (vok rfl) facts_nil
      · intro a uq K hS hd hK
        have s62 := (waits_on hd 21 (by kernel_rfl)).at (d := 62) rfl rfl rfl
        rw [if_neg (want_no rfl rfl rfl s62 rfl)]
        exact hK _ _ (Below.refl _ _) (vok rfl) facts_nil
      · intro a uq K hS hd hK
        have s62 := (waits_on hd 21 (by kernel_rfl)).at (d := 62) rfl rfl rfl
        have s65 := (waits_on hd 24 (by kernel_rfl)).at (d := 65) rfl rfl rfl
        rw [if_pos (want_free rfl)]
        go_simp
        exact hK _ _ (Below.refl _ _) (vok rfl) facts_nil
    case hfin =>
      intro a uq hS hk
      have s41 := (hk 0 (by decide)).at (d := 41) rfl rfl rfl
      have s42 := (hk 1 (by decide)).at (d := 42) rfl rfl rfl
      have s43 := (hk 2 (by decide)).at (d := 43) rfl rfl rfl
      have s44 := (hk 3 (by decide)).at (d := 44) rfl rfl rfl
      have s45 := (hk 4 (by decide)).at (d := 45) rfl rfl rfl
      have s46 := (hk 5 (by decide)).at (d := 46) rfl rfl rfl
      have s47 := (hk 6 (by decide)).at (d := 47) rfl rfl rfl
      have s48 := (hk 7 (by decide)).at (d := 48) rfl rfl rfl
      have s49 := (hk 8 (by decide)).at (d := 49) rfl rfl rfl
      have s50 := (hk 9 (by decide)).at (d := 50) rfl rfl rfl
      have s51 := (hk 10 (by decide)).at (d := 51) rfl rfl rfl
      have s52 := (hk 11 (by decide)).at (d := 52) rfl rfl rfl
      have s53 := (hk 12 (by decide)).at (d := 53) rfl rfl rfl
      have s54 := (hk 13 (by decide)).at (d := 54) rfl rfl rfl
      have s55 := (hk 14 (by decide)).at (d := 55) rfl rfl rfl
      have s56 := (hk 15 (by decide)).at (d := 56) rfl rfl rfl
      have s57 := (hk 16 (by decide)).at (d := 57) rfl rfl rfl
      have s58 := (hk 17 (by decide)).at (d := 58) rfl rfl rfl
      have s59 := (hk 18 (by decide)).at (d := 59) rfl rfl rfl
      have s60 := (hk 19 (by decide)).at (d := 60) rfl rfl rfl
      have s61 := (hk 20 (by decide)).at (d := 61) rfl rfl rfl
      have s62 := (hk 21 (by decide)).at (d := 62) rfl rfl rfl
      have s63 := (hk 22 (by decide)).at (d := 63) rfl rfl rfl
      have s64 := (hk 23 (by decide)).at (d := 64) rfl rfl rfl
      have s65 := (hk 24 (by decide)).at (d := 65) rfl rfl rfl
      have s66 := (hk 25 (by decide)).at (d := 66) rfl rfl rfl
      have hlit := hS.lit _ (by kernel_rfl) (lits_cons s41 (lits_cons s42 (lits_cons s43 (lits_cons s44 (lits_cons s45 (lits_cons s46 (lits_cons s47 (lits_cons s48 (lits_cons s49 (lits_cons s50 (lits_cons s51 (lits_cons s52 (lits_cons s53 (lits_cons s54 (lits_cons s55 (lits_cons s56 (lits_cons s57 (lits_cons s58 (lits_cons s59 (lits_cons s60 (lits_cons s61 (lits_cons s62 (lits_cons s63 (lits_cons s64 (lits_cons s65 (lits_cons s66 lits_nil))))))))))))))))))))))))))
      rw [hlit]
      clear hlit hk hS s41 s42 s43 s44 s45 s46 s47 s48 s49 s50 s51 s52 s53 s54 s55 s56 s57 s58 s59 s60 s61 s62 s63 s64 s65 s66
      simp only [litT, List.setIfInBounds_toArray, List.set_cons_succ, List.set_cons_zero]
      go_wp2_with fail
      go_ret2
      exact ⟨rfl, below_to HB2.out (Nat.le_refl _) (HGU.out _)⟩
set_option maxRecDepth 100000 in
set_option maxHeartbeats 8000000 in
theorem pk_s1 (d : List UInt8) (hl : d.length ≤ 140737488355328) (o s h : Int) (b : Bool) (hE : (lexP d).2.1 = 0) (xa xn : Int) (hn : (lexP d).1 = [⟨1, xa, xn, d⟩]) (h12 : d.length ≤ 12) (hall : d.all sym36 = true) (hs : 100000 < s) (w : World) : Calls Tryz.prog 12 #[lval d o s h b] w fun e w' => e = .returned (.tuple #[.string (bs []), .int .i64 1]) ∧ Below w.heap.size w w' := by
  have HB1 := hide (below_one w (.cells #[.string (bs d), .int .i64 o, .int .i64 s, .int .i64 h, .bool b] 23))
  have HX := hide (Blk.new w 23 #[.string (bs d), .int .i64 o, .int .i64 s, .int .i64 h, .bool b])
  have hsz : (bs d).size = d.length := bs_size d
  have hemp : (bs ([] : List UInt8)).toList.isEmpty = true := by rw [bs_toList]; rfl
  have h36 : (bs symT).extract 0 36 = bs (symT.take 36) := by rw [bs_cut]; rfl
  have hsy : (bs symT).size = 37 := rfl
  have CL := fun w => Lex_any d hl w
  rw [hE] at CL
  have e12 : decide ((12 : Int) < (d.length : Int)) = false := by simp; omega
  have CTR := fun w => Trim_good d hall (by omega) w
  have es0 : decide (s < -1) = false := by simp; omega
  have es1 : decide ((100000 : Int) < s) = true := by simp; omega
  clear hE hall hs
  go_enter Tryz.func12, Tryz.ntmps12
  unfold lval
  go_wp2_with fail
  generalize w.alloc (.cells #[.string (bs d), .int .i64 o, .int .i64 s, .int .i64 h, .bool b] 23) = w1 at *
  obtain ⟨bx, hbx⟩ : ∃ bx, Hid (w.heap.size = bx) := ⟨_, rfl⟩
  rw [hbx.out] at HX ⊢
  refine (CL _).mono ?_
  rintro e w2 ⟨v, rfl, hv, hb⟩
  have HB2 := hide (below_to HB1.out (Nat.le_refl _) hb)
  have HX2 := hide (HX.out.to hb)
  clear hb HB1 HX CL
  rw [hn] at hv
  obtain ⟨tb, tc, rfl, htl, htc⟩ : ∃ tb tc, v = .slice (some ⟨tb, 0, none⟩) 1 tc ∧ tb < w2.heap.size ∧ ∀ (j : Nat) u, (tcells ⟨1, xa, xn, d⟩)[j]? = some u → w2.cell? ⟨tb, j, none⟩ = some u := by
    rcases hv with ⟨h1, _⟩ | ⟨b, c, h1, h2, h3⟩
    · cases h1
    · exact ⟨b, c, h1, h2, fun j u hu => by have := h3 0 _ rfl j u hu; simpa using this⟩
  have HT := hide (⟨htl, htc⟩ : tb < w2.heap.size ∧ ∀ (j : Nat) u, (tcells ⟨1, xa, xn, d⟩)[j]? = some u → w2.cell? ⟨tb, j, none⟩ = some u)
  clear hv hn htl htc
  obtain ⟨U, hU, g, u0, rfl, hgu, hi'⟩ := cls w2
  have x0 := blk_all hgu HX2.out 0 rfl
  have x1 := blk_all hgu HX2.out 1 rfl
  have x2 := blk_all hgu HX2.out 2 rfl
  have x3 := blk_all hgu HX2.out 3 rfl
  have x4 := blk_all hgu HX2.out 4 rfl
  have t0 : ∀ u, (g u).cell? ⟨tb, 0, none⟩ = some (.int .i64 1) := fun u => ((hgu u).cell (p := ⟨tb, 0, none⟩) HT.out.1).trans (HT.out.2 0 _ rfl)
  have t3 : ∀ u, (g u).cell? ⟨tb, 3, none⟩ = some (.string (bs d)) := fun u => ((hgu u).cell (p := ⟨tb, 3, none⟩) HT.out.1).trans (HT.out.2 3 _ rfl)
  have HGU := hide hgu
  have HHI := hide hi'
  have hstart : ∀ u, ∃ u', (g u).drew = g u' := fun u => hi' _ (hgu u).drew
  clear hgu hi'
  have CSY : ∀ w : World, Calls Tryz.prog 24 #[] w fun e w' => e = .returned (.string (bs symT)) ∧ Below w.heap.size w w' := fun w => (symbols_any w).mono fun e w' ⟨he, hw⟩ => ⟨he, hw ▸ Below.refl _ _⟩
  go_wp2_with fail
  apply wp_region_looseG g (V := [some _, some _, some _, some _, some _, some _, some _, some _, some _, some _, some _, some _, some _, some _, some _, some _, some _, some _, some _, some _, some _, some _, some _, some _]) (Fs := []) (Rel := fun _ w w' => Below w.heap.size w w')
  case hm => kernel_rfl
  case hB => kernel_rfl
  case hCw => exact hstart _
  case hC =>
    rintro i uq w' hr
    exact HHI.out _ (below_to (HGU.out uq) (Nat.le_refl _) hr)
  case hst =>
    exact keeps_nil
  case hop =>
    refine ⟨?_, ?_, ?_, ?_, ?_, ?_, ?_, ?_, ?_, ?_, ?_, ?_, ?_, ?_, ?_, ?_, ?_, ?_, ?_, ?_, ?_, ?_, ?_, ?_, trivial⟩
    · intro a uq K hS hd hK
      have s5 := hS.at 5 (by kernel_rfl) rfl
      rw [if_pos (want_free rfl)]
      go_simp
      exact hK _ _ (Below.refl _ _) (vok rfl) facts_nil
    · intro a uq K hS hd hK
      have s18 := (waits_on hd 0 (by kernel_rfl)).at (d := 18) rfl rfl rfl
      rw [if_pos (want_free rfl)]
      go_simp
      exact hK _ _ (Below.refl _ _) (vok rfl) facts_nil
    · intro a uq K hS hd hK
      have s19 := (waits_on hd 1 (by kernel_rfl)).at (d := 19) rfl rfl rfl
      rw [if_pos (want_free rfl)]
      go_simp
      exact hK _ _ (Below.refl _ _) (vok rfl) facts_nil
    · intro a uq K hS hd hK
      have s20 := (waits_on hd 2 (by kernel_rfl)).at (d := 20) rfl rfl rfl
      have s4 := hS.at 4 (by kernel_rfl) rfl
      rw [if_pos (want_yes rfl rfl rfl s20)]
      go_simp
      exact hK _ _ (Below.refl _ _) (vok rfl) facts_nil
    · intro a uq K hS hd hK
      have s20 := (waits_on hd 2 (by kernel_rfl)).at (d := 20) rfl rfl rfl
      have s21 := (waits_on hd 3 (by kernel_rfl)).at (d := 21) rfl rfl rfl
      rw [if_pos (want_yes rfl rfl rfl s20)]
      go_simp
      exact hK _ _ (Below.refl _ _) (vok rfl) facts_nil
    · intro a uq K hS hd hK
      have s20 := (waits_on hd 2 (by kernel_rfl)).at (d := 20) rfl rfl rfl
      have s22 := (waits_on hd 4 (by kernel_rfl)).at (d := 22) rfl rfl rfl
      rw [if_pos (want_yes rfl rfl rfl s20)]
      go_simp
      exact hK _ _ (Below.refl _ _) (vok rfl) facts_nil
    · intro a uq K hS hd hK
      have s20 := (waits_on hd 2 (by kernel_rfl)).at (d := 20) rfl rfl rfl
      have s23 := (waits_on hd 5 (by kernel_rfl)).at (d := 23) rfl rfl rfl
      rw [if_pos (want_free rfl)]
      go_simp
      exact hK _ _ (Below.refl _ _) (vok rfl) facts_nil
    · intro a uq K hS hd hK
      have s24 := (waits_on hd 6 (by kernel_rfl)).at (d := 24) rfl rfl rfl
      rw [if_pos (want_free rfl)]
      go_simp
      exact hK _ _ (Below.refl _ _) (vok rfl) facts_nil
    · intro a uq K hS hd hK
      have s25 := (waits_on hd 7 (by kernel_rfl)).at (d := 25) rfl rfl rfl
      have s4 := hS.at 4 (by kernel_rfl) rfl
      rw [if_pos (want_yes rfl rfl rfl s25)]
      go_simp
      exact hK _ _ (Below.refl _ _) (vok rfl) facts_nil
    · intro a uq K hS hd hK
      have s25 := (waits_on hd 7 (by kernel_rfl)).at (d := 25) rfl rfl rfl
      have s26 := (waits_on hd 8 (by kernel_rfl)).at (d := 26) rfl rfl rfl
      rw [if_pos (want_yes rfl rfl rfl s25)]
      go_simp
      exact hK _ _ (Below.refl _ _) (vok rfl) facts_nil
    · intro a uq K hS hd hK
      have s25 := (waits_on hd 7 (by kernel_rfl)).at (d := 25) rfl rfl rfl
      have s27 := (waits_on hd 9 (by kernel_rfl)).at (d := 27) rfl rfl rfl
      rw [if_pos (want_yes rfl rfl rfl s25)]
      go_simp
      exact hK _ _ (Below.refl _ _) (vok rfl) facts_nil
    · intro a uq K hS hd hK
      have s25 := (waits_on hd 7 (by kernel_rfl)).at (d := 25) rfl rfl rfl
      have s28 := (waits_on hd 10 (by kernel_rfl)).at (d := 28) rfl rfl rfl
      rw [if_pos (want_yes rfl rfl rfl s25)]
      go_simp
      exact hK _ _ (Below.refl _ _) (vok rfl) facts_nil
    · intro a uq K hS hd hK
      have s25 := (waits_on hd 7 (by kernel_rfl)).at (d := 25) rfl rfl rfl
      have s29 := (waits_on hd 11 (by kernel_rfl)).at (d := 29) rfl rfl rfl
      rw [if_pos (want_yes rfl rfl rfl s25)]
      go_simp
      exact hK _ _ (Below.refl _ _) (vok rfl) facts_nil
    · intro a uq K hS hd hK
      have s25 := (waits_on hd 7 (by kernel_rfl)).at (d := 25) rfl rfl rfl
      have s30 := (waits_on hd 12 (by kernel_rfl)).at (d := 30) rfl rfl rfl
      rw [if_pos (want_free rfl)]
      go_simp
      exact hK _ _ (Below.refl _ _) (vok rfl) facts_nil
    · intro a uq K hS hd hK
      have s31 := (waits_on hd 13 (by kernel_rfl)).at (d := 31) rfl rfl rfl
      rw [if_pos (want_free rfl)]
      go_simp
      exact hK _ _ (Below.refl _ _) (vok rfl) facts_nil
    · intro a uq K hS hd hK
      have s32 := (waits_on hd 14 (by kernel_rfl)).at (d := 32) rfl rfl rfl
      have s4 := hS.at 4 (by kernel_rfl) rfl
      rw [if_pos (want_yes rfl rfl rfl s32)]
      go_simp
      exact hK _ _ (Below.refl _ _) (vok rfl) facts_nil
    · intro a uq K hS hd hK
      have s32 := (waits_on hd 14 (by kernel_rfl)).at (d := 32) rfl rfl rfl
      have s33 := (waits_on hd 15 (by kernel_rfl)).at (d := 33) rfl rfl rfl
      rw [if_pos (want_yes rfl rfl rfl s32)]
      go_simp
      exact hK _ _ (Below.refl _ _) (vok rfl) facts_nil
    · intro a uq K hS hd hK
      have s32 := (waits_on hd 14 (by kernel_rfl)).at (d := 32) rfl rfl rfl
      have s34 := (waits_on hd 16 (by kernel_rfl)).at (d := 34) rfl rfl rfl
      rw [if_pos (want_yes rfl rfl rfl s32)]
      go_simp
      exact hK _ _ (Below.refl _ _) (vok rfl) facts_nil
    · intro a uq K hS hd hK
      have s32 := (waits_on hd 14 (by kernel_rfl)).at (d := 32) rfl rfl rfl
      have s35 := (waits_on hd 17 (by kernel_rfl)).at (d := 35) rfl rfl rfl
      rw [if_pos (want_yes rfl rfl rfl s32)]
      go_simp
      exact hK _ _ (Below.refl _ _) (vok rfl) facts_nil
    · intro a uq K hS hd hK
      have s32 := (waits_on hd 14 (by kernel_rfl)).at (d := 32) rfl rfl rfl
      have s1 := hS.at 1 (by kernel_rfl) rfl
      rw [if_pos (want_yes rfl rfl rfl s32)]
      go_simp
      exact hK _ _ (Below.refl _ _) (vok rfl) facts_nil
    · intro a uq K hS hd hK
      have s32 := (waits_on hd 14 (by kernel_rfl)).at (d := 32) rfl rfl rfl
      have s37 := (waits_on hd 19 (by kernel_rfl)).at (d := 37) rfl rfl rfl
      rw [if_pos (want_yes rfl rfl rfl s32)]
      go_simp
      exact hK _ _ (Below.refl _ _) (vok rfl) facts_nil
    · intro a uq K hS hd hK
      have s32 := (waits_on hd 14 (by kernel_rfl)).at (d := 32) rfl rfl rfl
      have s36 := (waits_on hd 18 (by kernel_rfl)).at (d := 36) rfl rfl rfl
      have s38 := (waits_on hd 20 (by kernel_rfl)).at (d := 38) rfl rfl rfl
      rw [if_pos (want_yes rfl rfl rfl s32)]
      go_simp
      exact hK _ _ (Below.refl _ _) (vok rfl) facts_nil
    · intro a uq K hS hd hK
      have s32 := (waits_on hd 14 (by kernel_rfl)).at (d := 32) rfl rfl rfl
      have s39 := (waits_on hd 21 (by kernel_rfl)).at (d := 39) rfl rfl rfl
      rw [if_pos (want_free rfl)]
      go_simp
      exact hK _ _ (Below.refl _ _) (vok rfl) facts_nil
    · intro a uq K hS hd hK
      have s40 := (waits_on hd 22 (by kernel_rfl)).at (d := 40) rfl rfl rfl
      rw [if_pos (want_free rfl)]
      go_simp
      exact hK _ _ (Below.refl _ _) (vok rfl) facts_nil
  case hfin =>
    intro a uq hS hk
    have s18 := (hk 0 (by decide)).at (d := 18) rfl rfl rfl
    have s19 := (hk 1 (by decide)).at (d := 19) rfl rfl rfl
    have s20 := (hk 2 (by decide)).at (d := 20) rfl rfl rfl
    have s21 := (hk 3 (by decide)).at (d := 21) rfl rfl rfl
    have s22 := (hk 4 (by decide)).at (d := 22) rfl rfl rfl
    have s23 := (hk 5 (by decide)).at (d := 23) rfl rfl rfl
    have s24 := (hk 6 (by decide)).at (d := 24) rfl rfl rfl
    have s25 := (hk 7 (by decide)).at (d := 25) rfl rfl rfl
    have s26 := (hk 8 (by decide)).at (d := 26) rfl rfl rfl
    have s27 := (hk 9 (by decide)).at (d := 27) rfl rfl rfl
    have s28 := (hk 10 (by decide)).at (d := 28) rfl rfl rfl
    have s29 := (hk 11 (by decide)).at (d := 29) rfl rfl rfl
    have s30 := (hk 12 (by decide)).at (d := 30) rfl rfl rfl
    have s31 := (hk 13 (by decide)).at (d := 31) rfl rfl rfl
    have s32 := (hk 14 (by decide)).at (d := 32) rfl rfl rfl
    have s33 := (hk 15 (by decide)).at (d := 33) rfl rfl rfl
    have s34 := (hk 16 (by decide)).at (d := 34) rfl rfl rfl
    have s35 := (hk 17 (by decide)).at (d := 35) rfl rfl rfl
    have s36 := (hk 18 (by decide)).at (d := 36) rfl rfl rfl
    have s37 := (hk 19 (by decide)).at (d := 37) rfl rfl rfl
    have s38 := (hk 20 (by decide)).at (d := 38) rfl rfl rfl
    have s39 := (hk 21 (by decide)).at (d := 39) rfl rfl rfl
    have s40 := (hk 22 (by decide)).at (d := 40) rfl rfl rfl
    have s7 := (hk 23 (by decide)).at (d := 7) rfl rfl rfl
    have hlit := hS.lit _ (by kernel_rfl) (lits_cons s18 (lits_cons s19 (lits_cons s20 (lits_cons s21 (lits_cons s22 (lits_cons s23 (lits_cons s24 (lits_cons s25 (lits_cons s26 (lits_cons s27 (lits_cons s28 (lits_cons s29 (lits_cons s30 (lits_cons s31 (lits_cons s32 (lits_cons s33 (lits_cons s34 (lits_cons s35 (lits_cons s36 (lits_cons s37 (lits_cons s38 (lits_cons s39 (lits_cons s40 (lits_cons s7 lits_nil))))))))))))))))))))))))
    rw [hlit]
    clear hlit hk hS s18 s19 s20 s21 s22 s23 s24 s25 s26 s27 s28 s29 s30 s31 s32 s33 s34 s35 s36 s37 s38 s39 s40 s7
    simp only [litT, List.setIfInBounds_toArray, List.set_cons_succ, List.set_cons_zero]
    go_wp2_with fail
    apply wp_region_looseG g (V := [some _, some _, some _, some _, some _, some _, some _, some _, some _, some _, some _, some _, some _, some _, some _, some _, some _, some _, some _, some _, some _, some _, some _, some _, some _, some _]) (Fs := []) (Rel := fun _ w w' => Below w.heap.size w w')
    case hm => kernel_rfl
    case hB => kernel_rfl
    case hCw => exact hstart _
    case hC =>
      rintro i uq w' hr
      exact HHI.out _ (below_to (HGU.out uq) (Nat.le_refl _) hr)
    case hst =>
      exact keeps_nil
    case hop =>
      refine ⟨?_, ?_, ?_, ?_, ?_, ?_, ?_, ?_, ?_, ?_, ?_, ?_, ?_, ?_, ?_, ?_, ?_, ?_, ?_, ?_, ?_, ?_, ?_, ?_, ?_, ?_, trivial⟩
      · intro a uq K hS hd hK
        have s7 := hS.at 7 (by kernel_rfl) rfl
        rw [if_pos (want_free rfl)]
        go_simp
        exact hK _ _ (Below.refl _ _) (vok rfl) facts_nil
      · intro a uq K hS hd hK
        have s41 := (waits_on hd 0 (by kernel_rfl)).at (d := 41) rfl rfl rfl
        rw [if_pos (want_free rfl)]
        go_simp
        exact hK _ _ (Below.refl _ _) (vok rfl) facts_nil
      · intro a uq K hS hd hK
        have s42 := (waits_on hd 1 (by kernel_rfl)).at (d := 42) rfl rfl rfl
        rw [if_pos (want_free rfl)]
        go_simp
        exact hK _ _ (Below.refl _ _) (vok rfl) facts_nil
      · intro a uq K hS hd hK
        have s43 := (waits_on hd 2 (by kernel_rfl)).at (d := 43) rfl rfl rfl
        have s1 := hS.at 1 (by kernel_rfl) rfl
        rw [if_pos (want_yes rfl rfl rfl s43)]
        go_simp
        exact hK _ _ (Below.refl _ _) (vok rfl) facts_nil
      · intro a uq K hS hd hK
        have s43 := (waits_on hd 2 (by kernel_rfl)).at (d := 43) rfl rfl rfl
        have s44 := (waits_on hd 3 (by kernel_rfl)).at (d := 44) rfl rfl rfl
        rw [if_pos (want_yes rfl rfl rfl s43)]
        go_simp
        exact hK _ _ (Below.refl _ _) (vok rfl) facts_nil
      · intro a uq K hS hd hK
        have s43 := (waits_on hd 2 (by kernel_rfl)).at (d := 43) rfl rfl rfl
        have s45 := (waits_on hd 4 (by kernel_rfl)).at (d := 45) rfl rfl rfl
        rw [if_pos (want_yes rfl rfl rfl s43)]
        go_simp
        exact hK _ _ (Below.refl _ _) (vok rfl) facts_nil
      · intro a uq K hS hd hK
        have s43 := (waits_on hd 2 (by kernel_rfl)).at (d := 43) rfl rfl rfl
        have s46 := (waits_on hd 5 (by kernel_rfl)).at (d := 46) rfl rfl rfl
        rw [if_pos (want_yes rfl rfl rfl s43)]
        go_simp
        exact hK _ _ (Below.refl _ _) (vok rfl) facts_nil
      · intro a uq K hS hd hK
        have s43 := (waits_on hd 2 (by kernel_rfl)).at (d := 43) rfl rfl rfl
        have s47 := (waits_on hd 6 (by kernel_rfl)).at (d := 47) rfl rfl rfl
        rw [if_pos (want_free rfl)]
        go_simp
        exact hK _ _ (Below.refl _ _) (vok rfl) facts_nil
      · intro a uq K hS hd hK
        have s48 := (waits_on hd 7 (by kernel_rfl)).at (d := 48) rfl rfl rfl
        rw [if_pos (want_free rfl)]
        go_simp
        exact hK _ _ (Below.refl _ _) (vok rfl) facts_nil
      · intro a uq K hS hd hK
        have s49 := (waits_on hd 8 (by kernel_rfl)).at (d := 49) rfl rfl rfl
        have s1 := hS.at 1 (by kernel_rfl) rfl
        rw [if_pos (want_yes rfl rfl rfl s49)]
        go_simp
        exact hK _ _ (Below.refl _ _) (vok rfl) facts_nil
      · intro a uq K hS hd hK
        have s49 := (waits_on hd 8 (by kernel_rfl)).at (d := 49) rfl rfl rfl
        have s50 := (waits_on hd 9 (by kernel_rfl)).at (d := 50) rfl rfl rfl
        rw [if_pos (want_yes rfl rfl rfl s49)]
        go_simp
        exact hK _ _ (Below.refl _ _) (vok rfl) facts_nil
      · intro a uq K hS hd hK
        have s49 := (waits_on hd 8 (by kernel_rfl)).at (d := 49) rfl rfl rfl
        rw [if_pos (want_yes rfl rfl rfl s49)]
        go_simp
        with_reducible refine (CSY (g uq)).mono ?_
        rintro e w' ⟨rfl, hb⟩
        exact hK _ _ hb (vok rfl) facts_nil
      · intro a uq K hS hd hK
        have s49 := (waits_on hd 8 (by kernel_rfl)).at (d := 49) rfl rfl rfl
        have s52 := (waits_on hd 11 (by kernel_rfl)).at (d := 52) rfl rfl rfl
        rw [if_pos (want_yes rfl rfl rfl s49)]
        go_simp
        exact hK _ _ (Below.refl _ _) (vok rfl) facts_nil
      · intro a uq K hS hd hK
        have s49 := (waits_on hd 8 (by kernel_rfl)).at (d := 49) rfl rfl rfl
        have s51 := (waits_on hd 10 (by kernel_rfl)).at (d := 51) rfl rfl rfl
        have s53 := (waits_on hd 12 (by kernel_rfl)).at (d := 53) rfl rfl rfl
        rw [if_pos (want_yes rfl rfl rfl s49)]
        go_simp
        with_reducible refine (CTR (g uq)).mono ?_
        rintro e w' ⟨rfl, hb⟩
        exact hK _ _ hb (vok rfl) facts_nil
      · intro a uq K hS hd hK
        have s49 := (waits_on hd 8 (by kernel_rfl)).at (d := 49) rfl rfl rfl
        have s54 := (waits_on hd 13 (by kernel_rfl)).at (d := 54) rfl rfl rfl
        rw [if_pos (want_yes rfl rfl rfl s49)]
        go_simp
        exact hK _ _ (Below.refl _ _) (vok rfl) facts_nil
      · intro a uq K hS hd hK
        have s49 := (waits_on hd 8 (by kernel_rfl)).at (d := 49) rfl rfl rfl
        have s55 := (waits_on hd 14 (by kernel_rfl)).at (d := 55) rfl rfl rfl
        rw [if_pos (want_free rfl)]
        go_simp
        exact hK _ _ (Below.refl _ _) (vok rfl) facts_nil
      · intro a uq K hS hd hK
        have s56 := (waits_on hd 15 (by kernel_rfl)).at (d := 56) rfl rfl rfl
        rw [if_pos (want_free rfl)]
        go_simp
        exact hK _ _ (Below.refl _ _) (vok rfl) facts_nil
      · intro a uq K hS hd hK
        have s57 := (waits_on hd 16 (by kernel_rfl)).at (d := 57) rfl rfl rfl
        have s1 := hS.at 1 (by kernel_rfl) rfl
        rw [if_pos (want_yes rfl rfl rfl s57)]
        go_simp
        exact hK _ _ (Below.refl _ _) (vok rfl) facts_nil
      · intro a uq K hS hd hK
        have s57 := (waits_on hd 16 (by kernel_rfl)).at (d := 57) rfl rfl rfl
        have s58 := (waits_on hd 17 (by kernel_rfl)).at (d := 58) rfl rfl rfl
        rw [if_pos (want_yes rfl rfl rfl s57)]
        go_simp
        exact hK _ _ (Below.refl _ _) (vok rfl) facts_nil
      · intro a uq K hS hd hK
        have s57 := (waits_on hd 16 (by kernel_rfl)).at (d := 57) rfl rfl rfl
        have s59 := (waits_on hd 18 (by kernel_rfl)).at (d := 59) rfl rfl rfl
        rw [if_pos (want_yes rfl rfl rfl s57)]
        go_simp
        exact hK _ _ (Below.refl _ _) (vok rfl) facts_nil
      · intro a uq K hS hd hK
        have s57 := (waits_on hd 16 (by kernel_rfl)).at (d := 57) rfl rfl rfl
        have s60 := (waits_on hd 19 (by kernel_rfl)).at (d := 60) rfl rfl rfl
        rw [if_pos (want_free rfl)]
        go_simp
        exact hK _ _ (Below.refl _ _) (vok rfl) facts_nil
      · intro a uq K hS hd hK
        have s61 := (waits_on hd 20 (by kernel_rfl)).at (d := 61) rfl rfl rfl
        rw [if_pos (want_free rfl)]
        go_simp
        exact hK _ _ (Below.refl _ _) (vok rfl) facts_nil
      · intro a uq K hS hd hK
        have s62 := (waits_on hd 21 (by kernel_rfl)).at (d := 62) rfl rfl rfl
        have s1 := hS.at 1 (by kernel_rfl) rfl
        rw [if_pos (want_yes rfl rfl rfl s62)]
        go_simp
        exact hK _ _ (Below.refl _ _) (vok rfl) facts_nil
      · intro a uq K hS hd hK
        have s62 := (waits_on hd 21 (by kernel_rfl)).at (d := 62) rfl rfl rfl
        have s63 := (waits_on hd 22 (by kernel_rfl)).at (d := 63) rfl rfl rfl
        rw [if_pos (want_yes rfl rfl rfl s62)]
        go_simp
        exact hK _ _ (Below.refl _ _) (vok rfl) facts_nil
      · intro a uq K hS hd hK
        have s62 := (waits_on hd 21 (by kernel_rfl)).at (d := 62) rfl rfl rfl
        have s64 := (waits_on hd 23 (by kernel_rfl)).at (d := 64) rfl rfl rfl
        rw [if_pos (want_yes rfl rfl rfl s62)]
        go_simp
        exact hK _ _ (Below.refl _ _) (vok rfl) facts_nil
      · intro a uq K hS hd hK
        have s62 := (waits_on hd 21 (by kernel_rfl)).at (d := 62) rfl rfl rfl
        have s65 := (waits_on hd 24 (by kernel_rfl)).at (d := 65) rfl rfl rfl
        rw [if_pos (want_free rfl)]
        go_simp
        exact hK _ _ (Below.refl _ _) (vok rfl) facts_nil
    case hfin =>
      intro a uq hS hk
      have s41 := (hk 0 (by decide)).at (d := 41) rfl rfl rfl
      have s42 := (hk 1 (by decide)).at (d := 42) rfl rfl rfl
      have s43 := (hk 2 (by decide)).at (d := 43) rfl rfl rfl
      have s44 := (hk 3 (by decide)).at (d := 44) rfl rfl rfl
      have s45 := (hk 4 (by decide)).at (d := 45) rfl rfl rfl
      have s46 := (hk 5 (by decide)).at (d := 46) rfl rfl rfl
      have s47 := (hk 6 (by decide)).at (d := 47) rfl rfl rfl
      have s48 := (hk 7 (by decide)).at (d := 48) rfl rfl rfl
      have s49 := (hk 8 (by decide)).at (d := 49) rfl rfl rfl
      have s50 := (hk 9 (by decide)).at (d := 50) rfl rfl rfl
      have s51 := (hk 10 (by decide)).at (d := 51) rfl rfl rfl
      have s52 := (hk 11 (by decide)).at (d := 52) rfl rfl rfl
      have s53 := (hk 12 (by decide)).at (d := 53) rfl rfl rfl
      have s54 := (hk 13 (by decide)).at (d := 54) rfl rfl rfl
      have s55 := (hk 14 (by decide)).at (d := 55) rfl rfl rfl
      have s56 := (hk 15 (by decide)).at (d := 56) rfl rfl rfl
      have s57 := (hk 16 (by decide)).at (d := 57) rfl rfl rfl
      have s58 := (hk 17 (by decide)).at (d := 58) rfl rfl rfl
      have s59 := (hk 18 (by decide)).at (d := 59) rfl rfl rfl
      have s60 := (hk 19 (by decide)).at (d := 60) rfl rfl rfl
      have s61 := (hk 20 (by decide)).at (d := 61) rfl rfl rfl
      have s62 := (hk 21 (by decide)).at (d := 62) rfl rfl rfl
      have s63 := (hk 22 (by decide)).at (d := 63) rfl rfl rfl
      have s64 := (hk 23 (by decide)).at (d := 64) rfl rfl rfl
      have s65 := (hk 24 (by decide)).at (d := 65) rfl rfl rfl
      have s66 := (hk 25 (by decide)).at (d := 66) rfl rfl rfl
      have hlit := hS.lit _ (by kernel_rfl) (lits_cons s41 (lits_cons s42 (lits_cons s43 (lits_cons s44 (lits_cons s45 (lits_cons s46 (lits_cons s47 (lits_cons s48 (lits_cons s49 (lits_cons s50 (lits_cons s51 (lits_cons s52 (lits_cons s53 (lits_cons s54 (lits_cons s55 (lits_cons s56 (lits_cons s57 (lits_cons s58 (lits_cons s59 (lits_cons s60 (lits_cons s61 (lits_cons s62 (lits_cons s63 (lits_cons s64 (lits_cons s65 (lits_cons s66 lits_nil))))))))))))))))))))))))))
      rw [hlit]
      clear hlit hk hS s41 s42 s43 s44 s45 s46 s47 s48 s49 s50 s51 s52 s53 s54 s55 s56 s57 s58 s59 s60 s61 s62 s63 s64 s65 s66
      simp only [litT, List.setIfInBounds_toArray, List.set_cons_succ, List.set_cons_zero]
      go_wp2_with fail
      go_ret2
      exact ⟨rfl, below_to HB2.out (Nat.le_refl _) (HGU.out _)⟩
set_option maxRecDepth 100000 in
set_option maxHeartbeats 8000000 in
theorem pk_o0 (d : List UInt8) (hl : d.length ≤ 140737488355328) (o s h : Int) (b : Bool) (hE : (lexP d).2.1 = 0) (xa xn : Int) (hn : (lexP d).1 = [⟨1, xa, xn, d⟩]) (h12 : d.length ≤ 12) (hall : d.all sym36 = true) (hs0 : -1 ≤ s) (hs1 : s ≤ 100000) (ho : o < 0) (w : World) : Calls Tryz.prog 12 #[lval d o s h b] w fun e w' => e = .returned (.tuple #[.string (bs []), .int .i64 1]) ∧ Below w.heap.size w w' := by
  have HB1 := hide (below_one w (.cells #[.string (bs d), .int .i64 o, .int .i64 s, .int .i64 h, .bool b] 23))
  have HX := hide (Blk.new w 23 #[.string (bs d), .int .i64 o, .int .i64 s, .int .i64 h, .bool b])
  have hsz : (bs d).size = d.length := bs_size d
  have hemp : (bs ([] : List UInt8)).toList.isEmpty = true := by rw [bs_toList]; rfl
  have h36 : (bs symT).extract 0 36 = bs (symT.take 36) := by rw [bs_cut]; rfl
  have hsy : (bs symT).size = 37 := rfl
  have CL := fun w => Lex_any d hl w
  rw [hE] at CL
  have e12 : decide ((12 : Int) < (d.length : Int)) = false := by simp; omega
  have CTR := fun w => Trim_good d hall (by omega) w
  have es0 : decide (s < -1) = false := by simp; omega
  have es1 : decide ((100000 : Int) < s) = false := by simp; omega
  have eo0 : decide (o < 0) = true := by simp; omega
  clear hE hall hs0 hs1 ho
  go_enter Tryz.func12, Tryz.ntmps12
  unfold lval
  go_wp2_with fail
  generalize w.alloc (.cells #[.string (bs d), .int .i64 o, .int .i64 s, .int .i64 h, .bool b] 23) = w1 at *
  obtain ⟨bx, hbx⟩ : ∃ bx, Hid (w.heap.size = bx) := ⟨_, rfl⟩
  rw [hbx.out] at HX ⊢
  refine (CL _).mono ?_
  rintro e w2 ⟨v, rfl, hv, hb⟩
  have HB2 := hide (below_to HB1.out (Nat.le_refl _) hb)
  have HX2 := hide (HX.out.to hb)
  clear hb HB1 HX CL
  rw [hn] at hv
  obtain ⟨tb, tc, rfl, htl, htc⟩ : ∃ tb tc, v = .slice (some ⟨tb, 0, none⟩) 1 tc ∧ tb < w2.heap.size ∧ ∀ (j : Nat) u, (tcells ⟨1, xa, xn, d⟩)[j]? = some u → w2.cell? ⟨tb, j, none⟩ = some u := by
    rcases hv with ⟨h1, _⟩ | ⟨b, c, h1, h2, h3⟩
    · cases h1
    · exact ⟨b, c, h1, h2, fun j u hu => by have := h3 0 _ rfl j u hu; simpa using this⟩
  have HT := hide (⟨htl, htc⟩ : tb < w2.heap.size ∧ ∀ (j : Nat) u, (tcells ⟨1, xa, xn, d⟩)[j]? = some u → w2.cell? ⟨tb, j, none⟩ = some u)
  clear hv hn htl htc
  obtain ⟨U, hU, g, u0, rfl, hgu, hi'⟩ := cls w2
  have x0 := blk_all hgu HX2.out 0 rfl
  have x1 := blk_all hgu HX2.out 1 rfl
  have x2 := blk_all hgu HX2.out 2 rfl
  have x3 := blk_all hgu HX2.out 3 rfl
  have x4 := blk_all hgu HX2.out 4 rfl
  have t0 : ∀ u, (g u).cell? ⟨tb, 0, none⟩ = some (.int .i64 1) := fun u => ((hgu u).cell (p := ⟨tb, 0, none⟩) HT.out.1).trans (HT.out.2 0 _ rfl)
  have t3 : ∀ u, (g u).cell? ⟨tb, 3, none⟩ = some (.string (bs d)) := fun u => ((hgu u).cell (p := ⟨tb, 3, none⟩) HT.out.1).trans (HT.out.2 3 _ rfl)
  have HGU := hide hgu
  have HHI := hide hi'
  have hstart : ∀ u, ∃ u', (g u).drew = g u' := fun u => hi' _ (hgu u).drew
  clear hgu hi'
  have CSY : ∀ w : World, Calls Tryz.prog 24 #[] w fun e w' => e = .returned (.string (bs symT)) ∧ Below w.heap.size w w' := fun w => (symbols_any w).mono fun e w' ⟨he, hw⟩ => ⟨he, hw ▸ Below.refl _ _⟩
  go_wp2_with fail
  apply wp_region_looseG g (V := [some _, some _, some _, some _, some _, some _, some _, some _, some _, some _, some _, some _, some _, some _, some _, some _, some _, some _, some _, some _, some _, some _, some _, some _]) (Fs := []) (Rel := fun _ w w' => Below w.heap.size w w')
  case hm => kernel_rfl
  case hB => kernel_rfl
  case hCw => exact hstart _
  case hC =>
    rintro i uq w' hr
    exact HHI.out _ (below_to (HGU.out uq) (Nat.le_refl _) hr)
  case hst =>
    exact keeps_nil
  case hop =>
    refine ⟨?_, ?_, ?_, ?_, ?_, ?_, ?_, ?_, ?_, ?_, ?_, ?_, ?_, ?_, ?_, ?_, ?_, ?_, ?_, ?_, ?_, ?_, ?_, ?_, trivial⟩
    · intro a uq K hS hd hK
      have s5 := hS.at 5 (by kernel_rfl) rfl
      rw [if_pos (want_free rfl)]
      go_simp
      exact hK _ _ (Below.refl _ _) (vok rfl) facts_nil
    · intro a uq K hS hd hK
      have s18 := (waits_on hd 0 (by kernel_rfl)).at (d := 18) rfl rfl rfl
      rw [if_pos (want_free rfl)]
      go_simp
      exact hK _ _ (Below.refl _ _) (vok rfl) facts_nil
    · intro a uq K hS hd hK
      have s19 := (waits_on hd 1 (by kernel_rfl)).at (d := 19) rfl rfl rfl
      rw [if_pos (want_free rfl)]
      go_simp
      exact hK _ _ (Below.refl _ _) (vok rfl) facts_nil
    · intro a uq K hS hd hK
      have s20 := (waits_on hd 2 (by kernel_rfl)).at (d := 20) rfl rfl rfl
      have s4 := hS.at 4 (by kernel_rfl) rfl
      rw [if_pos (want_yes rfl rfl rfl s20)]
      go_simp
      exact hK _ _ (Below.refl _ _) (vok rfl) facts_nil
    · intro a uq K hS hd hK
      have s20 := (waits_on hd 2 (by kernel_rfl)).at (d := 20) rfl rfl rfl
      have s21 := (waits_on hd 3 (by kernel_rfl)).at (d := 21) rfl rfl rfl
      rw [if_pos (want_yes rfl rfl rfl s20)]
      go_simp
      exact hK _ _ (Below.refl _ _) (vok rfl) facts_nil
    · intro a uq K hS hd hK
      have s20 := (waits_on hd 2 (by kernel_rfl)).at (d := 20) rfl rfl rfl
      have s22 := (waits_on hd 4 (by kernel_rfl)).at (d := 22) rfl rfl rfl
      rw [if_pos (want_yes rfl rfl rfl s20)]
      go_simp
      exact hK _ _ (Below.refl _ _) (vok rfl) facts_nil
    · intro a uq K hS hd hK
      have s20 := (waits_on hd 2 (by kernel_rfl)).at (d := 20) rfl rfl rfl
      have s23 := (waits_on hd 5 (by kernel_rfl)).at (d := 23) rfl rfl rfl
      rw [if_pos (want_free rfl)]
      go_simp
      exact hK _ _ (Below.refl _ _) (vok rfl) facts_nil
    · intro a uq K hS hd hK
      have s24 := (waits_on hd 6 (by kernel_rfl)).at (d := 24) rfl rfl rfl
      rw [if_pos (want_free rfl)]
      go_simp
      exact hK _ _ (Below.refl _ _) (vok rfl) facts_nil
    · intro a uq K hS hd hK
      have s25 := (waits_on hd 7 (by kernel_rfl)).at (d := 25) rfl rfl rfl
      have s4 := hS.at 4 (by kernel_rfl) rfl
      rw [if_pos (want_yes rfl rfl rfl s25)]
      go_simp
      exact hK _ _ (Below.refl _ _) (vok rfl) facts_nil
    · intro a uq K hS hd hK
      have s25 := (waits_on hd 7 (by kernel_rfl)).at (d := 25) rfl rfl rfl
      have s26 := (waits_on hd 8 (by kernel_rfl)).at (d := 26) rfl rfl rfl
      rw [if_pos (want_yes rfl rfl rfl s25)]
      go_simp
      exact hK _ _ (Below.refl _ _) (vok rfl) facts_nil
    · intro a uq K hS hd hK
      have s25 := (waits_on hd 7 (by kernel_rfl)).at (d := 25) rfl rfl rfl
      have s27 := (waits_on hd 9 (by kernel_rfl)).at (d := 27) rfl rfl rfl
      rw [if_pos (want_yes rfl rfl rfl s25)]
      go_simp
      exact hK _ _ (Below.refl _ _) (vok rfl) facts_nil
    · intro a uq K hS hd hK
      have s25 := (waits_on hd 7 (by kernel_rfl)).at (d := 25) rfl rfl rfl
      have s28 := (waits_on hd 10 (by kernel_rfl)).at (d := 28) rfl rfl rfl
      rw [if_pos (want_yes rfl rfl rfl s25)]
      go_simp
      exact hK _ _ (Below.refl _ _) (vok rfl) facts_nil
    · intro a uq K hS hd hK
      have s25 := (waits_on hd 7 (by kernel_rfl)).at (d := 25) rfl rfl rfl
      have s29 := (waits_on hd 11 (by kernel_rfl)).at (d := 29) rfl rfl rfl
      rw [if_pos (want_yes rfl rfl rfl s25)]
      go_simp
      exact hK _ _ (Below.refl _ _) (vok rfl) facts_nil
    · intro a uq K hS hd hK
      have s25 := (waits_on hd 7 (by kernel_rfl)).at (d := 25) rfl rfl rfl
      have s30 := (waits_on hd 12 (by kernel_rfl)).at (d := 30) rfl rfl rfl
      rw [if_pos (want_free rfl)]
      go_simp
      exact hK _ _ (Below.refl _ _) (vok rfl) facts_nil
    · intro a uq K hS hd hK
      have s31 := (waits_on hd 13 (by kernel_rfl)).at (d := 31) rfl rfl rfl
      rw [if_pos (want_free rfl)]
      go_simp
      exact hK _ _ (Below.refl _ _) (vok rfl) facts_nil
    · intro a uq K hS hd hK
      have s32 := (waits_on hd 14 (by kernel_rfl)).at (d := 32) rfl rfl rfl
      have s4 := hS.at 4 (by kernel_rfl) rfl
      rw [if_pos (want_yes rfl rfl rfl s32)]
      go_simp
      exact hK _ _ (Below.refl _ _) (vok rfl) facts_nil
    · intro a uq K hS hd hK
      have s32 := (waits_on hd 14 (by kernel_rfl)).at (d := 32) rfl rfl rfl
      have s33 := (waits_on hd 15 (by kernel_rfl)).at (d := 33) rfl rfl rfl
      rw [if_pos (want_yes rfl rfl rfl s32)]
      go_simp
      exact hK _ _ (Below.refl _ _) (vok rfl) facts_nil
    · intro a uq K hS hd hK
      have s32 := (waits_on hd 14 (by kernel_rfl)).at (d := 32) rfl rfl rfl
      have s34 := (waits_on hd 16 (by kernel_rfl)).at (d := 34) rfl rfl rfl
      rw [if_pos (want_yes rfl rfl rfl s32)]
      go_simp
      exact hK _ _ (Below.refl _ _) (vok rfl) facts_nil
    · intro a uq K hS hd hK
      have s32 := (waits_on hd 14 (by kernel_rfl)).at (d := 32) rfl rfl rfl
      have s35 := (waits_on hd 17 (by kernel_rfl)).at (d := 35) rfl rfl rfl
      rw [if_pos (want_yes rfl rfl rfl s32)]
      go_simp
      exact hK _ _ (Below.refl _ _) (vok rfl) facts_nil
    · intro a uq K hS hd hK
      have s32 := (waits_on hd 14 (by kernel_rfl)).at (d := 32) rfl rfl rfl
      have s1 := hS.at 1 (by kernel_rfl) rfl
      rw [if_pos (want_yes rfl rfl rfl s32)]
      go_simp
      exact hK _ _ (Below.refl _ _) (vok rfl) facts_nil
    · intro a uq K hS hd hK
      have s32 := (waits_on hd 14 (by kernel_rfl)).at (d := 32) rfl rfl rfl
      have s37 := (waits_on hd 19 (by kernel_rfl)).at (d := 37) rfl rfl rfl
      rw [if_pos (want_yes rfl rfl rfl s32)]
      go_simp
      exact hK _ _ (Below.refl _ _) (vok rfl) facts_nil
    · intro a uq K hS hd hK
      have s32 := (waits_on hd 14 (by kernel_rfl)).at (d := 32) rfl rfl rfl
      have s36 := (waits_on hd 18 (by kernel_rfl)).at (d := 36) rfl rfl rfl
      have s38 := (waits_on hd 20 (by kernel_rfl)).at (d := 38) rfl rfl rfl
      rw [if_pos (want_yes rfl rfl rfl s32)]
      go_simp
      exact hK _ _ (Below.refl _ _) (vok rfl) facts_nil
    · intro a uq K hS hd hK
      have s32 := (waits_on hd 14 (by kernel_rfl)).at (d := 32) rfl rfl rfl
      have s39 := (waits_on hd 21 (by kernel_rfl)).at (d := 39) rfl rfl rfl
      rw [if_pos (want_free rfl)]
      go_simp
      exact hK _ _ (Below.refl _ _) (vok rfl) facts_nil
    · intro a uq K hS hd hK
      have s40 := (waits_on hd 22 (by kernel_rfl)).at (d := 40) rfl rfl rfl
      rw [if_pos (want_free rfl)]
      go_simp
      exact hK _ _ (Below.refl _ _) (vok rfl) facts_nil
  case hfin =>
    intro a uq hS hk
    have s18 := (hk 0 (by decide)).at (d := 18) rfl rfl rfl
    have s19 := (hk 1 (by decide)).at (d := 19) rfl rfl rfl
    have s20 := (hk 2 (by decide)).at (d := 20) rfl rfl rfl
    have s21 := (hk 3 (by decide)).at (d := 21) rfl rfl rfl
    have s22 := (hk 4 (by decide)).at (d := 22) rfl rfl rfl
    have s23 := (hk 5 (by decide)).at (d := 23) rfl rfl rfl
    have s24 := (hk 6 (by decide)).at (d := 24) rfl rfl rfl
    have s25 := (hk 7 (by decide)).at (d := 25) rfl rfl rfl
    have s26 := (hk 8 (by decide)).at (d := 26) rfl rfl rfl
    have s27 := (hk 9 (by decide)).at (d := 27) rfl rfl rfl
    have s28 := (hk 10 (by decide)).at (d := 28) rfl rfl rfl
    have s29 := (hk 11 (by decide)).at (d := 29) rfl rfl rfl
    have s30 := (hk 12 (by decide)).at (d := 30) rfl rfl rfl
    have s31 := (hk 13 (by decide)).at (d := 31) rfl rfl rfl
    have s32 := (hk 14 (by decide)).at (d := 32) rfl rfl rfl
    have s33 := (hk 15 (by decide)).at (d := 33) rfl rfl rfl
    have s34 := (hk 16 (by decide)).at (d := 34) rfl rfl rfl
    have s35 := (hk 17 (by decide)).at (d := 35) rfl rfl rfl
    have s36 := (hk 18 (by decide)).at (d := 36) rfl rfl rfl
    have s37 := (hk 19 (by decide)).at (d := 37) rfl rfl rfl
    have s38 := (hk 20 (by decide)).at (d := 38) rfl rfl rfl
    have s39 := (hk 21 (by decide)).at (d := 39) rfl rfl rfl
    have s40 := (hk 22 (by decide)).at (d := 40) rfl rfl rfl
    have s7 := (hk 23 (by decide)).at (d := 7) rfl rfl rfl
    have hlit := hS.lit _ (by kernel_rfl) (lits_cons s18 (lits_cons s19 (lits_cons s20 (lits_cons s21 (lits_cons s22 (lits_cons s23 (lits_cons s24 (lits_cons s25 (lits_cons s26 (lits_cons s27 (lits_cons s28 (lits_cons s29 (lits_cons s30 (lits_cons s31 (lits_cons s32 (lits_cons s33 (lits_cons s34 (lits_cons s35 (lits_cons s36 (lits_cons s37 (lits_cons s38 (lits_cons s39 (lits_cons s40 (lits_cons s7 lits_nil))))))))))))))))))))))))
    rw [hlit]
    clear hlit hk hS s18 s19 s20 s21 s22 s23 s24 s25 s26 s27 s28 s29 s30 s31 s32 s33 s34 s35 s36 s37 s38 s39 s40 s7
    simp only [litT, List.setIfInBounds_toArray, List.set_cons_succ, List.set_cons_zero]
    go_wp2_with fail
    apply wp_region_looseG g (V := [some _, some _, some _, some _, some _, some _, some _, some _, some _, some _, some _, some _, some _, some _, some _, some _, some _, some _, some _, some _, some _, some _, some _, some _, some _, some _]) (Fs := []) (Rel := fun _ w w' => Below w.heap.size w w')
    case hm => kernel_rfl
    case hB => kernel_rfl
    case hCw => exact hstart _
    case hC =>
      rintro i uq w' hr
      exact HHI.out _ (below_to (HGU.out uq) (Nat.le_refl _) hr)
    case hst =>
      exact keeps_nil
    case hop =>
      refine ⟨?_, ?_, ?_, ?_, ?_, ?_, ?_, ?_, ?_, ?_, ?_, ?_, ?_, ?_, ?_, ?_, ?_, ?_, ?_, ?_, ?_, ?_, ?_, ?_, ?_, ?_, trivial⟩
      · intro a uq K hS hd hK
        have s7 := hS.at 7 (by kernel_rfl) rfl
        rw [if_pos (want_free rfl)]
        go_simp
        exact hK _ _ (Below.refl _ _) (vok rfl) facts_nil
      · intro a uq K hS hd hK
        have s41 := (waits_on hd 0 (by kernel_rfl)).at (d := 41) rfl rfl rfl
        rw [if_pos (want_free rfl)]
        go_simp
        exact hK _ _ (Below.refl _ _) (vok rfl) facts_nil
      · intro a uq K hS hd hK
        have s42 := (waits_on hd 1 (by kernel_rfl)).at (d := 42) rfl rfl rfl
        rw [if_pos (want_free rfl)]
        go_simp
        exact hK _ _ (Below.refl _ _) (vok rfl) facts_nil
      · intro a uq K hS hd hK
        have s43 := (waits_on hd 2 (by kernel_rfl)).at (d := 43) rfl rfl rfl
        have s1 := hS.at 1 (by kernel_rfl) rfl
        rw [if_pos (want_yes rfl rfl rfl s43)]
        go_simp
        exact hK _ _ (Below.refl _ _) (vok rfl) facts_nil
      · intro a uq K hS hd hK
        have s43 := (waits_on hd 2 (by kernel_rfl)).at (d := 43) rfl rfl rfl
        have s44 := (waits_on hd 3 (by kernel_rfl)).at (d := 44) rfl rfl rfl
        rw [if_pos (want_yes rfl rfl rfl s43)]
        go_simp
        exact hK _ _ (Below.refl _ _) (vok rfl) facts_nil
      · intro a uq K hS hd hK
        have s43 := (waits_on hd 2 (by kernel_rfl)).at (d := 43) rfl rfl rfl
        have s45 := (waits_on hd 4 (by kernel_rfl)).at (d := 45) rfl rfl rfl
        rw [if_pos (want_yes rfl rfl rfl s43)]
        go_simp
        exact hK _ _ (Below.refl _ _) (vok rfl) facts_nil
      · intro a uq K hS hd hK
        have s43 := (waits_on hd 2 (by kernel_rfl)).at (d := 43) rfl rfl rfl
        have s46 := (waits_on hd 5 (by kernel_rfl)).at (d := 46) rfl rfl rfl
        rw [if_pos (want_yes rfl rfl rfl s43)]
        go_simp
        exact hK _ _ (Below.refl _ _) (vok rfl) facts_nil
      · intro a uq K hS hd hK
        have s43 := (waits_on hd 2 (by kernel_rfl)).at (d := 43) rfl rfl rfl
        have s47 := (waits_on hd 6 (by kernel_rfl)).at (d := 47) rfl rfl rfl
        rw [if_pos (want_free rfl)]
        go_simp
        exact hK _ _ (Below.refl _ _) (vok rfl) facts_nil
      · intro a uq K hS hd hK
        have s48 := (waits_on hd 7 (by kernel_rfl)).at (d := 48) rfl rfl rfl
        rw [if_pos (want_free rfl)]
        go_simp
        exact hK _ _ (Below.refl _ _) (vok rfl) facts_nil
      · intro a uq K hS hd hK
        have s49 := (waits_on hd 8 (by kernel_rfl)).at (d := 49) rfl rfl rfl
        have s1 := hS.at 1 (by kernel_rfl) rfl
        rw [if_pos (want_yes rfl rfl rfl s49)]
        go_simp
        exact hK _ _ (Below.refl _ _) (vok rfl) facts_nil
      · intro a uq K hS hd hK
        have s49 := (waits_on hd 8 (by kernel_rfl)).at (d := 49) rfl rfl rfl
        have s50 := (waits_on hd 9 (by kernel_rfl)).at (d := 50) rfl rfl rfl
        rw [if_pos (want_yes rfl rfl rfl s49)]
        go_simp
        exact hK _ _ (Below.refl _ _) (vok rfl) facts_nil
      · intro a uq K hS hd hK
        have s49 := (waits_on hd 8 (by kernel_rfl)).at (d := 49) rfl rfl rfl
        rw [if_pos (want_yes rfl rfl rfl s49)]
        go_simp
        with_reducible refine (CSY (g uq)).mono ?_
        rintro e w' ⟨rfl, hb⟩
        exact hK _ _ hb (vok rfl) facts_nil
      · intro a uq K hS hd hK
        have s49 := (waits_on hd 8 (by kernel_rfl)).at (d := 49) rfl rfl rfl
        have s52 := (waits_on hd 11 (by kernel_rfl)).at (d := 52) rfl rfl rfl
        rw [if_pos (want_yes rfl rfl rfl s49)]
        go_simp
        exact hK _ _ (Below.refl _ _) (vok rfl) facts_nil
      · intro a uq K hS hd hK
        have s49 := (waits_on hd 8 (by kernel_rfl)).at (d := 49) rfl rfl rfl
        have s51 := (waits_on hd 10 (by kernel_rfl)).at (d := 51) rfl rfl rfl
        have s53 := (waits_on hd 12 (by kernel_rfl)).at (d := 53) rfl rfl rfl
        rw [if_pos (want_yes rfl rfl rfl s49)]
        go_simp
        with_reducible refine (CTR (g uq)).mono ?_
        rintro e w' ⟨rfl, hb⟩
        exact hK _ _ hb (vok rfl) facts_nil
      · intro a uq K hS hd hK
        have s49 := (waits_on hd 8 (by kernel_rfl)).at (d := 49) rfl rfl rfl
        have s54 := (waits_on hd 13 (by kernel_rfl)).at (d := 54) rfl rfl rfl
        rw [if_pos (want_yes rfl rfl rfl s49)]
        go_simp
        exact hK _ _ (Below.refl _ _) (vok rfl) facts_nil
      · intro a uq K hS hd hK
        have s49 := (waits_on hd 8 (by kernel_rfl)).at (d := 49) rfl rfl rfl
        have s55 := (waits_on hd 14 (by kernel_rfl)).at (d := 55) rfl rfl rfl
        rw [if_pos (want_free rfl)]
        go_simp
        exact hK _ _ (Below.refl _ _) (vok rfl) facts_nil
      · intro a uq K hS hd hK
        have s56 := (waits_on hd 15 (by kernel_rfl)).at (d := 56) rfl rfl rfl
        rw [if_pos (want_free rfl)]
        go_simp
        exact hK _ _ (Below.refl _ _) (vok rfl) facts_nil
      · intro a uq K hS hd hK
        have s57 := (waits_on hd 16 (by kernel_rfl)).at (d := 57) rfl rfl rfl
        have s1 := hS.at 1 (by kernel_rfl) rfl
        rw [if_pos (want_yes rfl rfl rfl s57)]
        go_simp
        exact hK _ _ (Below.refl _ _) (vok rfl) facts_nil
      · intro a uq K hS hd hK
        have s57 := (waits_on hd 16 (by kernel_rfl)).at (d := 57) rfl rfl rfl
        have s58 := (waits_on hd 17 (by kernel_rfl)).at (d := 58) rfl rfl rfl
        rw [if_pos (want_yes rfl rfl rfl s57)]
        go_simp
        exact hK _ _ (Below.refl _ _) (vok rfl) facts_nil
      · intro a uq K hS hd hK
        have s57 := (waits_on hd 16 (by kernel_rfl)).at (d := 57) rfl rfl rfl
        have s59 := (waits_on hd 18 (by kernel_rfl)).at (d := 59) rfl rfl rfl
        rw [if_pos (want_yes rfl rfl rfl s57)]
        go_simp
        exact hK _ _ (Below.refl _ _) (vok rfl) facts_nil
      · intro a uq K hS hd hK
        have s57 := (waits_on hd 16 (by kernel_rfl)).at (d := 57) rfl rfl rfl
        have s60 := (waits_on hd 19 (by kernel_rfl)).at (d := 60) rfl rfl rfl
        rw [if_pos (want_free rfl)]
        go_simp
        exact hK _ _ (Below.refl _ _) (vok rfl) facts_nil
      · intro a uq K hS hd hK
        have s61 := (waits_on hd 20 (by kernel_rfl)).at (d := 61) rfl rfl rfl
        rw [if_pos (want_free rfl)]
        go_simp
        exact hK _ _ (Below.refl _ _) (vok rfl) facts_nil
      · intro a uq K hS hd hK
        have s62 := (waits_on hd 21 (by kernel_rfl)).at (d := 62) rfl rfl rfl
        have s1 := hS.at 1 (by kernel_rfl) rfl
        rw [if_pos (want_yes rfl rfl rfl s62)]
        go_simp
        exact hK _ _ (Below.refl _ _) (vok rfl) facts_nil
      · intro a uq K hS hd hK
        have s62 := (waits_on hd 21 (by kernel_rfl)).at (d := 62) rfl rfl rfl
        have s63 := (waits_on hd 22 (by kernel_rfl)).at (d := 63) rfl rfl rfl
        rw [if_pos (want_yes rfl rfl rfl s62)]
        go_simp
        exact hK _ _ (Below.refl _ _) (vok rfl) facts_nil
      · intro a uq K hS hd hK
        have s62 := (waits_on hd 21 (by kernel_rfl)).at (d := 62) rfl rfl rfl
        have s64 := (waits_on hd 23 (by kernel_rfl)).at (d := 64) rfl rfl rfl
        rw [if_pos (want_yes rfl rfl rfl s62)]
        go_simp
        exact hK _ _ (Below.refl _ _) (vok rfl) facts_nil
      · intro a uq K hS hd hK
        have s62 := (waits_on hd 21 (by kernel_rfl)).at (d := 62) rfl rfl rfl
        have s65 := (waits_on hd 24 (by kernel_rfl)).at (d := 65) rfl rfl rfl
        rw [if_pos (want_free rfl)]
        go_simp
        exact hK _ _ (Below.refl _ _) (vok rfl) facts_nil
    case hfin =>
      intro a uq hS hk
      have s41 := (hk 0 (by decide)).at (d := 41) rfl rfl rfl
      have s42 := (hk 1 (by decide)).at (d := 42) rfl rfl rfl
      have s43 := (hk 2 (by decide)).at (d := 43) rfl rfl rfl
      have s44 := (hk 3 (by decide)).at (d := 44) rfl rfl rfl
      have s45 := (hk 4 (by decide)).at (d := 45) rfl rfl rfl
      have s46 := (hk 5 (by decide)).at (d := 46) rfl rfl rfl
      have s47 := (hk 6 (by decide)).at (d := 47) rfl rfl rfl
      have s48 := (hk 7 (by decide)).at (d := 48) rfl rfl rfl
      have s49 := (hk 8 (by decide)).at (d := 49) rfl rfl rfl
      have s50 := (hk 9 (by decide)).at (d := 50) rfl rfl rfl
      have s51 := (hk 10 (by decide)).at (d := 51) rfl rfl rfl
      have s52 := (hk 11 (by decide)).at (d := 52) rfl rfl rfl
      have s53 := (hk 12 (by decide)).at (d := 53) rfl rfl rfl
      have s54 := (hk 13 (by decide)).at (d := 54) rfl rfl rfl
      have s55 := (hk 14 (by decide)).at (d := 55) rfl rfl rfl
      have s56 := (hk 15 (by decide)).at (d := 56) rfl rfl rfl
      have s57 := (hk 16 (by decide)).at (d := 57) rfl rfl rfl
      have s58 := (hk 17 (by decide)).at (d := 58) rfl rfl rfl
      have s59 := (hk 18 (by decide)).at (d := 59) rfl rfl rfl
      have s60 := (hk 19 (by decide)).at (d := 60) rfl rfl rfl
      have s61 := (hk 20 (by decide)).at (d := 61) rfl rfl rfl
      have s62 := (hk 21 (by decide)).at (d := 62) rfl rfl rfl
      have s63 := (hk 22 (by decide)).at (d := 63) rfl rfl rfl
      have s64 := (hk 23 (by decide)).at (d := 64) rfl rfl rfl
      have s65 := (hk 24 (by decide)).at (d := 65) rfl rfl rfl
      have s66 := (hk 25 (by decide)).at (d := 66) rfl rfl rfl
      have hlit := hS.lit _ (by kernel_rfl) (lits_cons s41 (lits_cons s42 (lits_cons s43 (lits_cons s44 (lits_cons s45 (lits_cons s46 (lits_cons s47 (lits_cons s48 (lits_cons s49 (lits_cons s50 (lits_cons s51 (lits_cons s52 (lits_cons s53 (lits_cons s54 (lits_cons s55 (lits_cons s56 (lits_cons s57 (lits_cons s58 (lits_cons s59 (lits_cons s60 (lits_cons s61 (lits_cons s62 (lits_cons s63 (lits_cons s64 (lits_cons s65 (lits_cons s66 lits_nil))))))))))))))))))))))))))
      rw [hlit]
      clear hlit hk hS s41 s42 s43 s44 s45 s46 s47 s48 s49 s50 s51 s52 s53 s54 s55 s56 s57 s58 s59 s60 s61 s62 s63 s64 s65 s66
      simp only [litT, List.setIfInBounds_toArray, List.set_cons_succ, List.set_cons_zero]
      go_wp2_with fail
      have HR5 := hide (Blk.new (g uq) 3 #[.int .i64 o, .int .i64 h])
      have HB5 := hide (below_alloc (below_to HB2.out (Nat.le_refl _) (HGU.out uq)) (Nat.le_refl _) (.cells #[.int .i64 o, .int .i64 h] 3))
      generalize (g uq).alloc (.cells #[.int .i64 o, .int .i64 h] 3) = w5 at *
      generalize (g uq).heap.size = rb at *
      clear x0 x1 x2 x3 x4 t0 t3 HGU HHI hstart CSY CTR h36 hsy hemp
      go_loopw [9, 73] (fun _ i wr => ∃ k : Nat, k ≤ 0 ∧ i = .int .i64 (k : Int) ∧ w5 = wr) (fun _ i _ => 2 - (intOf i).toNat)
      case atStart => exact ⟨0, by omega, rfl, rfl⟩
      case round =>
        obtain ⟨k, hk, rfl, rfl⟩ := hrel
        have c0 := HR5.out.cell 0
        have c1 := HR5.out.cell 1
        obtain rfl : k = 0 := by omega
        go_wp2_with fail
        go_ret2
        exact ⟨rfl, HB5.out⟩
set_option maxRecDepth 100000 in
set_option maxHeartbeats 8000000 in
theorem pk_o1 (d : List UInt8) (hl : d.length ≤ 140737488355328) (o s h : Int) (b : Bool) (hE : (lexP d).2.1 = 0) (xa xn : Int) (hn : (lexP d).1 = [⟨1, xa, xn, d⟩]) (h12 : d.length ≤ 12) (hall : d.all sym36 = true) (hs0 : -1 ≤ s) (hs1 : s ≤ 100000) (ho : 64 ≤ o) (w : World) : Calls Tryz.prog 12 #[lval d o s h b] w fun e w' => e = .returned (.tuple #[.string (bs []), .int .i64 1]) ∧ Below w.heap.size w w' := by
  have HB1 := hide (below_one w (.cells #[.string (bs d), .int .i64 o, .int .i64 s, .int .i64 h, .bool b] 23))
  have HX := hide (Blk.new w 23 #[.string (bs d), .int .i64 o, .int .i64 s, .int .i64 h, .bool b])
  have hsz : (bs d).size = d.length := bs_size d
  have hemp : (bs ([] : List UInt8)).toList.isEmpty = true := by rw [bs_toList]; rfl
  have h36 : (bs symT).extract 0 36 = bs (symT.take 36) := by rw [bs_cut]; rfl
  have hsy : (bs symT).size = 37 := rfl
  have CL := fun w => Lex_any d hl w
  rw [hE] at CL
  have e12 : decide ((12 : Int) < (d.length : Int)) = false := by simp; omega
  have CTR := fun w => Trim_good d hall (by omega) w
  have es0 : decide (s < -1) = false := by simp; omega
  have es1 : decide ((100000 : Int) < s) = false := by simp; omega
  have eo0 : decide (o < 0) = false := by simp; omega
  have eo1 : decide ((64 : Int) ≤ o) = true := by simp; omega
  clear hE hall hs0 hs1 ho
  go_enter Tryz.func12, Tryz.ntmps12
  unfold lval
  go_wp2_with fail
  generalize w.alloc (.cells #[.string (bs d), .int .i64 o, .int .i64 s, .int .i64 h, .bool b] 23) = w1 at *
  obtain ⟨bx, hbx⟩ : ∃ bx, Hid (w.heap.size = bx) := ⟨_, rfl⟩
  rw [hbx.out] at HX ⊢
  refine (CL _).mono ?_
  rintro e w2 ⟨v, rfl, hv, hb⟩
  have HB2 := hide (below_to HB1.out (Nat.le_refl _) hb)
  have HX2 := hide (HX.out.to hb)
  clear hb HB1 HX CL
  rw [hn] at hv
  obtain ⟨tb, tc, rfl, htl, htc⟩ : ∃ tb tc, v = .slice (some ⟨tb, 0, none⟩) 1 tc ∧ tb < w2.heap.size ∧ ∀ (j : Nat) u, (tcells ⟨1, xa, xn, d⟩)[j]? = some u → w2.cell? ⟨tb, j, none⟩ = some u := by
    rcases hv with ⟨h1, _⟩ | ⟨b, c, h1, h2, h3⟩
    · cases h1
    · exact ⟨b, c, h1, h2, fun j u hu => by have := h3 0 _ rfl j u hu; simpa using this⟩
  have HT := hide (⟨htl, htc⟩ : tb < w2.heap.size ∧ ∀ (j : Nat) u, (tcells ⟨1, xa, xn, d⟩)[j]? = some u → w2.cell? ⟨tb, j, none⟩ = some u)
  clear hv hn htl htc
  obtain ⟨U, hU, g, u0, rfl, hgu, hi'⟩ := cls w2
  have x0 := blk_all hgu HX2.out 0 rfl
  have x1 := blk_all hgu HX2.out 1 rfl
  have x2 := blk_all hgu HX2.out 2 rfl
  have x3 := blk_all hgu HX2.out 3 rfl
  have x4 := blk_all hgu HX2.out 4 rfl
  have t0 : ∀ u, (g u).cell? ⟨tb, 0, none⟩ = some (.int .i64 1) := fun u => ((hgu u).cell (p := ⟨tb, 0, none⟩) HT.out.1).trans (HT.out.2 0 _ rfl)
  have t3 : ∀ u, (g u).cell? ⟨tb, 3, none⟩ = some (.string (bs d)) := fun u => ((hgu u).cell (p := ⟨tb, 3, none⟩) HT.out.1).trans (HT.out.2 3 _ rfl)
  have HGU := hide hgu
  have HHI := hide hi'
  have hstart : ∀ u, ∃ u', (g u).drew = g u' := fun u => hi' _ (hgu u).drew
  clear hgu hi'
  have CSY : ∀ w : World, Calls Tryz.prog 24 #[] w fun e w' => e = .returned (.string (bs symT)) ∧ Below w.heap.size w w' := fun w => (symbols_any w).mono fun e w' ⟨he, hw⟩ => ⟨he, hw ▸ Below.refl _ _⟩
  go_wp2_with fail
  apply wp_region_looseG g (V := [some _, some _, some _, some _, some _, some _, some _, some _, some _, some _, some _, some _, some _, some _, some _, some _, some _, some _, some _, some _, some _, some _, some _, some _]) (Fs := []) (Rel := fun _ w w' => Below w.heap.size w w')
  case hm => kernel_rfl
  case hB => kernel_rfl
  case hCw => exact hstart _
  case hC =>
    rintro i uq w' hr
    exact HHI.out _ (below_to (HGU.out uq) (Nat.le_refl _) hr)
  case hst =>
    exact keeps_nil
  case hop =>
    refine ⟨?_, ?_, ?_, ?_, ?_, ?_, ?_, ?_, ?_, ?_, ?_, ?_, ?_, ?_, ?_, ?_, ?_, ?_, ?_, ?_, ?_, ?_, ?_, ?_, trivial⟩
    · intro a uq K hS hd hK
      have s5 := hS.at 5 (by kernel_rfl) rfl
      rw [if_pos (want_free rfl)]
      go_simp
      exact hK _ _ (Below.refl _ _) (vok rfl) facts_nil
    · intro a uq K hS hd hK
      have s18 := (waits_on hd 0 (by kernel_rfl)).at (d := 18) rfl rfl rfl
      rw [if_pos (want_free rfl)]
      go_simp
      exact hK _ _ (Below.refl _ _) (vok rfl) facts_nil
    · intro a uq K hS hd hK
      have s19 := (waits_on hd 1 (by kernel_rfl)).at (d := 19) rfl rfl rfl
      rw [if_pos (want_free rfl)]
      go_simp
      exact hK _ _ (Below.refl _ _) (vok rfl) facts_nil
    · intro a uq K hS hd hK
      have s20 := (waits_on hd 2 (by kernel_rfl)).at (d := 20) rfl rfl rfl
      have s4 := hS.at 4 (by kernel_rfl) rfl
      rw [if_pos (want_yes rfl rfl rfl s20)]
      go_simp
      exact hK _ _ (Below.refl _ _) (vok rfl) facts_nil
    · intro a uq K hS hd hK
      have s20 := (waits_on hd 2 (by kernel_rfl)).at (d := 20) rfl rfl rfl
      have s21 := (waits_on hd 3 (by kernel_rfl)).at (d := 21) rfl rfl rfl
      rw [if_pos (want_yes rfl rfl rfl s20)]
      go_simp
      exact hK _ _ (Below.refl _ _) (vok rfl) facts_nil
    · intro a uq K hS hd hK
      have s20 := (waits_on hd 2 (by kernel_rfl)).at (d := 20) rfl rfl rfl
      have s22 := (waits_on hd 4 (by kernel_rfl)).at (d := 22) rfl rfl rfl
      rw [if_pos (want_yes rfl rfl rfl s20)]
      go_simp
      exact hK _ _ (Below.refl _ _) (vok rfl) facts_nil
    · intro a uq K hS hd hK
      have s20 := (waits_on hd 2 (by kernel_rfl)).at (d := 20) rfl rfl rfl
      have s23 := (waits_on hd 5 (by kernel_rfl)).at (d := 23) rfl rfl rfl
      rw [if_pos (want_free rfl)]
      go_simp
      exact hK _ _ (Below.refl _ _) (vok rfl) facts_nil
    · intro a uq K hS hd hK
      have s24 := (waits_on hd 6 (by kernel_rfl)).at (d := 24) rfl rfl rfl
      rw [if_pos (want_free rfl)]
      go_simp
      exact hK _ _ (Below.refl _ _) (vok rfl) facts_nil
    · intro a uq K hS hd hK
      have s25 := (waits_on hd 7 (by kernel_rfl)).at (d := 25) rfl rfl rfl
      have s4 := hS.at 4 (by kernel_rfl) rfl
      rw [if_pos (want_yes rfl rfl rfl s25)]
      go_simp
      exact hK _ _ (Below.refl _ _) (vok rfl) facts_nil
    · intro a uq K hS hd hK
      have s25 := (waits_on hd 7 (by kernel_rfl)).at (d := 25) rfl rfl rfl
      have s26 := (waits_on hd 8 (by kernel_rfl)).at (d := 26) rfl rfl rfl
      rw [if_pos (want_yes rfl rfl rfl s25)]
      go_simp
      exact hK _ _ (Below.refl _ _) (vok rfl) facts_nil
    · intro a uq K hS hd hK
      have s25 := (waits_on hd 7 (by kernel_rfl)).at (d := 25) rfl rfl rfl
      have s27 := (waits_on hd 9 (by kernel_rfl)).at (d := 27) rfl rfl rfl
      rw [if_pos (want_yes rfl rfl rfl s25)]
      go_simp
      exact hK _ _ (Below.refl _ _) (vok rfl) facts_nil
    · intro a uq K hS hd hK
      have s25 := (waits_on hd 7 (by kernel_rfl)).at (d := 25) rfl rfl rfl
      have s28 := (waits_on hd 10 (by kernel_rfl)).at (d := 28) rfl rfl rfl
      rw [if_pos (want_yes rfl rfl rfl s25)]
      go_simp
      exact hK _ _ (Below.refl _ _) (vok rfl) facts_nil
    · intro a uq K hS hd hK
      have s25 := (waits_on hd 7 (by kernel_rfl)).at (d := 25) rfl rfl rfl
      have s29 := (waits_on hd 11 (by kernel_rfl)).at (d := 29) rfl rfl rfl
      rw [if_pos (want_yes rfl rfl rfl s25)]
      go_simp
      exact hK _ _ (Below.refl _ _) (vok rfl) facts_nil
    · intro a uq K hS hd hK
      have s25 := (waits_on hd 7 (by kernel_rfl)).at (d := 25) rfl rfl rfl
      have s30 := (waits_on hd 12 (by kernel_rfl)).at (d := 30) rfl rfl rfl
      rw [if_pos (want_free rfl)]
      go_simp
      exact hK _ _ (Below.refl _ _) (vok rfl) facts_nil
    · intro a uq K hS hd hK
      have s31 := (waits_on hd 13 (by kernel_rfl)).at (d := 31) rfl rfl rfl
      rw [if_pos (want_free rfl)]
      go_simp
      exact hK _ _ (Below.refl _ _) (vok rfl) facts_nil
    · intro a uq K hS hd hK
      have s32 := (waits_on hd 14 (by kernel_rfl)).at (d := 32) rfl rfl rfl
      have s4 := hS.at 4 (by kernel_rfl) rfl
      rw [if_pos (want_yes rfl rfl rfl s32)]
      go_simp
      exact hK _ _ (Below.refl _ _) (vok rfl) facts_nil
    · intro a uq K hS hd hK
      have s32 := (waits_on hd 14 (by kernel_rfl)).at (d := 32) rfl rfl rfl
      have s33 := (waits_on hd 15 (by kernel_rfl)).at (d := 33) rfl rfl rfl
      rw [if_pos (want_yes rfl rfl rfl s32)]
      go_simp
      exact hK _ _ (Below.refl _ _) (vok rfl) facts_nil
    · intro a uq K hS hd hK
      have s32 := (waits_on hd 14 (by kernel_rfl)).at (d := 32) rfl rfl rfl
      have s34 := (waits_on hd 16 (by kernel_rfl)).at (d := 34) rfl rfl rfl
      rw [if_pos (want_yes rfl rfl rfl s32)]
      go_simp
      exact hK _ _ (Below.refl _ _) (vok rfl) facts_nil
    · intro a uq K hS hd hK
      have s32 := (waits_on hd 14 (by kernel_rfl)).at (d := 32) rfl rfl rfl
      have s35 := (waits_on hd 17 (by kernel_rfl)).at (d := 35) rfl rfl rfl
      rw [if_pos (want_yes rfl rfl rfl s32)]
      go_simp
      exact hK _ _ (Below.refl _ _) (vok rfl) facts_nil
    · intro a uq K hS hd hK
      have s32 := (waits_on hd 14 (by kernel_rfl)).at (d := 32) rfl rfl rfl
      have s1 := hS.at 1 (by kernel_rfl) rfl
      rw [if_pos (want_yes rfl rfl rfl s32)]
      go_simp
      exact hK _ _ (Below.refl _ _) (vok rfl) facts_nil
    · intro a uq K hS hd hK
      have s32 := (waits_on hd 14 (by kernel_rfl)).at (d := 32) rfl rfl rfl
      have s37 := (waits_on hd 19 (by kernel_rfl)).at (d := 37) rfl rfl rfl
      rw [if_pos (want_yes rfl rfl rfl s32)]
      go_simp
      exact hK _ _ (Below.refl _ _) (vok rfl) facts_nil
    · intro a uq K hS hd hK
      have s32 := (waits_on hd 14 (by kernel_rfl)).at (d := 32) rfl rfl rfl
      have s36 := (waits_on hd 18 (by kernel_rfl)).at (d := 36) rfl rfl rfl
      have s38 := (waits_on hd 20 (by kernel_rfl)).at (d := 38) rfl rfl rfl
      rw [if_pos (want_yes rfl rfl rfl s32)]
      go_simp
      exact hK _ _ (Below.refl _ _) (vok rfl) facts_nil
    · intro a uq K hS hd hK
      have s32 := (waits_on hd 14 (by kernel_rfl)).at (d := 32) rfl rfl rfl
      have s39 := (waits_on hd 21 (by kernel_rfl)).at (d := 39) rfl rfl rfl
      rw [if_pos (want_free rfl)]
      go_simp
      exact hK _ _ (Below.refl _ _) (vok rfl) facts_nil
    · intro a uq K hS hd hK
      have s40 := (waits_on hd 22 (by kernel_rfl)).at (d := 40) rfl rfl rfl
      rw [if_pos (want_free rfl)]
      go_simp
      exact hK _ _ (Below.refl _ _) (vok rfl) facts_nil
  case hfin =>
    intro a uq hS hk
    have s18 := (hk 0 (by decide)).at (d := 18) rfl rfl rfl
    have s19 := (hk 1 (by decide)).at (d := 19) rfl rfl rfl
    have s20 := (hk 2 (by decide)).at (d := 20) rfl rfl rfl
    have s21 := (hk 3 (by decide)).at (d := 21) rfl rfl rfl
    have s22 := (hk 4 (by decide)).at (d := 22) rfl rfl rfl
    have s23 := (hk 5 (by decide)).at (d := 23) rfl rfl rfl
    have s24 := (hk 6 (by decide)).at (d := 24) rfl rfl rfl
    have s25 := (hk 7 (by decide)).at (d := 25) rfl rfl rfl
    have s26 := (hk 8 (by decide)).at (d := 26) rfl rfl rfl
    have s27 := (hk 9 (by decide)).at (d := 27) rfl rfl rfl
    have s28 := (hk 10 (by decide)).at (d := 28) rfl rfl rfl
    have s29 := (hk 11 (by decide)).at (d := 29) rfl rfl rfl
    have s30 := (hk 12 (by decide)).at (d := 30) rfl rfl rfl
    have s31 := (hk 13 (by decide)).at (d := 31) rfl rfl rfl
    have s32 := (hk 14 (by decide)).at (d := 32) rfl rfl rfl
    have s33 := (hk 15 (by decide)).at (d := 33) rfl rfl rfl
    have s34 := (hk 16 (by decide)).at (d := 34) rfl rfl rfl
    have s35 := (hk 17 (by decide)).at (d := 35) rfl rfl rfl
    have s36 := (hk 18 (by decide)).at (d := 36) rfl rfl rfl
    have s37 := (hk 19 (by decide)).at (d := 37) rfl rfl rfl
    have s38 := (hk 20 (by decide)).at (d := 38) rfl rfl rfl
    have s39 := (hk 21 (by decide)).at (d := 39) rfl rfl rfl
    have s40 := (hk 22 (by decide)).at (d := 40) rfl rfl rfl
    have s7 := (hk 23 (by decide)).at (d := 7) rfl rfl rfl
    have hlit := hS.lit _ (by kernel_rfl) (lits_cons s18 (lits_cons s19 (lits_cons s20 (lits_cons s21 (lits_cons s22 (lits_cons s23 (lits_cons s24 (lits_cons s25 (lits_cons s26 (lits_cons s27 (lits_cons s28 (lits_cons s29 (lits_cons s30 (lits_cons s31 (lits_cons s32 (lits_cons s33 (lits_cons s34 (lits_cons s35 (lits_cons s36 (lits_cons s37 (lits_cons s38 (lits_cons s39 (lits_cons s40 (lits_cons s7 lits_nil))))))))))))))))))))))))
    rw [hlit]
    clear hlit hk hS s18 s19 s20 s21 s22 s23 s24 s25 s26 s27 s28 s29 s30 s31 s32 s33 s34 s35 s36 s37 s38 s39 s40 s7
    simp only [litT, List.setIfInBounds_toArray, List.set_cons_succ, List.set_cons_zero]
    go_wp2_with fail
    apply wp_region_looseG g (V := [some _, some _, some _, some _, some _, some _, some _, some _, some _, some _, some _, some _, some _, some _, some _, some _, some _, some _, some _, some _, some _, some _, some _, some _, some _, some _]) (Fs := []) (Rel := fun _ w w' => Below w.heap.size w w')
    case hm => kernel_rfl
    case hB => kernel_rfl
    case hCw => exact hstart _
    case hC =>
      rintro i uq w' hr
      exact HHI.out _ (below_to (HGU.out uq) (Nat.le_refl _) hr)
    case hst =>
      exact keeps_nil
    case hop =>
      refine ⟨?_, ?_, ?_, ?_, ?_, ?_, ?_, ?_, ?_, ?_, ?_, ?_, ?_, ?_, ?_, ?_, ?_, ?_, ?_, ?_, ?_, ?_, ?_, ?_, ?_, ?_, trivial⟩
      · intro a uq K hS hd hK
        have s7 := hS.at 7 (by kernel_rfl) rfl
        rw [if_pos (want_free rfl)]
        go_simp
        exact hK _ _ (Below.refl _ _) (vok rfl) facts_nil
      · intro a uq K hS hd hK
        have s41 := (waits_on hd 0 (by kernel_rfl)).at (d := 41) rfl rfl rfl
        rw [if_pos (want_free rfl)]
        go_simp
        exact hK _ _ (Below.refl _ _) (vok rfl) facts_nil
      · intro a uq K hS hd hK
        have s42 := (waits_on hd 1 (by kernel_rfl)).at (d := 42) rfl rfl rfl
        rw [if_pos (want_free rfl)]
        go_simp
        exact hK _ _ (Below.refl _ _) (vok rfl) facts_nil
      · intro a uq K hS hd hK
        have s43 := (waits_on hd 2 (by kernel_rfl)).at (d := 43) rfl rfl rfl
        have s1 := hS.at 1 (by kernel_rfl) rfl
        rw [if_pos (want_yes rfl rfl rfl s43)]
        go_simp
        exact hK _ _ (Below.refl _ _) (vok rfl) facts_nil
      · intro a uq K hS hd hK
        have s43 := (waits_on hd 2 (by kernel_rfl)).at (d := 43) rfl rfl rfl
        have s44 := (waits_on hd 3 (by kernel_rfl)).at (d := 44) rfl rfl rfl
        rw [if_pos (want_yes rfl rfl rfl s43)]
        go_simp
        exact hK _ _ (Below.refl _ _) (vok rfl) facts_nil
      · intro a uq K hS hd hK
        have s43 := (waits_on hd 2 (by kernel_rfl)).at (d := 43) rfl rfl rfl
        have s45 := (waits_on hd 4 (by kernel_rfl)).at (d := 45) rfl rfl rfl
        rw [if_pos (want_yes rfl rfl rfl s43)]
        go_simp
        exact hK _ _ (Below.refl _ _) (vok rfl) facts_nil
      · intro a uq K hS hd hK
        have s43 := (waits_on hd 2 (by kernel_rfl)).at (d := 43) rfl rfl rfl
        have s46 := (waits_on hd 5 (by kernel_rfl)).at (d := 46) rfl rfl rfl
        rw [if_pos (want_yes rfl rfl rfl s43)]
        go_simp
        exact hK _ _ (Below.refl _ _) (vok rfl) facts_nil
      · intro a uq K hS hd hK
        have s43 := (waits_on hd 2 (by kernel_rfl)).at (d := 43) rfl rfl rfl
        have s47 := (waits_on hd 6 (by kernel_rfl)).at (d := 47) rfl rfl rfl
        rw [if_pos (want_free rfl)]
        go_simp
        exact hK _ _ (Below.refl _ _) (vok rfl) facts_nil
      · intro a uq K hS hd hK
        have s48 := (waits_on hd 7 (by kernel_rfl)).at (d := 48) rfl rfl rfl
        rw [if_pos (want_free rfl)]
        go_simp
        exact hK _ _ (Below.refl _ _) (vok rfl) facts_nil
      · intro a uq K hS hd hK
        have s49 := (waits_on hd 8 (by kernel_rfl)).at (d := 49) rfl rfl rfl
        have s1 := hS.at 1 (by kernel_rfl) rfl
        rw [if_pos (want_yes rfl rfl rfl s49)]
        go_simp
        exact hK _ _ (Below.refl _ _) (vok rfl) facts_nil
      · intro a uq K hS hd hK
        have s49 := (waits_on hd 8 (by kernel_rfl)).at (d := 49) rfl rfl rfl
        have s50 := (waits_on hd 9 (by kernel_rfl)).at (d := 50) rfl rfl rfl
        rw [if_pos (want_yes rfl rfl rfl s49)]
        go_simp
        exact hK _ _ (Below.refl _ _) (vok rfl) facts_nil
      · intro a uq K hS hd hK
        have s49 := (waits_on hd 8 (by kernel_rfl)).at (d := 49) rfl rfl rfl
        rw [if_pos (want_yes rfl rfl rfl s49)]
        go_simp
        with_reducible refine (CSY (g uq)).mono ?_
        rintro e w' ⟨rfl, hb⟩
        exact hK _ _ hb (vok rfl) facts_nil
      · intro a uq K hS hd hK
        have s49 := (waits_on hd 8 (by kernel_rfl)).at (d := 49) rfl rfl rfl
        have s52 := (waits_on hd 11 (by kernel_rfl)).at (d := 52) rfl rfl rfl
        rw [if_pos (want_yes rfl rfl rfl s49)]
        go_simp
        exact hK _ _ (Below.refl _ _) (vok rfl) facts_nil
      · intro a uq K hS hd hK
        have s49 := (waits_on hd 8 (by kernel_rfl)).at (d := 49) rfl rfl rfl
        have s51 := (waits_on hd 10 (by kernel_rfl)).at (d := 51) rfl rfl rfl
        have s53 := (waits_on hd 12 (by kernel_rfl)).at (d := 53) rfl rfl rfl
        rw [if_pos (want_yes rfl rfl rfl s49)]
        go_simp
        with_reducible refine (CTR (g uq)).mono ?_
        rintro e w' ⟨rfl, hb⟩
        exact hK _ _ hb (vok rfl) facts_nil
      · intro a uq K hS hd hK
        have s49 := (waits_on hd 8 (by kernel_rfl)).at (d := 49) rfl rfl rfl
        have s54 := (waits_on hd 13 (by kernel_rfl)).at (d := 54) rfl rfl rfl
        rw [if_pos (want_yes rfl rfl rfl s49)]
        go_simp
        exact hK _ _ (Below.refl _ _) (vok rfl) facts_nil
      · intro a uq K hS hd hK
        have s49 := (waits_on hd 8 (by kernel_rfl)).at (d := 49) rfl rfl rfl
        have s55 := (waits_on hd 14 (by kernel_rfl)).at (d := 55) rfl rfl rfl
        rw [if_pos (want_free rfl)]
        go_simp
        exact hK _ _ (Below.refl _ _) (vok rfl) facts_nil
      · intro a uq K hS hd hK
        have s56 := (waits_on hd 15 (by kernel_rfl)).at (d := 56) rfl rfl rfl
        rw [if_pos (want_free rfl)]
        go_simp
        exact hK _ _ (Below.refl _ _) (vok rfl) facts_nil
      · intro a uq K hS hd hK
        have s57 := (waits_on hd 16 (by kernel_rfl)).at (d := 57) rfl rfl rfl
        have s1 := hS.at 1 (by kernel_rfl) rfl
        rw [if_pos (want_yes rfl rfl rfl s57)]
        go_simp
        exact hK _ _ (Below.refl _ _) (vok rfl) facts_nil
      · intro a uq K hS hd hK
        have s57 := (waits_on hd 16 (by kernel_rfl)).at (d := 57) rfl rfl rfl
        have s58 := (waits_on hd 17 (by kernel_rfl)).at (d := 58) rfl rfl rfl
        rw [if_pos (want_yes rfl rfl rfl s57)]
        go_simp
        exact hK _ _ (Below.refl _ _) (vok rfl) facts_nil
      · intro a uq K hS hd hK
        have s57 := (waits_on hd 16 (by kernel_rfl)).at (d := 57) rfl rfl rfl
        have s59 := (waits_on hd 18 (by kernel_rfl)).at (d := 59) rfl rfl rfl
        rw [if_pos (want_yes rfl rfl rfl s57)]
        go_simp
        exact hK _ _ (Below.refl _ _) (vok rfl) facts_nil
      · intro a uq K hS hd hK
        have s57 := (waits_on hd 16 (by kernel_rfl)).at (d := 57) rfl rfl rfl
        have s60 := (waits_on hd 19 (by kernel_rfl)).at (d := 60) rfl rfl rfl
        rw [if_pos (want_free rfl)]
        go_simp
        exact hK _ _ (Below.refl _ _) (vok rfl) facts_nil
      · intro a uq K hS hd hK
        have s61 := (waits_on hd 20 (by kernel_rfl)).at (d := 61) rfl rfl rfl
        rw [if_pos (want_free rfl)]
        go_simp
        exact hK _ _ (Below.refl _ _) (vok rfl) facts_nil
      · intro a uq K hS hd hK
        have s62 := (waits_on hd 21 (by kernel_rfl)).at (d := 62) rfl rfl rfl
        have s1 := hS.at 1 (by kernel_rfl) rfl
        rw [if_pos (want_yes rfl rfl rfl s62)]
        go_simp
        exact hK _ _ (Below.refl _ _) (vok rfl) facts_nil
      · intro a uq K hS hd hK
        have s62 := (waits_on hd 21 (by kernel_rfl)).at (d := 62) rfl rfl rfl
        have s63 := (waits_on hd 22 (by kernel_rfl)).at (d := 63) rfl rfl rfl
        rw [if_pos (want_yes rfl rfl rfl s62)]
        go_simp
        exact hK _ _ (Below.refl _ _) (vok rfl) facts_nil
      · intro a uq K hS hd hK
        have s62 := (waits_on hd 21 (by kernel_rfl)).at (d := 62) rfl rfl rfl
        have s64 := (waits_on hd 23 (by kernel_rfl)).at (d := 64) rfl rfl rfl
        rw [if_pos (want_yes rfl rfl rfl s62)]
        go_simp
        exact hK _ _ (Below.refl _ _) (vok rfl) facts_nil
      · intro a uq K hS hd hK
        have s62 := (waits_on hd 21 (by kernel_rfl)).at (d := 62) rfl rfl rfl
        have s65 := (waits_on hd 24 (by kernel_rfl)).at (d := 65) rfl rfl rfl
        rw [if_pos (want_free rfl)]
        go_simp
        exact hK _ _ (Below.refl _ _) (vok rfl) facts_nil
    case hfin =>
      intro a uq hS hk
      have s41 := (hk 0 (by decide)).at (d := 41) rfl rfl rfl
      have s42 := (hk 1 (by decide)).at (d := 42) rfl rfl rfl
      have s43 := (hk 2 (by decide)).at (d := 43) rfl rfl rfl
      have s44 := (hk 3 (by decide)).at (d := 44) rfl rfl rfl
      have s45 := (hk 4 (by decide)).at (d := 45) rfl rfl rfl
      have s46 := (hk 5 (by decide)).at (d := 46) rfl rfl rfl
      have s47 := (hk 6 (by decide)).at (d := 47) rfl rfl rfl
      have s48 := (hk 7 (by decide)).at (d := 48) rfl rfl rfl
      have s49 := (hk 8 (by decide)).at (d := 49) rfl rfl rfl
      have s50 := (hk 9 (by decide)).at (d := 50) rfl rfl rfl
      have s51 := (hk 10 (by decide)).at (d := 51) rfl rfl rfl
      have s52 := (hk 11 (by decide)).at (d := 52) rfl rfl rfl
      have s53 := (hk 12 (by decide)).at (d := 53) rfl rfl rfl
      have s54 := (hk 13 (by decide)).at (d := 54) rfl rfl rfl
      have s55 := (hk 14 (by decide)).at (d := 55) rfl rfl rfl
      have s56 := (hk 15 (by decide)).at (d := 56) rfl rfl rfl
      have s57 := (hk 16 (by decide)).at (d := 57) rfl rfl rfl
      have s58 := (hk 17 (by decide)).at (d := 58) rfl rfl rfl
      have s59 := (hk 18 (by decide)).at (d := 59) rfl rfl rfl
      have s60 := (hk 19 (by decide)).at (d := 60) rfl rfl rfl
      have s61 := (hk 20 (by decide)).at (d := 61) rfl rfl rfl
      have s62 := (hk 21 (by decide)).at (d := 62) rfl rfl rfl
      have s63 := (hk 22 (by decide)).at (d := 63) rfl rfl rfl
      have s64 := (hk 23 (by decide)).at (d := 64) rfl rfl rfl
      have s65 := (hk 24 (by decide)).at (d := 65) rfl rfl rfl
      have s66 := (hk 25 (by decide)).at (d := 66) rfl rfl rfl
      have hlit := hS.lit _ (by kernel_rfl) (lits_cons s41 (lits_cons s42 (lits_cons s43 (lits_cons s44 (lits_cons s45 (lits_cons s46 (lits_cons s47 (lits_cons s48 (lits_cons s49 (lits_cons s50 (lits_cons s51 (lits_cons s52 (lits_cons s53 (lits_cons s54 (lits_cons s55 (lits_cons s56 (lits_cons s57 (lits_cons s58 (lits_cons s59 (lits_cons s60 (lits_cons s61 (lits_cons s62 (lits_cons s63 (lits_cons s64 (lits_cons s65 (lits_cons s66 lits_nil))))))))))))))))))))))))))
      rw [hlit]
      clear hlit hk hS s41 s42 s43 s44 s45 s46 s47 s48 s49 s50 s51 s52 s53 s54 s55 s56 s57 s58 s59 s60 s61 s62 s63 s64 s65 s66
      simp only [litT, List.setIfInBounds_toArray, List.set_cons_succ, List.set_cons_zero]
      go_wp2_with fail
      have HR5 := hide (Blk.new (g uq) 3 #[.int .i64 o, .int .i64 h])
      have HB5 := hide (below_alloc (below_to HB2.out (Nat.le_refl _) (HGU.out uq)) (Nat.le_refl _) (.cells #[.int .i64 o, .int .i64 h] 3))
      generalize (g uq).alloc (.cells #[.int .i64 o, .int .i64 h] 3) = w5 at *
      generalize (g uq).heap.size = rb at *
      clear x0 x1 x2 x3 x4 t0 t3 HGU HHI hstart CSY CTR h36 hsy hemp
      go_loopw [9, 73] (fun _ i wr => ∃ k : Nat, k ≤ 0 ∧ i = .int .i64 (k : Int) ∧ w5 = wr) (fun _ i _ => 2 - (intOf i).toNat)
      case atStart => exact ⟨0, by omega, rfl, rfl⟩
      case round =>
        obtain ⟨k, hk, rfl, rfl⟩ := hrel
        have c0 := HR5.out.cell 0
        have c1 := HR5.out.cell 1
        obtain rfl : k = 0 := by omega
        go_wp2_with fail
        go_ret2
        exact ⟨rfl, HB5.out⟩
set_option maxRecDepth 100000 in
set_option maxHeartbeats 8000000 in
theorem pk_h0 (d : List UInt8) (hl : d.length ≤ 140737488355328) (o s h : Int) (b : Bool) (hE : (lexP d).2.1 = 0) (xa xn : Int) (hn : (lexP d).1 = [⟨1, xa, xn, d⟩]) (h12 : d.length ≤ 12) (hall : d.all sym36 = true) (hs0 : -1 ≤ s) (hs1 : s ≤ 100000) (ho : 0 ≤ o ∧ o < 64) (hh : h < 0) (w : World) : Calls Tryz.prog 12 #[lval d o s h b] w fun e w' => e = .returned (.tuple #[.string (bs []), .int .i64 1]) ∧ Below w.heap.size w w' := by
  have HB1 := hide (below_one w (.cells #[.string (bs d), .int .i64 o, .int .i64 s, .int .i64 h, .bool b] 23))
  have HX := hide (Blk.new w 23 #[.string (bs d), .int .i64 o, .int .i64 s, .int .i64 h, .bool b])
  have hsz : (bs d).size = d.length := bs_size d
  have hemp : (bs ([] : List UInt8)).toList.isEmpty = true := by rw [bs_toList]; rfl
  have h36 : (bs symT).extract 0 36 = bs (symT.take 36) := by rw [bs_cut]; rfl
  have hsy : (bs symT).size = 37 := rfl
  have CL := fun w => Lex_any d hl w
  rw [hE] at CL
  have e12 : decide ((12 : Int) < (d.length : Int)) = false := by simp; omega
  have CTR := fun w => Trim_good d hall (by omega) w
  have es0 : decide (s < -1) = false := by simp; omega
  have es1 : decide ((100000 : Int) < s) = false := by simp; omega
  have eo0 : decide (o < 0) = false := by simp; omega
  have eo1 : decide ((64 : Int) ≤ o) = false := by simp; omega
  have eh0 : decide (h < 0) = true := by simp; omega
  clear hh
  clear hE hall hs0 hs1 ho
  go_enter Tryz.func12, Tryz.ntmps12
  unfold lval
  go_wp2_with fail
  generalize w.alloc (.cells #[.string (bs d), .int .i64 o, .int .i64 s, .int .i64 h, .bool b] 23) = w1 at *
  obtain ⟨bx, hbx⟩ : ∃ bx, Hid (w.heap.size = bx) := ⟨_, rfl⟩
  rw [hbx.out] at HX ⊢
  refine (CL _).mono ?_
  rintro e w2 ⟨v, rfl, hv, hb⟩
  have HB2 := hide (below_to HB1.out (Nat.le_refl _) hb)
  have HX2 := hide (HX.out.to hb)
  clear hb HB1 HX CL
  rw [hn] at hv
  obtain ⟨tb, tc, rfl, htl, htc⟩ : ∃ tb tc, v = .slice (some ⟨tb, 0, none⟩) 1 tc ∧ tb < w2.heap.size ∧ ∀ (j : Nat) u, (tcells ⟨1, xa, xn, d⟩)[j]? = some u → w2.cell? ⟨tb, j, none⟩ = some u := by
    rcases hv with ⟨h1, _⟩ | ⟨b, c, h1, h2, h3⟩
    · cases h1
    · exact ⟨b, c, h1, h2, fun j u hu => by have := h3 0 _ rfl j u hu; simpa using this⟩
  have HT := hide (⟨htl, htc⟩ : tb < w2.heap.size ∧ ∀ (j : Nat) u, (tcells ⟨1, xa, xn, d⟩)[j]? = some u → w2.cell? ⟨tb, j, none⟩ = some u)
  clear hv hn htl htc
  obtain ⟨U, hU, g, u0, rfl, hgu, hi'⟩ := cls w2
  have x0 := blk_all hgu HX2.out 0 rfl
  have x1 := blk_all hgu HX2.out 1 rfl
  have x2 := blk_all hgu HX2.out 2 rfl
  have x3 := blk_all hgu HX2.out 3 rfl
  have x4 := blk_all hgu HX2.out 4 rfl
  have t0 : ∀ u, (g u).cell? ⟨tb, 0, none⟩ = some (.int .i64 1) := fun u => ((hgu u).cell (p := ⟨tb, 0, none⟩) HT.out.1).trans (HT.out.2 0 _ rfl)
  have t3 : ∀ u, (g u).cell? ⟨tb, 3, none⟩ = some (.string (bs d)) := fun u => ((hgu u).cell (p := ⟨tb, 3, none⟩) HT.out.1).trans (HT.out.2 3 _ rfl)
  have HGU := hide hgu
  have HHI := hide hi'
  have hstart : ∀ u, ∃ u', (g u).drew = g u' := fun u => hi' _ (hgu u).drew
  clear hgu hi'
  have CSY : ∀ w : World, Calls Tryz.prog 24 #[] w fun e w' => e = .returned (.string (bs symT)) ∧ Below w.heap.size w w' := fun w => (symbols_any w).mono fun e w' ⟨he, hw⟩ => ⟨he, hw ▸ Below.refl _ _⟩
  go_wp2_with fail
  apply wp_region_looseG g (V := [some _, some _, some _, some _, some _, some _, some _, some _, some _, some _, some _, some _, some _, some _, some _, some _, some _, some _, some _, some _, some _, some _, some _, some _]) (Fs := []) (Rel := fun _ w w' => Below w.heap.size w w')
  case hm => kernel_rfl
  case hB => kernel_rfl
  case hCw => exact hstart _
  case hC =>
    rintro i uq w' hr
    exact HHI.out _ (below_to (HGU.out uq) (Nat.le_refl _) hr)
  case hst =>
    exact keeps_nil
  case hop =>
    refine ⟨?_, ?_, ?_, ?_, ?_, ?_, ?_, ?_, ?_, ?_, ?_, ?_, ?_, ?_, ?_, ?_, ?_, ?_, ?_, ?_, ?_, ?_, ?_, ?_, trivial⟩
    · intro a uq K hS hd hK
      have s5 := hS.at 5 (by kernel_rfl) rfl
      rw [if_pos (want_free rfl)]
      go_simp
      exact hK _ _ (Below.refl _ _) (vok rfl) facts_nil
    · intro a uq K hS hd hK
      have s18 := (waits_on hd 0 (by kernel_rfl)).at (d := 18) rfl rfl rfl
      rw [if_pos (want_free rfl)]
      go_simp
      exact hK _ _ (Below.refl _ _) (vok rfl) facts_nil
    · intro a uq K hS hd hK
      have s19 := (waits_on hd 1 (by kernel_rfl)).at (d := 19) rfl rfl rfl
      rw [if_pos (want_free rfl)]
      go_simp
      exact hK _ _ (Below.refl _ _) (vok rfl) facts_nil
    · intro a uq K hS hd hK
      have s20 := (waits_on hd 2 (by kernel_rfl)).at (d := 20) rfl rfl rfl
      have s4 := hS.at 4 (by kernel_rfl) rfl
      rw [if_pos (want_yes rfl rfl rfl s20)]
      go_simp
      exact hK _ _ (Below.refl _ _) (vok rfl) facts_nil
    · intro a uq K hS hd hK
      have s20 := (waits_on hd 2 (by kernel_rfl)).at (d := 20) rfl rfl rfl
      have s21 := (waits_on hd 3 (by kernel_rfl)).at (d := 21) rfl rfl rfl
      rw [if_pos (want_yes rfl rfl rfl s20)]
      go_simp
      exact hK _ _ (Below.refl _ _) (vok rfl) facts_nil
    · intro a uq K hS hd hK
      have s20 := (waits_on hd 2 (by kernel_rfl)).at (d := 20) rfl rfl rfl
      have s22 := (waits_on hd 4 (by kernel_rfl)).at (d := 22) rfl rfl rfl
      rw [if_pos (want_yes rfl rfl rfl s20)]
      go_simp
      exact hK _ _ (Below.refl _ _) (vok rfl) facts_nil
    · intro a uq K hS hd hK
      have s20 := (waits_on hd 2 (by kernel_rfl)).at (d := 20) rfl rfl rfl
      have s23 := (waits_on hd 5 (by kernel_rfl)).at (d := 23) rfl rfl rfl
      rw [if_pos (want_free rfl)]
      go_simp
      exact hK _ _ (Below.refl _ _) (vok rfl) facts_nil
    · intro a uq K hS hd hK
      have s24 := (waits_on hd 6 (by kernel_rfl)).at (d := 24) rfl rfl rfl
      rw [if_pos (want_free rfl)]
      go_simp
      exact hK _ _ (Below.refl _ _) (vok rfl) facts_nil
    · intro a uq K hS hd hK
      have s25 := (waits_on hd 7 (by kernel_rfl)).at (d := 25) rfl rfl rfl
      have s4 := hS.at 4 (by kernel_rfl) rfl
      rw [if_pos (want_yes rfl rfl rfl s25)]
      go_simp
      exact hK _ _ (Below.refl _ _) (vok rfl) facts_nil
    · intro a uq K hS hd hK
      have s25 := (waits_on hd 7 (by kernel_rfl)).at (d := 25) rfl rfl rfl
      have s26 := (waits_on hd 8 (by kernel_rfl)).at (d := 26) rfl rfl rfl
      rw [if_pos (want_yes rfl rfl rfl s25)]
      go_simp
      exact hK _ _ (Below.refl _ _) (vok rfl) facts_nil
    · intro a uq K hS hd hK
      have s25 := (waits_on hd 7 (by kernel_rfl)).at (d := 25) rfl rfl rfl
      have s27 := (waits_on hd 9 (by kernel_rfl)).at (d := 27) rfl rfl rfl
      rw [if_pos (want_yes rfl rfl rfl s25)]
      go_simp
      exact hK _ _ (Below.refl _ _) (vok rfl) facts_nil
    · intro a uq K hS hd hK
      have s25 := (waits_on hd 7 (by kernel_rfl)).at (d := 25) rfl rfl rfl
      have s28 := (waits_on hd 10 (by kernel_rfl)).at (d := 28) rfl rfl rfl
      rw [if_pos (want_yes rfl rfl rfl s25)]
      go_simp
      exact hK _ _ (Below.refl _ _) (vok rfl) facts_nil
    · intro a uq K hS hd hK
      have s25 := (waits_on hd 7 (by kernel_rfl)).at (d := 25) rfl rfl rfl
      have s29 := (waits_on hd 11 (by kernel_rfl)).at (d := 29) rfl rfl rfl
      rw [if_pos (want_yes rfl rfl rfl s25)]
      go_simp
      exact hK _ _ (Below.refl _ _) (vok rfl) facts_nil
    · intro a uq K hS hd hK
      have s25 := (waits_on hd 7 (by kernel_rfl)).at (d := 25) rfl rfl rfl
      have s30 := (waits_on hd 12 (by kernel_rfl)).at (d := 30) rfl rfl rfl
      rw [if_pos (want_free rfl)]
      go_simp
      exact hK _ _ (Below.refl _ _) (vok rfl) facts_nil
    · intro a uq K hS hd hK
      have s31 := (waits_on hd 13 (by kernel_rfl)).at (d := 31) rfl rfl rfl
      rw [if_pos (want_free rfl)]
      go_simp
      exact hK _ _ (Below.refl _ _) (vok rfl) facts_nil
    · intro a uq K hS hd hK
      have s32 := (waits_on hd 14 (by kernel_rfl)).at (d := 32) rfl rfl rfl
      have s4 := hS.at 4 (by kernel_rfl) rfl
      rw [if_pos (want_yes rfl rfl rfl s32)]
      go_simp
      exact hK _ _ (Below.refl _ _) (vok rfl) facts_nil
    · intro a uq K hS hd hK
      have s32 := (waits_on hd 14 (by kernel_rfl)).at (d := 32) rfl rfl rfl
      have s33 := (waits_on hd 15 (by kernel_rfl)).at (d := 33) rfl rfl rfl
      rw [if_pos (want_yes rfl rfl rfl s32)]
      go_simp
      exact hK _ _ (Below.refl _ _) (vok rfl) facts_nil
    · intro a uq K hS hd hK
      have s32 := (waits_on hd 14 (by kernel_rfl)).at (d := 32) rfl rfl rfl
      have s34 := (waits_on hd 16 (by kernel_rfl)).at (d := 34) rfl rfl rfl
      rw [if_pos (want_yes rfl rfl rfl s32)]
      go_simp
      exact hK _ _ (Below.refl _ _) (vok rfl) facts_nil
    · intro a uq K hS hd hK
      have s32 := (waits_on hd 14 (by kernel_rfl)).at (d := 32) rfl rfl rfl
      have s35 := (waits_on hd 17 (by kernel_rfl)).at (d := 35) rfl rfl rfl
      rw [if_pos (want_yes rfl rfl rfl s32)]
      go_simp
      exact hK _ _ (Below.refl _ _) (vok rfl) facts_nil
    · intro a uq K hS hd hK
      have s32 := (waits_on hd 14 (by kernel_rfl)).at (d := 32) rfl rfl rfl
      have s1 := hS.at 1 (by kernel_rfl) rfl
      rw [if_pos (want_yes rfl rfl rfl s32)]
      go_simp
      exact hK _ _ (Below.refl _ _) (vok rfl) facts_nil
    · intro a uq K hS hd hK
      have s32 := (waits_on hd 14 (by kernel_rfl)).at (d := 32) rfl rfl rfl
      have s37 := (waits_on hd 19 (by kernel_rfl)).at (d := 37) rfl rfl rfl
      rw [if_pos (want_yes rfl rfl rfl s32)]
      go_simp
      exact hK _ _ (Below.refl _ _) (vok rfl) facts_nil
    · intro a uq K hS hd hK
      have s32 := (waits_on hd 14 (by kernel_rfl)).at (d := 32) rfl rfl rfl
      have s36 := (waits_on hd 18 (by kernel_rfl)).at (d := 36) rfl rfl rfl
      have s38 := (waits_on hd 20 (by kernel_rfl)).at (d := 38) rfl rfl rfl
      rw [if_pos (want_yes rfl rfl rfl s32)]
      go_simp
      exact hK _ _ (Below.refl _ _) (vok rfl) facts_nil
    · intro a uq K hS hd hK
      have s32 := (waits_on hd 14 (by kernel_rfl)).at (d := 32) rfl rfl rfl
      have s39 := (waits_on hd 21 (by kernel_rfl)).at (d := 39) rfl rfl rfl
      rw [if_pos (want_free rfl)]
      go_simp
      exact hK _ _ (Below.refl _ _) (vok rfl) facts_nil
    · intro a uq K hS hd hK
      have s40 := (waits_on hd 22 (by kernel_rfl)).at (d := 40) rfl rfl rfl
      rw [if_pos (want_free rfl)]
      go_simp
      exact hK _ _ (Below.refl _ _) (vok rfl) facts_nil
  case hfin =>
    intro a uq hS hk
    have s18 := (hk 0 (by decide)).at (d := 18) rfl rfl rfl
    have s19 := (hk 1 (by decide)).at (d := 19) rfl rfl rfl
    have s20 := (hk 2 (by decide)).at (d := 20) rfl rfl rfl
    have s21 := (hk 3 (by decide)).at (d := 21) rfl rfl rfl
    have s22 := (hk 4 (by decide)).at (d := 22) rfl rfl rfl
    have s23 := (hk 5 (by decide)).at (d := 23) rfl rfl rfl
    have s24 := (hk 6 (by decide)).at (d := 24) rfl rfl rfl
    have s25 := (hk 7 (by decide)).at (d := 25) rfl rfl rfl
    have s26 := (hk 8 (by decide)).at (d := 26) rfl rfl rfl
    have s27 := (hk 9 (by decide)).at (d := 27) rfl rfl rfl
    have s28 := (hk 10 (by decide)).at (d := 28) rfl rfl rfl
    have s29 := (hk 11 (by decide)).at (d := 29) rfl rfl rfl
    have s30 := (hk 12 (by decide)).at (d := 30) rfl rfl rfl
    have s31 := (hk 13 (by decide)).at (d := 31) rfl rfl rfl
    have s32 := (hk 14 (by decide)).at (d := 32) rfl rfl rfl
    have s33 := (hk 15 (by decide)).at (d := 33) rfl rfl rfl
    have s34 := (hk 16 (by decide)).at (d := 34) rfl rfl rfl
    have s35 := (hk 17 (by decide)).at (d := 35) rfl rfl rfl
    have s36 := (hk 18 (by decide)).at (d := 36) rfl rfl rfl
    have s37 := (hk 19 (by decide)).at (d := 37) rfl rfl rfl
    have s38 := (hk 20 (by decide)).at (d := 38) rfl rfl rfl
    have s39 := (hk 21 (by decide)).at (d := 39) rfl rfl rfl
    have s40 := (hk 22 (by decide)).at (d := 40) rfl rfl rfl
    have s7 := (hk 23 (by decide)).at (d := 7) rfl rfl rfl
    have hlit := hS.lit _ (by kernel_rfl) (lits_cons s18 (lits_cons s19 (lits_cons s20 (lits_cons s21 (lits_cons s22 (lits_cons s23 (lits_cons s24 (lits_cons s25 (lits_cons s26 (lits_cons s27 (lits_cons s28 (lits_cons s29 (lits_cons s30 (lits_cons s31 (lits_cons s32 (lits_cons s33 (lits_cons s34 (lits_cons s35 (lits_cons s36 (lits_cons s37 (lits_cons s38 (lits_cons s39 (lits_cons s40 (lits_cons s7 lits_nil))))))))))))))))))))))))
    rw [hlit]
    clear hlit hk hS s18 s19 s20 s21 s22 s23 s24 s25 s26 s27 s28 s29 s30 s31 s32 s33 s34 s35 s36 s37 s38 s39 s40 s7
    simp only [litT, List.setIfInBounds_toArray, List.set_cons_succ, List.set_cons_zero]
    go_wp2_with fail
    apply wp_region_looseG g (V := [some _, some _, some _, some _, some _, some _, some _, some _, some _, some _, some _, some _, some _, some _, some _, some _, some _, some _, some _, some _, some _, some _, some _, some _, some _, some _]) (Fs := []) (Rel := fun _ w w' => Below w.heap.size w w')
    case hm => kernel_rfl
    case hB => kernel_rfl
    case hCw => exact hstart _
    case hC =>
      rintro i uq w' hr
      exact HHI.out _ (below_to (HGU.out uq) (Nat.le_refl _) hr)
    case hst =>
      exact keeps_nil
    case hop =>
      refine ⟨?_, ?_, ?_, ?_, ?_, ?_, ?_, ?_, ?_, ?_, ?_, ?_, ?_, ?_, ?_, ?_, ?_, ?_, ?_, ?_, ?_, ?_, ?_, ?_, ?_, ?_, trivial⟩
      · intro a uq K hS hd hK
        have s7 := hS.at 7 (by kernel_rfl) rfl
        rw [if_pos (want_free rfl)]
        go_simp
        exact hK _ _ (Below.refl _ _) (vok rfl) facts_nil
      · intro a uq K hS hd hK
        have s41 := (waits_on hd 0 (by kernel_rfl)).at (d := 41) rfl rfl rfl
        rw [if_pos (want_free rfl)]
        go_simp
        exact hK _ _ (Below.refl _ _) (vok rfl) facts_nil
      · intro a uq K hS hd hK
        have s42 := (waits_on hd 1 (by kernel_rfl)).at (d := 42) rfl rfl rfl
        rw [if_pos (want_free rfl)]
        go_simp
        exact hK _ _ (Below.refl _ _) (vok rfl) facts_nil
      · intro a uq K hS hd hK
        have s43 := (waits_on hd 2 (by kernel_rfl)).at (d := 43) rfl rfl rfl
        have s1 := hS.at 1 (by kernel_rfl) rfl
        rw [if_pos (want_yes rfl rfl rfl s43)]
        go_simp
        exact hK _ _ (Below.refl _ _) (vok rfl) facts_nil
      · intro a uq K hS hd hK
        have s43 := (waits_on hd 2 (by kernel_rfl)).at (d := 43) rfl rfl rfl
        have s44 := (waits_on hd 3 (by kernel_rfl)).at (d := 44) rfl rfl rfl
        rw [if_pos (want_yes rfl rfl rfl s43)]
        go_simp
        exact hK _ _ (Below.refl _ _) (vok rfl) facts_nil
      · intro a uq K hS hd hK
        have s43 := (waits_on hd 2 (by kernel_rfl)).at (d := 43) rfl rfl rfl
        have s45 := (waits_on hd 4 (by kernel_rfl)).at (d := 45) rfl rfl rfl
        rw [if_pos (want_yes rfl rfl rfl s43)]
        go_simp
        exact hK _ _ (Below.refl _ _) (vok rfl) facts_nil
      · intro a uq K hS hd hK
        have s43 := (waits_on hd 2 (by kernel_rfl)).at (d := 43) rfl rfl rfl
        have s46 := (waits_on hd 5 (by kernel_rfl)).at (d := 46) rfl rfl rfl
        rw [if_pos (want_yes rfl rfl rfl s43)]
        go_simp
        exact hK _ _ (Below.refl _ _) (vok rfl) facts_nil
      · intro a uq K hS hd hK
        have s43 := (waits_on hd 2 (by kernel_rfl)).at (d := 43) rfl rfl rfl
        have s47 := (waits_on hd 6 (by kernel_rfl)).at (d := 47) rfl rfl rfl
        rw [if_pos (want_free rfl)]
        go_simp
        exact hK _ _ (Below.refl _ _) (vok rfl) facts_nil
      · intro a uq K hS hd hK
        have s48 := (waits_on hd 7 (by kernel_rfl)).at (d := 48) rfl rfl rfl
        rw [if_pos (want_free rfl)]
        go_simp
        exact hK _ _ (Below.refl _ _) (vok rfl) facts_nil
      · intro a uq K hS hd hK
        have s49 := (waits_on hd 8 (by kernel_rfl)).at (d := 49) rfl rfl rfl
        have s1 := hS.at 1 (by kernel_rfl) rfl
        rw [if_pos (want_yes rfl rfl rfl s49)]
        go_simp
        exact hK _ _ (Below.refl _ _) (vok rfl) facts_nil
      · intro a uq K hS hd hK
        have s49 := (waits_on hd 8 (by kernel_rfl)).at (d := 49) rfl rfl rfl
        have s50 := (waits_on hd 9 (by kernel_rfl)).at (d := 50) rfl rfl rfl
        rw [if_pos (want_yes rfl rfl rfl s49)]
        go_simp
        exact hK _ _ (Below.refl _ _) (vok rfl) facts_nil
      · intro a uq K hS hd hK
        have s49 := (waits_on hd 8 (by kernel_rfl)).at (d := 49) rfl rfl rfl
        rw [if_pos (want_yes rfl rfl rfl s49)]
        go_simp
        with_reducible refine (CSY (g uq)).mono ?_
        rintro e w' ⟨rfl, hb⟩
        exact hK _ _ hb (vok rfl) facts_nil
      · intro a uq K hS hd hK
        have s49 := (waits_on hd 8 (by kernel_rfl)).at (d := 49) rfl rfl rfl
        have s52 := (waits_on hd 11 (by kernel_rfl)).at (d := 52) rfl rfl rfl
        rw [if_pos (want_yes rfl rfl rfl s49)]
        go_simp
        exact hK _ _ (Below.refl _ _) (vok rfl) facts_nil
      · intro a uq K hS hd hK
        have s49 := (waits_on hd 8 (by kernel_rfl)).at (d := 49) rfl rfl rfl
        have s51 := (waits_on hd 10 (by kernel_rfl)).at (d := 51) rfl rfl rfl
        have s53 := (waits_on hd 12 (by kernel_rfl)).at (d := 53) rfl rfl rfl
        rw [if_pos (want_yes rfl rfl rfl s49)]
        go_simp
        with_reducible refine (CTR (g uq)).mono ?_
        rintro e w' ⟨rfl, hb⟩
        exact hK _ _ hb (vok rfl) facts_nil
      · intro a uq K hS hd hK
        have s49 := (waits_on hd 8 (by kernel_rfl)).at (d := 49) rfl rfl rfl
        have s54 := (waits_on hd 13 (by kernel_rfl)).at (d := 54) rfl rfl rfl
        rw [if_pos (want_yes rfl rfl rfl s49)]
        go_simp
        exact hK _ _ (Below.refl _ _) (vok rfl) facts_nil
      · intro a uq K hS hd hK
        have s49 := (waits_on hd 8 (by kernel_rfl)).at (d := 49) rfl rfl rfl
        have s55 := (waits_on hd 14 (by kernel_rfl)).at (d := 55) rfl rfl rfl
        rw [if_pos (want_free rfl)]
        go_simp
        exact hK _ _ (Below.refl _ _) (vok rfl) facts_nil
      · intro a uq K hS hd hK
        have s56 := (waits_on hd 15 (by kernel_rfl)).at (d := 56) rfl rfl rfl
        rw [if_pos (want_free rfl)]
        go_simp
        exact hK _ _ (Below.refl _ _) (vok rfl) facts_nil
      · intro a uq K hS hd hK
        have s57 := (waits_on hd 16 (by kernel_rfl)).at (d := 57) rfl rfl rfl
        have s1 := hS.at 1 (by kernel_rfl) rfl
        rw [if_pos (want_yes rfl rfl rfl s57)]
        go_simp
        exact hK _ _ (Below.refl _ _) (vok rfl) facts_nil
      · intro a uq K hS hd hK
        have s57 := (waits_on hd 16 (by kernel_rfl)).at (d := 57) rfl rfl rfl
        have s58 := (waits_on hd 17 (by kernel_rfl)).at (d := 58) rfl rfl rfl
        rw [if_pos (want_yes rfl rfl rfl s57)]
        go_simp
        exact hK _ _ (Below.refl _ _) (vok rfl) facts_nil
      · intro a uq K hS hd hK
        have s57 := (waits_on hd 16 (by kernel_rfl)).at (d := 57) rfl rfl rfl
        have s59 := (waits_on hd 18 (by kernel_rfl)).at (d := 59) rfl rfl rfl
        rw [if_pos (want_yes rfl rfl rfl s57)]
        go_simp
        exact hK _ _ (Below.refl _ _) (vok rfl) facts_nil
      · intro a uq K hS hd hK
        have s57 := (waits_on hd 16 (by kernel_rfl)).at (d := 57) rfl rfl rfl
        have s60 := (waits_on hd 19 (by kernel_rfl)).at (d := 60) rfl rfl rfl
        rw [if_pos (want_free rfl)]
        go_simp
        exact hK _ _ (Below.refl _ _) (vok rfl) facts_nil
      · intro a uq K hS hd hK
        have s61 := (waits_on hd 20 (by kernel_rfl)).at (d := 61) rfl rfl rfl
        rw [if_pos (want_free rfl)]
        go_simp
        exact hK _ _ (Below.refl _ _) (vok rfl) facts_nil
      · intro a uq K hS hd hK
        have s62 := (waits_on hd 21 (by kernel_rfl)).at (d := 62) rfl rfl rfl
        have s1 := hS.at 1 (by kernel_rfl) rfl
        rw [if_pos (want_yes rfl rfl rfl s62)]
        go_simp
        exact hK _ _ (Below.refl _ _) (vok rfl) facts_nil
      · intro a uq K hS hd hK
        have s62 := (waits_on hd 21 (by kernel_rfl)).at (d := 62) rfl rfl rfl
        have s63 := (waits_on hd 22 (by kernel_rfl)).at (d := 63) rfl rfl rfl
        rw [if_pos (want_yes rfl rfl rfl s62)]
        go_simp
        exact hK _ _ (Below.refl _ _) (vok rfl) facts_nil
      · intro a uq K hS hd hK
        have s62 := (waits_on hd 21 (by kernel_rfl)).at (d := 62) rfl rfl rfl
        have s64 := (waits_on hd 23 (by kernel_rfl)).at (d := 64) rfl rfl rfl
        rw [if_pos (want_yes rfl rfl rfl s62)]
        go_simp
        exact hK _ _ (Below.refl _ _) (vok rfl) facts_nil
      · intro a uq K hS hd hK
        have s62 := (waits_on hd 21 (by kernel_rfl)).at (d := 62) rfl rfl rfl
        have s65 := (waits_on hd 24 (by kernel_rfl)).at (d := 65) rfl rfl rfl
        rw [if_pos (want_free rfl)]
        go_simp
        exact hK _ _ (Below.refl _ _) (vok rfl) facts_nil
    case hfin =>
      intro a uq hS hk
      have s41 := (hk 0 (by decide)).at (d := 41) rfl rfl rfl
      have s42 := (hk 1 (by decide)).at (d := 42) rfl rfl rfl
      have s43 := (hk 2 (by decide)).at (d := 43) rfl rfl rfl
      have s44 := (hk 3 (by decide)).at (d := 44) rfl rfl rfl
      have s45 := (hk 4 (by decide)).at (d := 45) rfl rfl rfl
      have s46 := (hk 5 (by decide)).at (d := 46) rfl rfl rfl
      have s47 := (hk 6 (by decide)).at (d := 47) rfl rfl rfl
      have s48 := (hk 7 (by decide)).at (d := 48) rfl rfl rfl
      have s49 := (hk 8 (by decide)).at (d := 49) rfl rfl rfl
      have s50 := (hk 9 (by decide)).at (d := 50) rfl rfl rfl
      have s51 := (hk 10 (by decide)).at (d := 51) rfl rfl rfl
      have s52 := (hk 11 (by decide)).at (d := 52) rfl rfl rfl
      have s53 := (hk 12 (by decide)).at (d := 53) rfl rfl rfl
      have s54 := (hk 13 (by decide)).at (d := 54) rfl rfl rfl
      have s55 := (hk 14 (by decide)).at (d := 55) rfl rfl rfl
      have s56 := (hk 15 (by decide)).at (d := 56) rfl rfl rfl
      have s57 := (hk 16 (by decide)).at (d := 57) rfl rfl rfl
      have s58 := (hk 17 (by decide)).at (d := 58) rfl rfl rfl
      have s59 := (hk 18 (by decide)).at (d := 59) rfl rfl rfl
      have s60 := (hk 19 (by decide)).at (d := 60) rfl rfl rfl
      have s61 := (hk 20 (by decide)).at (d := 61) rfl rfl rfl
      have s62 := (hk 21 (by decide)).at (d := 62) rfl rfl rfl
      have s63 := (hk 22 (by decide)).at (d := 63) rfl rfl rfl
      have s64 := (hk 23 (by decide)).at (d := 64) rfl rfl rfl
      have s65 := (hk 24 (by decide)).at (d := 65) rfl rfl rfl
      have s66 := (hk 25 (by decide)).at (d := 66) rfl rfl rfl
      have hlit := hS.lit _ (by kernel_rfl) (lits_cons s41 (lits_cons s42 (lits_cons s43 (lits_cons s44 (lits_cons s45 (lits_cons s46 (lits_cons s47 (lits_cons s48 (lits_cons s49 (lits_cons s50 (lits_cons s51 (lits_cons s52 (lits_cons s53 (lits_cons s54 (lits_cons s55 (lits_cons s56 (lits_cons s57 (lits_cons s58 (lits_cons s59 (lits_cons s60 (lits_cons s61 (lits_cons s62 (lits_cons s63 (lits_cons s64 (lits_cons s65 (lits_cons s66 lits_nil))))))))))))))))))))))))))
      rw [hlit]
      clear hlit hk hS s41 s42 s43 s44 s45 s46 s47 s48 s49 s50 s51 s52 s53 s54 s55 s56 s57 s58 s59 s60 s61 s62 s63 s64 s65 s66
      simp only [litT, List.setIfInBounds_toArray, List.set_cons_succ, List.set_cons_zero]
      go_wp2_with fail
      have HR5 := hide (Blk.new (g uq) 3 #[.int .i64 o, .int .i64 h])
      have HB5 := hide (below_alloc (below_to HB2.out (Nat.le_refl _) (HGU.out uq)) (Nat.le_refl _) (.cells #[.int .i64 o, .int .i64 h] 3))
      generalize (g uq).alloc (.cells #[.int .i64 o, .int .i64 h] 3) = w5 at *
      generalize (g uq).heap.size = rb at *
      clear x0 x1 x2 x3 x4 t0 t3 HGU HHI hstart CSY CTR h36 hsy hemp
      go_loopw [9, 73] (fun _ i wr => ∃ k : Nat, k ≤ 1 ∧ i = .int .i64 (k : Int) ∧ w5 = wr) (fun _ i _ => 2 - (intOf i).toNat)
      case atStart => exact ⟨0, by omega, rfl, rfl⟩
      case round =>
        obtain ⟨k, hk, rfl, rfl⟩ := hrel
        have c0 := HR5.out.cell 0
        have c1 := HR5.out.cell 1
        rcases (by omega : k = 0 ∨ k = 1) with rfl | rfl
        · go_wp2_with fail
          refine ⟨⟨1, by omega, by go_num, (by first | rfl | trivial)⟩, ?_⟩
          simp [intOf]
        · go_wp2_with fail
          go_ret2
          exact ⟨rfl, HB5.out⟩
set_option maxRecDepth 100000 in
set_option maxHeartbeats 8000000 in
theorem pk_h1 (d : List UInt8) (hl : d.length ≤ 140737488355328) (o s h : Int) (b : Bool) (hE : (lexP d).2.1 = 0) (xa xn : Int) (hn : (lexP d).1 = [⟨1, xa, xn, d⟩]) (h12 : d.length ≤ 12) (hall : d.all sym36 = true) (hs0 : -1 ≤ s) (hs1 : s ≤ 100000) (ho : 0 ≤ o ∧ o < 64) (hh : 64 ≤ h) (w : World) : Calls Tryz.prog 12 #[lval d o s h b] w fun e w' => e = .returned (.tuple #[.string (bs []), .int .i64 1]) ∧ Below w.heap.size w w' := by
  have HB1 := hide (below_one w (.cells #[.string (bs d), .int .i64 o, .int .i64 s, .int .i64 h, .bool b] 23))
  have HX := hide (Blk.new w 23 #[.string (bs d), .int .i64 o, .int .i64 s, .int .i64 h, .bool b])
  have hsz : (bs d).size = d.length := bs_size d
  have hemp : (bs ([] : List UInt8)).toList.isEmpty = true := by rw [bs_toList]; rfl
  have h36 : (bs symT).extract 0 36 = bs (symT.take 36) := by rw [bs_cut]; rfl
  have hsy : (bs symT).size = 37 := rfl
  have CL := fun w => Lex_any d hl w
  rw [hE] at CL
  have e12 : decide ((12 : Int) < (d.length : Int)) = false := by simp; omega
  have CTR := fun w => Trim_good d hall (by omega) w
  have es0 : decide (s < -1) = false := by simp; omega
  have es1 : decide ((100000 : Int) < s) = false := by simp; omega
  have eo0 : decide (o < 0) = false := by simp; omega
  have eo1 : decide ((64 : Int) ≤ o) = false := by simp; omega
  have eh0 : decide (h < 0) = false := by simp; omega
  have eh1 : decide ((64 : Int) ≤ h) = true := by simp; omega
  clear hh
  clear hE hall hs0 hs1 ho
  go_enter Tryz.func12, Tryz.ntmps12
  unfold lval
  go_wp2_with fail
  generalize w.alloc (.cells #[.string (bs d), .int .i64 o, .int .i64 s, .int .i64 h, .bool b] 23) = w1 at *
  obtain ⟨bx, hbx⟩ : ∃ bx, Hid (w.heap.size = bx) := ⟨_, rfl⟩
  rw [hbx.out] at HX ⊢
  refine (CL _).mono ?_
  rintro e w2 ⟨v, rfl, hv, hb⟩
  have HB2 := hide (below_to HB1.out (Nat.le_refl _) hb)
  have HX2 := hide (HX.out.to hb)
  clear hb HB1 HX CL
  rw [hn] at hv
  obtain ⟨tb, tc, rfl, htl, htc⟩ : ∃ tb tc, v = .slice (some ⟨tb, 0, none⟩) 1 tc ∧ tb < w2.heap.size ∧ ∀ (j : Nat) u, (tcells ⟨1, xa, xn, d⟩)[j]? = some u → w2.cell? ⟨tb, j, none⟩ = some u := by
    rcases hv with ⟨h1, _⟩ | ⟨b, c, h1, h2, h3⟩
    · cases h1
    · exact ⟨b, c, h1, h2, fun j u hu => by have := h3 0 _ rfl j u hu; simpa using this⟩
  have HT := hide (⟨htl, htc⟩ : tb < w2.heap.size ∧ ∀ (j : Nat) u, (tcells ⟨1, xa, xn, d⟩)[j]? = some u → w2.cell? ⟨tb, j, none⟩ = some u)
  clear hv hn htl htc
  obtain ⟨U, hU, g, u0, rfl, hgu, hi'⟩ := cls w2
  have x0 := blk_all hgu HX2.out 0 rfl
  have x1 := blk_all hgu HX2.out 1 rfl
  have x2 := blk_all hgu HX2.out 2 rfl
  have x3 := blk_all hgu HX2.out 3 rfl
  have x4 := blk_all hgu HX2.out 4 rfl
  have t0 : ∀ u, (g u).cell? ⟨tb, 0, none⟩ = some (.int .i64 1) := fun u => ((hgu u).cell (p := ⟨tb, 0, none⟩) HT.out.1).trans (HT.out.2 0 _ rfl)
  have t3 : ∀ u, (g u).cell? ⟨tb, 3, none⟩ = some (.string (bs d)) := fun u => ((hgu u).cell (p := ⟨tb, 3, none⟩) HT.out.1).trans (HT.out.2 3 _ rfl)
  have HGU := hide hgu
  have HHI := hide hi'
  have hstart : ∀ u, ∃ u', (g u).drew = g u' := fun u => hi' _ (hgu u).drew
  clear hgu hi'
  have CSY : ∀ w : World, Calls Tryz.prog 24 #[] w fun e w' => e = .returned (.string (bs symT)) ∧ Below w.heap.size w w' := fun w => (symbols_any w).mono fun e w' ⟨he, hw⟩ => ⟨he, hw ▸ Below.refl _ _⟩
  go_wp2_with fail
  apply wp_region_looseG g (V := [some _, some _, some _, some _, some _, some _, some _, some _, some _, some _, some _, some _, some _, some _, some _, some _, some _, some _, some _, some _, some _, some _, some _, some _]) (Fs := []) (Rel := fun _ w w' => Below w.heap.size w w')
  case hm => kernel_rfl
  case hB => kernel_rfl
  case hCw => exact hstart _
  case hC =>
    rintro i uq w' hr
    exact HHI.out _ (below_to (HGU.out uq) (Nat.le_refl _) hr)
  case hst =>
    exact keeps_nil
  case hop =>
    refine ⟨?_, ?_, ?_, ?_, ?_, ?_, ?_, ?_, ?_, ?_, ?_, ?_, ?_, ?_, ?_, ?_, ?_, ?_, ?_, ?_, ?_, ?_, ?_, ?_, trivial⟩
    · intro a uq K hS hd hK
      have s5 := hS.at 5 (by kernel_rfl) rfl
      rw [if_pos (want_free rfl)]
      go_simp
      exact hK _ _ (Below.refl _ _) (vok rfl) facts_nil
    · intro a uq K hS hd hK
      have s18 := (waits_on hd 0 (by kernel_rfl)).at (d := 18) rfl rfl rfl
      rw [if_pos (want_free rfl)]
      go_simp
      exact hK _ _ (Below.refl _ _) (vok rfl) facts_nil
    · intro a uq K hS hd hK
      have s19 := (waits_on hd 1 (by kernel_rfl)).at (d := 19) rfl rfl rfl
      rw [if_pos (want_free rfl)]
      go_simp
      exact hK _ _ (Below.refl _ _) (vok rfl) facts_nil
    · intro a uq K hS hd hK
      have s20 := (waits_on hd 2 (by kernel_rfl)).at (d := 20) rfl rfl rfl
      have s4 := hS.at 4 (by kernel_rfl) rfl
      rw [if_pos (want_yes rfl rfl rfl s20)]
      go_simp
      exact hK _ _ (Below.refl _ _) (vok rfl) facts_nil
    · intro a uq K hS hd hK
      have s20 := (waits_on hd 2 (by kernel_rfl)).at (d := 20) rfl rfl rfl
      have s21 := (waits_on hd 3 (by kernel_rfl)).at (d := 21) rfl rfl rfl
      rw [if_pos (want_yes rfl rfl rfl s20)]
      go_simp
      exact hK _ _ (Below.refl _ _) (vok rfl) facts_nil
    · intro a uq K hS hd hK
      have s20 := (waits_on hd 2 (by kernel_rfl)).at (d := 20) rfl rfl rfl
      have s22 := (waits_on hd 4 (by kernel_rfl)).at (d := 22) rfl rfl rfl
      rw [if_pos (want_yes rfl rfl rfl s20)]
      go_simp
      exact hK _ _ (Below.refl _ _) (vok rfl) facts_nil
    · intro a uq K hS hd hK
      have s20 := (waits_on hd 2 (by kernel_rfl)).at (d := 20) rfl rfl rfl
      have s23 := (waits_on hd 5 (by kernel_rfl)).at (d := 23) rfl rfl rfl
      rw [if_pos (want_free rfl)]
      go_simp
      exact hK _ _ (Below.refl _ _) (vok rfl) facts_nil
    · intro a uq K hS hd hK
      have s24 := (waits_on hd 6 (by kernel_rfl)).at (d := 24) rfl rfl rfl
      rw [if_pos (want_free rfl)]
      go_simp
      exact hK _ _ (Below.refl _ _) (vok rfl) facts_nil
    · intro a uq K hS hd hK
      have s25 := (waits_on hd 7 (by kernel_rfl)).at (d := 25) rfl rfl rfl
      have s4 := hS.at 4 (by kernel_rfl) rfl
      rw [if_pos (want_yes rfl rfl rfl s25)]
      go_simp
      exact hK _ _ (Below.refl _ _) (vok rfl) facts_nil
    · intro a uq K hS hd hK
      have s25 := (waits_on hd 7 (by kernel_rfl)).at (d := 25) rfl rfl rfl
      have s26 := (waits_on hd 8 (by kernel_rfl)).at (d := 26) rfl rfl rfl
      rw [if_pos (want_yes rfl rfl rfl s25)]
      go_simp
      exact hK _ _ (Below.refl _ _) (vok rfl) facts_nil
    · intro a uq K hS hd hK
      have s25 := (waits_on hd 7 (by kernel_rfl)).at (d := 25) rfl rfl rfl
      have s27 := (waits_on hd 9 (by kernel_rfl)).at (d := 27) rfl rfl rfl
      rw [if_pos (want_yes rfl rfl rfl s25)]
      go_simp
      exact hK _ _ (Below.refl _ _) (vok rfl) facts_nil
    · intro a uq K hS hd hK
      have s25 := (waits_on hd 7 (by kernel_rfl)).at (d := 25) rfl rfl rfl
      have s28 := (waits_on hd 10 (by kernel_rfl)).at (d := 28) rfl rfl rfl
      rw [if_pos (want_yes rfl rfl rfl s25)]
      go_simp
      exact hK _ _ (Below.refl _ _) (vok rfl) facts_nil
    · intro a uq K hS hd hK
      have s25 := (waits_on hd 7 (by kernel_rfl)).at (d := 25) rfl rfl rfl
      have s29 := (waits_on hd 11 (by kernel_rfl)).at (d := 29) rfl rfl rfl
      rw [if_pos (want_yes rfl rfl rfl s25)]
      go_simp
      exact hK _ _ (Below.refl _ _) (vok rfl) facts_nil
    · intro a uq K hS hd hK
      have s25 := (waits_on hd 7 (by kernel_rfl)).at (d := 25) rfl rfl rfl
      have s30 := (waits_on hd 12 (by kernel_rfl)).at (d := 30) rfl rfl rfl
      rw [if_pos (want_free rfl)]
      go_simp
      exact hK _ _ (Below.refl _ _) (vok rfl) facts_nil
    · intro a uq K hS hd hK
      have s31 := (waits_on hd 13 (by kernel_rfl)).at (d := 31) rfl rfl rfl
      rw [if_pos (want_free rfl)]
      go_simp
      exact hK _ _ (Below.refl _ _) (vok rfl) facts_nil
    · intro a uq K hS hd hK
      have s32 := (waits_on hd 14 (by kernel_rfl)).at (d := 32) rfl rfl rfl
      have s4 := hS.at 4 (by kernel_rfl) rfl
      rw [if_pos (want_yes rfl rfl rfl s32)]
      go_simp
      exact hK _ _ (Below.refl _ _) (vok rfl) facts_nil
    · intro a uq K hS hd hK
      have s32 := (waits_on hd 14 (by kernel_rfl)).at (d := 32) rfl rfl rfl
      have s33 := (waits_on hd 15 (by kernel_rfl)).at (d := 33) rfl rfl rfl
      rw [if_pos (want_yes rfl rfl rfl s32)]
      go_simp
      exact hK _ _ (Below.refl _ _) (vok rfl) facts_nil
    · intro a uq K hS hd hK
      have s32 := (waits_on hd 14 (by kernel_rfl)).at (d := 32) rfl rfl rfl
      have s34 := (waits_on hd 16 (by kernel_rfl)).at (d := 34) rfl rfl rfl
      rw [if_pos (want_yes rfl rfl rfl s32)]
      go_simp
      exact hK _ _ (Below.refl _ _) (vok rfl) facts_nil
    · intro a uq K hS hd hK
      have s32 := (waits_on hd 14 (by kernel_rfl)).at (d := 32) rfl rfl rfl
      have s35 := (waits_on hd 17 (by kernel_rfl)).at (d := 35) rfl rfl rfl
      rw [if_pos (want_yes rfl rfl rfl s32)]
      go_simp
      exact hK _ _ (Below.refl _ _) (vok rfl) facts_nil
    · intro a uq K hS hd hK
      have s32 := (waits_on hd 14 (by kernel_rfl)).at (d := 32) rfl rfl rfl
      have s1 := hS.at 1 (by kernel_rfl) rfl
      rw [if_pos (want_yes rfl rfl rfl s32)]
      go_simp
      exact hK _ _ (Below.refl _ _) (vok rfl) facts_nil
    · intro a uq K hS hd hK
      have s32 := (waits_on hd 14 (by kernel_rfl)).at (d := 32) rfl rfl rfl
      have s37 := (waits_on hd 19 (by kernel_rfl)).at (d := 37) rfl rfl rfl
      rw [if_pos (want_yes rfl rfl rfl s32)]
      go_simp
      exact hK _ _ (Below.refl _ _) (vok rfl) facts_nil
    · intro a uq K hS hd hK
      have s32 := (waits_on hd 14 (by kernel_rfl)).at (d := 32) rfl rfl rfl
      have s36 := (waits_on hd 18 (by kernel_rfl)).at (d := 36) rfl rfl rfl
      have s38 := (waits_on hd 20 (by kernel_rfl)).at (d := 38) rfl rfl rfl
      rw [if_pos (want_yes rfl rfl rfl s32)]
      go_simp
      exact hK _ _ (Below.refl _ _) (vok rfl) facts_nil
    · intro a uq K hS hd hK
      have s32 := (waits_on hd 14 (by kernel_rfl)).at (d := 32) rfl rfl rfl
      have s39 := (waits_on hd 21 (by kernel_rfl)).at (d := 39) rfl rfl rfl
      rw [if_pos (want_free rfl)]
      go_simp
      exact hK _ _ (Below.refl _ _) (vok rfl) facts_nil
    · intro a uq K hS hd hK
      have s40 := (waits_on hd 22 (by kernel_rfl)).at (d := 40) rfl rfl rfl
      rw [if_pos (want_free rfl)]
      go_simp
      exact hK _ _ (Below.refl _ _) (vok rfl) facts_nil
  case hfin =>
    intro a uq hS hk
    have s18 := (hk 0 (by decide)).at (d := 18) rfl rfl rfl
    have s19 := (hk 1 (by decide)).at (d := 19) rfl rfl rfl
    have s20 := (hk 2 (by decide)).at (d := 20) rfl rfl rfl
    have s21 := (hk 3 (by decide)).at (d := 21) rfl rfl rfl
    have s22 := (hk 4 (by decide)).at (d := 22) rfl rfl rfl
    have s23 := (hk 5 (by decide)).at (d := 23) rfl rfl rfl
    have s24 := (hk 6 (by decide)).at (d := 24) rfl rfl rfl
    have s25 := (hk 7 (by decide)).at (d := 25) rfl rfl rfl
    have s26 := (hk 8 (by decide)).at (d := 26) rfl rfl rfl
    have s27 := (hk 9 (by decide)).at (d := 27) rfl rfl rfl
    have s28 := (hk 10 (by decide)).at (d := 28) rfl rfl rfl
    have s29 := (hk 11 (by decide)).at (d := 29) rfl rfl rfl
    have s30 := (hk 12 (by decide)).at (d := 30) rfl rfl rfl
    have s31 := (hk 13 (by decide)).at (d := 31) rfl rfl rfl
    have s32 := (hk 14 (by decide)).at (d := 32) rfl rfl rfl
    have s33 := (hk 15 (by decide)).at (d := 33) rfl rfl rfl
    have s34 := (hk 16 (by decide)).at (d := 34) rfl rfl rfl
    have s35 := (hk 17 (by decide)).at (d := 35) rfl rfl rfl
    have s36 := (hk 18 (by decide)).at (d := 36) rfl rfl rfl
    have s37 := (hk 19 (by decide)).at (d := 37) rfl rfl rfl
    have s38 := (hk 20 (by decide)).at (d := 38) rfl rfl rfl
    have s39 := (hk 21 (by decide)).at (d := 39) rfl rfl rfl
    have s40 := (hk 22 (by decide)).at (d := 40) rfl rfl rfl
    have s7 := (hk 23 (by decide)).at (d := 7) rfl rfl rfl
    have hlit := hS.lit _ (by kernel_rfl) (lits_cons s18 (lits_cons s19 (lits_cons s20 (lits_cons s21 (lits_cons s22 (lits_cons s23 (lits_cons s24 (lits_cons s25 (lits_cons s26 (lits_cons s27 (lits_cons s28 (lits_cons s29 (lits_cons s30 (lits_cons s31 (lits_cons s32 (lits_cons s33 (lits_cons s34 (lits_cons s35 (lits_cons s36 (lits_cons s37 (lits_cons s38 (lits_cons s39 (lits_cons s40 (lits_cons s7 lits_nil))))))))))))))))))))))))
    rw [hlit]
    clear hlit hk hS s18 s19 s20 s21 s22 s23 s24 s25 s26 s27 s28 s29 s30 s31 s32 s33 s34 s35 s36 s37 s38 s39 s40 s7
    simp only [litT, List.setIfInBounds_toArray, List.set_cons_succ, List.set_cons_zero]
    go_wp2_with fail
    apply wp_region_looseG g (V := [some _, some _, some _, some _, some _, some _, some _, some _, some _, some _, some _, some _, some _, some _, some _, some _, some _, some _, some _, some _, some _, some _, some _, some _, some _, some _]) (Fs := []) (Rel := fun _ w w' => Below w.heap.size w w')
    case hm => kernel_rfl
    case hB => kernel_rfl
    case hCw => exact hstart _
    case hC =>
      rintro i uq w' hr
      exact HHI.out _ (below_to (HGU.out uq) (Nat.le_refl _) hr)
    case hst =>
      exact keeps_nil
    case hop =>
      refine ⟨?_, ?_, ?_, ?_, ?_, ?_, ?_, ?_, ?_, ?_, ?_, ?_, ?_, ?_, ?_, ?_, ?_, ?_, ?_, ?_, ?_, ?_, ?_, ?_, ?_, ?_, trivial⟩
      · intro a uq K hS hd hK
        have s7 := hS.at 7 (by kernel_rfl) rfl
        rw [if_pos (want_free rfl)]
        go_simp
        exact hK _ _ (Below.refl _ _) (vok rfl) facts_nil
      · intro a uq K hS hd hK
        have s41 := (waits_on hd 0 (by kernel_rfl)).at (d := 41) rfl rfl rfl
        rw [if_pos (want_free rfl)]
        go_simp
        exact hK _ _ (Below.refl _ _) (vok rfl) facts_nil
      · intro a uq K hS hd hK
        have s42 := (waits_on hd 1 (by kernel_rfl)).at (d := 42) rfl rfl rfl
        rw [if_pos (want_free rfl)]
        go_simp
        exact hK _ _ (Below.refl _ _) (vok rfl) facts_nil
      · intro a uq K hS hd hK
        have s43 := (waits_on hd 2 (by kernel_rfl)).at (d := 43) rfl rfl rfl
        have s1 := hS.at 1 (by kernel_rfl) rfl
        rw [if_pos (want_yes rfl rfl rfl s43)]
        go_simp
        exact hK _ _ (Below.refl _ _) (vok rfl) facts_nil
      · intro a uq K hS hd hK
        have s43 := (waits_on hd 2 (by kernel_rfl)).at (d := 43) rfl rfl rfl
        have s44 := (waits_on hd 3 (by kernel_rfl)).at (d := 44) rfl rfl rfl
        rw [if_pos (want_yes rfl rfl rfl s43)]
        go_simp
        exact hK _ _ (Below.refl _ _) (vok rfl) facts_nil
      · intro a uq K hS hd hK
        have s43 := (waits_on hd 2 (by kernel_rfl)).at (d := 43) rfl rfl rfl
        have s45 := (waits_on hd 4 (by kernel_rfl)).at (d := 45) rfl rfl rfl
        rw [if_pos (want_yes rfl rfl rfl s43)]
        go_simp
        exact hK _ _ (Below.refl _ _) (vok rfl) facts_nil
      · intro a uq K hS hd hK
        have s43 := (waits_on hd 2 (by kernel_rfl)).at (d := 43) rfl rfl rfl
        have s46 := (waits_on hd 5 (by kernel_rfl)).at (d := 46) rfl rfl rfl
        rw [if_pos (want_yes rfl rfl rfl s43)]
        go_simp
        exact hK _ _ (Below.refl _ _) (vok rfl) facts_nil
      · intro a uq K hS hd hK
        have s43 := (waits_on hd 2 (by kernel_rfl)).at (d := 43) rfl rfl rfl
        have s47 := (waits_on hd 6 (by kernel_rfl)).at (d := 47) rfl rfl rfl
        rw [if_pos (want_free rfl)]
        go_simp
        exact hK _ _ (Below.refl _ _) (vok rfl) facts_nil
      · intro a uq K hS hd hK
        have s48 := (waits_on hd 7 (by kernel_rfl)).at (d := 48) rfl rfl rfl
        rw [if_pos (want_free rfl)]
        go_simp
        exact hK _ _ (Below.refl _ _) (vok rfl) facts_nil
      · intro a uq K hS hd hK
        have s49 := (waits_on hd 8 (by kernel_rfl)).at (d := 49) rfl rfl rfl
        have s1 := hS.at 1 (by kernel_rfl) rfl
        rw [if_pos (want_yes rfl rfl rfl s49)]
        go_simp
        exact hK _ _ (Below.refl _ _) (vok rfl) facts_nil
      · intro a uq K hS hd hK
        have s49 := (waits_on hd 8 (by kernel_rfl)).at (d := 49) rfl rfl rfl
        have s50 := (waits_on hd 9 (by kernel_rfl)).at (d := 50) rfl rfl rfl
        rw [if_pos (want_yes rfl rfl rfl s49)]
        go_simp
        exact hK _ _ (Below.refl _ _) (vok rfl) facts_nil
      · intro a uq K hS hd hK
        have s49 := (waits_on hd 8 (by kernel_rfl)).at (d := 49) rfl rfl rfl
        rw [if_pos (want_yes rfl rfl rfl s49)]
        go_simp
        with_reducible refine (CSY (g uq)).mono ?_
        rintro e w' ⟨rfl, hb⟩
        exact hK _ _ hb (vok rfl) facts_nil
      · intro a uq K hS hd hK
        have s49 := (waits_on hd 8 (by kernel_rfl)).at (d := 49) rfl rfl rfl
        have s52 := (waits_on hd 11 (by kernel_rfl)).at (d := 52) rfl rfl rfl
        rw [if_pos (want_yes rfl rfl rfl s49)]
        go_simp
        exact hK _ _ (Below.refl _ _) (vok rfl) facts_nil
      · intro a uq K hS hd hK
        have s49 := (waits_on hd 8 (by kernel_rfl)).at (d := 49) rfl rfl rfl
        have s51 := (waits_on hd 10 (by kernel_rfl)).at (d := 51) rfl rfl rfl
        have s53 := (waits_on hd 12 (by kernel_rfl)).at (d := 53) rfl rfl rfl
        rw [if_pos (want_yes rfl rfl rfl s49)]
        go_simp
        with_reducible refine (CTR (g uq)).mono ?_
        rintro e w' ⟨rfl, hb⟩
        exact hK _ _ hb (vok rfl) facts_nil
      · intro a uq K hS hd hK
        have s49 := (waits_on hd 8 (by kernel_rfl)).at (d := 49) rfl rfl rfl
        have s54 := (waits_on hd 13 (by kernel_rfl)).at (d := 54) rfl rfl rfl
        rw [if_pos (want_yes rfl rfl rfl s49)]
        go_simp
        exact hK _ _ (Below.refl _ _) (vok rfl) facts_nil
      · intro a uq K hS hd hK
        have s49 := (waits_on hd 8 (by kernel_rfl)).at (d := 49) rfl rfl rfl
        have s55 := (waits_on hd 14 (by kernel_rfl)).at (d := 55) rfl rfl rfl
        rw [if_pos (want_free rfl)]
        go_simp
        exact hK _ _ (Below.refl _ _) (vok rfl) facts_nil
      · intro a uq K hS hd hK
        have s56 := (waits_on hd 15 (by kernel_rfl)).at (d := 56) rfl rfl rfl
        rw [if_pos (want_free rfl)]
        go_simp
        exact hK _ _ (Below.refl _ _) (vok rfl) facts_nil
      · intro a uq K hS hd hK
        have s57 := (waits_on hd 16 (by kernel_rfl)).at (d := 57) rfl rfl rfl
        have s1 := hS.at 1 (by kernel_rfl) rfl
        rw [if_pos (want_yes rfl rfl rfl s57)]
        go_simp
        exact hK _ _ (Below.refl _ _) (vok rfl) facts_nil
      · intro a uq K hS hd hK
        have s57 := (waits_on hd 16 (by kernel_rfl)).at (d := 57) rfl rfl rfl
        have s58 := (waits_on hd 17 (by kernel_rfl)).at (d := 58) rfl rfl rfl
        rw [if_pos (want_yes rfl rfl rfl s57)]
        go_simp
        exact hK _ _ (Below.refl _ _) (vok rfl) facts_nil
      · intro a uq K hS hd hK
        have s57 := (waits_on hd 16 (by kernel_rfl)).at (d := 57) rfl rfl rfl
        have s59 := (waits_on hd 18 (by kernel_rfl)).at (d := 59) rfl rfl rfl
        rw [if_pos (want_yes rfl rfl rfl s57)]
        go_simp
        exact hK _ _ (Below.refl _ _) (vok rfl) facts_nil
      · intro a uq K hS hd hK
        have s57 := (waits_on hd 16 (by kernel_rfl)).at (d := 57) rfl rfl rfl
        have s60 := (waits_on hd 19 (by kernel_rfl)).at (d := 60) rfl rfl rfl
        rw [if_pos (want_free rfl)]
        go_simp
        exact hK _ _ (Below.refl _ _) (vok rfl) facts_nil
      · intro a uq K hS hd hK
        have s61 := (waits_on hd 20 (by kernel_rfl)).at (d := 61) rfl rfl rfl
        rw [if_pos (want_free rfl)]
        go_simp
        exact hK _ _ (Below.refl _ _) (vok rfl) facts_nil
      · intro a uq K hS hd hK
        have s62 := (waits_on hd 21 (by kernel_rfl)).at (d := 62) rfl rfl rfl
        have s1 := hS.at 1 (by kernel_rfl) rfl
        rw [if_pos (want_yes rfl rfl rfl s62)]
        go_simp
        exact hK _ _ (Below.refl _ _) (vok rfl) facts_nil
      · intro a uq K hS hd hK
        have s62 := (waits_on hd 21 (by kernel_rfl)).at (d := 62) rfl rfl rfl
        have s63 := (waits_on hd 22 (by kernel_rfl)).at (d := 63) rfl rfl rfl
        rw [if_pos (want_yes rfl rfl rfl s62)]
        go_simp
        exact hK _ _ (Below.refl _ _) (vok rfl) facts_nil
      · intro a uq K hS hd hK
        have s62 := (waits_on hd 21 (by kernel_rfl)).at (d := 62) rfl rfl rfl
        have s64 := (waits_on hd 23 (by kernel_rfl)).at (d := 64) rfl rfl rfl
        rw [if_pos (want_yes rfl rfl rfl s62)]
        go_simp
        exact hK _ _ (Below.refl _ _) (vok rfl) facts_nil
      · intro a uq K hS hd hK
        have s62 := (waits_on hd 21 (by kernel_rfl)).at (d := 62) rfl rfl rfl
        have s65 := (waits_on hd 24 (by kernel_rfl)).at (d := 65) rfl rfl rfl
        rw [if_pos (want_free rfl)]
        go_simp
        exact hK _ _ (Below.refl _ _) (vok rfl) facts_nil
    case hfin =>
      intro a uq hS hk
      have s41 := (hk 0 (by decide)).at (d := 41) rfl rfl rfl
      have s42 := (hk 1 (by decide)).at (d := 42) rfl rfl rfl
      have s43 := (hk 2 (by decide)).at (d := 43) rfl rfl rfl
      have s44 := (hk 3 (by decide)).at (d := 44) rfl rfl rfl
      have s45 := (hk 4 (by decide)).at (d := 45) rfl rfl rfl
      have s46 := (hk 5 (by decide)).at (d := 46) rfl rfl rfl
      have s47 := (hk 6 (by decide)).at (d := 47) rfl rfl rfl
      have s48 := (hk 7 (by decide)).at (d := 48) rfl rfl rfl
      have s49 := (hk 8 (by decide)).at (d := 49) rfl rfl rfl
      have s50 := (hk 9 (by decide)).at (d := 50) rfl rfl rfl
      have s51 := (hk 10 (by decide)).at (d := 51) rfl rfl rfl
      have s52 := (hk 11 (by decide)).at (d := 52) rfl rfl rfl
      have s53 := (hk 12 (by decide)).at (d := 53) rfl rfl rfl
      have s54 := (hk 13 (by decide)).at (d := 54) rfl rfl rfl
      have s55 := (hk 14 (by decide)).at (d := 55) rfl rfl rfl
      have s56 := (hk 15 (by decide)).at (d := 56) rfl rfl rfl
      have s57 := (hk 16 (by decide)).at (d := 57) rfl rfl rfl
      have s58 := (hk 17 (by decide)).at (d := 58) rfl rfl rfl
      have s59 := (hk 18 (by decide)).at (d := 59) rfl rfl rfl
      have s60 := (hk 19 (by decide)).at (d := 60) rfl rfl rfl
      have s61 := (hk 20 (by decide)).at (d := 61) rfl rfl rfl
      have s62 := (hk 21 (by decide)).at (d := 62) rfl rfl rfl
      have s63 := (hk 22 (by decide)).at (d := 63) rfl rfl rfl
      have s64 := (hk 23 (by decide)).at (d := 64) rfl rfl rfl
      have s65 := (hk 24 (by decide)).at (d := 65) rfl rfl rfl
      have s66 := (hk 25 (by decide)).at (d := 66) rfl rfl rfl
      have hlit := hS.lit _ (by kernel_rfl) (lits_cons s41 (lits_cons s42 (lits_cons s43 (lits_cons s44 (lits_cons s45 (lits_cons s46 (lits_cons s47 (lits_cons s48 (lits_cons s49 (lits_cons s50 (lits_cons s51 (lits_cons s52 (lits_cons s53 (lits_cons s54 (lits_cons s55 (lits_cons s56 (lits_cons s57 (lits_cons s58 (lits_cons s59 (lits_cons s60 (lits_cons s61 (lits_cons s62 (lits_cons s63 (lits_cons s64 (lits_cons s65 (lits_cons s66 lits_nil))))))))))))))))))))))))))
      rw [hlit]
      clear hlit hk hS s41 s42 s43 s44 s45 s46 s47 s48 s49 s50 s51 s52 s53 s54 s55 s56 s57 s58 s59 s60 s61 s62 s63 s64 s65 s66
      simp only [litT, List.setIfInBounds_toArray, List.set_cons_succ, List.set_cons_zero]
      go_wp2_with fail
      have HR5 := hide (Blk.new (g uq) 3 #[.int .i64 o, .int .i64 h])
      have HB5 := hide (below_alloc (below_to HB2.out (Nat.le_refl _) (HGU.out uq)) (Nat.le_refl _) (.cells #[.int .i64 o, .int .i64 h] 3))
      generalize (g uq).alloc (.cells #[.int .i64 o, .int .i64 h] 3) = w5 at *
      generalize (g uq).heap.size = rb at *
      clear x0 x1 x2 x3 x4 t0 t3 HGU HHI hstart CSY CTR h36 hsy hemp
      go_loopw [9, 73] (fun _ i wr => ∃ k : Nat, k ≤ 1 ∧ i = .int .i64 (k : Int) ∧ w5 = wr) (fun _ i _ => 2 - (intOf i).toNat)
      case atStart => exact ⟨0, by omega, rfl, rfl⟩
      case round =>
        obtain ⟨k, hk, rfl, rfl⟩ := hrel
        have c0 := HR5.out.cell 0
        have c1 := HR5.out.cell 1
        rcases (by omega : k = 0 ∨ k = 1) with rfl | rfl
        · go_wp2_with fail
          refine ⟨⟨1, by omega, by go_num, (by first | rfl | trivial)⟩, ?_⟩
          simp [intOf]
        · go_wp2_with fail
          go_ret2
          exact ⟨rfl, HB5.out⟩
end Go.Proofs.YtldicibhfmnjnaaGreatDoor
