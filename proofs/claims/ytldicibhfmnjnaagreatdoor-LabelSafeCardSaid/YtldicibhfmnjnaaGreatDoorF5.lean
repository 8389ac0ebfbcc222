/- Walk of chapter 46: LabelSafe. -/
import Derived.Test.YtldicibhfmnjnaaGreatDoorF4
import Derived.Test.YtldicibhfmnjnaaGreatDoorE4
set_option linter.unusedVariables false
set_option linter.unusedSimpArgs false
namespace Go.Proofs.YtldicibhfmnjnaaGreatDoor
open Go.RowKit

def SafI {U : Type} (g : U → World) (wr : World) (i : Value) : Prop := ∃ (k : Nat) (u : U), k ≤ 2 ∧ i = .int .i64 (k : Int) ∧ wr = g u
set_option maxRecDepth 100000 in
set_option maxHeartbeats 8000000 in
theorem safe_any (ad : List UInt8) (hl : ad.length ≤ 140737488355328) (ao az ah : Int) (ab : Bool) (a b c f : Nat) (ha : a < 256) (hb : b < 256) (hc : c < 256) (hf : f < 256) (w : World) (hg : Glob w) :
    Calls Tryz.prog 10 #[lval ad ao az ah ab, .int .u8 (a : Int), .int .u8 (b : Int), .int .u8 (c : Int), .int .u8 (f : Int)] w fun e w' => e = .returned (.bool true) ∧ Below w.heap.size w w' := by
  have CH := fun w hg => head_any w hg
  have hbe : (bs []).toList.isEmpty = true := by rw [bs_toList]; rfl
  have HB0 := hide (below_one w (.cells #[.string (bs ad), .int .i64 ao, .int .i64 az, .int .i64 ah, .bool ab] 23))
  have HG0 := hide (hg.alloc (.cells #[.string (bs ad), .int .i64 ao, .int .i64 az, .int .i64 ah, .bool ab] 23))
  have HA0 := hide (Blk.new w 23 #[.string (bs ad), .int .i64 ao, .int .i64 az, .int .i64 ah, .bool ab])
  clear hg
  unfold lval
  go_enter Tryz.func10, Tryz.ntmps10
  go_wp2_with fail
  generalize w.alloc (.cells #[.string (bs ad), .int .i64 ao, .int .i64 az, .int .i64 ah, .bool ab] 23) = w1 at *
  obtain ⟨b1, hb1⟩ : ∃ b, Hid (w.heap.size = b) := ⟨_, rfl⟩
  rw [hb1.out] at HA0 ⊢
  refine (CH _ HG0.out).mono ?_
  rintro e w2 ⟨rfl, hb'⟩
  have HB2 := hide (below_to HB0.out (Nat.le_refl _) hb')
  have HG2 := hide (HG0.out.to hb')
  have HA2 := hide (HA0.out.to hb')
  clear hb' CH HB0 HG0 HA0
  obtain ⟨U, hU, g, u0, rfl, hgu, hi⟩ := cls w2
  have a0 := blk_all hgu HA2.out 0 rfl
  have a1 := blk_all hgu HA2.out 1 rfl
  have a2 := blk_all hgu HA2.out 2 rfl
  have a3 := blk_all hgu HA2.out 3 rfl
  have a4 := blk_all hgu HA2.out 4 rfl
  have HGU := hide hgu
  have PA := cls_call hgu hi (fun w hb => Pack_any ad hl ao az ah ab w (HG2.out.to hb))
  unfold lval at PA
  cases gA : goodL ad ao az ah with
  | false =>
    have eA : pkE ad ao az ah = 1 := by unfold pkE; rw [gA]; rfl
    have eP : pkP ad ao az ah ab = [] := by unfold pkP; rw [gA]; rfl
    rw [eA, eP] at PA
    clear eA eP gA hgu hi
    go_wp2_with (first | ((with_reducible refine (PA _).mono ?_); rintro e' w' ⟨rfl, uz, rfl⟩))
    go_ret
    exact ⟨rfl, below_to HB2.out (Nat.le_refl _) (HGU.out _)⟩
  | true =>
    have eA : pkE ad ao az ah = 0 := by unfold pkE; rw [gA]; rfl
    have eP : pkP ad ao az ah ab = packP ad ao az ah ab := by unfold pkP; rw [gA]; rfl
    rw [eA, eP] at PA
    clear eA eP
    obtain ⟨p1, p2, p3, p4, p5, p6⟩ := pack_parts (b := ab) gA
    have h12 := (good_facts gA).2.1
    have UA := fun w hg => Unpack_any (packP ad ao az ah ab) (by omega) w hg
    have eV : unV (packP ad ao az ah ab) = .agg #[.string (bs ad), .int .i64 ao, .int .i64 az, .int .i64 ah, .bool ab] := by unfold unV; rw [un_of_pack gA, if_pos rfl, p2, p3, p4, p5, p6, show az + 1 - 1 = az by omega]; rfl
    have eE : unE (packP ad ao az ah ab) = 0 := by unfold unE; rw [un_of_pack gA]; rfl
    rw [eV, eE] at UA
    have U0 : ∀ w, Glob w → Calls Tryz.prog 14 #[.string (bs [])] w fun e w' => e = .returned (.tuple #[.agg #[.string ⟨#[]⟩, .int .i64 0, .int .i64 0, .int .i64 0, .bool false], .int .i64 5]) ∧ Below w.heap.size w w' := fun w hg => Unpack_any [] (by simp) w hg
    have WA := fun w => Write_any (packP ad ao az ah ab) (by omega) w
    have HCAN := hide (pack_can (b := ab) gA)
    rw [(write_ok HCAN.out).1, (write_ok HCAN.out).2] at WA
    have qn := lne_no ad ao az ah ab
    have hpl : (packP ad ao az ah ab).length ≤ 34 := by omega
    clear p1 p2 p3 p4 p5 p6 eV eE gA h12
    generalize packP ad ao az ah ab = p at *
    have hzs : (bs (prt p)).size = p.length + 2 := by rw [bs_size, prt_len]
    have WAg := cls_call hgu hi (fun w _ => WA w)
    obtain ⟨i, hi1⟩ : ∃ i, a % (p.length + 2) = i := ⟨_, rfl⟩
    obtain ⟨j, hj1⟩ : ∃ j, b % (p.length + 2) = j := ⟨_, rfl⟩
    obtain ⟨m, hm1⟩ : ∃ m, c % (p.length + 2) = m := ⟨_, rfl⟩
    obtain ⟨k, hk1⟩ : ∃ k, f % 37 = k := ⟨_, rfl⟩
    have il : i < (prt p).length := by rw [prt_len, ← hi1]; exact Nat.mod_lt _ (by omega)
    have jl : j < (prt p).length := by rw [prt_len, ← hj1]; exact Nat.mod_lt _ (by omega)
    have ml : m < (prt p).length := by rw [prt_len, ← hm1]; exact Nat.mod_lt _ (by omega)
    have kl : k < 37 := by omega
    have hi2 : (a : Int).tmod ((p.length : Int) + 2) = (i : Int) := by rw [Int.tmod_eq_emod_of_nonneg (by omega), ← hi1, Int.natCast_emod]; rfl
    have wa := w64 (x := (a : Int)) (by omega) (by omega)
    have hj2 : (b : Int).tmod ((p.length : Int) + 2) = (j : Int) := by rw [Int.tmod_eq_emod_of_nonneg (by omega), ← hj1, Int.natCast_emod]; rfl
    have wb := w64 (x := (b : Int)) (by omega) (by omega)
    have hm2 : (c : Int).tmod ((p.length : Int) + 2) = (m : Int) := by rw [Int.tmod_eq_emod_of_nonneg (by omega), ← hm1, Int.natCast_emod]; rfl
    have wc := w64 (x := (c : Int)) (by omega) (by omega)
    have hk2 : (f : Int).tmod 37 = (k : Int) := by rw [Int.tmod_eq_emod_of_nonneg (by omega), ← hk1, Int.natCast_emod]; rfl
    have wf := w64 (x := (f : Int)) (by omega) (by omega)
    have pl : (prt p).length ≤ 36 := by rw [prt_len]; omega
    obtain ⟨d, hd, hds⟩ := symT_w k kl
    have cs : ∀ w, (Instr.index 9 (.string ⟨#[48, 49, 50, 51, 52, 53, 54, 55, 56, 57, 97, 98, 99, 100, 101, 102, 103, 104, 105, 106, 107, 108, 109, 110, 111, 112, 113, 114, 115, 116, 117, 118, 119, 120, 121, 122, 45]⟩) (.int .i64 (k : Int))).run Tryz.prog w = .ok (.int .u8 (d.toNat : Int)) w := index_bs symT k d hd
    obtain ⟨x, hx⟩ : ∃ x, (prt p)[i]? = some x := ⟨_, List.getElem?_eq_getElem il⟩
    have W1 : ∀ w, Calls Tryz.prog 20 #[.string (bs (prt p)), .int .i64 (i : Int), .int .u8 (d.toNat : Int)] w fun e w' => e = .returned (.string (bs ((prt p).set i d))) ∧ Below w.heap.size w w' := fun w => with_any (prt p) i d il (by omega) w
    have W2 : ∀ w, Calls Tryz.prog 20 #[.string (bs (prt p)), .int .i64 (j : Int), .int .u8 63] w fun e w' => e = .returned (.string (bs ((prt p).set j 63))) ∧ Below w.heap.size w w' := fun w => with_any (prt p) j 63 jl (by omega) w
    have W3 : ∀ w, Calls Tryz.prog 20 #[.string (bs ((prt p).set j 63)), .int .i64 (m : Int), .int .u8 63] w fun e w' => e = .returned (.string (bs (((prt p).set j 63).set m 63))) ∧ Below w.heap.size w w' := fun w => with_any ((prt p).set j 63) m 63 (by simpa using ml) (by simp; omega) w
    have R1 := fun w => Read_any ((prt p).set i d) (by simp; omega) w
    have R2 := fun w => Read_any (((prt p).set j 63).set m 63) (by simp; omega) w
    rw [(un_two HCAN.out j m).1, (un_two HCAN.out j m).2] at R2
    have HD : Hid (d ≠ x → readE ((prt p).set i d) = 20 ∧ readP ((prt p).set i d) = []) := fun h => wr_ne HCAN.out i il hds (by rw [hx]; intro h'; exact h (Option.some.inj h').symm)
    have HE : Hid (d = x → readE ((prt p).set i d) = 0 ∧ readP ((prt p).set i d) = p) := fun h => by subst h; rw [set_same hx]; exact read_prt HCAN.out
    clear il jl ml pl kl hx hds hd hi1 hj1 hm1 hk1 HCAN WA
    generalize readE ((prt p).set i d) = E1 at *
    generalize readP ((prt p).set i d) = P1 at *
    generalize bs (((prt p).set j 63).set m 63) = S3 at *
    generalize bs ((prt p).set j 63) = S2 at *
    generalize bs ((prt p).set i d) = S1 at *
    generalize bs (prt p) = S0 at *
    have HHI := hide hi
    go_wp2_with (first | ((with_reducible refine (PA _).mono ?_); rintro e' w' ⟨rfl, uz, rfl⟩) | ((with_reducible refine (WAg _).mono ?_); rintro e' w' ⟨rfl, uz, rfl⟩))
    apply wp_region_looseG g (V := [some _, some _, some _, some _, some _, some _, some _, some _, some _, some _, some _, some _, some _, some _, some _, some _, some _, some _, some _, some _, some _, some _, some _, some _, none, none]) (Fs := [(24, RowIs 9 67 2 #[.string S1, .string S3]), (25, RowIs 9 16 2 #[.string S1, .string S3])]) (Rel := fun _ w w' => Below w.heap.size w w')
    case hm => kernel_rfl
    case hB => kernel_rfl
    case hCw => exact hi _ (HGU.out _).drew
    case hC =>
      rintro i uq w' hr
      exact HHI.out _ (below_to (HGU.out uq) (Nat.le_refl _) hr)
    case hst =>
      refine keeps_cons (fun i a a' w w' hne hwt hs hr h => h.keep (hs 67 (by kernel_rfl)) (Or.inr hr)) ?_
      refine keeps_cons (fun i a a' w w' hne hwt hs hr h => h.keep (hs 16 (by kernel_rfl)) (Or.inr hr)) ?_
      exact keeps_nil
    case hop =>
      refine ⟨?_, ?_, ?_, ?_, ?_, ?_, ?_, ?_, ?_, ?_, ?_, ?_, ?_, ?_, ?_, ?_, ?_, ?_, ?_, ?_, ?_, ?_, ?_, ?_, ?_, ?_, trivial⟩
      · intro a uq K hS hd hK
        have s14 := hS.at 14 (by kernel_rfl) rfl
        rw [if_pos (want_free rfl)]
        go_simp
        exact hK _ _ (Below.refl _ _) (vok rfl) (facts_cons (fun h => absurd h (by decide)) (facts_cons (fun h => absurd h (by decide)) facts_nil))
      · intro a uq K hS hd hK
        have s1 := hS.at 1 (by kernel_rfl) rfl
        rw [if_pos (want_free rfl)]
        go_simp
        exact hK _ _ (Below.refl _ _) (vok rfl) (facts_cons (fun h => absurd h (by decide)) (facts_cons (fun h => absurd h (by decide)) facts_nil))
      · intro a uq K hS hd hK
        have s44 := (waits_on hd 1 (by kernel_rfl)).at (d := 44) rfl rfl rfl
        rw [if_pos (want_free rfl)]
        go_simp
        exact hK _ _ (Below.refl _ _) (vok rfl) (facts_cons (fun h => absurd h (by decide)) (facts_cons (fun h => absurd h (by decide)) facts_nil))
      · intro a uq K hS hd hK
        have s14 := hS.at 14 (by kernel_rfl) rfl
        rw [if_pos (want_free rfl)]
        go_simp
        exact hK _ _ (Below.refl _ _) (vok rfl) (facts_cons (fun h => absurd h (by decide)) (facts_cons (fun h => absurd h (by decide)) facts_nil))
      · intro a uq K hS hd hK
        have s46 := (waits_on hd 3 (by kernel_rfl)).at (d := 46) rfl rfl rfl
        rw [if_pos (want_free rfl)]
        go_simp
        exact hK _ _ (Below.refl _ _) (vok rfl) (facts_cons (fun h => absurd h (by decide)) (facts_cons (fun h => absurd h (by decide)) facts_nil))
      · intro a uq K hS hd hK
        have s45 := (waits_on hd 2 (by kernel_rfl)).at (d := 45) rfl rfl rfl
        have s47 := (waits_on hd 4 (by kernel_rfl)).at (d := 47) rfl rfl rfl
        rw [if_pos (want_free rfl)]
        go_simp
        exact hK _ _ (Below.refl _ _) (vok rfl) (facts_cons (fun h => absurd h (by decide)) (facts_cons (fun h => absurd h (by decide)) facts_nil))
      · intro a uq K hS hd hK
        have s4 := hS.at 4 (by kernel_rfl) rfl
        rw [if_pos (want_free rfl)]
        go_simp
        exact hK _ _ (Below.refl _ _) (vok rfl) (facts_cons (fun h => absurd h (by decide)) (facts_cons (fun h => absurd h (by decide)) facts_nil))
      · intro a uq K hS hd hK
        have s49 := (waits_on hd 6 (by kernel_rfl)).at (d := 49) rfl rfl rfl
        rw [if_pos (want_free rfl)]
        go_simp
        exact hK _ _ (Below.refl _ _) (vok rfl) (facts_cons (fun h => absurd h (by decide)) (facts_cons (fun h => absurd h (by decide)) facts_nil))
      · intro a uq K hS hd hK
        have s50 := (waits_on hd 7 (by kernel_rfl)).at (d := 50) rfl rfl rfl
        rw [if_pos (want_free rfl)]
        go_simp
        exact hK _ _ (Below.refl _ _) (vok rfl) (facts_cons (fun h => absurd h (by decide)) (facts_cons (fun h => absurd h (by decide)) facts_nil))
      · intro a uq K hS hd hK
        have s51 := (waits_on hd 8 (by kernel_rfl)).at (d := 51) rfl rfl rfl
        rw [if_pos (want_free rfl)]
        go_simp
        exact hK _ _ (Below.refl _ _) (vok rfl) (facts_cons (fun h => absurd h (by decide)) (facts_cons (fun h => absurd h (by decide)) facts_nil))
      · intro a uq K hS hd hK
        have s43 := (waits_on hd 0 (by kernel_rfl)).at (d := 43) rfl rfl rfl
        have s48 := (waits_on hd 5 (by kernel_rfl)).at (d := 48) rfl rfl rfl
        have s52 := (waits_on hd 9 (by kernel_rfl)).at (d := 52) rfl rfl rfl
        rw [if_pos (want_free rfl)]
        go_simp
        with_reducible refine (W1 (g uq)).mono ?_
        rintro e w' ⟨rfl, hb⟩
        exact hK _ _ hb (vok rfl) (facts_cons (fun h => absurd h (by decide)) (facts_cons (fun h => absurd h (by decide)) facts_nil))
      · intro a uq K hS hd hK
        have s14 := hS.at 14 (by kernel_rfl) rfl
        rw [if_pos (want_free rfl)]
        go_simp
        exact hK _ _ (Below.refl _ _) (vok rfl) (facts_cons (fun h => absurd h (by decide)) (facts_cons (fun h => absurd h (by decide)) facts_nil))
      · intro a uq K hS hd hK
        have s2 := hS.at 2 (by kernel_rfl) rfl
        rw [if_pos (want_free rfl)]
        go_simp
        exact hK _ _ (Below.refl _ _) (vok rfl) (facts_cons (fun h => absurd h (by decide)) (facts_cons (fun h => absurd h (by decide)) facts_nil))
      · intro a uq K hS hd hK
        have s55 := (waits_on hd 12 (by kernel_rfl)).at (d := 55) rfl rfl rfl
        rw [if_pos (want_free rfl)]
        go_simp
        exact hK _ _ (Below.refl _ _) (vok rfl) (facts_cons (fun h => absurd h (by decide)) (facts_cons (fun h => absurd h (by decide)) facts_nil))
      · intro a uq K hS hd hK
        have s14 := hS.at 14 (by kernel_rfl) rfl
        rw [if_pos (want_free rfl)]
        go_simp
        exact hK _ _ (Below.refl _ _) (vok rfl) (facts_cons (fun h => absurd h (by decide)) (facts_cons (fun h => absurd h (by decide)) facts_nil))
      · intro a uq K hS hd hK
        have s57 := (waits_on hd 14 (by kernel_rfl)).at (d := 57) rfl rfl rfl
        rw [if_pos (want_free rfl)]
        go_simp
        exact hK _ _ (Below.refl _ _) (vok rfl) (facts_cons (fun h => absurd h (by decide)) (facts_cons (fun h => absurd h (by decide)) facts_nil))
      · intro a uq K hS hd hK
        have s56 := (waits_on hd 13 (by kernel_rfl)).at (d := 56) rfl rfl rfl
        have s58 := (waits_on hd 15 (by kernel_rfl)).at (d := 58) rfl rfl rfl
        rw [if_pos (want_free rfl)]
        go_simp
        exact hK _ _ (Below.refl _ _) (vok rfl) (facts_cons (fun h => absurd h (by decide)) (facts_cons (fun h => absurd h (by decide)) facts_nil))
      · intro a uq K hS hd hK
        have s54 := (waits_on hd 11 (by kernel_rfl)).at (d := 54) rfl rfl rfl
        have s59 := (waits_on hd 16 (by kernel_rfl)).at (d := 59) rfl rfl rfl
        rw [if_pos (want_free rfl)]
        go_simp
        with_reducible refine (W2 (g uq)).mono ?_
        rintro e w' ⟨rfl, hb⟩
        exact hK _ _ hb (vok rfl) (facts_cons (fun h => absurd h (by decide)) (facts_cons (fun h => absurd h (by decide)) facts_nil))
      · intro a uq K hS hd hK
        have s3 := hS.at 3 (by kernel_rfl) rfl
        rw [if_pos (want_free rfl)]
        go_simp
        exact hK _ _ (Below.refl _ _) (vok rfl) (facts_cons (fun h => absurd h (by decide)) (facts_cons (fun h => absurd h (by decide)) facts_nil))
      · intro a uq K hS hd hK
        have s61 := (waits_on hd 18 (by kernel_rfl)).at (d := 61) rfl rfl rfl
        rw [if_pos (want_free rfl)]
        go_simp
        exact hK _ _ (Below.refl _ _) (vok rfl) (facts_cons (fun h => absurd h (by decide)) (facts_cons (fun h => absurd h (by decide)) facts_nil))
      · intro a uq K hS hd hK
        have s14 := hS.at 14 (by kernel_rfl) rfl
        rw [if_pos (want_free rfl)]
        go_simp
        exact hK _ _ (Below.refl _ _) (vok rfl) (facts_cons (fun h => absurd h (by decide)) (facts_cons (fun h => absurd h (by decide)) facts_nil))
      · intro a uq K hS hd hK
        have s63 := (waits_on hd 20 (by kernel_rfl)).at (d := 63) rfl rfl rfl
        rw [if_pos (want_free rfl)]
        go_simp
        exact hK _ _ (Below.refl _ _) (vok rfl) (facts_cons (fun h => absurd h (by decide)) (facts_cons (fun h => absurd h (by decide)) facts_nil))
      · intro a uq K hS hd hK
        have s62 := (waits_on hd 19 (by kernel_rfl)).at (d := 62) rfl rfl rfl
        have s64 := (waits_on hd 21 (by kernel_rfl)).at (d := 64) rfl rfl rfl
        rw [if_pos (want_free rfl)]
        go_simp
        exact hK _ _ (Below.refl _ _) (vok rfl) (facts_cons (fun h => absurd h (by decide)) (facts_cons (fun h => absurd h (by decide)) facts_nil))
      · intro a uq K hS hd hK
        have s60 := (waits_on hd 17 (by kernel_rfl)).at (d := 60) rfl rfl rfl
        have s65 := (waits_on hd 22 (by kernel_rfl)).at (d := 65) rfl rfl rfl
        rw [if_pos (want_free rfl)]
        go_simp
        with_reducible refine (W3 (g uq)).mono ?_
        rintro e w' ⟨rfl, hb⟩
        exact hK _ _ hb (vok rfl) (facts_cons (fun h => absurd h (by decide)) (facts_cons (fun h => absurd h (by decide)) facts_nil))
      · intro a uq K hS hd hK
        have s53 := (waits_on hd 10 (by kernel_rfl)).at (d := 53) rfl rfl rfl
        have s66 := (waits_on hd 23 (by kernel_rfl)).at (d := 66) rfl rfl rfl
        rw [if_pos (want_free rfl)]
        go_simp
        exact hK _ _ (below_one _ _) (vfree rfl) (facts_cons (fun _ => ⟨_, hS.put_at (by kernel_rfl) _, Blk.new _ _ _⟩) (facts_cons (fun h => absurd h (by decide)) facts_nil))
      · intro a uq K hS hd hK
        obtain ⟨b67, s67, r67⟩ := (waits_on hd 24 (by kernel_rfl)).2 _ (List.mem_cons_self ..) rfl
        rw [if_pos (want_free rfl)]
        go_simp
        exact hK _ _ (Below.refl _ _) (vfree rfl) (facts_cons (fun h => absurd h (by decide)) (facts_cons (fun _ => ⟨b67, hS.put_at (by kernel_rfl) _, r67⟩) facts_nil))
    case hfin =>
      intro a uq hS hk
      have s43 := (hk 0 (by decide)).at (d := 43) rfl rfl rfl
      have s44 := (hk 1 (by decide)).at (d := 44) rfl rfl rfl
      have s45 := (hk 2 (by decide)).at (d := 45) rfl rfl rfl
      have s46 := (hk 3 (by decide)).at (d := 46) rfl rfl rfl
      have s47 := (hk 4 (by decide)).at (d := 47) rfl rfl rfl
      have s48 := (hk 5 (by decide)).at (d := 48) rfl rfl rfl
      have s49 := (hk 6 (by decide)).at (d := 49) rfl rfl rfl
      have s50 := (hk 7 (by decide)).at (d := 50) rfl rfl rfl
      have s51 := (hk 8 (by decide)).at (d := 51) rfl rfl rfl
      have s52 := (hk 9 (by decide)).at (d := 52) rfl rfl rfl
      have s53 := (hk 10 (by decide)).at (d := 53) rfl rfl rfl
      have s54 := (hk 11 (by decide)).at (d := 54) rfl rfl rfl
      have s55 := (hk 12 (by decide)).at (d := 55) rfl rfl rfl
      have s56 := (hk 13 (by decide)).at (d := 56) rfl rfl rfl
      have s57 := (hk 14 (by decide)).at (d := 57) rfl rfl rfl
      have s58 := (hk 15 (by decide)).at (d := 58) rfl rfl rfl
      have s59 := (hk 16 (by decide)).at (d := 59) rfl rfl rfl
      have s60 := (hk 17 (by decide)).at (d := 60) rfl rfl rfl
      have s61 := (hk 18 (by decide)).at (d := 61) rfl rfl rfl
      have s62 := (hk 19 (by decide)).at (d := 62) rfl rfl rfl
      have s63 := (hk 20 (by decide)).at (d := 63) rfl rfl rfl
      have s64 := (hk 21 (by decide)).at (d := 64) rfl rfl rfl
      have s65 := (hk 22 (by decide)).at (d := 65) rfl rfl rfl
      have s66 := (hk 23 (by decide)).at (d := 66) rfl rfl rfl
      obtain ⟨b67, s67, r67⟩ := (hk 24 (by decide)).2 _ (List.mem_cons_self ..) rfl
      obtain ⟨b16, s16, r16⟩ := (hk 25 (by decide)).2 _ (List.mem_cons_of_mem _ (List.mem_cons_self ..)) rfl
      have hlit := hS.lit _ (by kernel_rfl) (lits_cons s43 (lits_cons s44 (lits_cons s45 (lits_cons s46 (lits_cons s47 (lits_cons s48 (lits_cons s49 (lits_cons s50 (lits_cons s51 (lits_cons s52 (lits_cons s53 (lits_cons s54 (lits_cons s55 (lits_cons s56 (lits_cons s57 (lits_cons s58 (lits_cons s59 (lits_cons s60 (lits_cons s61 (lits_cons s62 (lits_cons s63 (lits_cons s64 (lits_cons s65 (lits_cons s66 (lits_cons s67 (lits_cons s16 lits_nil))))))))))))))))))))))))))
      rw [hlit]
      clear hlit hk hS s43 s44 s45 s46 s47 s48 s49 s50 s51 s52 s53 s54 s55 s56 s57 s58 s59 s60 s61 s62 s63 s64 s65 s66 s67 s16
      simp only [litT, List.setIfInBounds_toArray, List.set_cons_succ, List.set_cons_zero]
      go_wp2_with fail
      have HRW := hide r16
      have HB3 := hide (below_to HB2.out (Nat.le_refl _) (HGU.out uq))
      have HG3 := hide (HG2.out.to (HGU.out uq))
      have HA3 := hide (HA2.out.to (HGU.out uq))
      clear a0 a1 a2 a3 a4 PA WAg W1 W2 W3 hgu hi HGU HHI HB2 HG2 HA2 r67 r16 cs wa wb wc wf hi2 hj2 hm2 hk2
      generalize g uq = w3 at *
      obtain ⟨U3, hU3, k, k0, rfl, hku, hki⟩ := cls w3
      have a0 := blk_all hku HA3.out 0 rfl
      have a1 := blk_all hku HA3.out 1 rfl
      have a2 := blk_all hku HA3.out 2 rfl
      have a3 := blk_all hku HA3.out 3 rfl
      have a4 := blk_all hku HA3.out 4 rfl
      have y0 := blk_all hku HRW.out 0 rfl
      have y1 := blk_all hku HRW.out 1 rfl
      have lu : ∀ u, b1 < (k u).heap.size := fun u => (HA3.out.to (hku u)).lt
      have nu : ∀ u, b1 ≠ (k u).heap.size := fun u => Nat.ne_of_lt (lu u)
      have HKU := hide hku
      have HKI := hide hki
      have R1k := cls_call hku hki (fun w _ => R1 w)
      have R2k := cls_call hku hki (fun w _ => R2 w)
      have UAk := cls_call hku hki (fun w hb => UA w (HG3.out.to hb))
      have U0k := cls_call hku hki (fun w hb => U0 w (HG3.out.to hb))
      clear R1 R2 UA U0 hku hki
      go_loopw [17, 18, 19, 20, 21] (fun i _ _ _ _ wr => SafI k wr i) (fun i _ _ _ _ _ => 2 - (intOf i).toNat)
      case atStart => exact ⟨0, k0, by omega, rfl, rfl⟩
      case round =>
        obtain ⟨n, u, hn, rfl, rfl⟩ := hrel
        rcases (by omega : n = 0 ∨ n = 1 ∨ n = 2) with rfl | rfl | rfl
        · by_cases h1 : d = x
          · obtain ⟨rfl, rfl⟩ := HE.out h1
            clear HD HE h1
            go_wp2_with (first | ((with_reducible refine (R1k _).mono ?_); rintro e' w' ⟨rfl, uz, rfl⟩) | ((with_reducible refine (UAk _).mono ?_); rintro e' w' ⟨rfl, uz, rfl⟩))
            refine ⟨?_, ?_⟩
            · repeat apply Exists.intro
              exact ⟨⟨1, _, by omega, by go_num, (HKI.out _ (below_alloc (HKU.out _) (Nat.le_refl _) _)).choose_spec⟩, rfl⟩
            · simp [intOf]
          · obtain ⟨rfl, rfl⟩ := HD.out h1
            clear HD HE h1
            go_wp2_with (first | ((with_reducible refine (R1k _).mono ?_); rintro e' w' ⟨rfl, uz, rfl⟩) | ((with_reducible refine (U0k _).mono ?_); rintro e' w' ⟨rfl, uz, rfl⟩))
            refine ⟨?_, ?_⟩
            · repeat apply Exists.intro
              exact ⟨⟨1, _, by omega, by go_num, (HKI.out _ (below_alloc (HKU.out _) (Nat.le_refl _) _)).choose_spec⟩, rfl⟩
            · simp [intOf]
        · clear HD HE
          go_wp2_with (first | ((with_reducible refine (R2k _).mono ?_); rintro e' w' ⟨rfl, uz, rfl⟩) | ((with_reducible refine (UAk _).mono ?_); rintro e' w' ⟨rfl, uz, rfl⟩))
          refine ⟨?_, ?_⟩
          · repeat apply Exists.intro
            exact ⟨⟨2, _, by omega, by go_num, (HKI.out _ (below_alloc (HKU.out _) (Nat.le_refl _) _)).choose_spec⟩, rfl⟩
          · simp [intOf]
        · go_wp2_with fail
          go_ret
          exact ⟨rfl, below_to HB3.out (Nat.le_refl _) (HKU.out _)⟩
end Go.Proofs.YtldicibhfmnjnaaGreatDoor
