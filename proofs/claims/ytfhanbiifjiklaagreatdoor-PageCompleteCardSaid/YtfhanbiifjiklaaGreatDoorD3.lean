/- Walks of the reference's Same. -/
import Derived.Test.YtfhanbiifjiklaaGreatDoorD2
import Derived.Test.YtfhanbiifjiklaaGreatDoorLoose
set_option linter.unusedVariables false
set_option linter.unusedSimpArgs false
namespace Go.Proofs.YtfhanbiifjiklaaGreatDoor
open Go.RowKit

def sameH (a b : Pg) : Bool := decide (a.fr = b.fr) && (decide (a.size = b.size) && (decide (a.root = b.root) && (decide (a.items = b.items) && decide (a.paths.length = b.paths.length))))
def sameP (a b : Pg) : Bool := sameH a b && decide (a.paths = b.paths)
theorem same_iff (a b : Pg) : sameP a b = true ↔ a = b := by
  unfold sameP sameH
  simp only [Bool.and_eq_true, decide_eq_true_eq]
  constructor
  · rintro ⟨⟨h1, h2, h3, h4, _⟩, h5⟩
    cases a; cases b
    simp_all
  · rintro rfl; exact ⟨⟨rfl, rfl, rfl, rfl, rfl⟩, rfl⟩
theorem same_refl (a : Pg) : sameP a a = true := (same_iff a a).2 rfl
set_option maxRecDepth 100000 in
set_option maxHeartbeats 4000000 in
theorem PSame_no (X Y : Pg) (ha : X.wide) (hb : Y.wide) (h : sameH X Y = false) (via vpa vib vpb : Value) (w : World) (hai : TextsAt w via X.items) (hap : PathsAt w vpa X.paths) (hbi : TextsAt w vib Y.items) (hbp : PathsAt w vpb Y.paths) :
    Calls Tryz.prog 20 #[.agg (X.cs via vpa), .agg (Y.cs vib vpb)] w fun e w' => e = .returned (.bool false) ∧ Below w.heap.size w w' := by
  have CS : ∀ w' : World, Below w.heap.size w w' → Calls Tryz.prog 25 #[via, vib] w' fun e w'' => e = .returned (.bool (decide (X.items = Y.items))) ∧ Below w'.heap.size w' w'' := fun w' hw => Same_any X.items Y.items ha.ni hb.ni via vib w' (hai.to hw) (hbi.to hw)
  obtain ⟨Ai, ci, rfl, _⟩ := hai.slice
  obtain ⟨Ap, cp, rfl, _⟩ := hap.slice
  obtain ⟨Bi, di, rfl, _⟩ := hbi.slice
  obtain ⟨Bp, dp, rfl, _⟩ := hbp.slice
  have hB0 := (below_to (below_one w (.cells #[.int .i64 X.fr, .int .i64 X.size, .string (bs X.root), .slice Ai X.items.length ci, .slice Ap X.paths.length cp] 25)) (Nat.le_refl _) (below_one _ (.cells #[.int .i64 Y.fr, .int .i64 Y.size, .string (bs Y.root), .slice Bi Y.items.length di, .slice Bp Y.paths.length dp] 25)))
  have kA := (Blk.new w 25 #[.int .i64 X.fr, .int .i64 X.size, .string (bs X.root), .slice Ai X.items.length ci, .slice Ap X.paths.length cp]).alloc (.cells #[.int .i64 Y.fr, .int .i64 Y.size, .string (bs Y.root), .slice Bi Y.items.length di, .slice Bp Y.paths.length dp] 25)
  have kB := Blk.new (w.alloc (.cells #[.int .i64 X.fr, .int .i64 X.size, .string (bs X.root), .slice Ai X.items.length ci, .slice Ap X.paths.length cp] 25)) 25 #[.int .i64 Y.fr, .int .i64 Y.size, .string (bs Y.root), .slice Bi Y.items.length di, .slice Bp Y.paths.length dp]
  rw [World.size_alloc] at kB
  have HAI := hide (hai.to hB0)
  have HAP := hide (hap.to hB0)
  have HBI := hide (hbi.to hB0)
  have HBP := hide (hbp.to hB0)
  have HB := hide hB0
  have HKA := hide kA
  have HKB := hide kB
  have x0 := (kA.cell 0).trans (show _ = some (Value.int .i64 X.fr) from rfl)
  have x1 := (kA.cell 1).trans (show _ = some (Value.int .i64 X.size) from rfl)
  have x2 := (kA.cell 2).trans (show _ = some (Value.string (bs X.root)) from rfl)
  have x3 := (kA.cell 3).trans (show _ = some (Value.slice Ai X.items.length ci) from rfl)
  have x4 := (kA.cell 4).trans (show _ = some (Value.slice Ap X.paths.length cp) from rfl)
  have y0 := (kB.cell 0).trans (show _ = some (Value.int .i64 Y.fr) from rfl)
  have y1 := (kB.cell 1).trans (show _ = some (Value.int .i64 Y.size) from rfl)
  have y2 := (kB.cell 2).trans (show _ = some (Value.string (bs Y.root)) from rfl)
  have y3 := (kB.cell 3).trans (show _ = some (Value.slice Bi Y.items.length di) from rfl)
  have y4 := (kB.cell 4).trans (show _ = some (Value.slice Bp Y.paths.length dp) from rfl)
  have CS1 := CS _ hB0
  unfold sameH at h
  have h1 : (X.fr != Y.fr) = !decide (X.fr = Y.fr) := rfl
  have h2 : (X.size != Y.size) = !decide (X.size = Y.size) := rfl
  have h3 : ((bs X.root).toList == (bs Y.root).toList) = decide (X.root = Y.root) := by rw [bs_toList, bs_toList, Bool.eq_iff_iff]; simp
  have h4 : ((X.paths.length : Int) != (Y.paths.length : Int)) = !decide (X.paths.length = Y.paths.length) := congrArg not (decide_eq_decide.2 (by omega))
  unfold Pg.cs
  clear hai hap hbi hbp ha hb kA kB CS hB0
  generalize decide (X.fr = Y.fr) = b1 at *
  generalize decide (X.size = Y.size) = b2 at *
  generalize decide (X.root = Y.root) = b3 at *
  generalize decide (X.items = Y.items) = b4 at *
  generalize decide (X.paths.length = Y.paths.length) = b5 at *
  cases b1
  rotate_left
  cases b2
  rotate_left
  cases b3
  rotate_left
  cases b4
  rotate_left
  cases b5
  rotate_left
  · cases h
  all_goals (try simp only [Bool.not_false, Bool.not_true] at h1)
  all_goals (try simp only [Bool.not_false, Bool.not_true] at h2)
  all_goals (try simp only [Bool.not_false, Bool.not_true] at h4)
  all_goals
    go_enter Tryz.func20, Tryz.ntmps20
    go_wp2_with ((with_reducible refine CS1.mono ?_); rintro e w' ⟨rfl, hb⟩; have HB2 := hide (below_to HB.out (Nat.le_refl _) hb); have x4' := (hb.cell (p := ⟨w.heap.size, 4, none⟩) HKA.out.lt).trans x4; have y4' := (hb.cell (p := ⟨w.heap.size + 1, 4, none⟩) HKB.out.lt).trans y4; clear hb)
    go_ret
    first
      | exact ⟨rfl, HB.out⟩
      | exact ⟨rfl, HB2.out⟩
set_option maxRecDepth 100000 in
set_option maxHeartbeats 4000000 in
theorem PSame_yes (X Y : Pg) (ha : X.wide) (hb : Y.wide) (h : sameH X Y = true) (via vpa vib vpb : Value) (w : World) (hai : TextsAt w via X.items) (hap : PathsAt w vpa X.paths) (hbi : TextsAt w vib Y.items) (hbp : PathsAt w vpb Y.paths) :
    Calls Tryz.prog 20 #[.agg (X.cs via vpa), .agg (Y.cs vib vpb)] w fun e w' => e = .returned (.bool (decide (X.paths = Y.paths))) ∧ Below w.heap.size w w' := by
  have CS : ∀ w' : World, Below w.heap.size w w' → Calls Tryz.prog 25 #[via, vib] w' fun e w'' => e = .returned (.bool (decide (X.items = Y.items))) ∧ Below w'.heap.size w' w'' := fun w' hw => Same_any X.items Y.items ha.ni hb.ni via vib w' (hai.to hw) (hbi.to hw)
  have CQ := fun (q r : List (List UInt8)) (hq : q ∈ X.paths) (hr : r ∈ Y.paths) (v u : Value) (w' : World) (hv : TextsAt w' v q) (hu : TextsAt w' u r) => Same_any q r (ha.nq q hq) (hb.nq r hr) v u w' hv hu
  obtain ⟨Ai, ci, rfl, _⟩ := hai.slice
  obtain ⟨Ap, cp, rfl, _⟩ := hap.slice
  obtain ⟨Bi, di, rfl, _⟩ := hbi.slice
  obtain ⟨Bp, dp, rfl, _⟩ := hbp.slice
  have hB0 := (below_to (below_one w (.cells #[.int .i64 X.fr, .int .i64 X.size, .string (bs X.root), .slice Ai X.items.length ci, .slice Ap X.paths.length cp] 25)) (Nat.le_refl _) (below_one _ (.cells #[.int .i64 Y.fr, .int .i64 Y.size, .string (bs Y.root), .slice Bi Y.items.length di, .slice Bp Y.paths.length dp] 25)))
  have kA := (Blk.new w 25 #[.int .i64 X.fr, .int .i64 X.size, .string (bs X.root), .slice Ai X.items.length ci, .slice Ap X.paths.length cp]).alloc (.cells #[.int .i64 Y.fr, .int .i64 Y.size, .string (bs Y.root), .slice Bi Y.items.length di, .slice Bp Y.paths.length dp] 25)
  have kB := Blk.new (w.alloc (.cells #[.int .i64 X.fr, .int .i64 X.size, .string (bs X.root), .slice Ai X.items.length ci, .slice Ap X.paths.length cp] 25)) 25 #[.int .i64 Y.fr, .int .i64 Y.size, .string (bs Y.root), .slice Bi Y.items.length di, .slice Bp Y.paths.length dp]
  rw [World.size_alloc] at kB
  have HAI := hide (hai.to hB0)
  have HAP := hide (hap.to hB0)
  have HBI := hide (hbi.to hB0)
  have HBP := hide (hbp.to hB0)
  have HB := hide hB0
  have HKA := hide kA
  have HKB := hide kB
  have x0 := (kA.cell 0).trans (show _ = some (Value.int .i64 X.fr) from rfl)
  have x1 := (kA.cell 1).trans (show _ = some (Value.int .i64 X.size) from rfl)
  have x2 := (kA.cell 2).trans (show _ = some (Value.string (bs X.root)) from rfl)
  have x3 := (kA.cell 3).trans (show _ = some (Value.slice Ai X.items.length ci) from rfl)
  have x4 := (kA.cell 4).trans (show _ = some (Value.slice Ap X.paths.length cp) from rfl)
  have y0 := (kB.cell 0).trans (show _ = some (Value.int .i64 Y.fr) from rfl)
  have y1 := (kB.cell 1).trans (show _ = some (Value.int .i64 Y.size) from rfl)
  have y2 := (kB.cell 2).trans (show _ = some (Value.string (bs Y.root)) from rfl)
  have y3 := (kB.cell 3).trans (show _ = some (Value.slice Bi Y.items.length di) from rfl)
  have y4 := (kB.cell 4).trans (show _ = some (Value.slice Bp Y.paths.length dp) from rfl)
  have CS1 := CS _ hB0
  unfold sameH at h
  simp only [Bool.and_eq_true, decide_eq_true_eq] at h
  obtain ⟨g1, g2, g3, g4, g5⟩ := h
  have h1 : (X.fr != Y.fr) = false := by rw [bne_eq_false_iff_eq]; exact g1
  have h2 : (X.size != Y.size) = false := by rw [bne_eq_false_iff_eq]; exact g2
  have h3 : ((bs X.root).toList == (bs Y.root).toList) = true := by rw [beq_iff_eq, g3]
  have h4 : ((X.paths.length : Int) != (Y.paths.length : Int)) = false := by rw [bne_eq_false_iff_eq, g5]
  rw [decide_eq_true g4] at CS1
  have HG5 := hide g5
  have hpn := ha.np
  unfold Pg.cs
  clear hai hap hbi hbp ha hb kA kB CS hB0 g1 g2 g3 g4 g5
  go_enter Tryz.func20, Tryz.ntmps20
  go_wp2_with ((with_reducible refine CS1.mono ?_); rintro e w2 ⟨rfl, hb⟩; have HB2 := hide (below_to HB.out (Nat.le_refl _) hb); have HKA1 := hide (HKA.out.to hb); have HKB1 := hide (HKB.out.to hb); have HAP1 := hide (HAP.out.to hb); have HBP1 := hide (HBP.out.to hb); have x4' := (hb.cell (p := ⟨w.heap.size, 4, none⟩) HKA.out.lt).trans x4; have y4' := (hb.cell (p := ⟨w.heap.size + 1, 4, none⟩) HKB.out.lt).trans y4; clear hb)
  replace HB := HB2
  clear HB2 HKA HKB HAP HBP HAI HBI x0 x1 x2 x3 x4 y0 y1 y2 y3 y4 CS1 h1 h2 h3 h4
  have hL := HG5.out
  rw [← hL] at HKB1 HBP1 y4' ⊢
  clear hL
  go_loopw [5] (fun i wr => ∃ k : Nat, i = .int .i64 (k : Int) ∧ k ≤ X.paths.length ∧ Aside (Below w2.heap.size w2 wr) ∧ Aside (X.paths.take k = Y.paths.take k)) (fun i _ => X.paths.length - (intOf i).toNat)
  case atStart => exact ⟨0, rfl, by omega, Below.refl _ _, rfl⟩
  case round =>
    obtain ⟨k, rfl, hk, hBr, hT⟩ := hrel
    have HBr : Hid (Below w2.heap.size w2 wr) := hBr
    have HT : Hid (X.paths.take k = Y.paths.take k) := hT
    clear hBr hT
    have HKA2 := hide (HKA1.out.to HBr.out)
    have HKB2 := hide (HKB1.out.to HBr.out)
    have z4 := (HKA2.out.cell 4).trans (show _ = some (Value.slice Ap X.paths.length cp) from rfl)
    by_cases hlt : k < X.paths.length
    · have e1 : decide ((k : Int) < (X.paths.length : Int)) = true := decide_eq_true (by omega)
      obtain ⟨q, hq⟩ : ∃ q, X.paths[k]? = some q := ⟨_, List.getElem?_eq_getElem hlt⟩
      obtain ⟨r, hr⟩ : ∃ r, Y.paths[k]? = some r := ⟨_, List.getElem?_eq_getElem (by have := HG5.out; omega)⟩
      obtain ⟨pa, vq, e2, hla, cA, htq⟩ := (HAP1.out.to HBr.out).at_ hq
      obtain ⟨pb, vr, e3, hlb, cB, htr⟩ := (HBP1.out.to HBr.out).at_ hr
      subst e2 e3
      have CS := fun (w' : World) (h1 : TextsAt w' vq q) (h2 : TextsAt w' vr r) => CQ q r (List.mem_of_getElem? hq) (List.mem_of_getElem? hr) vq vr w' h1 h2
      have HTA := hide htq
      have HTB := hide htr
      have HNX := hide (fun h => by rw [List.take_add_one, List.take_add_one, hq, hr, HT.out, of_decide_eq_true h] : decide (q = r) = true → X.paths.take (k + 1) = Y.paths.take (k + 1))
      have HNO := hide (fun h => decide_eq_false (fun e => by
        rw [e] at hq
        exact of_decide_eq_false h (Option.some.inj (hq.symm.trans hr))) : decide (q = r) = false → decide (X.paths = Y.paths) = false)
      have hk0 : (0 : Int) ≤ (k : Int) := by omega
      have hk1 : (k : Int) < (X.paths.length : Int) := by omega
      obtain ⟨B, HQ⟩ : ∃ B, Hid (decide (q = r) = B) := ⟨_, rfl⟩
      rw [HQ.out] at CS
      clear hq hr htq htr
      obtain ⟨U, hU, g, u0, rfl, hgu, hi⟩ := cls wr
      have kx := fun u => ((HKA2.out.to (hgu u)).cell 4).trans (show _ = some (Value.slice (some pa) X.paths.length cp) from rfl)
      have ky := fun u => ((HKB2.out.to (hgu u)).cell 4).trans (show _ = some (Value.slice (some pb) X.paths.length dp) from rfl)
      have cx := fun u => ((hgu u).cell (p := pa.add k) (by rw [block_of_add]; exact hla)).trans cA
      have cy := fun u => ((hgu u).cell (p := pb.add k) (by rw [block_of_add]; exact hlb)).trans cB
      go_wp2_with fail
      apply wp_region_looseG g (V := [some _, some _, some _, some _, some _, some _, some _, some _, some _, some _, some _, some _]) (Fs := []) (Rel := fun _ w w' => Below w.heap.size w w')
      case hm => kernel_rfl
      case hB => kernel_rfl
      case hCw => exact hi _ (hgu _).drew
      case hC =>
        rintro i uq w' hr
        exact hi _ (below_to (hgu uq) (Nat.le_refl _) hr)
      case hst =>
        exact keeps_nil
      case hop =>
        refine ⟨?_, ?_, ?_, ?_, ?_, ?_, ?_, ?_, ?_, ?_, ?_, ?_, trivial⟩
        · intro a uq K hS hd hK
          have s2 := hS.at 2 (by kernel_rfl) rfl
          rw [if_pos (want_free rfl)]
          go_simp
          exact hK _ _ (Below.refl _ _) (vok rfl) facts_nil
        · intro a uq K hS hd hK
          have s49 := (waits_on hd 0 (by kernel_rfl)).at (d := 49) rfl rfl rfl
          rw [if_pos (want_free rfl)]
          have c := kx uq
          go_simp
          exact hK _ _ (Below.refl _ _) (vok rfl) facts_nil
        · intro a uq K hS hd hK
          have s5 := hS.at 5 (by kernel_rfl) rfl
          rw [if_pos (want_free rfl)]
          go_simp
          exact hK _ _ (Below.refl _ _) (vok rfl) facts_nil
        · intro a uq K hS hd hK
          have s50 := (waits_on hd 1 (by kernel_rfl)).at (d := 50) rfl rfl rfl
          have s51 := (waits_on hd 2 (by kernel_rfl)).at (d := 51) rfl rfl rfl
          rw [if_pos (want_free rfl)]
          go_simp
          exact hK _ _ (Below.refl _ _) (vok rfl) facts_nil
        · intro a uq K hS hd hK
          have s52 := (waits_on hd 3 (by kernel_rfl)).at (d := 52) rfl rfl rfl
          rw [if_pos (want_free rfl)]
          have c := cx uq
          go_simp
          exact hK _ _ (Below.refl _ _) (vok rfl) facts_nil
        · intro a uq K hS hd hK
          have s3 := hS.at 3 (by kernel_rfl) rfl
          rw [if_pos (want_free rfl)]
          go_simp
          exact hK _ _ (Below.refl _ _) (vok rfl) facts_nil
        · intro a uq K hS hd hK
          have s54 := (waits_on hd 5 (by kernel_rfl)).at (d := 54) rfl rfl rfl
          rw [if_pos (want_free rfl)]
          have c := ky uq
          go_simp
          exact hK _ _ (Below.refl _ _) (vok rfl) facts_nil
        · intro a uq K hS hd hK
          have s5 := hS.at 5 (by kernel_rfl) rfl
          rw [if_pos (want_free rfl)]
          go_simp
          exact hK _ _ (Below.refl _ _) (vok rfl) facts_nil
        · intro a uq K hS hd hK
          have s55 := (waits_on hd 6 (by kernel_rfl)).at (d := 55) rfl rfl rfl
          have s56 := (waits_on hd 7 (by kernel_rfl)).at (d := 56) rfl rfl rfl
          rw [if_pos (want_free rfl)]
          go_simp
          exact hK _ _ (Below.refl _ _) (vok rfl) facts_nil
        · intro a uq K hS hd hK
          have s57 := (waits_on hd 8 (by kernel_rfl)).at (d := 57) rfl rfl rfl
          rw [if_pos (want_free rfl)]
          have c := cy uq
          go_simp
          exact hK _ _ (Below.refl _ _) (vok rfl) facts_nil
        · intro a uq K hS hd hK
          have s53 := (waits_on hd 4 (by kernel_rfl)).at (d := 53) rfl rfl rfl
          have s58 := (waits_on hd 9 (by kernel_rfl)).at (d := 58) rfl rfl rfl
          rw [if_pos (want_free rfl)]
          go_simp
          with_reducible refine (CS (g uq) (HTA.out.to (hgu uq)) (HTB.out.to (hgu uq))).mono ?_
          rintro e w' ⟨rfl, hb⟩
          exact hK _ _ hb (vok rfl) facts_nil
        · intro a uq K hS hd hK
          have s59 := (waits_on hd 10 (by kernel_rfl)).at (d := 59) rfl rfl rfl
          rw [if_pos (want_free rfl)]
          go_simp
          exact hK _ _ (Below.refl _ _) (vok rfl) facts_nil
      case hfin =>
        intro a uq hS hk
        have s49 := (hk 0 (by decide)).at (d := 49) rfl rfl rfl
        have s50 := (hk 1 (by decide)).at (d := 50) rfl rfl rfl
        have s51 := (hk 2 (by decide)).at (d := 51) rfl rfl rfl
        have s52 := (hk 3 (by decide)).at (d := 52) rfl rfl rfl
        have s53 := (hk 4 (by decide)).at (d := 53) rfl rfl rfl
        have s54 := (hk 5 (by decide)).at (d := 54) rfl rfl rfl
        have s55 := (hk 6 (by decide)).at (d := 55) rfl rfl rfl
        have s56 := (hk 7 (by decide)).at (d := 56) rfl rfl rfl
        have s57 := (hk 8 (by decide)).at (d := 57) rfl rfl rfl
        have s58 := (hk 9 (by decide)).at (d := 58) rfl rfl rfl
        have s59 := (hk 10 (by decide)).at (d := 59) rfl rfl rfl
        have s60 := (hk 11 (by decide)).at (d := 60) rfl rfl rfl
        have hlit := hS.lit _ (by kernel_rfl) (lits_cons s49 (lits_cons s50 (lits_cons s51 (lits_cons s52 (lits_cons s53 (lits_cons s54 (lits_cons s55 (lits_cons s56 (lits_cons s57 (lits_cons s58 (lits_cons s59 (lits_cons s60 lits_nil))))))))))))
        rw [hlit]
        clear hlit hk hS s49 s50 s51 s52 s53 s54 s55 s56 s57 s58 s59 s60
        simp only [litT, List.setIfInBounds_toArray, List.set_cons_succ, List.set_cons_zero]
        have HBq := hide (below_to HBr.out (Nat.le_refl _) (hgu uq))
        cases B with
        | true =>
          go_wp2_with fail
          refine ⟨⟨k + 1, by go_num, by omega, HBq.out, HNX.out HQ.out⟩, ?_⟩
          simp [intOf]; omega
        | false =>
          go_wp2_with fail
          go_ret
          exact ⟨ret_bool (by rw [HNO.out HQ.out]), below_to HB.out (Nat.le_refl _) HBq.out⟩
    · obtain rfl : k = X.paths.length := by omega
      have e1 : decide ((X.paths.length : Int) < (X.paths.length : Int)) = false := by simp
      have HN : Hid (decide (X.paths = Y.paths) = true) := by
        show _ = _
        apply decide_eq_true
        have := HT.out
        rwa [List.take_length, HG5.out, List.take_length] at this
      go_wp2_with fail
      go_ret
      exact ⟨ret_bool (by rw [HN.out]), below_to HB.out (Nat.le_refl _) HBr.out⟩
theorem PSame_any (X Y : Pg) (ha : X.wide) (hb : Y.wide)  (via vpa vib vpb : Value) (w : World) (hai : TextsAt w via X.items) (hap : PathsAt w vpa X.paths) (hbi : TextsAt w vib Y.items) (hbp : PathsAt w vpb Y.paths) :
    Calls Tryz.prog 20 #[.agg (X.cs via vpa), .agg (Y.cs vib vpb)] w fun e w' => e = .returned (.bool (sameP X Y)) ∧ Below w.heap.size w w' := by
  cases h : sameH X Y with
  | false =>
    rw [show sameP X Y = false by unfold sameP; rw [h]; rfl]
    exact PSame_no X Y ha hb h via vpa vib vpb w hai hap hbi hbp
  | true =>
    rw [show sameP X Y = decide (X.paths = Y.paths) by unfold sameP; rw [h]; rfl]
    exact PSame_yes X Y ha hb h via vpa vib vpb w hai hap hbi hbp
end Go.Proofs.YtfhanbiifjiklaaGreatDoor
