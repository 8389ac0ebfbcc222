/- Walks: the editor's steps, where both texts go on (bytes that differ, near). -/
import Derived.Test.YtnpdhbagfkilkaaW5
set_option linter.unusedVariables false
set_option linter.unusedSimpArgs false
namespace Go.Proofs.Ytnpdhbagfkilkaa
open Go.RowKit

set_option maxHeartbeats 1000000 in
theorem stepsEyes1 (W : Wt) (hW : W.valid = true) (x y : ByteArray) (A : Option Addr) (n c g m i j : Nat) (w : World) (hE : Ed w g m W A n c x y) (hx : x.size ≤ 120) (hy : y.size ≤ 120) (hi : i ≤ x.size) (hj : j ≤ y.size) (hij : i < x.size) (hjj : j < y.size) (hab : x[i].toNat ≠ y[j].toNat) (c0 : Int) (hhas : has (nearMap W.near) (pairKey .u8 x[i].toNat y[j].toNat) (.int .i64 c0)) (hlook : Wt.look W.near x[i].toNat y[j].toNat = some c0) (hl : ¬ i + 1 < x.size) :
    Calls Try.prog 31 #[.pointer (some ⟨g, 0, none⟩), .int .i64 i, .int .i64 j] w fun e w' => e = .returned (.agg (stepArr (W.steps x.data.toList y.data.toList i j))) ∧ Below w.heap.size w w' := by
  have hg := hE.blk.lt
  have hm := hE.map.lt
  have hmO : m < w.heap.size := hm
  have HS := hide (StRel.start hE)
  rw [initArr0] at HS
  clear hE
  have HW := hide hW
  clear hW
  go_enter Try.func31, Try.ntmps31
  go_wp2
  go_loopw [15] (fun q wr => ∃ k : Nat, k ≤ 6 ∧ q = .int .i64 k ∧ StRel wr w g m W A n c x y (initL k)) (fun q _ => 6 - (intOf q).toNat)
  case atStart => exact ⟨0, by omega, rfl, HS.out⟩
  case round =>
    obtain ⟨k, hk, rfl, hrel⟩ := hrel
    by_cases hlt : k < 6
    · have d0 : wr.cell? ⟨w.heap.size + 1, k * 3, none⟩ = some (.int .i64 0) := (hrel.out.cell _).trans (initL_cell k hlt)
      have d1 : wr.frozen? ⟨w.heap.size + 1, k * 3, none⟩ = false := hrel.out.frozen _
      have Hn := hide (hrel.next hlt hg hm)
      clear hrel
      go_wp2
      go_roundw
      case rel => exact ⟨k + 1, by omega, by go_num, Hn.out⟩
      case measure => simp [intOf]; omega
    · obtain rfl : k = 6 := by omega
      obtain ⟨e0, e1, e2, e3, e5, e6, e7⟩ := hrel.ed.facts
      clear HS
      have HS := hide hrel
      clear hrel hlt hk
      have hlk : ∀ q, (Instr.lookup 68 (.map (some m)) (.agg #[.int .u8 x[i].toNat, .int .u8 y[j].toNat]) true).run Try.prog (wr.drewN q) = .ok (.tuple #[.int .i64 c0, .bool true]) (wr.drewN q) :=
        fun q => run_lookup_ok_has (HS.out.ed.map.drewN q) law2byte Try.underlying68 (z := .int .i64 0) (by kernel_rfl) (S2byte_of (by omega) (by have := x[i].toNat_lt; omega) (by omega) (by have := y[j].toNat_lt; omega)) hhas
      clear hhas
      have hax : Wt.at_ x.data.toList i = (x[i].toNat : Int) := at_byte x hij
      have hby : Wt.at_ y.data.toList j = (y[j].toNat : Int) := at_byte y hjj
      have HF : Hid (W.steps x.data.toList y.data.toList i j = [Wt.no, Wt.no, (c0, 1, 1), (W.ins, 0, 1), (W.del, 1, 0), Wt.no]) := by
        show _ = _
        have hs : Wt.swap W x.data.toList y.data.toList i j = Wt.no := by simp [Wt.swap, hax, hby, hl, (show ¬ ((x[i].toNat : Int) = (y[j].toNat : Int)) by omega)]
        simp [Wt.steps, Wt.same, Wt.change, Wt.insert, Wt.delete, hs, hij, hjj, hax, hby, (show ¬ ((x[i].toNat : Int) = (y[j].toNat : Int)) by omega), hlook]
      clear hax hby hlook
      have hb0 : ((x[i].toNat : Int) == (y[j].toNat : Int)) = false := by simp; omega
      have hb1 : ((x[i].toNat : Int) != (y[j].toNat : Int)) = true := by simp; omega
      clear hab
      go_wp2
      go_quiet (fail)
      go_wp2
      go_quiet (fail)
      go_wp2_with (first
        | ((with_reducible show wpList _ _ _ (Oper.mk _ (Op.store 52 (.tmp 73) (.tmp 72)) _ _ _ _ :: _) _ _); refine wpList_store_part rfl 52 (.tmp 73) (.tmp 72) rfl (w.heap.size + 1) (3 * 2) _ rfl rfl 53 _ HS.out.out (by kernel_rfl) (fit3 rfl (by omega)) (three_one _ _ _) ?_; intro w2 ho2 hb2; have HT := hide (StRel.put (l := (initL 6)) (q := 2) (by first | exact HS.out | exact HS.out.drewN _) rfl (by omega) ho2 hb2 hg hm); clear HS ho2 hb2 e0 e1 e2 e3 e5 e6 e7; have HS := HT; clear HT; obtain ⟨e0, e1, e2, e3, e5, e6, e7⟩ := HS.out.ed.facts)
        | ((with_reducible show wpList _ _ _ (Oper.mk _ (Op.store 52 (.tmp 129) (.tmp 128)) _ _ _ _ :: _) _ _); refine wpList_store_part rfl 52 (.tmp 129) (.tmp 128) rfl (w.heap.size + 1) (3 * 3) _ rfl rfl 53 _ HS.out.out (by kernel_rfl) (fit3 rfl (by omega)) (three_one _ _ _) ?_; intro w2 ho2 hb2; have HT := hide (StRel.put (l := ((initL 6).set 2 (c0, 1, 1))) (q := 3) (by first | exact HS.out | exact HS.out.drewN _) rfl (by omega) ho2 hb2 hg hm); clear HS ho2 hb2 e0 e1 e2 e3 e5 e6 e7; have HS := HT; clear HT; obtain ⟨e0, e1, e2, e3, e5, e6, e7⟩ := HS.out.ed.facts)
        | ((with_reducible show wpList _ _ _ (Oper.mk _ (Op.store 52 (.tmp 138) (.tmp 137)) _ _ _ _ :: _) _ _); refine wpList_store_part rfl 52 (.tmp 138) (.tmp 137) rfl (w.heap.size + 1) (3 * 4) _ rfl rfl 53 _ HS.out.out (by kernel_rfl) (fit3 rfl (by omega)) (three_one _ _ _) ?_; intro w2 ho2 hb2; have HT := hide (StRel.put (l := (((initL 6).set 2 (c0, 1, 1)).set 3 (W.ins, 0, 1))) (q := 4) (by first | exact HS.out | exact HS.out.drewN _) rfl (by omega) ho2 hb2 hg hm); clear HS ho2 hb2 e0 e1 e2 e3 e5 e6 e7; have HS := HT; clear HT; obtain ⟨e0, e1, e2, e3, e5, e6, e7⟩ := HS.out.ed.facts)
        | ((with_reducible show wpList _ _ _ (Oper.mk _ (Op.load 53 (.tmp 7)) _ _ _ _ :: _) _ _); refine wpList_load_all rfl 53 (.tmp 7) rfl (w.heap.size + 1) rfl 53 _ _ HS.out.out Try.underlying53 rfl (by kernel_rfl) ?_)
        | ((with_reducible show wpList _ _ _ (Oper.mk _ (Op.store 53 (.tmp 6) (.tmp 139)) _ _ _ _ :: _) _ _); refine wpList_store_part rfl 53 (.tmp 6) (.tmp 139) rfl w.heap.size 0 _ rfl rfl 53 _ HS.out.res (by kernel_rfl) (fit18 rfl) (stepArr_one _) ?_; intro w2 ho2 hb2; have HZ := hide (StRel.fin (l := ((((initL 6).set 2 (c0, 1, 1)).set 3 (W.ins, 0, 1)).set 4 (W.del, 1, 0))) (by first | exact HS.out | exact HS.out.drewN _) rfl ho2 hb2); clear ho2 hb2))
      refine bodyPost_ret (results_cell_blk rfl _ _ w.heap.size 53 _ _ rfl HZ.out.1 Try.underlying53 rfl (by kernel_rfl)) rfl ⟨?_, HZ.out.2⟩
      rw [HF.out]
      rfl

set_option maxHeartbeats 1000000 in
theorem stepsEyes2 (W : Wt) (hW : W.valid = true) (x y : ByteArray) (A : Option Addr) (n c g m i j : Nat) (w : World) (hE : Ed w g m W A n c x y) (hx : x.size ≤ 120) (hy : y.size ≤ 120) (hi : i ≤ x.size) (hj : j ≤ y.size) (hij : i < x.size) (hjj : j < y.size) (hab : x[i].toNat ≠ y[j].toNat) (c0 : Int) (hhas : has (nearMap W.near) (pairKey .u8 x[i].toNat y[j].toNat) (.int .i64 c0)) (hlook : Wt.look W.near x[i].toNat y[j].toNat = some c0) (hl : i + 1 < x.size) (hr : ¬ j + 1 < y.size) :
    Calls Try.prog 31 #[.pointer (some ⟨g, 0, none⟩), .int .i64 i, .int .i64 j] w fun e w' => e = .returned (.agg (stepArr (W.steps x.data.toList y.data.toList i j))) ∧ Below w.heap.size w w' := by
  have hg := hE.blk.lt
  have hm := hE.map.lt
  have hmO : m < w.heap.size := hm
  have HS := hide (StRel.start hE)
  rw [initArr0] at HS
  clear hE
  have HW := hide hW
  clear hW
  go_enter Try.func31, Try.ntmps31
  go_wp2
  go_loopw [15] (fun q wr => ∃ k : Nat, k ≤ 6 ∧ q = .int .i64 k ∧ StRel wr w g m W A n c x y (initL k)) (fun q _ => 6 - (intOf q).toNat)
  case atStart => exact ⟨0, by omega, rfl, HS.out⟩
  case round =>
    obtain ⟨k, hk, rfl, hrel⟩ := hrel
    by_cases hlt : k < 6
    · have d0 : wr.cell? ⟨w.heap.size + 1, k * 3, none⟩ = some (.int .i64 0) := (hrel.out.cell _).trans (initL_cell k hlt)
      have d1 : wr.frozen? ⟨w.heap.size + 1, k * 3, none⟩ = false := hrel.out.frozen _
      have Hn := hide (hrel.next hlt hg hm)
      clear hrel
      go_wp2
      go_roundw
      case rel => exact ⟨k + 1, by omega, by go_num, Hn.out⟩
      case measure => simp [intOf]; omega
    · obtain rfl : k = 6 := by omega
      obtain ⟨e0, e1, e2, e3, e5, e6, e7⟩ := hrel.ed.facts
      clear HS
      have HS := hide hrel
      clear hrel hlt hk
      have hlk : ∀ q, (Instr.lookup 68 (.map (some m)) (.agg #[.int .u8 x[i].toNat, .int .u8 y[j].toNat]) true).run Try.prog (wr.drewN q) = .ok (.tuple #[.int .i64 c0, .bool true]) (wr.drewN q) :=
        fun q => run_lookup_ok_has (HS.out.ed.map.drewN q) law2byte Try.underlying68 (z := .int .i64 0) (by kernel_rfl) (S2byte_of (by omega) (by have := x[i].toNat_lt; omega) (by omega) (by have := y[j].toNat_lt; omega)) hhas
      clear hhas
      have hax : Wt.at_ x.data.toList i = (x[i].toNat : Int) := at_byte x hij
      have hby : Wt.at_ y.data.toList j = (y[j].toNat : Int) := at_byte y hjj
      have HF : Hid (W.steps x.data.toList y.data.toList i j = [Wt.no, Wt.no, (c0, 1, 1), (W.ins, 0, 1), (W.del, 1, 0), Wt.no]) := by
        show _ = _
        have hs : Wt.swap W x.data.toList y.data.toList i j = Wt.no := by simp [Wt.swap, hax, hby, hl, hr, (show ¬ ((x[i].toNat : Int) = (y[j].toNat : Int)) by omega)]
        simp [Wt.steps, Wt.same, Wt.change, Wt.insert, Wt.delete, hs, hij, hjj, hax, hby, (show ¬ ((x[i].toNat : Int) = (y[j].toNat : Int)) by omega), hlook]
      clear hax hby hlook
      have hb0 : ((x[i].toNat : Int) == (y[j].toNat : Int)) = false := by simp; omega
      have hb1 : ((x[i].toNat : Int) != (y[j].toNat : Int)) = true := by simp; omega
      clear hab
      go_wp2
      go_quiet (fail)
      go_wp2
      go_quiet (fail)
      go_wp2_with (first
        | ((with_reducible show wpList _ _ _ (Oper.mk _ (Op.store 52 (.tmp 73) (.tmp 72)) _ _ _ _ :: _) _ _); refine wpList_store_part rfl 52 (.tmp 73) (.tmp 72) rfl (w.heap.size + 1) (3 * 2) _ rfl rfl 53 _ HS.out.out (by kernel_rfl) (fit3 rfl (by omega)) (three_one _ _ _) ?_; intro w2 ho2 hb2; have HT := hide (StRel.put (l := (initL 6)) (q := 2) (by first | exact HS.out | exact HS.out.drewN _) rfl (by omega) ho2 hb2 hg hm); clear HS ho2 hb2 e0 e1 e2 e3 e5 e6 e7; have HS := HT; clear HT; obtain ⟨e0, e1, e2, e3, e5, e6, e7⟩ := HS.out.ed.facts)
        | ((with_reducible show wpList _ _ _ (Oper.mk _ (Op.store 52 (.tmp 129) (.tmp 128)) _ _ _ _ :: _) _ _); refine wpList_store_part rfl 52 (.tmp 129) (.tmp 128) rfl (w.heap.size + 1) (3 * 3) _ rfl rfl 53 _ HS.out.out (by kernel_rfl) (fit3 rfl (by omega)) (three_one _ _ _) ?_; intro w2 ho2 hb2; have HT := hide (StRel.put (l := ((initL 6).set 2 (c0, 1, 1))) (q := 3) (by first | exact HS.out | exact HS.out.drewN _) rfl (by omega) ho2 hb2 hg hm); clear HS ho2 hb2 e0 e1 e2 e3 e5 e6 e7; have HS := HT; clear HT; obtain ⟨e0, e1, e2, e3, e5, e6, e7⟩ := HS.out.ed.facts)
        | ((with_reducible show wpList _ _ _ (Oper.mk _ (Op.store 52 (.tmp 138) (.tmp 137)) _ _ _ _ :: _) _ _); refine wpList_store_part rfl 52 (.tmp 138) (.tmp 137) rfl (w.heap.size + 1) (3 * 4) _ rfl rfl 53 _ HS.out.out (by kernel_rfl) (fit3 rfl (by omega)) (three_one _ _ _) ?_; intro w2 ho2 hb2; have HT := hide (StRel.put (l := (((initL 6).set 2 (c0, 1, 1)).set 3 (W.ins, 0, 1))) (q := 4) (by first | exact HS.out | exact HS.out.drewN _) rfl (by omega) ho2 hb2 hg hm); clear HS ho2 hb2 e0 e1 e2 e3 e5 e6 e7; have HS := HT; clear HT; obtain ⟨e0, e1, e2, e3, e5, e6, e7⟩ := HS.out.ed.facts)
        | ((with_reducible show wpList _ _ _ (Oper.mk _ (Op.load 53 (.tmp 7)) _ _ _ _ :: _) _ _); refine wpList_load_all rfl 53 (.tmp 7) rfl (w.heap.size + 1) rfl 53 _ _ HS.out.out Try.underlying53 rfl (by kernel_rfl) ?_)
        | ((with_reducible show wpList _ _ _ (Oper.mk _ (Op.store 53 (.tmp 6) (.tmp 139)) _ _ _ _ :: _) _ _); refine wpList_store_part rfl 53 (.tmp 6) (.tmp 139) rfl w.heap.size 0 _ rfl rfl 53 _ HS.out.res (by kernel_rfl) (fit18 rfl) (stepArr_one _) ?_; intro w2 ho2 hb2; have HZ := hide (StRel.fin (l := ((((initL 6).set 2 (c0, 1, 1)).set 3 (W.ins, 0, 1)).set 4 (W.del, 1, 0))) (by first | exact HS.out | exact HS.out.drewN _) rfl ho2 hb2); clear ho2 hb2))
      refine bodyPost_ret (results_cell_blk rfl _ _ w.heap.size 53 _ _ rfl HZ.out.1 Try.underlying53 rfl (by kernel_rfl)) rfl ⟨?_, HZ.out.2⟩
      rw [HF.out]
      rfl

set_option maxHeartbeats 1000000 in
theorem stepsEyes3 (W : Wt) (hW : W.valid = true) (x y : ByteArray) (A : Option Addr) (n c g m i j : Nat) (w : World) (hE : Ed w g m W A n c x y) (hx : x.size ≤ 120) (hy : y.size ≤ 120) (hi : i ≤ x.size) (hj : j ≤ y.size) (hij : i < x.size) (hjj : j < y.size) (hab : x[i].toNat ≠ y[j].toNat) (c0 : Int) (hhas : has (nearMap W.near) (pairKey .u8 x[i].toNat y[j].toNat) (.int .i64 c0)) (hlook : Wt.look W.near x[i].toNat y[j].toNat = some c0) (hl : i + 1 < x.size) (hr : j + 1 < y.size) (hc : x[i].toNat ≠ y[j + 1].toNat) :
    Calls Try.prog 31 #[.pointer (some ⟨g, 0, none⟩), .int .i64 i, .int .i64 j] w fun e w' => e = .returned (.agg (stepArr (W.steps x.data.toList y.data.toList i j))) ∧ Below w.heap.size w w' := by
  have hg := hE.blk.lt
  have hm := hE.map.lt
  have hmO : m < w.heap.size := hm
  have HS := hide (StRel.start hE)
  rw [initArr0] at HS
  clear hE
  have HW := hide hW
  clear hW
  go_enter Try.func31, Try.ntmps31
  go_wp2
  go_loopw [15] (fun q wr => ∃ k : Nat, k ≤ 6 ∧ q = .int .i64 k ∧ StRel wr w g m W A n c x y (initL k)) (fun q _ => 6 - (intOf q).toNat)
  case atStart => exact ⟨0, by omega, rfl, HS.out⟩
  case round =>
    obtain ⟨k, hk, rfl, hrel⟩ := hrel
    by_cases hlt : k < 6
    · have d0 : wr.cell? ⟨w.heap.size + 1, k * 3, none⟩ = some (.int .i64 0) := (hrel.out.cell _).trans (initL_cell k hlt)
      have d1 : wr.frozen? ⟨w.heap.size + 1, k * 3, none⟩ = false := hrel.out.frozen _
      have Hn := hide (hrel.next hlt hg hm)
      clear hrel
      go_wp2
      go_roundw
      case rel => exact ⟨k + 1, by omega, by go_num, Hn.out⟩
      case measure => simp [intOf]; omega
    · obtain rfl : k = 6 := by omega
      obtain ⟨e0, e1, e2, e3, e5, e6, e7⟩ := hrel.ed.facts
      clear HS
      have HS := hide hrel
      clear hrel hlt hk
      have hlk : ∀ q, (Instr.lookup 68 (.map (some m)) (.agg #[.int .u8 x[i].toNat, .int .u8 y[j].toNat]) true).run Try.prog (wr.drewN q) = .ok (.tuple #[.int .i64 c0, .bool true]) (wr.drewN q) :=
        fun q => run_lookup_ok_has (HS.out.ed.map.drewN q) law2byte Try.underlying68 (z := .int .i64 0) (by kernel_rfl) (S2byte_of (by omega) (by have := x[i].toNat_lt; omega) (by omega) (by have := y[j].toNat_lt; omega)) hhas
      clear hhas
      have hax : Wt.at_ x.data.toList i = (x[i].toNat : Int) := at_byte x hij
      have hby : Wt.at_ y.data.toList j = (y[j].toNat : Int) := at_byte y hjj
      have hx1 : Wt.at_ x.data.toList (i + 1) = (x[i + 1].toNat : Int) := at_byte x hl
      have hy1 : Wt.at_ y.data.toList (j + 1) = (y[j + 1].toNat : Int) := at_byte y hr
      have HF : Hid (W.steps x.data.toList y.data.toList i j = [Wt.no, Wt.no, (c0, 1, 1), (W.ins, 0, 1), (W.del, 1, 0), Wt.no]) := by
        show _ = _
        have hs : Wt.swap W x.data.toList y.data.toList i j = Wt.no := by simp [Wt.swap, hax, hby, hl, hr, hx1, hy1, (show ¬ ((x[i].toNat : Int) = (y[j + 1].toNat : Int)) by omega)]
        simp [Wt.steps, Wt.same, Wt.change, Wt.insert, Wt.delete, hs, hij, hjj, hax, hby, (show ¬ ((x[i].toNat : Int) = (y[j].toNat : Int)) by omega), hlook]
      clear hax hby hlook hx1 hy1
      have hb0 : ((x[i].toNat : Int) == (y[j].toNat : Int)) = false := by simp; omega
      have hb1 : ((x[i].toNat : Int) != (y[j].toNat : Int)) = true := by simp; omega
      clear hab
      have hc0 : ((x[i].toNat : Int) == (y[j + 1].toNat : Int)) = false := by simp; omega
      clear hc
      go_wp2
      go_quiet (fail)
      go_wp2
      go_quiet (fail)
      go_wp2_with (first
        | ((with_reducible show wpList _ _ _ (Oper.mk _ (Op.store 52 (.tmp 73) (.tmp 72)) _ _ _ _ :: _) _ _); refine wpList_store_part rfl 52 (.tmp 73) (.tmp 72) rfl (w.heap.size + 1) (3 * 2) _ rfl rfl 53 _ HS.out.out (by kernel_rfl) (fit3 rfl (by omega)) (three_one _ _ _) ?_; intro w2 ho2 hb2; have HT := hide (StRel.put (l := (initL 6)) (q := 2) (by first | exact HS.out | exact HS.out.drewN _) rfl (by omega) ho2 hb2 hg hm); clear HS ho2 hb2 e0 e1 e2 e3 e5 e6 e7; have HS := HT; clear HT; obtain ⟨e0, e1, e2, e3, e5, e6, e7⟩ := HS.out.ed.facts)
        | ((with_reducible show wpList _ _ _ (Oper.mk _ (Op.store 52 (.tmp 129) (.tmp 128)) _ _ _ _ :: _) _ _); refine wpList_store_part rfl 52 (.tmp 129) (.tmp 128) rfl (w.heap.size + 1) (3 * 3) _ rfl rfl 53 _ HS.out.out (by kernel_rfl) (fit3 rfl (by omega)) (three_one _ _ _) ?_; intro w2 ho2 hb2; have HT := hide (StRel.put (l := ((initL 6).set 2 (c0, 1, 1))) (q := 3) (by first | exact HS.out | exact HS.out.drewN _) rfl (by omega) ho2 hb2 hg hm); clear HS ho2 hb2 e0 e1 e2 e3 e5 e6 e7; have HS := HT; clear HT; obtain ⟨e0, e1, e2, e3, e5, e6, e7⟩ := HS.out.ed.facts)
        | ((with_reducible show wpList _ _ _ (Oper.mk _ (Op.store 52 (.tmp 138) (.tmp 137)) _ _ _ _ :: _) _ _); refine wpList_store_part rfl 52 (.tmp 138) (.tmp 137) rfl (w.heap.size + 1) (3 * 4) _ rfl rfl 53 _ HS.out.out (by kernel_rfl) (fit3 rfl (by omega)) (three_one _ _ _) ?_; intro w2 ho2 hb2; have HT := hide (StRel.put (l := (((initL 6).set 2 (c0, 1, 1)).set 3 (W.ins, 0, 1))) (q := 4) (by first | exact HS.out | exact HS.out.drewN _) rfl (by omega) ho2 hb2 hg hm); clear HS ho2 hb2 e0 e1 e2 e3 e5 e6 e7; have HS := HT; clear HT; obtain ⟨e0, e1, e2, e3, e5, e6, e7⟩ := HS.out.ed.facts)
        | ((with_reducible show wpList _ _ _ (Oper.mk _ (Op.load 53 (.tmp 7)) _ _ _ _ :: _) _ _); refine wpList_load_all rfl 53 (.tmp 7) rfl (w.heap.size + 1) rfl 53 _ _ HS.out.out Try.underlying53 rfl (by kernel_rfl) ?_)
        | ((with_reducible show wpList _ _ _ (Oper.mk _ (Op.store 53 (.tmp 6) (.tmp 139)) _ _ _ _ :: _) _ _); refine wpList_store_part rfl 53 (.tmp 6) (.tmp 139) rfl w.heap.size 0 _ rfl rfl 53 _ HS.out.res (by kernel_rfl) (fit18 rfl) (stepArr_one _) ?_; intro w2 ho2 hb2; have HZ := hide (StRel.fin (l := ((((initL 6).set 2 (c0, 1, 1)).set 3 (W.ins, 0, 1)).set 4 (W.del, 1, 0))) (by first | exact HS.out | exact HS.out.drewN _) rfl ho2 hb2); clear ho2 hb2))
      refine bodyPost_ret (results_cell_blk rfl _ _ w.heap.size 53 _ _ rfl HZ.out.1 Try.underlying53 rfl (by kernel_rfl)) rfl ⟨?_, HZ.out.2⟩
      rw [HF.out]
      rfl

set_option maxHeartbeats 1000000 in
theorem stepsEyes4 (W : Wt) (hW : W.valid = true) (x y : ByteArray) (A : Option Addr) (n c g m i j : Nat) (w : World) (hE : Ed w g m W A n c x y) (hx : x.size ≤ 120) (hy : y.size ≤ 120) (hi : i ≤ x.size) (hj : j ≤ y.size) (hij : i < x.size) (hjj : j < y.size) (hab : x[i].toNat ≠ y[j].toNat) (c0 : Int) (hhas : has (nearMap W.near) (pairKey .u8 x[i].toNat y[j].toNat) (.int .i64 c0)) (hlook : Wt.look W.near x[i].toNat y[j].toNat = some c0) (hl : i + 1 < x.size) (hr : j + 1 < y.size) (hc : x[i].toNat = y[j + 1].toNat) (hd : x[i + 1].toNat ≠ y[j].toNat) :
    Calls Try.prog 31 #[.pointer (some ⟨g, 0, none⟩), .int .i64 i, .int .i64 j] w fun e w' => e = .returned (.agg (stepArr (W.steps x.data.toList y.data.toList i j))) ∧ Below w.heap.size w w' := by
  have hg := hE.blk.lt
  have hm := hE.map.lt
  have hmO : m < w.heap.size := hm
  have HS := hide (StRel.start hE)
  rw [initArr0] at HS
  clear hE
  have HW := hide hW
  clear hW
  go_enter Try.func31, Try.ntmps31
  go_wp2
  go_loopw [15] (fun q wr => ∃ k : Nat, k ≤ 6 ∧ q = .int .i64 k ∧ StRel wr w g m W A n c x y (initL k)) (fun q _ => 6 - (intOf q).toNat)
  case atStart => exact ⟨0, by omega, rfl, HS.out⟩
  case round =>
    obtain ⟨k, hk, rfl, hrel⟩ := hrel
    by_cases hlt : k < 6
    · have d0 : wr.cell? ⟨w.heap.size + 1, k * 3, none⟩ = some (.int .i64 0) := (hrel.out.cell _).trans (initL_cell k hlt)
      have d1 : wr.frozen? ⟨w.heap.size + 1, k * 3, none⟩ = false := hrel.out.frozen _
      have Hn := hide (hrel.next hlt hg hm)
      clear hrel
      go_wp2
      go_roundw
      case rel => exact ⟨k + 1, by omega, by go_num, Hn.out⟩
      case measure => simp [intOf]; omega
    · obtain rfl : k = 6 := by omega
      obtain ⟨e0, e1, e2, e3, e5, e6, e7⟩ := hrel.ed.facts
      clear HS
      have HS := hide hrel
      clear hrel hlt hk
      have hlk : ∀ q, (Instr.lookup 68 (.map (some m)) (.agg #[.int .u8 x[i].toNat, .int .u8 y[j].toNat]) true).run Try.prog (wr.drewN q) = .ok (.tuple #[.int .i64 c0, .bool true]) (wr.drewN q) :=
        fun q => run_lookup_ok_has (HS.out.ed.map.drewN q) law2byte Try.underlying68 (z := .int .i64 0) (by kernel_rfl) (S2byte_of (by omega) (by have := x[i].toNat_lt; omega) (by omega) (by have := y[j].toNat_lt; omega)) hhas
      clear hhas
      have hax : Wt.at_ x.data.toList i = (x[i].toNat : Int) := at_byte x hij
      have hby : Wt.at_ y.data.toList j = (y[j].toNat : Int) := at_byte y hjj
      have hx1 : Wt.at_ x.data.toList (i + 1) = (x[i + 1].toNat : Int) := at_byte x hl
      have hy1 : Wt.at_ y.data.toList (j + 1) = (y[j + 1].toNat : Int) := at_byte y hr
      have HF : Hid (W.steps x.data.toList y.data.toList i j = [Wt.no, Wt.no, (c0, 1, 1), (W.ins, 0, 1), (W.del, 1, 0), Wt.no]) := by
        show _ = _
        have hs : Wt.swap W x.data.toList y.data.toList i j = Wt.no := by simp [Wt.swap, hax, hby, hl, hr, hx1, hy1, (show ((x[i].toNat : Int) = (y[j + 1].toNat : Int)) by omega), (show ¬ ((x[i + 1].toNat : Int) = (y[j].toNat : Int)) by omega), (show ¬ ((y[j + 1].toNat : Int) = (y[j].toNat : Int)) by omega)]
        simp [Wt.steps, Wt.same, Wt.change, Wt.insert, Wt.delete, hs, hij, hjj, hax, hby, (show ¬ ((x[i].toNat : Int) = (y[j].toNat : Int)) by omega), hlook]
      clear hax hby hlook hx1 hy1
      have hb0 : ((x[i].toNat : Int) == (y[j].toNat : Int)) = false := by simp; omega
      have hb1 : ((x[i].toNat : Int) != (y[j].toNat : Int)) = true := by simp; omega
      clear hab
      have hc0 : ((x[i].toNat : Int) == (y[j + 1].toNat : Int)) = true := by simp [hc]
      have hd0 : ((x[i + 1].toNat : Int) == (y[j].toNat : Int)) = false := by simp; omega
      clear hc hd
      go_wp2
      go_quiet (fail)
      go_wp2
      go_quiet (fail)
      go_wp2_with (first
        | ((with_reducible show wpList _ _ _ (Oper.mk _ (Op.store 52 (.tmp 73) (.tmp 72)) _ _ _ _ :: _) _ _); refine wpList_store_part rfl 52 (.tmp 73) (.tmp 72) rfl (w.heap.size + 1) (3 * 2) _ rfl rfl 53 _ HS.out.out (by kernel_rfl) (fit3 rfl (by omega)) (three_one _ _ _) ?_; intro w2 ho2 hb2; have HT := hide (StRel.put (l := (initL 6)) (q := 2) (by first | exact HS.out | exact HS.out.drewN _) rfl (by omega) ho2 hb2 hg hm); clear HS ho2 hb2 e0 e1 e2 e3 e5 e6 e7; have HS := HT; clear HT; obtain ⟨e0, e1, e2, e3, e5, e6, e7⟩ := HS.out.ed.facts)
        | ((with_reducible show wpList _ _ _ (Oper.mk _ (Op.store 52 (.tmp 129) (.tmp 128)) _ _ _ _ :: _) _ _); refine wpList_store_part rfl 52 (.tmp 129) (.tmp 128) rfl (w.heap.size + 1) (3 * 3) _ rfl rfl 53 _ HS.out.out (by kernel_rfl) (fit3 rfl (by omega)) (three_one _ _ _) ?_; intro w2 ho2 hb2; have HT := hide (StRel.put (l := ((initL 6).set 2 (c0, 1, 1))) (q := 3) (by first | exact HS.out | exact HS.out.drewN _) rfl (by omega) ho2 hb2 hg hm); clear HS ho2 hb2 e0 e1 e2 e3 e5 e6 e7; have HS := HT; clear HT; obtain ⟨e0, e1, e2, e3, e5, e6, e7⟩ := HS.out.ed.facts)
        | ((with_reducible show wpList _ _ _ (Oper.mk _ (Op.store 52 (.tmp 138) (.tmp 137)) _ _ _ _ :: _) _ _); refine wpList_store_part rfl 52 (.tmp 138) (.tmp 137) rfl (w.heap.size + 1) (3 * 4) _ rfl rfl 53 _ HS.out.out (by kernel_rfl) (fit3 rfl (by omega)) (three_one _ _ _) ?_; intro w2 ho2 hb2; have HT := hide (StRel.put (l := (((initL 6).set 2 (c0, 1, 1)).set 3 (W.ins, 0, 1))) (q := 4) (by first | exact HS.out | exact HS.out.drewN _) rfl (by omega) ho2 hb2 hg hm); clear HS ho2 hb2 e0 e1 e2 e3 e5 e6 e7; have HS := HT; clear HT; obtain ⟨e0, e1, e2, e3, e5, e6, e7⟩ := HS.out.ed.facts)
        | ((with_reducible show wpList _ _ _ (Oper.mk _ (Op.load 53 (.tmp 7)) _ _ _ _ :: _) _ _); refine wpList_load_all rfl 53 (.tmp 7) rfl (w.heap.size + 1) rfl 53 _ _ HS.out.out Try.underlying53 rfl (by kernel_rfl) ?_)
        | ((with_reducible show wpList _ _ _ (Oper.mk _ (Op.store 53 (.tmp 6) (.tmp 139)) _ _ _ _ :: _) _ _); refine wpList_store_part rfl 53 (.tmp 6) (.tmp 139) rfl w.heap.size 0 _ rfl rfl 53 _ HS.out.res (by kernel_rfl) (fit18 rfl) (stepArr_one _) ?_; intro w2 ho2 hb2; have HZ := hide (StRel.fin (l := ((((initL 6).set 2 (c0, 1, 1)).set 3 (W.ins, 0, 1)).set 4 (W.del, 1, 0))) (by first | exact HS.out | exact HS.out.drewN _) rfl ho2 hb2); clear ho2 hb2))
      refine bodyPost_ret (results_cell_blk rfl _ _ w.heap.size 53 _ _ rfl HZ.out.1 Try.underlying53 rfl (by kernel_rfl)) rfl ⟨?_, HZ.out.2⟩
      rw [HF.out]
      rfl

set_option maxHeartbeats 1000000 in
theorem stepsEyes5 (W : Wt) (hW : W.valid = true) (x y : ByteArray) (A : Option Addr) (n c g m i j : Nat) (w : World) (hE : Ed w g m W A n c x y) (hx : x.size ≤ 120) (hy : y.size ≤ 120) (hi : i ≤ x.size) (hj : j ≤ y.size) (hij : i < x.size) (hjj : j < y.size) (hab : x[i].toNat ≠ y[j].toNat) (c0 : Int) (hhas : has (nearMap W.near) (pairKey .u8 x[i].toNat y[j].toNat) (.int .i64 c0)) (hlook : Wt.look W.near x[i].toNat y[j].toNat = some c0) (hl : i + 1 < x.size) (hr : j + 1 < y.size) (hc : x[i].toNat = y[j + 1].toNat) (hd : x[i + 1].toNat = y[j].toNat) :
    Calls Try.prog 31 #[.pointer (some ⟨g, 0, none⟩), .int .i64 i, .int .i64 j] w fun e w' => e = .returned (.agg (stepArr (W.steps x.data.toList y.data.toList i j))) ∧ Below w.heap.size w w' := by
  have hg := hE.blk.lt
  have hm := hE.map.lt
  have hmO : m < w.heap.size := hm
  have HS := hide (StRel.start hE)
  rw [initArr0] at HS
  clear hE
  have HW := hide hW
  clear hW
  go_enter Try.func31, Try.ntmps31
  go_wp2
  go_loopw [15] (fun q wr => ∃ k : Nat, k ≤ 6 ∧ q = .int .i64 k ∧ StRel wr w g m W A n c x y (initL k)) (fun q _ => 6 - (intOf q).toNat)
  case atStart => exact ⟨0, by omega, rfl, HS.out⟩
  case round =>
    obtain ⟨k, hk, rfl, hrel⟩ := hrel
    by_cases hlt : k < 6
    · have d0 : wr.cell? ⟨w.heap.size + 1, k * 3, none⟩ = some (.int .i64 0) := (hrel.out.cell _).trans (initL_cell k hlt)
      have d1 : wr.frozen? ⟨w.heap.size + 1, k * 3, none⟩ = false := hrel.out.frozen _
      have Hn := hide (hrel.next hlt hg hm)
      clear hrel
      go_wp2
      go_roundw
      case rel => exact ⟨k + 1, by omega, by go_num, Hn.out⟩
      case measure => simp [intOf]; omega
    · obtain rfl : k = 6 := by omega
      obtain ⟨e0, e1, e2, e3, e5, e6, e7⟩ := hrel.ed.facts
      clear HS
      have HS := hide hrel
      clear hrel hlt hk
      have hlk : ∀ q, (Instr.lookup 68 (.map (some m)) (.agg #[.int .u8 x[i].toNat, .int .u8 y[j].toNat]) true).run Try.prog (wr.drewN q) = .ok (.tuple #[.int .i64 c0, .bool true]) (wr.drewN q) :=
        fun q => run_lookup_ok_has (HS.out.ed.map.drewN q) law2byte Try.underlying68 (z := .int .i64 0) (by kernel_rfl) (S2byte_of (by omega) (by have := x[i].toNat_lt; omega) (by omega) (by have := y[j].toNat_lt; omega)) hhas
      clear hhas
      have hax : Wt.at_ x.data.toList i = (x[i].toNat : Int) := at_byte x hij
      have hby : Wt.at_ y.data.toList j = (y[j].toNat : Int) := at_byte y hjj
      have hx1 : Wt.at_ x.data.toList (i + 1) = (x[i + 1].toNat : Int) := at_byte x hl
      have hy1 : Wt.at_ y.data.toList (j + 1) = (y[j + 1].toNat : Int) := at_byte y hr
      have HF : Hid (W.steps x.data.toList y.data.toList i j = [Wt.no, Wt.no, (c0, 1, 1), (W.ins, 0, 1), (W.del, 1, 0), (W.swp, 2, 2)]) := by
        show _ = _
        have hs : Wt.swap W x.data.toList y.data.toList i j = (W.swp, 2, 2) := by simp [Wt.swap, hax, hby, hl, hr, hx1, hy1, (show ((x[i].toNat : Int) = (y[j + 1].toNat : Int)) by omega), (show ((x[i + 1].toNat : Int) = (y[j].toNat : Int)) by omega), (show ¬ ((y[j + 1].toNat : Int) = (y[j].toNat : Int)) by omega)]
        simp [Wt.steps, Wt.same, Wt.change, Wt.insert, Wt.delete, hs, hij, hjj, hax, hby, (show ¬ ((x[i].toNat : Int) = (y[j].toNat : Int)) by omega), hlook]
      clear hax hby hlook hx1 hy1
      have hb0 : ((x[i].toNat : Int) == (y[j].toNat : Int)) = false := by simp; omega
      have hb1 : ((x[i].toNat : Int) != (y[j].toNat : Int)) = true := by simp; omega
      clear hab
      have hc0 : ((x[i].toNat : Int) == (y[j + 1].toNat : Int)) = true := by simp [hc]
      have hd0 : ((x[i + 1].toNat : Int) == (y[j].toNat : Int)) = true := by simp [hd]
      clear hc hd
      go_wp2
      go_quiet (fail)
      go_wp2
      go_quiet (fail)
      go_wp2_with (first
        | ((with_reducible show wpList _ _ _ (Oper.mk _ (Op.store 52 (.tmp 73) (.tmp 72)) _ _ _ _ :: _) _ _); refine wpList_store_part rfl 52 (.tmp 73) (.tmp 72) rfl (w.heap.size + 1) (3 * 2) _ rfl rfl 53 _ HS.out.out (by kernel_rfl) (fit3 rfl (by omega)) (three_one _ _ _) ?_; intro w2 ho2 hb2; have HT := hide (StRel.put (l := (initL 6)) (q := 2) (by first | exact HS.out | exact HS.out.drewN _) rfl (by omega) ho2 hb2 hg hm); clear HS ho2 hb2 e0 e1 e2 e3 e5 e6 e7; have HS := HT; clear HT; obtain ⟨e0, e1, e2, e3, e5, e6, e7⟩ := HS.out.ed.facts)
        | ((with_reducible show wpList _ _ _ (Oper.mk _ (Op.store 52 (.tmp 120) (.tmp 119)) _ _ _ _ :: _) _ _); refine wpList_store_part rfl 52 (.tmp 120) (.tmp 119) rfl (w.heap.size + 1) (3 * 5) _ rfl rfl 53 _ HS.out.out (by kernel_rfl) (fit3 rfl (by omega)) (three_one _ _ _) ?_; intro w2 ho2 hb2; have HT := hide (StRel.put (l := ((initL 6).set 2 (c0, 1, 1))) (q := 5) (by first | exact HS.out | exact HS.out.drewN _) rfl (by omega) ho2 hb2 hg hm); clear HS ho2 hb2 e0 e1 e2 e3 e5 e6 e7; have HS := HT; clear HT; obtain ⟨e0, e1, e2, e3, e5, e6, e7⟩ := HS.out.ed.facts)
        | ((with_reducible show wpList _ _ _ (Oper.mk _ (Op.store 52 (.tmp 129) (.tmp 128)) _ _ _ _ :: _) _ _); refine wpList_store_part rfl 52 (.tmp 129) (.tmp 128) rfl (w.heap.size + 1) (3 * 3) _ rfl rfl 53 _ HS.out.out (by kernel_rfl) (fit3 rfl (by omega)) (three_one _ _ _) ?_; intro w2 ho2 hb2; have HT := hide (StRel.put (l := (((initL 6).set 2 (c0, 1, 1)).set 5 (W.swp, 2, 2))) (q := 3) (by first | exact HS.out | exact HS.out.drewN _) rfl (by omega) ho2 hb2 hg hm); clear HS ho2 hb2 e0 e1 e2 e3 e5 e6 e7; have HS := HT; clear HT; obtain ⟨e0, e1, e2, e3, e5, e6, e7⟩ := HS.out.ed.facts)
        | ((with_reducible show wpList _ _ _ (Oper.mk _ (Op.store 52 (.tmp 138) (.tmp 137)) _ _ _ _ :: _) _ _); refine wpList_store_part rfl 52 (.tmp 138) (.tmp 137) rfl (w.heap.size + 1) (3 * 4) _ rfl rfl 53 _ HS.out.out (by kernel_rfl) (fit3 rfl (by omega)) (three_one _ _ _) ?_; intro w2 ho2 hb2; have HT := hide (StRel.put (l := ((((initL 6).set 2 (c0, 1, 1)).set 5 (W.swp, 2, 2)).set 3 (W.ins, 0, 1))) (q := 4) (by first | exact HS.out | exact HS.out.drewN _) rfl (by omega) ho2 hb2 hg hm); clear HS ho2 hb2 e0 e1 e2 e3 e5 e6 e7; have HS := HT; clear HT; obtain ⟨e0, e1, e2, e3, e5, e6, e7⟩ := HS.out.ed.facts)
        | ((with_reducible show wpList _ _ _ (Oper.mk _ (Op.load 53 (.tmp 7)) _ _ _ _ :: _) _ _); refine wpList_load_all rfl 53 (.tmp 7) rfl (w.heap.size + 1) rfl 53 _ _ HS.out.out Try.underlying53 rfl (by kernel_rfl) ?_)
        | ((with_reducible show wpList _ _ _ (Oper.mk _ (Op.store 53 (.tmp 6) (.tmp 139)) _ _ _ _ :: _) _ _); refine wpList_store_part rfl 53 (.tmp 6) (.tmp 139) rfl w.heap.size 0 _ rfl rfl 53 _ HS.out.res (by kernel_rfl) (fit18 rfl) (stepArr_one _) ?_; intro w2 ho2 hb2; have HZ := hide (StRel.fin (l := (((((initL 6).set 2 (c0, 1, 1)).set 5 (W.swp, 2, 2)).set 3 (W.ins, 0, 1)).set 4 (W.del, 1, 0))) (by first | exact HS.out | exact HS.out.drewN _) rfl ho2 hb2); clear ho2 hb2))
      refine bodyPost_ret (results_cell_blk rfl _ _ w.heap.size 53 _ _ rfl HZ.out.1 Try.underlying53 rfl (by kernel_rfl)) rfl ⟨?_, HZ.out.2⟩
      rw [HF.out]
      rfl

end Go.Proofs.Ytnpdhbagfkilkaa
