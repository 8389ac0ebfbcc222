/- Several texts as one, in build order. -/
import Derived.Test.YtgdgdhpmjkefjaaGreatDoorMA
import Derived.Lib.BufferWrite
import Derived.Laws.BitsAllLaws
import Derived.Lib.SlBytesRow
import Derived.Outline
import Derived.Test.YtgdgdhpmjkefjaaGreatDoorShelf
import Derived.Lib.SlTrimSet
import Derived.Lib.Builder
import Derived.IntWalk
import Derived.Shelf.GgClosure.Gives
import Derived.Lib.SplitLaws
import Derived.Lib.Join
import Derived.Lib.IndexBytes
import Derived.Lib.AtoiAll
import Derived.Lib.ItoaMem
import Derived.Maps.Own
import Derived.MapKept
import Derived.WideKeyArr
import Derived.WideKeyArr2
/- Walks of package digest: blocks. -/
set_option linter.unusedVariables false
set_option linter.unusedSimpArgs false
namespace Go.Proofs.YtgdgdhpmjkefjaaGreatDoor
open Go.RowKit

/-- copy of a text into a block known whole: as much as fits -/
theorem wpList_copy_head {P : Program} {w : World} {ops : Array Oper} {rest : List Oper} {o : Oper} {a : Act} {Q : Exit → Act → World → Prop} (hgd : o.guard = none) (d s : Operand) (dT sT elem : TypeId)
    (ho : o.op = .call { callee := .builtin .copy, args := #[d, s], argTypes := #[dT, sT] }) (hu : P.underlying dT = some (.slice elem)) (hsz : (P.info? elem).map (·.size) = some 1)
    (g n c : Nat) (l : List UInt8) (hd : a.eval d = .slice (some ⟨g, 0, none⟩) n c) (hs : a.eval s = .string (bs l)) (t : TypeId) (cur : Array Value) (hg : Blk w g t cur) (hn : cur.size = n)
    (h : ∀ w', Only w w' g → Blk w' g t (splice cur 0 (Lib.byteCells (l.take n)).toArray) → wpList P ops Q rest (a.put o.dst (goInt (min l.length n : Nat))) w') : wpList P ops Q (o :: rest) a w := by
  have hlen : (Lib.byteCells (l.take n)).length = min l.length n := by rw [Lib.byteCells_length, List.length_take, Nat.min_comm]
  have hst := run_storeCells_at P g 0 t (Lib.byteCells (l.take n)) 0 cur w hg (by rw [hlen, hn]; omega) (Lib.byteCells_one _)
  have hrun : (Builtin.copy_ #[dT, sT] o.type #[.slice (some ⟨g, 0, none⟩) n c, .string (bs l)]).run P w = .ok (goInt (min l.length n : Nat)) (w.setRow g (splice cur 0 (Lib.byteCells (l.take n)).toArray)) := by
    cases hq : P.info? elem with
    | none => simp [hq] at hsz
    | some i =>
      have hmin : Nat.min (bs l).size n = min l.length n := by rw [bs_size]
      have htk : List.take (min l.length n) (List.map (fun b : UInt8 => Value.int IntKind.u8 (b.toNat : Int)) (bs l).data.toList) = Lib.byteCells (l.take n) := by
        rw [bs_list]
        unfold Lib.byteCells
        rw [← List.map_take]
        congr 1
        by_cases hle : l.length ≤ n
        · rw [Nat.min_eq_left hle, List.take_length, List.take_of_length_le hle]
        · rw [Nat.min_eq_right (by omega)]
      simp only [Nat.add_zero] at hst
      simp [Builtin.copy_, run_underlying hu, Builtin.lenOf, Builtin.firstCells, sizeOf, typeInfo, hq, hmin]
      rw [htk, hst]
      simp [Result.andThen, splice]
  exact wpList_plain hgd fun K hK => by
    unfold Oper.wp
    simp [execOp, ho, resolve, invoke, builtin, hd, hs, hrun, Result.andThen]
    exact hK _ _ (h _ (setRow_grown w g _) (setRow_heap w g cur _ t (0, 0) hg))
def zero8 : Array Value := (List.replicate 8 (Value.int .u8 0)).toArray
theorem splice_pad (l : List UInt8) : splice zero8 0 (Lib.byteCells (l.take 8)).toArray = (Lib.byteCells (pad8 l)).toArray := by
  have h : (splice zero8 0 (Lib.byteCells (l.take 8)).toArray).toList = Lib.byteCells (pad8 l) := by
    unfold splice pad8 zero8
    have e : Lib.byteCells (List.replicate (8 - l.length) 0) = List.replicate (8 - l.length) (Value.int .u8 0) := by simp [Lib.byteCells]
    have e2 : Lib.byteCells (l.take 8 ++ List.replicate (8 - l.length) 0) = Lib.byteCells (l.take 8) ++ Lib.byteCells (List.replicate (8 - l.length) 0) := by simp [Lib.byteCells]
    rw [e2, e]
    have e3 : (Lib.byteCells (l.take 8)).length = min 8 l.length := by rw [Lib.byteCells_length, List.length_take]
    simp only [List.size_toArray, e3, List.take_zero, List.nil_append, List.drop_replicate]
    have e4 : 8 - (0 + min 8 l.length) = 8 - l.length := by omega
    rw [e4]
  rw [← h]
def BlkI (l : List UInt8) (sb : Nat) (w wr : World) (v : Value) : Prop := ∃ k : Nat, 8 * k ≤ l.length + 8 ∧ v = .int .i64 (8 * (k : Int)) ∧ Below sb w wr ∧ Blk wr sb 83 (stCells (stN l k))
set_option maxHeartbeats 2000000 in
theorem blocks_any (l : List UInt8) (sb : Nat) (w : World) (hl : l.length ≤ 140737488355328) (hS : Blk w sb 83 (stCells (stN l 0))) :
    Calls Tryz.prog 44 #[.string (bs l), .func (.func 45) #[.pointer (some ⟨sb, 0, none⟩)] #[]] w fun e w' => e = .returned (.tuple #[]) ∧ Below sb w w' ∧ Blk w' sb 83 (stCells (sumN l)) := by
  have HS := hide hS
  have hsz : (bs l).size = l.length := bs_size l
  clear hS
  go_enter Tryz.func44, Tryz.ntmps44
  go_wp2_with fail
  go_loopw [4, 5] (fun v _ wr => BlkI l sb w wr v) (fun v _ _ => l.length + 8 - (intOf v).toNat)
  case atStart => exact ⟨0, by omega, rfl, Below.refl _ _, HS.out⟩
  case round =>
    obtain ⟨k, hk, rfl, hB, hK⟩ := hrel
    have HB := hide hB
    have HK := hide hK
    clear hB hK
    by_cases hlt : 8 * k ≤ l.length
    · go_wp2_with fail
      have HZ : Hid (Blk (wr.alloc (.cells #[.int .u8 0, .int .u8 0, .int .u8 0, .int .u8 0, .int .u8 0, .int .u8 0, .int .u8 0, .int .u8 0] 117)) wr.heap.size 117 zero8) := Blk.new wr _ _
      have HK1 := hide (HK.out.alloc (.cells #[.int .u8 0, .int .u8 0, .int .u8 0, .int .u8 0, .int .u8 0, .int .u8 0, .int .u8 0, .int .u8 0] 117))
      have HB1 := hide (HB.out.alloc (Nat.le_of_lt HK.out.lt) (.cells #[.int .u8 0, .int .u8 0, .int .u8 0, .int .u8 0, .int .u8 0, .int .u8 0, .int .u8 0, .int .u8 0] 117))
      have HL := hide HK.out.lt
      have HS1 := hide HK1.out.lt
      clear HB HK
      generalize wr.alloc (.cells #[.int .u8 0, .int .u8 0, .int .u8 0, .int .u8 0, .int .u8 0, .int .u8 0, .int .u8 0, .int .u8 0] 117) = w1 at *
      generalize wr.heap.size = B at *
      obtain ⟨U, hU, g, u0, rfl, hgu, hi⟩ := cls w1
      refine wp_region_class_tail g 4 (by kernel_rfl) (by kernel_rfl) (hi _ (hgu _).drew) ?_
      simp only [List.take_succ_cons, List.take_zero, List.drop_succ_cons, List.drop_zero]
      repeat (go_big_quiet_step (fail))
      refine wpQuiet_nil ?_
      intro w4 hw4
      obtain ⟨u, rfl⟩ := hw4
      rw [bs_drop]
      refine wpList_copy_head rfl (.tmp 12) (.tmp 15) 104 9 5 rfl Tryz.underlying104 (by kernel_rfl) B 8 8 (l.drop (8 * k)) rfl rfl 117 zero8 (HZ.out.to (hgu u)) rfl ?_
      intro w5 ho hb
      rw [splice_pad] at hb
      have HZ2 := hide hb
      have HK2 := hide (ho.blk (HK1.out.to (hgu u)) (Nat.ne_of_lt HL.out))
      have HB2 := hide (Only.below (HB1.out.trans ((hgu u).mono (Nat.le_of_lt HS1.out))) ho (Nat.le_trans (Nat.le_of_lt HS1.out) (hgu u).size) (Nat.le_of_lt HL.out))
      clear ho hb
      have hi8 : (Tryz.prog.info? 117).map (·.size) = some (Lib.byteCells (pad8 (l.drop (8 * k)))).toArray.size := by rw [List.size_toArray, Lib.byteCells_length, pad8_len]; kernel_rfl
      go_wp2_with ((with_reducible show wpList _ _ _ (Oper.mk _ (Op.load 117 (.tmp 5)) _ _ _ _ :: _) _ _); refine wpList_load_all rfl 117 (.tmp 5) rfl B rfl 117 (Lib.byteCells (pad8 (l.drop (8 * k)))).toArray _ HZ2.out Tryz.underlying117 rfl hi8 ?_)
      refine (take_any sb (stN l k) (pad8 (l.drop (8 * k))) (pad8_len _) (stN_lt (by omega) k) _ HK2.out).mono ?_
      rintro e w6 ⟨rfl, hb, hk6⟩
      have HB3 := hide (HB2.out.trans hb)
      have HK3 : Hid (Blk w6 sb 83 (stCells (stN l (k + 1)))) := hk6
      clear hb hk6 hi8 HZ2 HK2 HB2
      go_wp2_with fail
      go_roundw
      case rel => exact ⟨k + 1, by omega, by go_num, HB3.out, HK3.out⟩
      case measure => simp [intOf]; omega
    · have hkk : k = l.length / 8 + 1 := by omega
      have HE : Hid (stN l k = sumN l) := by rw [hkk]; exact (sumN_st l).symm
      clear hkk
      go_wp2_with fail
      go_end0
      exact ⟨rfl, HB.out, HE.out ▸ HK.out⟩
end Go.Proofs.YtgdgdhpmjkefjaaGreatDoor

/- Walks: strconv.FormatUint at base 16. -/
set_option linter.unusedVariables false
set_option linter.unusedSimpArgs false
namespace Go.Proofs.YtgdgdhpmjkefjaaGreatDoor
open Go.RowKit

theorem and_16_15 : bits BinOp.and IntKind.i64 16 15 = 0 := by decide +kernel
theorem pow_16 (w : World) : Calls Tryz.prog 127 #[.int .i64 16] w fun e w' => e = .returned (.bool true) ∧ w = w' := by
  have h1 := and_16_15
  go_enter Tryz.func127, Tryz.ntmps127
  go_wp2_with fail
  go_ret
  exact ⟨rfl, rfl⟩
theorem tz_bits : bits BinOp.and IntKind.u64 16 18446744073709551600 = 16 := by decide +kernel
theorem tz_neg : IntKind.u64.wrap (-16) = 18446744073709551600 := by decide +kernel
theorem tz_mul : IntKind.u64.wrap (16 * 285870213051353865) = 4573923408821661840 := by decide +kernel
theorem tz64_16 (w : World) (hg : Glob w) : Calls Tryz.prog 140 #[.int .u64 16] w fun e w' => e = .returned (.int .i64 4) ∧ w = w' := by
  have h0 := tz_neg
  have h1 := tz_bits
  have h2 := hg.deb16
  have h3 := tz_mul
  clear hg
  go_enter Tryz.func140, Tryz.ntmps140
  go_wp2_with fail
  go_ret
  exact ⟨rfl, rfl⟩
theorem tz_16 (w : World) (hg : Glob w) : Calls Tryz.prog 128 #[.int .u64 16] w fun e w' => e = .returned (.int .i64 4) ∧ w = w' := by
  have HG := hide hg
  clear hg
  go_enter Tryz.func128, Tryz.ntmps128
  go_wp2_with fail
  refine (tz64_16 _ HG.out).mono ?_
  rintro e w' ⟨rfl, rfl⟩
  go_wp2_with fail
  go_ret
  exact ⟨rfl, rfl⟩
def digLit : Array UInt8 := #[48, 49, 50, 51, 52, 53, 54, 55, 56, 57, 97, 98, 99, 100, 101, 102, 103, 104, 105, 106, 107, 108, 109, 110, 111, 112, 113, 114, 115, 116, 117, 118, 119, 120, 121, 122]
theorem dig_at : ∀ d : Nat, d < 16 → ∀ w : World, (Instr.index 9 (.string ⟨#[48, 49, 50, 51, 52, 53, 54, 55, 56, 57, 97, 98, 99, 100, 101, 102, 103, 104, 105, 106, 107, 108, 109, 110, 111, 112, 113, 114, 115, 116, 117, 118, 119, 120, 121, 122]⟩) (.int .u64 (d : Int))).run Tryz.prog w = .ok (.int .u8 ((hexC d).toNat : Int)) w
  | 0, _, _ => by kernel_rfl
  | 1, _, _ => by kernel_rfl
  | 2, _, _ => by kernel_rfl
  | 3, _, _ => by kernel_rfl
  | 4, _, _ => by kernel_rfl
  | 5, _, _ => by kernel_rfl
  | 6, _, _ => by kernel_rfl
  | 7, _, _ => by kernel_rfl
  | 8, _, _ => by kernel_rfl
  | 9, _, _ => by kernel_rfl
  | 10, _, _ => by kernel_rfl
  | 11, _, _ => by kernel_rfl
  | 12, _, _ => by kernel_rfl
  | 13, _, _ => by kernel_rfl
  | 14, _, _ => by kernel_rfl
  | 15, _, _ => by kernel_rfl
  | k + 16, h, _ => absurd h (by omega)
/-- the array: m zeros, then the last 65 - m digits -/
def fillA (n m : Nat) : Array Value := (List.replicate m (Value.int .u8 0) ++ Lib.byteCells (hexN (65 - m) n)).toArray
theorem fillA_set {n m : Nat} (h : m < 65) : (fillA n (m + 1)).setIfInBounds m (.int .u8 ((hexC (n / 16 ^ (64 - m) % 16)).toNat : Int)) = fillA n m := by
  apply Array.toList_inj.1
  unfold fillA
  rw [Array.toList_setIfInBounds]
  have e : 65 - m = (64 - m) + 1 := by omega
  have e2 : 65 - (m + 1) = 64 - m := by omega
  rw [e, e2, hexN_cons, List.replicate_succ']
  simp only [List.append_assoc, List.cons_append, List.nil_append]
  rw [List.set_append_right _ _ (by simp)]
  simp [Lib.byteCells]
theorem and15 {U : Nat} (h : U < 18446744073709551616) : bits BinOp.and IntKind.u64 (U : Int) 15 = ((U % 16 : Nat) : Int) := by
  have h1 := u64_and_nat U 15 h (by decide)
  have h2 : U &&& 15 = U % 16 := Nat.and_two_pow_sub_one_eq_mod U 4
  rw [h2] at h1
  exact h1
theorem fillA_at {n j : Nat} (h : j < 65) : (fillA n (j + 1))[j]? = some (.int .u8 0) := by
  unfold fillA
  rw [List.getElem?_toArray, List.getElem?_append_left (by simp), List.getElem?_replicate, if_pos (by omega)]
theorem hexL_more {n k : Nat} (hn : n < 18446744073709551616) (h : 16 ≤ n / 16 ^ k) : k + 1 < hexL n := by
  obtain ⟨_, _, h3, _⟩ := hexL_spec hn
  rcases Nat.lt_or_ge (k + 1) (hexL n) with h4 | h4
  · exact h4
  · have h5 : 16 ^ hexL n ≤ 16 ^ (k + 1) := Nat.pow_le_pow_right (by decide) h4
    have h6 : 16 * 16 ^ k ≤ n := (Nat.le_div_iff_mul_le (Nat.pow_pos (by decide))).1 h
    rw [Nat.pow_succ] at h5
    omega
theorem hexL_end {n k : Nat} (hn : n < 18446744073709551616) (hk : k < hexL n) (h : ¬ 16 ≤ n / 16 ^ k) : k + 1 = hexL n := by
  obtain ⟨_, _, _, h4⟩ := hexL_spec hn
  rcases Nat.lt_or_ge (k + 1) (hexL n) with h5 | h5
  · have h6 := h4 (by omega)
    have h7 : 16 ^ (k + 1) ≤ 16 ^ (hexL n - 1) := Nat.pow_le_pow_right (by decide) (by omega)
    exact absurd ((Nat.le_div_iff_mul_le (Nat.pow_pos (by decide))).2 (by rw [Nat.pow_succ] at h7; omega)) h
  · omega
def FbI (w : World) (n A : Nat) (wr : World) (u i : Value) : Prop := ∃ m : Nat, 49 < m ∧ m ≤ 65 ∧ 65 - m < hexL n ∧ u = .int .u64 ((n / 16 ^ (65 - m) : Nat) : Int) ∧ i = .int .i64 (m : Int) ∧ Below w.heap.size w wr ∧ Blk wr A 175 (fillA n m)
set_option maxRecDepth 100000 in
set_option maxHeartbeats 4000000 in
theorem formatBits_16 (n : Nat) (hn : n < 18446744073709551616) (w : World) (hg : Glob w) :
    Calls Tryz.prog 96 #[.slice none 0 0, .int .u64 (n : Int), .int .i64 16, .bool false, .bool false] w fun e w' => e = .returned (.tuple #[.slice none 0 0, .string (bs (hexN (hexL n) n))]) ∧ Below w.heap.size w w' := by
  have HG := hide hg
  have HL := hide (hexL_spec hn)
  have HN := hide hn
  clear hg hn
  go_enter Tryz.func96, Tryz.ntmps96
  go_wp2_with fail
  have HA0 : Hid (Blk (w.alloc (.cells Tryz.zeroCells175 175)) w.heap.size 175 (fillA n 65)) := by
    have h := Blk.new w 175 Tryz.zeroCells175
    have e : Tryz.zeroCells175 = fillA n 65 := by show _ = (List.replicate 65 (Value.int .u8 0) ++ Lib.byteCells (hexN 0 n)).toArray; kernel_rfl
    rw [← e]; exact h
  have HB0 := hide (below_one w (.cells Tryz.zeroCells175 175))
  have HG0 := hide (HG.out.alloc (.cells Tryz.zeroCells175 175))
  have HS0 : Hid (w.heap.size ≤ (w.alloc (.cells Tryz.zeroCells175 175)).heap.size) := by show _ ≤ _; simp
  clear HG
  generalize w.alloc (.cells Tryz.zeroCells175 175) = w1 at *
  obtain ⟨A, HA⟩ : ∃ A, Hid (w.heap.size = A) := ⟨_, rfl⟩
  rw [HA.out] at HA0 ⊢
  refine (pow_16 _).mono ?_
  rintro e w' ⟨rfl, rfl⟩
  go_wp2_with fail
  refine (tz_16 _ HG0.out).mono ?_
  rintro e w' ⟨rfl, rfl⟩
  go_wp2_with fail
  go_loopw [1, 13] (fun u i wr => FbI w n A wr u i) (fun _ i _ => (intOf i).toNat)
  case atStart => exact ⟨65, by omega, by omega, by have := HL.out.1; omega, by simp, rfl, HB0.out, HA0.out⟩
  case round =>
    obtain ⟨m, hm1, hm2, hm3, rfl, rfl, hB, hK⟩ := hrel
    have HB := hide hB
    have HK := hide hK
    clear hB hK
    obtain ⟨j, rfl⟩ : ∃ j, m = j + 1 := ⟨m - 1, by omega⟩
    have e0 : 65 - (j + 1) = 64 - j := by omega
    rw [e0] at hm3 ⊢
    clear e0
    have HX : Hid (16 ≤ n / 16 ^ (64 - j) → 65 - j < hexL n) := fun h => by have := hexL_more HN.out h; omega
    have HY : Hid (¬ 16 ≤ n / 16 ^ (64 - j) → 65 - j = hexL n) := fun h => by have := hexL_end HN.out hm3 h; omega
    have HD : Hid (n / 16 ^ (65 - j) = n / 16 ^ (64 - j) / 16) := by
      show _ = _
      rw [show 65 - j = 64 - j + 1 by omega, Nat.pow_succ, Nat.div_div_eq_div_mul]
    have HF := hide (fillA_set (n := n) (m := j) (by omega))
    have hU : n / 16 ^ (64 - j) < 18446744073709551616 := Nat.lt_of_le_of_lt (Nat.div_le_self _ _) HN.out
    have hK : Hid (hexL n ≤ 16) := HL.out.2.1
    generalize n / 16 ^ (64 - j) = U at *
    have cj : wr.cell? ⟨A, j, none⟩ = some (.int .u8 0) := (HK.out.cell j).trans (fillA_at (by omega))
    have fj := HK.out.frozen j
    by_cases h16 : 16 ≤ U
    · have hb := and15 hU
      have hd := dig_at (U % 16) (Nat.mod_lt _ (by decide))
      have hlt := HX.out h16
      generalize hM : U % 16 = M at *
      have HM := hide hM
      clear hM
      go_wp2_with fail
      go_roundw
      case rel =>
        refine ⟨j, by have := hK.out; omega, by omega, hlt, by rw [HD.out]; rfl, rfl, HB.out.setCell (p := ⟨A, j, none⟩) (Nat.le_of_eq HA.out) _, ?_⟩
        have := HK.out.set_ j (.int .u8 ((hexC M).toNat : Int))
        rwa [HF.out] at this
      case measure => simp [intOf]
    · have hd := dig_at U (by omega)
      have j0 : (0 : Int) ≤ (j : Int) := by omega
      have j1 : (j : Int) ≤ 65 := by omega
      have HM : Hid (U % 16 = U) := Nat.mod_eq_of_lt (by omega)
      have HK2 : Hid (Blk (wr.setCell ⟨A, j, none⟩ (.int .u8 ((hexC U).toNat : Int))) A 175 (fillA n j)) := by
        have := HK.out.set_ j (.int .u8 ((hexC U).toNat : Int))
        rw [HM.out] at HF
        rwa [HF.out] at this
      have hcv := conv_bytes (P := Tryz.prog) (wr.setCell ⟨A, j, none⟩ (.int .u8 ((hexC U).toNat : Int))) 104 5 9 Tryz.underlying104 Tryz.underlying5 Tryz.underlying9 A j (hexN (65 - j) n) (65 - j) (65 - j) (hexN_len _ _).symm (fun i c hc => by
        rw [HK2.out.cell]
        unfold fillA
        rw [List.getElem?_toArray, List.getElem?_append_right (by simp)]
        simp [Lib.byteCells, hc])
      have HE := hide (HY.out h16)
      go_wp2_with fail
      go_ret2
      rw [HE.out]
      exact ⟨rfl, HB.out.setCell (p := ⟨A, j, none⟩) (Nat.le_of_eq HA.out) _⟩
set_option maxHeartbeats 2000000 in
theorem formatUint_16 (n : Nat) (hn : n < 18446744073709551616) (w : World) (hg : Glob w) :
    Calls Tryz.prog 65 #[.int .u64 (n : Int), .int .i64 16] w fun e w' => e = .returned (.string (bs (hexN (hexL n) n))) ∧ Below w.heap.size w w' := by
  have HG := hide hg
  have HN := hide hn
  clear hg hn
  go_enter Tryz.func65, Tryz.ntmps65
  go_wp2_with ((with_reducible refine (formatBits_16 n HN.out _ HG.out).mono ?_); rintro e w' ⟨rfl, hb⟩)
  go_ret
  exact ⟨rfl, hb⟩
set_option maxHeartbeats 2000000 in
theorem FormatUint_16 (n : Nat) (hn : n < 18446744073709551616) (w : World) (hg : Glob w) :
    Calls Tryz.prog 46 #[.int .u64 (n : Int), .int .i64 16] w fun e w' => e = .returned (.string (bs (hexN (hexL n) n))) ∧ Below w.heap.size w w' := by
  have HG := hide hg
  have HN := hide hn
  clear hg hn
  go_enter Tryz.func46, Tryz.ntmps46
  go_wp2_with ((with_reducible refine (formatUint_16 n HN.out _ HG.out).mono ?_); rintro e w' ⟨rfl, hb⟩)
  go_ret
  exact ⟨rfl, hb⟩
end Go.Proofs.YtgdgdhpmjkefjaaGreatDoor

/- Walks of package digest: Sum, Is. -/
set_option linter.unusedVariables false
set_option linter.unusedSimpArgs false
namespace Go.Proofs.YtgdgdhpmjkefjaaGreatDoor
open Go.RowKit

set_option maxHeartbeats 2000000 in
theorem Sum_any (l : List UInt8) (hl : l.length ≤ 140737488355328) (w : World) (hg : Glob w) :
    Calls Tryz.prog 18 #[.string (bs l)] w fun e w' => e = .returned (.string (bs (sumD l))) ∧ Below w.heap.size w w' := by
  have HG := hide hg
  have hsz : (bs l).size = l.length := bs_size l
  have hx : bits BinOp.xor IntKind.u64 7640891576956012809 (l.length : Int) = ((stN l 0 : Nat) : Int) := u64_xor_nat 7640891576956012809 l.length (by decide) (by omega)
  have HN : Hid (sumN l < 18446744073709551616) := by show _ < _; rw [sumN_st]; exact stN_lt (by omega) _
  clear hg
  go_enter Tryz.func18, Tryz.ntmps18
  go_wp2_with fail
  have HS0 : Hid (Blk (w.alloc (.cells #[.int .u64 ((stN l 0 : Nat) : Int)] 83)) w.heap.size 83 (stCells (stN l 0))) := Blk.new w _ _
  have HB0 := hide (below_one w (.cells #[.int .u64 ((stN l 0 : Nat) : Int)] 83))
  refine (blocks_any l w.heap.size _ hl HS0.out).mono ?_
  rintro e w1 ⟨rfl, hb, hs⟩
  have HB1 := hide (HB0.out.trans hb)
  have HS1 := hide hs
  have c0 : w1.cell? ⟨w.heap.size, 0, none⟩ = some (.int .u64 (sumN l)) := hs.cell 0
  have HG1 := hide (HG.out.belowB HB1.out HG.out.top)
  clear hb hs HB0 HS0 HG hx
  obtain ⟨n, HD⟩ : ∃ n, Hid (sumN l = n) := ⟨_, rfl⟩
  rw [HD.out] at HN c0
  go_wp2_with fail
  refine (FormatUint_16 n HN.out _ HG1.out).mono ?_
  rintro e w2 ⟨rfl, hb⟩
  have HB2 := hide (below_to HB1.out (Nat.le_refl _) hb)
  clear hb HG1 c0 HS1
  obtain ⟨q1, q2, _, _⟩ := hexL_spec HN.out
  have HF : Hid (sumD l = List.replicate (16 - hexL n) 48 ++ hexN (hexL n) n) := by show _ = _; rw [hex_fill HN.out, ← HD.out]; rfl
  have hz : (bs (hexN (hexL n) n)).size = hexL n := by rw [bs_size, hexN_len]
  obtain ⟨X, HX⟩ : ∃ X, Hid (hexN (hexL n) n = X) := ⟨_, rfl⟩
  rw [HX.out] at HF hz ⊢
  generalize hexL n = k at *
  go_wp2_with fail
  rw [show (16 : Int) - (k : Int) = ((16 - k : Nat) : Int) by omega]
  refine (Tryz.strings_Repeat ⟨#[48]⟩ (16 - k) _ (by omega) (by show 1 * (16 - k) ≤ _; omega)).mono ?_
  rw [show Lib.repeatL (ByteArray.mk #[48]).data.toList (16 - k) = List.replicate (16 - k) 48 from repeat_zeros _]
  rintro e w3 ⟨rfl, hb⟩
  have HB3 := hide (below_to HB2.out (Nat.le_refl _) hb)
  clear hb
  have hr : (ByteArray.mk (List.replicate (16 - k) (48 : UInt8)).toArray).size = 16 - k := by rw [show ByteArray.mk (List.replicate (16 - k) (48 : UInt8)).toArray = bs (List.replicate (16 - k) 48) from rfl, bs_size]; simp
  go_wp2_with fail
  go_ret
  exact ⟨ret_str' (by rw [HF.out, ← bs_app]; rfl), HB3.out⟩
def hexSet : List UInt8 := [48, 49, 50, 51, 52, 53, 54, 55, 56, 57, 97, 98, 99, 100, 101, 102]
theorem hexSet_nat : ∀ k : Nat, k < 256 → hexSet.contains (UInt8.ofNat k) = isHex (UInt8.ofNat k) := by decide +kernel
theorem hexSet_iff (c : UInt8) : c ∈ hexSet ↔ isHex c = true := by
  have := hexSet_nat c.toNat c.toNat_lt
  rw [UInt8.ofNat_toNat] at this
  rw [← this]; simp
theorem hexSet_ascii : ∀ c ∈ hexSet, c.toNat < 128 := by decide
set_option maxHeartbeats 2000000 in
theorem Is_any (l : List UInt8) (hl : l.length ≤ 9223372036854775807) (w : World) : Calls Tryz.prog 42 #[.string (bs l)] w fun e w' => e = .returned (.bool (isD l)) ∧ Below w.heap.size w w' := by
  have hsz : (bs l).size = l.length := bs_size l
  by_cases h16 : l.length = 16
  · have h2 : (((l.length : Nat) : Int) == 16) = true := by simp; omega
    obtain ⟨X, HX⟩ : ∃ X, Hid (Lib.trimS l hexSet = X) := ⟨_, rfl⟩
    have HD : Hid (isD l = X.isEmpty) := by
      show _ = _
      rw [Bool.eq_iff_iff, isD_iff, List.isEmpty_iff, ← HX.out, trimS_nil]
      constructor
      · exact fun h c hc => (hexSet_iff c).2 (h.2 c hc)
      · exact fun h => ⟨h16, fun c hc => (hexSet_iff c).1 (h c hc)⟩
    have HL := hide hl
    clear h16 hl
    go_enter Tryz.func42, Tryz.ntmps42
    go_wp2_with fail
    refine (Tryz.strings_Trim_laid (bs l) (bs hexSet) _ (by rw [bs_size]; exact HL.out) (by rw [bs_size]; decide) (fun j b h => hexSet_ascii b (by rw [bs_list] at h; exact List.mem_of_getElem? h))).mono ?_
    rw [bs_list, bs_list, HX.out]
    rintro e w1 ⟨rfl, hb⟩
    have HB := hide hb
    clear hb
    have e1 : (ByteArray.mk X.toArray).toList = X := bs_toList X
    cases hX : X.isEmpty
    · have HX2 := hide hX
      rw [hX] at HD
      go_wp2_with fail
      go_ret
      exact ⟨ret_bool HD.out.symm, HB.out⟩
    · rw [hX] at HD
      go_wp2_with fail
      go_ret
      exact ⟨ret_bool HD.out.symm, HB.out⟩
  · have h2 : (((l.length : Nat) : Int) == 16) = false := by simp; omega
    have HD : Hid (isD l = false) := by show _ = _; rw [← Bool.not_eq_true, isD_iff]; exact fun h => h16 h.1
    clear h16
    go_enter Tryz.func42, Tryz.ntmps42
    go_wp2_with fail
    go_ret
    exact ⟨ret_bool HD.out.symm, Below.refl _ _⟩
end Go.Proofs.YtgdgdhpmjkefjaaGreatDoor

/- Walks of package digest: List. -/
set_option linter.unusedVariables false
set_option linter.unusedSimpArgs false
namespace Go.Proofs.YtgdgdhpmjkefjaaGreatDoor
open Go.RowKit

def ListI (ls : List (List UInt8)) (w wr : World) (i : Value) : Prop := ∃ k : Nat, k ≤ ls.length ∧ i = .int .i64 (k : Int) ∧ Lib.IsBuilder 106 5 w.heap.size w.heap.size (Lib.byteCells (joinD (ls.take k))) wr ∧ Below w.heap.size w wr
set_option maxHeartbeats 4000000 in
theorem List_any (ls : List (List UInt8)) (b t : Nat) (w : World) (hS : Blk w b t (strC ls)) (hn : ls.length ≤ 1000) (hl : (joinD ls).length ≤ 140737488355328) (hg : Glob w) :
    Calls Tryz.prog 43 #[.slice (some ⟨b, 0, none⟩) ls.length ls.length] w fun e w' => e = .returned (.string (bs (listD ls))) ∧ Below w.heap.size w w' := by
  have HS := hide hS
  have HG := hide hg
  have HI0 := hide (Lib.fresh_isBuilder 106 5 w)
  have HB0 := hide (below_one w (.cells #[.pointer none, .slice none 0 0] 106))
  have HT := hide hl
  clear hS hg hl
  go_enter Tryz.func43, Tryz.ntmps43
  go_wp2_with fail
  generalize w.alloc (.cells #[.pointer none, .slice none 0 0] 106) = w1 at *
  go_loopw [5, 8] (fun _ i wr => ListI ls w wr i) (fun _ i _ => ls.length - (intOf i).toNat)
  case atStart => exact ⟨0, by omega, rfl, HI0.out, HB0.out⟩
  case round =>
    obtain ⟨k, hk, rfl, hI, hB⟩ := hrel
    have HI := hide hI
    have HB := hide hB
    clear hI hB
    by_cases hlt : k < ls.length
    · obtain ⟨l, hl⟩ : ∃ l, ls[k]? = some l := ⟨_, List.getElem?_eq_getElem hlt⟩
      have ck : wr.cell? ⟨b, k, none⟩ = some (.string (bs l)) := ((HS.out.below HB.out HS.out.lt).cell k).trans (strC_at hl)
      have HJ : Hid (joinD (ls.take (k + 1)) = joinD (ls.take k) ++ (Lib.itoa l.length ++ [58] ++ l)) := by
        show _ = _
        rw [List.take_add_one, hl]
        exact joinD_snoc _ _
      have HLen : Hid ((joinD (ls.take (k + 1))).length ≤ 140737488355328) := by
        have h1 : joinD ls = joinD (ls.take (k + 1)) ++ joinD (ls.drop (k + 1)) := by
          unfold joinD; rw [← List.flatMap_append, List.take_append_drop]
        have := HT.out
        rw [h1, List.length_append] at this
        show _ ≤ _
        omega
      have hsz : (bs l).size = l.length := bs_size l
      have ls3 : Hid ((joinD (ls.take k)).length + ((Lib.itoa l.length).length + 1 + l.length) ≤ 140737488355328) := by
        have := HLen.out
        rw [HJ.out] at this
        simp only [List.length_append, List.length_cons, List.length_nil] at this
        show _ ≤ _
        omega
      clear hl
      generalize joinD (ls.take k) = J at *
      go_wp2_with fail
      refine (Itoa_any (l.length : Int) (by omega) (by have := ls3.out; omega) _ (HG.out.belowB HB.out HG.out.top)).mono ?_
      rintro e w2 ⟨rfl, hb⟩
      have HI1 := hide (IsBuilder_to HI.out hb)
      have HB1 := hide (below_to HB.out (Nat.le_refl _) hb)
      clear hb
      generalize Lib.itoa (l.length : Int) = A at *
      go_wp2_with fail
      refine (Tryz.Builder_WriteString _ _ _ (bs A) _ HI1.out (by rw [Lib.byteCells_length, bs_size]; have := ls3.out; omega) HB1.out.size).mono ?_
      rintro e w3 ⟨rfl, hat, hb⟩
      rw [strCells_bs, ← byteCells_app] at hat
      have HI2 : Hid (Lib.IsBuilder 106 5 w.heap.size w.heap.size (Lib.byteCells (J ++ A)) w3) := .inr hat
      have HB2 := hide (HB1.out.trans hb)
      clear hat hb
      go_wp2_with fail
      refine (Tryz.Builder_WriteByte _ _ _ 58 _ HI2.out (by rw [Lib.byteCells_length, List.length_append]; have := ls3.out; omega) HB2.out.size).mono ?_
      rintro e w4 ⟨rfl, hat, hb⟩
      rw [show [Value.int IntKind.u8 58] = Lib.byteCells [58] from rfl, ← byteCells_app] at hat
      have HI3 : Hid (Lib.IsBuilder 106 5 w.heap.size w.heap.size (Lib.byteCells (J ++ A ++ [58])) w4) := .inr hat
      have HB3 := hide (HB2.out.trans hb)
      clear hat hb
      go_wp2_with fail
      refine (Tryz.Builder_WriteString _ _ _ (bs l) _ HI3.out (by rw [Lib.byteCells_length, bs_size, List.length_append, List.length_append]; have := ls3.out; simp only [List.length_cons, List.length_nil]; omega) HB3.out.size).mono ?_
      rintro e w5 ⟨rfl, hat, hb⟩
      rw [strCells_bs, ← byteCells_app] at hat
      have HI4 : Hid (Lib.IsBuilder 106 5 w.heap.size w.heap.size (Lib.byteCells (joinD (ls.take (k + 1)))) w5) := by
        rw [HJ.out]
        simp only [List.append_assoc] at hat ⊢
        exact .inr hat
      have HB4 := hide (HB3.out.trans hb)
      clear hat hb
      go_wp2_with fail
      go_roundw
      case rel => exact ⟨k + 1, by omega, by go_num, HI4.out, HB4.out⟩
      case measure => simp [intOf]; omega
    · obtain rfl : k = ls.length := by omega
      have e : ls.take ls.length = ls := List.take_length
      rw [e] at HI
      clear e
      go_wp2_with fail
      refine (Tryz.Builder_String_any _ _ _ _ HI.out HB.out.size).mono ?_
      rintro e w2 ⟨rfl, hb⟩
      have HB1 := hide (HB.out.trans hb)
      clear hb
      rw [show ByteArray.mk (joinD ls).toArray = bs (joinD ls) from rfl]
      go_wp2_with fail
      refine (Sum_any (joinD ls) HT.out _ (HG.out.belowB HB1.out HG.out.top)).mono ?_
      rintro e w3 ⟨rfl, hb⟩
      have HB2 := hide (below_to HB1.out (Nat.le_refl _) hb)
      clear hb
      go_wp2_with fail
      go_ret
      exact ⟨rfl, HB2.out⟩
end Go.Proofs.YtgdgdhpmjkefjaaGreatDoor

/- Walks of package tree: half, node, Leaf. -/
set_option linter.unusedVariables false
set_option linter.unusedSimpArgs false
namespace Go.Proofs.YtgdgdhpmjkefjaaGreatDoor
open Go.RowKit

theorem enters_fn {P : Program} {F : FuncId} {fn : Func} {c : Code} (hf : P.funcs[F]? = some fn) (hn : (fn.name == "runtime.NumGoroutine") = false) (hb : fn.body = some c) (args : Array Value) (w : World) : (callFunc F args).run P w = .ok (.enter F args) w := by
  have h1 : fn.name ≠ "runtime.NumGoroutine" := by simpa using hn
  simp [callFunc, hf, h1, hb, mark]
theorem dec_len9 : ∀ (n u : Nat), u < 10 ^ (n + 1) → (Lib.decDigits u).length ≤ n + 1 := by
  intro n
  induction n with
  | zero => intro u hu; rw [Lib.decDigits, dif_pos (show u < 10 by omega)]; simp
  | succ n ih =>
    intro u hu
    rw [Lib.decDigits]
    split
    · simp
    · rw [List.length_append]
      have := ih (u / 10) (by rw [Nat.pow_succ] at hu; omega)
      simp; omega
theorem join_len : ∀ (ls : List (List UInt8)), (∀ l ∈ ls, l.length < 100000000000000000000) → (joinD ls).length ≤ (ls.map List.length).sum + 21 * ls.length
  | [], _ => by simp [joinD]
  | l :: ls, h => by
    have h1 := join_len ls (fun x hx => h x (by simp [hx]))
    have h2 : (Lib.itoa (l.length : Int)).length ≤ 20 := by unfold Lib.itoa; rw [if_neg (by omega)]; exact dec_len9 19 _ (h l (by simp))
    have e : joinD (l :: ls) = (Lib.itoa l.length ++ [58] ++ l) ++ joinD ls := by simp [joinD]
    rw [e]
    simp only [List.length_append, List.map_cons, List.sum_cons, List.length_cons, List.length_nil] at *
    omega
theorem join2 {a b : List UInt8} (ha : a.length ≤ 100000000000) (hb : b.length ≤ 100000000000) : (joinD [a, b]).length ≤ 140737488355328 := by
  have := join_len [a, b] (fun l hl => by
    simp only [List.mem_cons, List.not_mem_nil, or_false] at hl
    rcases hl with rfl | rfl <;> omega)
  simp only [List.map_cons, List.map_nil, List.sum_cons, List.sum_nil, List.length_cons, List.length_nil] at this
  omega
theorem join3 {a b c : List UInt8} (ha : a.length ≤ 100000000000) (hb : b.length ≤ 100000000000) (hc : c.length ≤ 100000000000) : (joinD [a, b, c]).length ≤ 140737488355328 := by
  have := join_len [a, b, c] (fun l hl => by
    simp only [List.mem_cons, List.not_mem_nil, or_false] at hl
    rcases hl with rfl | rfl | rfl <;> omega)
  simp only [List.map_cons, List.map_nil, List.sum_cons, List.sum_nil, List.length_cons, List.length_nil] at this
  omega
theorem halfF_stop {f k n : Nat} (h : n ≤ k * 2) : halfF f k n = k := by
  cases f with
  | zero => rfl
  | succ f => unfold halfF; rw [if_neg (by omega)]
theorem halfF_go {f k n : Nat} (h : k * 2 < n) : halfF (f + 1) k n = halfF f (k * 2) n := by
  conv => lhs; unfold halfF
  rw [if_pos h]
set_option maxRecDepth 100000 in
set_option maxHeartbeats 1000000 in
theorem half_any (n : Nat) (hn : n ≤ 140737488355328) (w : World) : Calls Tryz.prog 72 #[.int .i64 (n : Int)] w fun e w' => e = .returned (.int .i64 ((halfN n : Nat) : Int)) ∧ w' = w := by
  go_enter Tryz.func72, Tryz.ntmps72
  go_wp2_with fail
  go_loopw [3] (fun k wr => ∃ u f : Nat, k = .int .i64 (u : Int) ∧ (1 ≤ u ∧ u ≤ n + 1 ∧ n ≤ u + f ∧ halfF f u n = halfN n) ∧ wr = w) (fun k _ => n - (intOf k).toNat)
  case atStart => exact ⟨1, n, rfl, ⟨Nat.le_refl _, by omega, by omega, rfl⟩, rfl⟩
  case round =>
    obtain ⟨u, f, rfl, ⟨h1, h1', h2, h3⟩, rfl⟩ := hrel
    have H3 := hide h3
    clear h3
    have e0 : IntKind.i64.wrap ((u : Int) * 2) = ((u * 2 : Nat) : Int) := by rw [IntWalk.i64_in _ (by omega)]; omega
    by_cases hlt : u * 2 < n
    · have e1 : decide (((u * 2 : Nat) : Int) < (n : Int)) = true := decide_eq_true (by omega)
      obtain ⟨f', rfl⟩ : ∃ f', f = f' + 1 := ⟨f - 1, by omega⟩
      have H4 := hide (halfF_go (f := f') hlt)
      go_wp2_with fail
      refine ⟨⟨u * 2, f', by go_num, ⟨by omega, by omega, by omega, H4.out.symm.trans H3.out⟩, trivial⟩, ?_⟩
      simp [intOf]; omega
    · have e1 : decide (((u * 2 : Nat) : Int) < (n : Int)) = false := decide_eq_false (by omega)
      have H4 : Hid (halfN n = u) := H3.out.symm.trans (halfF_stop (by omega))
      go_wp2_with fail
      go_ret
      exact ⟨ret_int (by rw [H4.out]), rfl⟩
set_option maxHeartbeats 1000000 in
theorem node_any (a b : List UInt8) (ha : a.length ≤ 100000000000) (hb : b.length ≤ 100000000000) (w : World) (hg : Glob w) : Calls Tryz.prog 73 #[.string (bs a), .string (bs b)] w fun e w' => e = .returned (.string (bs (nodeD a b))) ∧ Below w.heap.size w w' := by
  have CL : Calls Tryz.prog 43 #[.slice (some ⟨w.heap.size, 0, none⟩) 3 3] (w.alloc (.cells #[.string ⟨#[110, 111, 100, 101]⟩, .string (bs a), .string (bs b)] 9)) fun e w' => e = .returned (.string (bs (nodeD a b))) ∧ Below (w.alloc (.cells #[.string ⟨#[110, 111, 100, 101]⟩, .string (bs a), .string (bs b)] 9)).heap.size (w.alloc (.cells #[.string ⟨#[110, 111, 100, 101]⟩, .string (bs a), .string (bs b)] 9)) w' :=
    List_any [nodeT, a, b] _ 9 _ (Blk.new w 9 #[.string ⟨#[110, 111, 100, 101]⟩, .string (bs a), .string (bs b)]) (by simp) (join3 (by decide) ha hb) (hg.alloc _)
  have HB := hide (below_one w (.cells #[.string ⟨#[110, 111, 100, 101]⟩, .string (bs a), .string (bs b)] 9))
  clear hg ha hb
  go_enter Tryz.func73, Tryz.ntmps73
  go_wp2_with ((with_reducible refine CL.mono ?_); rintro e w' ⟨rfl, hb⟩)
  go_ret
  exact ⟨rfl, below_to HB.out (Nat.le_refl _) (by assumption)⟩
set_option maxHeartbeats 1000000 in
theorem Leaf_any (a : List UInt8) (ha : a.length ≤ 100000000000) (w : World) (hg : Glob w) : Calls Tryz.prog 29 #[.string (bs a)] w fun e w' => e = .returned (.string (bs (leafD a))) ∧ Below w.heap.size w w' := by
  have CL : Calls Tryz.prog 43 #[.slice (some ⟨w.heap.size, 0, none⟩) 2 2] (w.alloc (.cells #[.string ⟨#[108, 101, 97, 102]⟩, .string (bs a)] 9)) fun e w' => e = .returned (.string (bs (leafD a))) ∧ Below (w.alloc (.cells #[.string ⟨#[108, 101, 97, 102]⟩, .string (bs a)] 9)).heap.size (w.alloc (.cells #[.string ⟨#[108, 101, 97, 102]⟩, .string (bs a)] 9)) w' :=
    List_any [leafT, a] _ 9 _ (Blk.new w 9 #[.string ⟨#[108, 101, 97, 102]⟩, .string (bs a)]) (by simp) (join2 (by decide) ha) (hg.alloc _)
  have HB := hide (below_one w (.cells #[.string ⟨#[108, 101, 97, 102]⟩, .string (bs a)] 9))
  clear hg ha
  go_enter Tryz.func29, Tryz.ntmps29
  go_wp2_with ((with_reducible refine CL.mono ?_); rintro e w' ⟨rfl, hb⟩)
  go_ret
  exact ⟨rfl, below_to HB.out (Nat.le_refl _) (by assumption)⟩
end Go.Proofs.YtgdgdhpmjkefjaaGreatDoor

/- Walks of package tree: the sum of a list of digests. -/
set_option linter.unusedVariables false
set_option linter.unusedSimpArgs false
namespace Go.Proofs.YtgdgdhpmjkefjaaGreatDoor
open Go.RowKit

theorem TextsAt.slice {w : World} {v : Value} {ls : List (List UInt8)} (h : TextsAt w v ls) : ∃ A c, v = .slice A ls.length c ∧ ls.length ≤ c := by
  obtain ⟨A, c, h1, h2, _⟩ := h
  exact ⟨A, c, by rw [h1, List.length_map], by simpa using h2⟩
theorem TextsAt.at_ {w : World} {A : Option Addr} {n c : Nat} {ls : List (List UInt8)} (h : TextsAt w (.slice A n c) ls) {k : Nat} {x : List UInt8} (hx : ls[k]? = some x) : ∃ a, A = some a ∧ a.block < w.heap.size ∧ w.cell? (a.add k) = some (.string (bs x)) := by
  obtain ⟨a, c', h1, _, h3, _, h5⟩ := RowsAt.at_ h (k := k) (x := strV x) (by rw [List.getElem?_map, hx]; rfl)
  injection h1 with e1
  refine ⟨a, e1, h3, ?_⟩
  have := h5 0 _ rfl
  rwa [add_of_add, Nat.add_zero, Nat.mul_one] at this
theorem TextsAt.take {w : World} {A : Option Addr} {n c : Nat} {ls : List (List UInt8)} (h : TextsAt w (.slice A n c) ls) {k : Nat} (hk : k ≤ ls.length) (c' : Nat) (hc : k ≤ c') : TextsAt w (.slice A k c') (ls.take k) := by
  have := RowsAt.take h (k := k) (by simpa using hk) c' hc
  unfold TextsAt; rw [List.map_take]; exact this
theorem TextsAt.drop {w : World} {a : Addr} {n c : Nat} {ls : List (List UInt8)} (h : TextsAt w (.slice (some a) n c) ls) {k : Nat} (hk : k ≤ ls.length) (c' : Nat) (hc : ls.length - k ≤ c') : TextsAt w (.slice (some (a.add k)) (ls.length - k) c') (ls.drop k) := by
  have := RowsAt.drop h (k := k) (by simpa using hk) c' (by simpa using hc)
  unfold TextsAt; rw [List.map_drop]; simpa using this
theorem ent_sum : ∀ args w, (callFunc 71 args).run Tryz.prog w = .ok (.enter 71 args) w := enters_fn Tryz.func71 (by kernel_rfl) rfl
theorem isD_len {d : List UInt8} (h : isD d = true) : d.length = 16 := ((isD_iff d).1 h).1
theorem sumT_len {f : Nat} {l : List (List UInt8)} (h : ∀ x ∈ l, x.length ≤ 100000000000) : (sumT f l).length ≤ 100000000000 := by
  cases f with
  | zero => simp [sumT]
  | succ f =>
    by_cases h1 : l.length = 1
    · rw [sumT_one f h1]
      match l, h1 with
      | [x], _ => exact h x (by simp)
    · rw [sumT_two f h1]
      have := isD_len (listD_isD [nodeT, sumT f (l.take (halfN l.length)), sumT f (l.drop (halfN l.length))])
      unfold nodeD
      omega
def sumF (b : Nat) : Value := .func (.func 71) #[] #[.pointer (some ⟨b, 0, none⟩)]
def SumOk (f : Nat) (b : Nat) : Prop := ∀ (ls : List (List UInt8)) (v : Value) (w : World), TextsAt w v ls → 1 ≤ ls.length → ls.length ≤ f → ls.length ≤ 140737488355328 → (∀ x ∈ ls, x.length ≤ 100000000000) → Glob w → w.cell? ⟨b, 0, none⟩ = some (.func (.func 71) #[] #[.pointer (some ⟨b, 0, none⟩)]) →
  Calls Tryz.prog 71 #[v, .pointer (some ⟨b, 0, none⟩)] w fun e w' => e = .returned (.string (bs (sumT f ls))) ∧ Below w.heap.size w w'
set_option maxRecDepth 100000 in
set_option maxHeartbeats 4000000 in
theorem sum_step (f b : Nat) (ih : SumOk f b) : SumOk (f + 1) b := by
  intro ls v w hv h1 hf hn hx hg hb
  obtain ⟨A, c, rfl, hc⟩ := hv.slice
  have hE := ent_sum
  by_cases hl1 : ls.length = 1
  · obtain ⟨x, rfl⟩ : ∃ x, ls = [x] := by
      match ls, hl1 with
      | [x], _ => exact ⟨x, rfl⟩
    obtain ⟨a, rfl, ha, c0⟩ := hv.at_ (k := 0) (x := x) rfl
    have HV : Hid (sumT (f + 1) [x] = x) := sumT_one f rfl
    rw [show a.add 0 = a from rfl] at c0
    clear hv hx hg hb ih hE
    go_enter Tryz.func71, Tryz.ntmps71
    go_wp2_with fail
    go_ret
    exact ⟨by rw [HV.out]; rfl, Below.refl _ _⟩
  · have hh := half_lt (n := ls.length) (by omega)
    have HV : Hid (sumT (f + 1) ls = nodeD (sumT f (ls.take (halfN ls.length))) (sumT f (ls.drop (halfN ls.length)))) := sumT_two f hl1
    have CH := fun w => half_any ls.length hn w
    obtain ⟨x0, hx0⟩ : ∃ x, ls[0]? = some x := ⟨_, List.getElem?_eq_getElem (by omega)⟩
    obtain ⟨a, rfl, ha, _⟩ := hv.at_ hx0
    clear hx0
    obtain ⟨U, hU, g, u0, rfl, hgu, hi⟩ := cls w
    have e1 : ((ls.length : Int) == 1) = false := by rw [beq_eq_false_iff_ne]; omega
    have hbk := World.block_lt_of_cell? (g u0) _ hb
    have hbu : ∀ u, (g u).cell? ⟨b, 0, none⟩ = some (.func (.func 71) #[] #[.pointer (some ⟨b, 0, none⟩)]) := fun u => ((hgu u).cell (p := ⟨b, 0, none⟩) hbk).trans hb
    generalize hk : halfN ls.length = k at *
    have CS1 := cls_call hgu hi (fun w hw => ih (ls.take k) _ w ((hv.take (k := k) (by omega) c (by omega)).to hw) (by rw [List.length_take]; omega) (by rw [List.length_take]; omega) (by rw [List.length_take]; omega) (fun x h => hx x (List.mem_of_mem_take h)) (hg.to hw) ((hw.cell (p := ⟨b, 0, none⟩) hbk).trans hb))
    have CS2 := cls_call hgu hi (fun w hw => ih (ls.drop k) _ w ((hv.drop (k := k) (by omega) (c - k) (by omega)).to hw) (by rw [List.length_drop]; omega) (by rw [List.length_drop]; omega) (by rw [List.length_drop]; omega) (fun x h => hx x (List.mem_of_mem_drop h)) (hg.to hw) ((hw.cell (p := ⟨b, 0, none⟩) hbk).trans hb))
    have CN := cls_call hgu hi (fun w hw => node_any (sumT f (ls.take k)) (sumT f (ls.drop k)) (sumT_len (fun x h => hx x (List.mem_of_mem_take h))) (sumT_len (fun x h => hx x (List.mem_of_mem_drop h))) w (hg.to hw))
    have HGU := hide hgu
    have HHI := hide hi
    have k1 : (k : Int) ≤ (c : Int) := by omega
    have k0 : (0 : Int) ≤ (k : Int) := by omega
    have k2 : (k : Int) ≤ (ls.length : Int) := by omega
    have k3 : ((k : Int) == (c : Int)) = false := by rw [beq_eq_false_iff_ne]; omega
    have k4 : k ≠ c := by omega
    clear hgu hi hx hg hb hv ih
    go_enter Tryz.func71, Tryz.ntmps71
    go_wp2_with ((with_reducible refine (CH _).mono ?_); rintro e w' ⟨rfl, rfl⟩)
    refine wp_region_class g (by kernel_rfl) (by kernel_rfl) (HHI.out _ (HGU.out _).drew) ?_
    repeat (go_big_quiet_step (first | with_reducible exact CS1 _ | with_reducible exact CS2 _ | with_reducible exact CN _))
    refine wpQuiet_nil ?_
    intro w5 hw5
    obtain ⟨u, rfl⟩ := hw5
    go_wp2_with fail
    go_ret
    exact ⟨by rw [HV.out]; rfl, HGU.out _⟩
theorem sum_any (b : Nat) : ∀ f, SumOk f b
  | 0 => fun ls v w _ h1 h2 => by omega
  | f + 1 => sum_step f b (sum_any b f)
set_option maxRecDepth 100000 in
set_option maxHeartbeats 4000000 in
theorem total_any (ls : List (List UInt8)) (hn : ls.length ≤ 140737488355328) (hx : ∀ x ∈ ls, x.length ≤ 100000000000) (v : Value) (w : World) (hv : TextsAt w v ls) (hg : Glob w) :
    Calls Tryz.prog 50 #[v] w fun e w' => e = .returned (.string (bs (totalT ls))) ∧ Below w.heap.size w w' := by
  obtain ⟨A, c, rfl, hc⟩ := hv.slice
  have hE := ent_sum
  have HB := hide (below_one w (.cells #[.func (.func 71) #[] #[.pointer (some ⟨w.heap.size, 0, none⟩)]] 81))
  have HX := hide (Blk.new w 81 #[.func (.func 71) #[] #[.pointer (some ⟨w.heap.size, 0, none⟩)]])
  by_cases h0 : ls.length = 0
  · obtain rfl : ls = [] := List.eq_nil_of_length_eq_zero h0
    have CL := fun w (hg : Glob w) => List_any [emptyT] _ 9 _ (Blk.new w 9 #[.string ⟨#[101, 109, 112, 116, 121]⟩]) (by simp) (by decide +kernel) (hg.alloc _)
    have CL' := CL _ (hg.alloc (.cells #[.func (.func 71) #[] #[.pointer (some ⟨w.heap.size, 0, none⟩)]] 81))
    rw [show (w.alloc (.cells #[.func (.func 71) #[] #[.pointer (some ⟨w.heap.size, 0, none⟩)]] 81)).heap.size = w.heap.size + 1 by simp] at CL'
    have HB2 := hide (below_alloc HB.out (Nat.le_refl _) (.cells #[.string ⟨#[101, 109, 112, 116, 121]⟩] 9))
    clear hv hx hg CL
    go_enter Tryz.func50, Tryz.ntmps50
    go_wp2_with fail
    refine CL'.mono ?_
    rintro e w3 ⟨rfl, hb⟩
    have HB3 := hide (below_to HB2.out (Nat.le_refl _) hb)
    clear hb
    go_wp2_with fail
    go_ret
    exact ⟨rfl, HB3.out⟩
  · have HV : Hid (totalT ls = sumT ls.length ls) := by show _ = _; unfold totalT; rw [if_neg h0]
    have e1 : ((ls.length : Int) == 0) = false := by rw [beq_eq_false_iff_ne]; omega
    have CS := sum_any w.heap.size ls.length ls _ (w.alloc (.cells #[.func (.func 71) #[] #[.pointer (some ⟨w.heap.size, 0, none⟩)]] 81)) (hv.to HB.out) (by omega) (Nat.le_refl _) hn hx (hg.alloc _) (HX.out.cell 0)
    clear hv hx hg h0
    go_enter Tryz.func50, Tryz.ntmps50
    go_wp2_with fail
    refine CS.mono ?_
    rintro e w3 ⟨rfl, hb⟩
    have HB3 := hide (below_to HB.out (Nat.le_refl _) hb)
    clear hb
    go_wp2_with fail
    go_ret
    exact ⟨by rw [HV.out]; rfl, HB3.out⟩
end Go.Proofs.YtgdgdhpmjkefjaaGreatDoor

/- Walks of package tree: proper, Root. -/
set_option linter.unusedVariables false
set_option linter.unusedSimpArgs false
namespace Go.Proofs.YtgdgdhpmjkefjaaGreatDoor
open Go.RowKit

theorem drop_at' {α : Type} {l : List α} {k : Nat} {x : α} (h : l[k]? = some x) : l.drop k = x :: l.drop (k + 1) := by
  obtain ⟨hlt, e⟩ := List.getElem?_eq_some_iff.1 h
  rw [List.drop_eq_getElem_cons hlt, e]
def IdxR (b : Bool) (w : World) (e : Ending) (w' : World) : Prop := ∃ i : Int, e = .returned (.int .i64 i) ∧ decide (0 ≤ i) = b ∧ Below w.heap.size w w'
set_option maxRecDepth 100000 in
set_option maxHeartbeats 4000000 in
theorem IndexFunc_dig (K : FuncId) (hE : ∀ args w, (callFunc K args).run Tryz.prog w = .ok (.enter K args) w) (p : List UInt8 → Bool) (ls : List (List UInt8)) (hn : ls.length ≤ 140737488355328) (v : Value) (w : World) (hv : TextsAt w v ls)
    (hF : ∀ x ∈ ls, ∀ w', Below w.heap.size w w' → Calls Tryz.prog K #[.string (bs x)] w' fun e w'' => e = .returned (.bool (p x)) ∧ Below w'.heap.size w' w'') :
    Calls Tryz.prog 100 #[v, .func (.func K) #[] #[]] w (IdxR (ls.any p) w) := by
  obtain ⟨A, c, rfl, hc⟩ := hv.slice
  have HS := hide hv
  have HF := hide hF
  clear hv hF
  go_enter Tryz.func100, Tryz.ntmps100
  go_wp2_with fail
  go_loopw [5, 8] (fun _ i wr => ∃ k : Nat, i = .int .i64 (k : Int) ∧ k ≤ ls.length ∧ Aside (Below w.heap.size w wr) ∧ Aside (ls.any p = (ls.drop k).any p)) (fun _ i _ => ls.length - (intOf i).toNat)
  case atStart => exact ⟨0, rfl, by omega, Below.refl _ _, rfl⟩
  case round =>
    obtain ⟨k, rfl, hk, hB, hA⟩ := hrel
    have HB : Hid (Below w.heap.size w wr) := hB
    have HA : Hid (ls.any p = (ls.drop k).any p) := hA
    clear hB hA
    by_cases hlt : k < ls.length
    · have e1 : decide ((k : Int) < (ls.length : Int)) = true := decide_eq_true (by omega)
      obtain ⟨x, hx⟩ : ∃ x, ls[k]? = some x := ⟨_, List.getElem?_eq_getElem hlt⟩
      obtain ⟨a, rfl, ha, c0⟩ := (HS.out.to HB.out).at_ hx
      have CV := HF.out x (List.mem_of_getElem? hx) wr HB.out
      have HD := hide (drop_at' hx)
      clear hx
      cases hp : p x with
      | true =>
        rw [hp] at CV
        have HV : Hid (ls.any p = true) := by show _ = _; rw [HA.out, HD.out, List.any_cons, hp]; rfl
        clear hp
        go_wp2_with ((with_reducible refine CV.mono ?_); rintro e w4 ⟨rfl, hb4⟩)
        go_ret
        exact ⟨_, rfl, by rw [HV.out]; exact decide_eq_true (by omega), below_to HB.out (Nat.le_refl _) (by assumption)⟩
      | false =>
        rw [hp] at CV
        have HV : Hid (ls.any p = (ls.drop (k + 1)).any p) := by show _ = _; rw [HA.out, HD.out, List.any_cons, hp]; rfl
        clear hp
        go_wp2_with ((with_reducible refine CV.mono ?_); rintro e w4 ⟨rfl, hb4⟩)
        refine ⟨⟨k + 1, by go_num, by omega, below_to HB.out (Nat.le_refl _) (by assumption), HV.out⟩, ?_⟩
        simp [intOf]; omega
    · obtain rfl : k = ls.length := by omega
      have e1 : decide ((ls.length : Int) < (ls.length : Int)) = false := by simp
      have HV : Hid (ls.any p = false) := by show _ = _; rw [HA.out, List.drop_length]; rfl
      go_wp2_with fail
      go_ret
      exact ⟨-1, rfl, by rw [HV.out]; rfl, HB.out⟩
set_option maxHeartbeats 1000000 in
theorem ContainsFunc_dig (K : FuncId) (hE : ∀ args w, (callFunc K args).run Tryz.prog w = .ok (.enter K args) w) (p : List UInt8 → Bool) (ls : List (List UInt8)) (hn : ls.length ≤ 140737488355328) (v : Value) (w : World) (hv : TextsAt w v ls)
    (hF : ∀ x ∈ ls, ∀ w', Below w.heap.size w w' → Calls Tryz.prog K #[.string (bs x)] w' fun e w'' => e = .returned (.bool (p x)) ∧ Below w'.heap.size w' w'') :
    Calls Tryz.prog 69 #[v, .func (.func K) #[] #[]] w fun e w' => e = .returned (.bool (ls.any p)) ∧ Below w.heap.size w w' := by
  have CI := IndexFunc_dig K hE p ls hn v w hv hF
  clear hv hF
  go_enter Tryz.func69, Tryz.ntmps69
  go_wp2_with fail
  refine CI.mono ?_
  rintro e w2 ⟨i, rfl, hi, hb⟩
  have HI := hide hi
  have HB := hide hb
  clear hi hb
  go_wp2_with fail
  go_ret
  exact ⟨ret_bool HI.out, HB.out⟩
theorem ent_proper1 : ∀ args w, (callFunc 70 args).run Tryz.prog w = .ok (.enter 70 args) w := enters_fn Tryz.func70 (by kernel_rfl) rfl
set_option maxHeartbeats 1000000 in
theorem proper1_any (x : List UInt8) (hx : x.length ≤ 100000000000) (w : World) : Calls Tryz.prog 70 #[.string (bs x)] w fun e w' => e = .returned (.bool (!isD x)) ∧ Below w.heap.size w w' := by
  have CI := Is_any x (by omega) w
  go_enter Tryz.func70, Tryz.ntmps70
  go_wp2_with ((with_reducible refine CI.mono ?_); rintro e w' ⟨rfl, hb⟩)
  go_ret
  exact ⟨rfl, by assumption⟩
set_option maxHeartbeats 1000000 in
theorem tproper_any (ls : List (List UInt8)) (hn : ls.length ≤ 140737488355328) (hx : ∀ x ∈ ls, x.length ≤ 100000000000) (v : Value) (w : World) (hv : TextsAt w v ls) :
    Calls Tryz.prog 49 #[v] w fun e w' => e = .returned (.bool (properT ls)) ∧ Below w.heap.size w w' := by
  have CI := ContainsFunc_dig 70 ent_proper1 (fun x => !isD x) ls hn v w hv (fun x h w' _ => proper1_any x (hx x h) w')
  have HV : Hid (properT ls = !(ls.any fun x => !isD x)) := by show _ = _; unfold properT; rw [List.not_any_eq_all_not]; simp
  clear hv hx
  go_enter Tryz.func49, Tryz.ntmps49
  go_wp2_with ((with_reducible refine CI.mono ?_); rintro e w' ⟨rfl, hb⟩)
  go_ret
  exact ⟨ret_bool (by rw [HV.out]), by assumption⟩
set_option maxHeartbeats 2000000 in
theorem tRoot_any (ls : List (List UInt8)) (hn : ls.length ≤ 140737488355328) (hx : ∀ x ∈ ls, x.length ≤ 100000000000) (v : Value) (w : World) (hv : TextsAt w v ls) (hg : Glob w) :
    Calls Tryz.prog 26 #[v] w fun e w' => e = .returned (.tuple #[.string (bs (rootV ls)), .int .i64 (rootE ls)]) ∧ Below w.heap.size w w' := by
  have CP := tproper_any ls hn hx v w hv
  have CT := fun (w' : World) (hb : Below w.heap.size w w') => total_any ls hn hx v w' (hv.to hb) (hg.to hb)
  unfold rootV rootE
  clear hv hg hx
  cases hp : properT ls with
  | false =>
    rw [hp] at CP
    rw [if_neg (by simp), if_neg (by simp)]
    clear hp
    go_enter Tryz.func26, Tryz.ntmps26
    go_wp2_with ((with_reducible refine CP.mono ?_); rintro e w' ⟨rfl, hb⟩)
    go_ret2
    exact ⟨rfl, by assumption⟩
  | true =>
    rw [hp] at CP
    rw [if_pos rfl, if_pos rfl]
    clear hp
    go_enter Tryz.func26, Tryz.ntmps26
    go_wp2_with fail
    refine CP.mono ?_
    rintro e w2 ⟨rfl, hb⟩
    have HB := hide hb
    have CT' := CT _ hb
    clear hb CP CT
    go_wp2_with ((with_reducible refine CT'.mono ?_); rintro e w3 ⟨rfl, hb3⟩)
    go_ret2
    exact ⟨rfl, below_to HB.out (Nat.le_refl _) (by assumption)⟩
end Go.Proofs.YtgdgdhpmjkefjaaGreatDoor

/- Walks of package privacy: named. -/
set_option linter.unusedVariables false
set_option linter.unusedSimpArgs false
namespace Go.Proofs.YtgdgdhpmjkefjaaGreatDoor
open Go.RowKit

set_option maxRecDepth 100000 in
set_option maxHeartbeats 4000000 in
theorem named_any (d : List UInt8) (hl : d.length ≤ 140737488355328) (w : World) : Calls Tryz.prog 40 #[.string (bs d)] w fun e w' => e = .returned (.bool (isNm d)) ∧ Below w.heap.size w w' := by
  have CL := fun w => Lex_any d hl w
  by_cases hE : (lexP d).2.1 ≠ 0
  · have HV : Hid (isNm d = false) := by
      show _ = _
      rw [← Bool.not_eq_true]; intro h; rw [lex_of_nm h] at hE; exact hE rfl
    have e1 : ((lexP d).2.1 == 0) = false := by rw [beq_eq_false_iff_ne]; exact hE
    clear hE
    generalize (lexP d).2.1 = E at *
    go_enter Tryz.func40, Tryz.ntmps40
    go_wp2_with fail
    refine (CL _).mono ?_
    rintro e w2 ⟨v, rfl, hv, hb⟩
    have HB := hide hb
    clear hv hb CL
    go_wp2_with fail
    go_ret
    exact ⟨ret_bool (by rw [HV.out]), HB.out⟩
  have hE0 : (lexP d).2.1 = 0 := Classical.byContradiction hE
  rw [hE0] at CL
  by_cases hn : (lexP d).1.length ≠ 1
  · have HV : Hid (isNm d = false) := by
      show _ = _
      rw [← Bool.not_eq_true]; intro h; rw [lex_of_nm h] at hn; exact hn rfl
    clear hE hE0
    go_enter Tryz.func40, Tryz.ntmps40
    go_wp2_with fail
    refine (CL _).mono ?_
    rintro e w2 ⟨v, rfl, hv, hb⟩
    have HB := hide hb
    obtain ⟨A, c, rfl⟩ : ∃ A c, v = .slice A (lexP d).1.length c := by
      rcases hv with ⟨h1, A, c, h2⟩ | ⟨b, c, h1, _⟩
      · rw [h1]; exact ⟨A, c, h2⟩
      · exact ⟨_, _, h1⟩
    have e1 : (((lexP d).1.length : Int) == 1) = false := by rw [beq_eq_false_iff_ne]; omega
    clear hv hb CL hn
    generalize (lexP d).1.length = n at *
    go_wp2_with fail
    go_ret
    exact ⟨ret_bool (by rw [HV.out]), HB.out⟩
  obtain ⟨⟨xk, xa, xn, xs⟩, hx⟩ : ∃ x, (lexP d).1 = [x] := by
    match hl : (lexP d).1, (Classical.byContradiction hn : (lexP d).1.length = 1) with
    | [x], _ => exact ⟨x, rfl⟩
  rw [hx] at CL
  have hone : ∀ {w2 : World} {v : Value}, TokRow w2 v [⟨xk, xa, xn, xs⟩] → ∃ tb tc, v = .slice (some ⟨tb, 0, none⟩) 1 tc ∧ w2.cell? ⟨tb, 0, none⟩ = some (.int .i64 xk) ∧ w2.cell? ⟨tb, 3, none⟩ = some (.string (bs xs)) := fun {w2 v} hv => by
    rcases hv with ⟨h1, _⟩ | ⟨b, c, h1, _, h2, h3⟩
    · cases h1
    · exact ⟨b, c, h1, h3 0 _ rfl 0 _ rfl, h3 0 _ rfl 3 _ rfl⟩
  by_cases hk : xk = 1
  · by_cases ht : xs = d
    · have HV : Hid (isNm d = true) := by
        show _ = _
        subst hk; subst ht
        exact nm_of_lex hE0 hx
      have e1 : ((bs xs).toList == (bs d).toList) = true := by rw [ht]; simp
      clear hE hE0 hn hx ht
      subst hk
      go_enter Tryz.func40, Tryz.ntmps40
      go_wp2_with fail
      refine (CL _).mono ?_
      rintro e w2 ⟨v, rfl, hv, hb⟩
      have HB := hide hb
      obtain ⟨tb, tc, rfl, t0, t3⟩ := hone hv
      clear hv hb CL hone
      go_wp2_with fail
      go_ret
      exact ⟨ret_bool (by rw [HV.out]), HB.out⟩
    · have HV : Hid (isNm d = false) := by
        show _ = _
        rw [← Bool.not_eq_true]; intro h; rw [lex_of_nm h] at hx
        simp at hx; exact ht hx.2.2.2.symm
      have e1 : ((bs xs).toList == (bs d).toList) = false := by rw [beq_eq_false_iff_ne, bs_toList, bs_toList]; exact ht
      clear hE hE0 hn hx ht
      subst hk
      go_enter Tryz.func40, Tryz.ntmps40
      go_wp2_with fail
      refine (CL _).mono ?_
      rintro e w2 ⟨v, rfl, hv, hb⟩
      have HB := hide hb
      obtain ⟨tb, tc, rfl, t0, t3⟩ := hone hv
      clear hv hb CL hone
      go_wp2_with fail
      go_ret
      exact ⟨ret_bool (by rw [HV.out]), HB.out⟩
  · have HV : Hid (isNm d = false) := by
      show _ = _
      rw [← Bool.not_eq_true]; intro h; rw [lex_of_nm h] at hx
      simp at hx; exact hk hx.1.symm
    have e1 : (xk == 1) = false := by rw [beq_eq_false_iff_ne]; exact hk
    clear hE hE0 hn hx hk
    go_enter Tryz.func40, Tryz.ntmps40
    go_wp2_with fail
    refine (CL _).mono ?_
    rintro e w2 ⟨v, rfl, hv, hb⟩
    have HB := hide hb
    obtain ⟨tb, tc, rfl, t0, t3⟩ := hone hv
    clear hv hb CL hone
    go_wp2_with fail
    go_ret
    exact ⟨ret_bool (by rw [HV.out]), HB.out⟩
end Go.Proofs.YtgdgdhpmjkefjaaGreatDoor

/- Walks of package privacy: Make. -/
set_option linter.unusedVariables false
set_option linter.unusedSimpArgs false
namespace Go.Proofs.YtgdgdhpmjkefjaaGreatDoor
open Go.RowKit

def lnC (l : Ln) : Array Value := #[.string (bs l.p), .string (bs l.t), .string (bs l.s), .string (bs l.d)]
theorem Contains_10 (t : List UInt8) (w : World) : Calls Tryz.prog 41 #[.string (bs t), .string ⟨#[10]⟩] w fun e w' => e = .returned (.bool (t.contains 10)) ∧ w' = w := by
  have h := Tryz.strings_Contains_one (bs t) 10 w
  rw [bs_list, ← Lib.contains_iff_indexByte] at h
  exact h
set_option maxRecDepth 100000 in
set_option maxHeartbeats 8000000 in
theorem Make_any (p t s : List UInt8) (hp : p.length ≤ 140737488355328) (ht : t.length ≤ 140737488355328) (hs : s.length ≤ 140737488355328) (w : World) (hg : Glob w) :
    Calls Tryz.prog 17 #[.string (bs p), .string (bs t), .string (bs s)] w fun e w' => e = .returned (.tuple #[.agg (lnC (makeV p t s)), .int .i64 (makeE p t s)]) ∧ Below w.heap.size w w' := by
  have HB := hide (below_one w (.cells #[.string ⟨#[]⟩, .string ⟨#[]⟩, .string ⟨#[]⟩, .string ⟨#[]⟩] 35))
  have HR := hide (Blk.new w 35 #[.string ⟨#[]⟩, .string ⟨#[]⟩, .string ⟨#[]⟩, .string ⟨#[]⟩])
  have HG := hide (hg.alloc (.cells #[.string ⟨#[]⟩, .string ⟨#[]⟩, .string ⟨#[]⟩, .string ⟨#[]⟩] 35))
  have hzt : (bs t).size = t.length := bs_size t
  have hte : (bs t).toList.isEmpty = t.isEmpty := by rw [bs_toList]
  clear hg
  go_enter Tryz.func17, Tryz.ntmps17
  go_wp2_with fail
  generalize w.alloc (.cells #[.string ⟨#[]⟩, .string ⟨#[]⟩, .string ⟨#[]⟩, .string ⟨#[]⟩] 35) = w1 at *
  obtain ⟨br, hbr⟩ : ∃ b, Hid (w.heap.size = b) := ⟨_, rfl⟩
  rw [hbr.out] at HR ⊢
  obtain ⟨U, hU, g, u0, rfl, hgu, hi⟩ := cls w1
  have CN := cls_call hgu hi (fun w _ => named_any p hp w)
  have CC := cls_call hgu hi (fun w _ => (Contains_10 t w).mono fun e w' ⟨he, hw⟩ => (⟨he, hw ▸ Below.refl _ _⟩ : e = .returned (.bool (t.contains 10)) ∧ Below w.heap.size w w'))
  have CI := cls_call hgu hi (fun w _ => Is_any s (by omega) w)
  have r0 := blk_all hgu HR.out 0 rfl
  have r1 := blk_all hgu HR.out 1 rfl
  have r2 := blk_all hgu HR.out 2 rfl
  have r3 := blk_all hgu HR.out 3 rfl
  have f0 : ∀ u i, (g u).frozen? ⟨br, i, none⟩ = false := fun u i => (HR.out.to (hgu u)).frozen i
  have HGU := hide hgu
  have HHI := hide hi
  have HM : Hid (canM p t s = (isNm p && !t.isEmpty && decide (t.length ≤ 400) && !t.contains 10 && isD s)) := rfl
  have HV0 : Hid (canM p t s = false → makeV p t s = noL ∧ makeE p t s = 1) := fun h => by unfold makeV makeE; rw [h]; exact ⟨rfl, rfl⟩
  have HV1 : Hid (canM p t s = true → makeV p t s = mkL p t s ∧ makeE p t s = 0) := fun h => by unfold makeV makeE; rw [h]; exact ⟨rfl, rfl⟩
  clear hgu hi
  cases h1 : isNm p with
  | false =>
    rw [h1] at CN
    have HV := hide (HV0.out (by rw [HM.out, h1]; simp))
    clear HV0 HV1 HM
    go_wp2_with (first | ((with_reducible refine (CN _).mono ?_); rintro e' w' ⟨rfl, uz, rfl⟩) | ((with_reducible refine (CC _).mono ?_); rintro e' w' ⟨rfl, uz, rfl⟩) | ((with_reducible refine (CI _).mono ?_); rintro e' w' ⟨rfl, uz, rfl⟩))
    have hbk := (((((HR.out.to (HGU.out uz)).set_ 0 (.string ⟨#[]⟩)).set_ 1 (.string ⟨#[]⟩)).set_ 2 (.string ⟨#[]⟩)).set_ 3 (.string ⟨#[]⟩))
    refine bodyPost_ret (results_c1 (p := 6) (u := 7) rfl _ _ br 35 _ _ rfl hbk Tryz.underlying35 rfl (by kernel_rfl)) rfl ⟨by rw [HV.out.1, HV.out.2]; rfl, ?_⟩
    exact (((((below_to HB.out (Nat.le_refl _) (HGU.out uz)).setCell (p := ⟨br, 0, none⟩) (Nat.le_of_eq hbr.out) _).setCell (p := ⟨br, 1, none⟩) (Nat.le_of_eq hbr.out) _).setCell (p := ⟨br, 2, none⟩) (Nat.le_of_eq hbr.out) _).setCell (p := ⟨br, 3, none⟩) (Nat.le_of_eq hbr.out) _)
  | true =>
    rw [h1] at CN
    cases h2 : t.isEmpty with
    | true =>
      rw [h2] at hte
      have HV := hide (HV0.out (by rw [HM.out, h2]; simp))
      clear HV0 HV1 HM
      go_wp2_with (first | ((with_reducible refine (CN _).mono ?_); rintro e' w' ⟨rfl, uz, rfl⟩) | ((with_reducible refine (CC _).mono ?_); rintro e' w' ⟨rfl, uz, rfl⟩) | ((with_reducible refine (CI _).mono ?_); rintro e' w' ⟨rfl, uz, rfl⟩))
      have hbk := (((((HR.out.to (HGU.out uz)).set_ 0 (.string ⟨#[]⟩)).set_ 1 (.string ⟨#[]⟩)).set_ 2 (.string ⟨#[]⟩)).set_ 3 (.string ⟨#[]⟩))
      refine bodyPost_ret (results_c1 (p := 6) (u := 7) rfl _ _ br 35 _ _ rfl hbk Tryz.underlying35 rfl (by kernel_rfl)) rfl ⟨by rw [HV.out.1, HV.out.2]; rfl, ?_⟩
      exact (((((below_to HB.out (Nat.le_refl _) (HGU.out uz)).setCell (p := ⟨br, 0, none⟩) (Nat.le_of_eq hbr.out) _).setCell (p := ⟨br, 1, none⟩) (Nat.le_of_eq hbr.out) _).setCell (p := ⟨br, 2, none⟩) (Nat.le_of_eq hbr.out) _).setCell (p := ⟨br, 3, none⟩) (Nat.le_of_eq hbr.out) _)
    | false =>
      rw [h2] at hte
      by_cases h3 : t.length ≤ 400
      · have e3 : decide ((400 : Int) < (t.length : Int)) = false := decide_eq_false (by omega)
        cases h4 : t.contains 10 with
        | true =>
          rw [h4] at CC
          have HV := hide (HV0.out (by rw [HM.out, h4]; simp))
          clear HV0 HV1 HM
          go_wp2_with (first | ((with_reducible refine (CN _).mono ?_); rintro e' w' ⟨rfl, uz, rfl⟩) | ((with_reducible refine (CC _).mono ?_); rintro e' w' ⟨rfl, uz, rfl⟩) | ((with_reducible refine (CI _).mono ?_); rintro e' w' ⟨rfl, uz, rfl⟩))
          have hbk := (((((HR.out.to (HGU.out uz)).set_ 0 (.string ⟨#[]⟩)).set_ 1 (.string ⟨#[]⟩)).set_ 2 (.string ⟨#[]⟩)).set_ 3 (.string ⟨#[]⟩))
          refine bodyPost_ret (results_c1 (p := 6) (u := 7) rfl _ _ br 35 _ _ rfl hbk Tryz.underlying35 rfl (by kernel_rfl)) rfl ⟨by rw [HV.out.1, HV.out.2]; rfl, ?_⟩
          exact (((((below_to HB.out (Nat.le_refl _) (HGU.out uz)).setCell (p := ⟨br, 0, none⟩) (Nat.le_of_eq hbr.out) _).setCell (p := ⟨br, 1, none⟩) (Nat.le_of_eq hbr.out) _).setCell (p := ⟨br, 2, none⟩) (Nat.le_of_eq hbr.out) _).setCell (p := ⟨br, 3, none⟩) (Nat.le_of_eq hbr.out) _)
        | false =>
          rw [h4] at CC
          cases h5 : isD s with
          | false =>
            rw [h5] at CI
            have HV := hide (HV0.out (by rw [HM.out, h5]; simp))
            clear HV0 HV1 HM
            go_wp2_with (first | ((with_reducible refine (CN _).mono ?_); rintro e' w' ⟨rfl, uz, rfl⟩) | ((with_reducible refine (CC _).mono ?_); rintro e' w' ⟨rfl, uz, rfl⟩) | ((with_reducible refine (CI _).mono ?_); rintro e' w' ⟨rfl, uz, rfl⟩))
            have hbk := (((((HR.out.to (HGU.out uz)).set_ 0 (.string ⟨#[]⟩)).set_ 1 (.string ⟨#[]⟩)).set_ 2 (.string ⟨#[]⟩)).set_ 3 (.string ⟨#[]⟩))
            refine bodyPost_ret (results_c1 (p := 6) (u := 7) rfl _ _ br 35 _ _ rfl hbk Tryz.underlying35 rfl (by kernel_rfl)) rfl ⟨by rw [HV.out.1, HV.out.2]; rfl, ?_⟩
            exact (((((below_to HB.out (Nat.le_refl _) (HGU.out uz)).setCell (p := ⟨br, 0, none⟩) (Nat.le_of_eq hbr.out) _).setCell (p := ⟨br, 1, none⟩) (Nat.le_of_eq hbr.out) _).setCell (p := ⟨br, 2, none⟩) (Nat.le_of_eq hbr.out) _).setCell (p := ⟨br, 3, none⟩) (Nat.le_of_eq hbr.out) _)
          | true =>
            rw [h5] at CI
            have HV := hide (HV1.out (by rw [HM.out, h1, h2, h4, h5, decide_eq_true h3]; rfl))
            clear HV0 HV1 HM
            have hp24 := (nm_facts h1).2.2.1
            have hs16 := ((isD_iff s).1 h5).1
            have CLi : ∀ u, Calls Tryz.prog 43 #[.slice (some ⟨(g u).heap.size, 0, none⟩) 4 4] ((g u).alloc (.cells #[.string ⟨#[108, 105, 110, 101]⟩, .string (bs p), .string (bs t), .string (bs s)] 9)) fun e w' => e = .returned (.string (bs (listD [lineT, p, t, s]))) ∧ ∃ u', w' = g u' := fun u => by
              have hb := below_alloc (HGU.out u) (Nat.le_refl _) (.cells #[.string ⟨#[108, 105, 110, 101]⟩, .string (bs p), .string (bs t), .string (bs s)] 9)
              refine (List_any [lineT, p, t, s] _ 9 _ (Blk.new (g u) 9 #[.string ⟨#[108, 105, 110, 101]⟩, .string (bs p), .string (bs t), .string (bs s)]) (by simp) ?_ ((HG.out.to (HGU.out u)).alloc _)).mono fun e w' ⟨he, hb2⟩ => ⟨he, HHI.out _ (below_to hb (Nat.le_refl _) hb2)⟩
              refine Nat.le_trans (join_len _ ?_) ?_
              · intro l hl
                simp only [List.mem_cons, List.not_mem_nil, or_false] at hl
                rcases hl with rfl | rfl | rfl | rfl <;> first | omega | (show (4 : Nat) < _; omega)
              · simp only [List.map_cons, List.map_nil, List.sum_cons, List.sum_nil, List.length_cons, List.length_nil]
                have : lineT.length = 4 := rfl
                omega
            clear hp24 hs16 h1 h2 h4 h5
            go_wp2_with (first | ((with_reducible refine (CN _).mono ?_); rintro e' w' ⟨rfl, uz, rfl⟩) | ((with_reducible refine (CC _).mono ?_); rintro e' w' ⟨rfl, uz, rfl⟩) | ((with_reducible refine (CI _).mono ?_); rintro e' w' ⟨rfl, uz, rfl⟩) | ((with_reducible refine (CLi _).mono ?_); rintro e' w' ⟨rfl, uz, rfl⟩))
            have hbk := (((((HR.out.to (HGU.out uz)).set_ 0 (.string (bs p))).set_ 1 (.string (bs t))).set_ 2 (.string (bs s))).set_ 3 (.string (bs (listD [lineT, p, t, s]))))
            refine bodyPost_ret (results_c1 (p := 6) (u := 7) rfl _ _ br 35 _ _ rfl hbk Tryz.underlying35 rfl (by kernel_rfl)) rfl ⟨by rw [HV.out.1, HV.out.2]; rfl, ?_⟩
            exact (((((below_to HB.out (Nat.le_refl _) (HGU.out uz)).setCell (p := ⟨br, 0, none⟩) (Nat.le_of_eq hbr.out) _).setCell (p := ⟨br, 1, none⟩) (Nat.le_of_eq hbr.out) _).setCell (p := ⟨br, 2, none⟩) (Nat.le_of_eq hbr.out) _).setCell (p := ⟨br, 3, none⟩) (Nat.le_of_eq hbr.out) _)
      · have e3 : decide ((400 : Int) < (t.length : Int)) = true := decide_eq_true (by omega)
        have HV := hide (HV0.out (by rw [HM.out, decide_eq_false h3]; simp))
        clear HV0 HV1 HM
        go_wp2_with (first | ((with_reducible refine (CN _).mono ?_); rintro e' w' ⟨rfl, uz, rfl⟩) | ((with_reducible refine (CC _).mono ?_); rintro e' w' ⟨rfl, uz, rfl⟩) | ((with_reducible refine (CI _).mono ?_); rintro e' w' ⟨rfl, uz, rfl⟩))
        have hbk := (((((HR.out.to (HGU.out uz)).set_ 0 (.string ⟨#[]⟩)).set_ 1 (.string ⟨#[]⟩)).set_ 2 (.string ⟨#[]⟩)).set_ 3 (.string ⟨#[]⟩))
        refine bodyPost_ret (results_c1 (p := 6) (u := 7) rfl _ _ br 35 _ _ rfl hbk Tryz.underlying35 rfl (by kernel_rfl)) rfl ⟨by rw [HV.out.1, HV.out.2]; rfl, ?_⟩
        exact (((((below_to HB.out (Nat.le_refl _) (HGU.out uz)).setCell (p := ⟨br, 0, none⟩) (Nat.le_of_eq hbr.out) _).setCell (p := ⟨br, 1, none⟩) (Nat.le_of_eq hbr.out) _).setCell (p := ⟨br, 2, none⟩) (Nat.le_of_eq hbr.out) _).setCell (p := ⟨br, 3, none⟩) (Nat.le_of_eq hbr.out) _)
end Go.Proofs.YtgdgdhpmjkefjaaGreatDoor

/- Walks of package privacy: erased; lines compared. -/
set_option linter.unusedVariables false
set_option linter.unusedSimpArgs false
namespace Go.Proofs.YtgdgdhpmjkefjaaGreatDoor
open Go.RowKit

theorem lnv_yes (l : Ln) (w : World) : (binOp .eql 35 (.agg #[.string (bs l.p), .string (bs l.t), .string (bs l.s), .string (bs l.d)]) (.agg #[.string (bs l.p), .string (bs l.t), .string (bs l.s), .string (bs l.d)])).run Tryz.prog w = .ok (.bool true) w := by
  rw [run_eql_struct]
  go_simp
theorem lnv_no {l m : Ln} (h : l ≠ m) (w : World) : (binOp .eql 35 (.agg #[.string (bs l.p), .string (bs l.t), .string (bs l.s), .string (bs l.d)]) (.agg #[.string (bs m.p), .string (bs m.t), .string (bs m.s), .string (bs m.d)])).run Tryz.prog w = .ok (.bool false) w := by
  rw [run_eql_struct]
  go_simp
  intro h1 h2 h3 h4
  rw [bs_toList, bs_toList] at h1 h2 h3 h4
  exact h ((Ln.eq_iff l m).2 ⟨h1, h2, h3, h4⟩)
set_option maxHeartbeats 2000000 in
theorem erased_any (l : Ln) (w : World) : Calls Tryz.prog 23 #[.agg (lnC l)] w fun e w' => e = .returned (.agg (lnC (er l))) ∧ Below w.heap.size w w' := by
  unfold lnC
  have HB := hide (below_two w (.cells #[.string (bs l.p), .string (bs l.t), .string (bs l.s), .string (bs l.d)] 35) (.cells #[.string ⟨#[]⟩, .string ⟨#[]⟩, .string ⟨#[]⟩, .string ⟨#[]⟩] 35))
  go_enter Tryz.func23, Tryz.ntmps23
  go_wp2_with fail
  have hb : Blk ((w.alloc (.cells #[.string (bs l.p), .string (bs l.t), .string (bs l.s), .string (bs l.d)] 35)).alloc (.cells #[.string ⟨#[]⟩, .string ⟨#[]⟩, .string ⟨#[]⟩, .string (bs l.d)] 35)) (w.heap.size + 1) 35 #[.string ⟨#[]⟩, .string ⟨#[]⟩, .string ⟨#[]⟩, .string (bs l.d)] := by
    have := Blk.new (w.alloc (.cells #[.string (bs l.p), .string (bs l.t), .string (bs l.s), .string (bs l.d)] 35)) 35 #[.string ⟨#[]⟩, .string ⟨#[]⟩, .string ⟨#[]⟩, .string (bs l.d)]
    show Blk _ _ _ _
    simpa using this
  refine bodyPost_ret (results_cell_blk rfl _ _ (w.heap.size + 1) 35 _ _ rfl hb Tryz.underlying35 rfl (by kernel_rfl)) rfl ⟨rfl, ?_⟩
  exact below_two w _ _
end Go.Proofs.YtgdgdhpmjkefjaaGreatDoor

/- Walks of package privacy: Valid. -/
set_option linter.unusedVariables false
set_option linter.unusedSimpArgs false
namespace Go.Proofs.YtgdgdhpmjkefjaaGreatDoor
open Go.RowKit

structure Ln.fit (l : Ln) : Prop where
  p : l.p.length ≤ 140737488355328
  t : l.t.length ≤ 140737488355328
  s : l.s.length ≤ 140737488355328
  d : l.d.length ≤ 140737488355328
set_option maxRecDepth 100000 in
set_option maxHeartbeats 4000000 in
theorem Valid_any (l : Ln) (hf : l.fit) (w : World) (hg : Glob w) : Calls Tryz.prog 48 #[.agg (lnC l)] w fun e w' => e = .returned (.bool (validL l)) ∧ Below w.heap.size w w' := by
  have HB := hide (below_one w (.cells #[.string (bs l.p), .string (bs l.t), .string (bs l.s), .string (bs l.d)] 35))
  have HG := hide (hg.alloc (.cells #[.string (bs l.p), .string (bs l.t), .string (bs l.s), .string (bs l.d)] 35))
  have HR := hide (Blk.new w 35 #[.string (bs l.p), .string (bs l.t), .string (bs l.s), .string (bs l.d)])
  have CE := fun w => erased_any l w
  unfold lnC at CE ⊢
  clear hg
  go_enter Tryz.func48, Tryz.ntmps48
  go_wp2_with fail
  generalize w.alloc (.cells #[.string (bs l.p), .string (bs l.t), .string (bs l.s), .string (bs l.d)] 35) = w1 at *
  obtain ⟨b1, hb1⟩ : ∃ b, Hid (w.heap.size = b) := ⟨_, rfl⟩
  rw [hb1.out] at HR ⊢
  obtain ⟨U, hU, g, u0, rfl, hgu, hi⟩ := cls w1
  have CEg := cls_call hgu hi (fun w _ => CE w)
  have r0 := blk_all hgu HR.out 0 rfl
  have r1 := blk_all hgu HR.out 1 rfl
  have r2 := blk_all hgu HR.out 2 rfl
  have r3 := blk_all hgu HR.out 3 rfl
  have lu : ∀ u, b1 < (g u).heap.size := fun u => (HR.out.to (hgu u)).lt
  have nu : ∀ u, b1 ≠ (g u).heap.size := fun u => Nat.ne_of_lt (lu u)
  have HGU := hide hgu
  have HHI := hide hi
  have CI := cls_call hgu hi (fun w _ => Is_any l.d (by have := hf.d; omega) w)
  have CM := cls_call hgu hi (fun w hb => Make_any l.p l.t l.s hf.p hf.t hf.s w (HG.out.to hb))
  by_cases he : l = er l
  · have HV : Hid (validL l = isD l.d) := by show _ = _; unfold validL; rw [if_pos he]
    have q := lnv_yes l
    rw [← he] at CEg
    clear he hgu hi CM
    refine wp_region_class g (by kernel_rfl) (by kernel_rfl) (HHI.out _ (HGU.out _).drew) ?_
    repeat (go_big_quiet_step (with_reducible exact CEg _))
    refine wpQuiet_nil ?_
    intro w5 hw5
    obtain ⟨u, rfl⟩ := hw5
    go_wp2_with ((with_reducible refine (CI _).mono ?_); rintro e w' ⟨rfl, uz, rfl⟩)
    go_ret
    exact ⟨ret_bool (by rw [HV.out]), below_to HB.out (Nat.le_refl _) (HGU.out _)⟩
  · have q := lnv_no he
    have HV0 : Hid (validL l = (canM l.p l.t l.s && decide (mkL l.p l.t l.s = l))) := by show _ = _; unfold validL; rw [if_neg he]
    unfold lnC at CM
    cases hc : canM l.p l.t l.s with
    | false =>
      have eV : makeV l.p l.t l.s = noL := by unfold makeV; rw [hc]; rfl
      have eE : makeE l.p l.t l.s = 1 := by unfold makeE; rw [hc]; rfl
      rw [eV, eE] at CM
      have HV : Hid (validL l = false) := by show _ = _; rw [HV0.out, hc]; rfl
      clear eV eE hc HV0 he hgu hi CI
      refine wp_region_class g (by kernel_rfl) (by kernel_rfl) (HHI.out _ (HGU.out _).drew) ?_
      repeat (go_big_quiet_step (with_reducible exact CEg _))
      refine wpQuiet_nil ?_
      intro w5 hw5
      obtain ⟨u, rfl⟩ := hw5
      go_wp2_with ((with_reducible refine (CM _).mono ?_); rintro e w' ⟨rfl, uz, rfl⟩)
      go_ret
      exact ⟨ret_bool (by rw [HV.out]), below_alloc (below_to HB.out (Nat.le_refl _) (HGU.out _)) (Nat.le_refl _) _⟩
    | true =>
      have eV : makeV l.p l.t l.s = mkL l.p l.t l.s := by unfold makeV; rw [hc]; rfl
      have eE : makeE l.p l.t l.s = 0 := by unfold makeE; rw [hc]; rfl
      rw [eV, eE] at CM
      by_cases hm : mkL l.p l.t l.s = l
      · have HV : Hid (validL l = true) := by show _ = _; rw [HV0.out, hc, decide_eq_true hm]; rfl
        rw [hm] at CM
        have q2 := lnv_yes l
        clear eV eE hc HV0 he hgu hi CI hm
        refine wp_region_class g (by kernel_rfl) (by kernel_rfl) (HHI.out _ (HGU.out _).drew) ?_
        repeat (go_big_quiet_step (with_reducible exact CEg _))
        refine wpQuiet_nil ?_
        intro w5 hw5
        obtain ⟨u, rfl⟩ := hw5
        go_wp2_with ((with_reducible refine (CM _).mono ?_); rintro e w' ⟨rfl, uz, rfl⟩)
        go_ret
        exact ⟨ret_bool (by rw [HV.out]), below_alloc (below_to HB.out (Nat.le_refl _) (HGU.out _)) (Nat.le_refl _) _⟩
      · have HV : Hid (validL l = false) := by show _ = _; rw [HV0.out, hc, decide_eq_false hm]; rfl
        have q2 := lnv_no hm
        clear eV eE hc HV0 he hgu hi CI hm
        generalize mkL l.p l.t l.s = m at *
        refine wp_region_class g (by kernel_rfl) (by kernel_rfl) (HHI.out _ (HGU.out _).drew) ?_
        repeat (go_big_quiet_step (with_reducible exact CEg _))
        refine wpQuiet_nil ?_
        intro w5 hw5
        obtain ⟨u, rfl⟩ := hw5
        go_wp2_with ((with_reducible refine (CM _).mono ?_); rintro e w' ⟨rfl, uz, rfl⟩)
        go_ret
        exact ⟨ret_bool (by rw [HV.out]), below_alloc (below_to HB.out (Nat.le_refl _) (HGU.out _)) (Nat.le_refl _) _⟩
end Go.Proofs.YtgdgdhpmjkefjaaGreatDoor

/- Walks of package privacy: record.valid. -/
set_option linter.unusedVariables false
set_option linter.unusedSimpArgs false
namespace Go.Proofs.YtgdgdhpmjkefjaaGreatDoor
open Go.RowKit

def lnV (l : Ln) : List Value := [.string (bs l.p), .string (bs l.t), .string (bs l.s), .string (bs l.d)]
def LnsAt (w : World) (v : Value) (log : List Ln) : Prop := RowsAt w 4 v (log.map lnV)
theorem LnsAt.to {w w' : World} {v : Value} {log : List Ln} (h : LnsAt w v log) (hb : Below w.heap.size w w') : LnsAt w' v log := RowsAt.to h hb
theorem LnsAt.slice {w : World} {v : Value} {log : List Ln} (h : LnsAt w v log) : ∃ A c, v = .slice A log.length c := by
  obtain ⟨A, c, h1, _⟩ := h
  exact ⟨A, c, by rw [h1, List.length_map]⟩
theorem LnsAt.at_ {w : World} {A : Option Addr} {n c : Nat} {log : List Ln} (h : LnsAt w (.slice A n c) log) {k : Nat} {l : Ln} (hl : log[k]? = some l) : ∃ a, A = some a ∧ a.block < w.heap.size ∧
    w.cell? (a.add (k * 4)) = some (.string (bs l.p)) ∧ w.cell? ⟨(a.add (k * 4)).block, (a.add (k * 4)).off + 1, none⟩ = some (.string (bs l.t)) ∧ w.cell? ⟨(a.add (k * 4)).block, (a.add (k * 4)).off + 2, none⟩ = some (.string (bs l.s)) ∧ w.cell? ⟨(a.add (k * 4)).block, (a.add (k * 4)).off + 3, none⟩ = some (.string (bs l.d)) := by
  obtain ⟨a, c', h1, _, h3, _, h5⟩ := RowsAt.at_ h (k := k) (x := lnV l) (by rw [List.getElem?_map, hl]; rfl)
  injection h1 with e1
  refine ⟨a, e1, h3, ?_, h5 1 _ rfl, h5 2 _ rfl, h5 3 _ rfl⟩
  have := h5 0 _ rfl
  rwa [show (a.add (k * 4)).add 0 = a.add (k * 4) by rw [add_of_add, Nat.add_zero]] at this
end Go.Proofs.YtgdgdhpmjkefjaaGreatDoor

/- Walks of package privacy: record.valid. -/
set_option linter.unusedVariables false
set_option linter.unusedSimpArgs false
namespace Go.Proofs.YtgdgdhpmjkefjaaGreatDoor
open Go.RowKit

set_option maxRecDepth 100000 in
set_option maxHeartbeats 4000000 in
theorem rvalid_any (log : List Ln) (hf : ∀ l ∈ log, l.fit) (hl : log.length ≤ 1000000000) (v : Value) (w : World) (hv : LnsAt w v log) (hg : Glob w) : Calls Tryz.prog 20 #[v] w fun e w' => e = .returned (.bool (validG log)) ∧ Below w.heap.size w w' := by
  obtain ⟨A, c, rfl⟩ := hv.slice
  have HS := hide hv
  have HG := hide hg
  have HV : Hid (validG log = (log.all validL && decide (log.length ≤ 10000))) := rfl
  clear hv hg
  go_enter Tryz.func20, Tryz.ntmps20
  go_wp2_with fail
  go_loopw [4, 7] (fun _ i wr => ∃ k : Nat, i = .int .i64 (k : Int) ∧ (k ≤ log.length ∧ log.all validL = (log.drop k).all validL) ∧ Below w.heap.size w wr) (fun _ i _ => log.length - (intOf i).toNat)
  case atStart => exact ⟨0, rfl, ⟨by omega, rfl⟩, Below.refl _ _⟩
  case round =>
    obtain ⟨k, rfl, ⟨hk, hall⟩, hB⟩ := hrel
    have HA := hide hall
    have HB := hide hB
    clear hall hB
    by_cases hlt : k < log.length
    · have e1 : decide ((k : Int) < (log.length : Int)) = true := decide_eq_true (by omega)
      obtain ⟨l, hl'⟩ : ∃ l, log[k]? = some l := ⟨_, List.getElem?_eq_getElem hlt⟩
      obtain ⟨a, rfl, ha, c0, c1, c2, c3⟩ := LnsAt.at_ (HS.out.to HB.out) hl'
      have HW := hide (below_alloc HB.out (Nat.le_refl _) (.cells #[.string (bs l.p), .string (bs l.t), .string (bs l.s), .string (bs l.d)] 35))
      have CV : Calls Tryz.prog 48 #[.agg #[.string (bs l.p), .string (bs l.t), .string (bs l.s), .string (bs l.d)]] (wr.alloc (.cells #[.string (bs l.p), .string (bs l.t), .string (bs l.s), .string (bs l.d)] 35)) fun e w' => e = .returned (.bool (validL l)) ∧ Below (wr.alloc (.cells #[.string (bs l.p), .string (bs l.t), .string (bs l.s), .string (bs l.d)] 35)).heap.size (wr.alloc (.cells #[.string (bs l.p), .string (bs l.t), .string (bs l.s), .string (bs l.d)] 35)) w' := Valid_any l (hf l (List.mem_of_getElem? hl')) _ (HG.out.to HW.out)
      have HD : Hid (log.drop k = l :: log.drop (k + 1)) := by
        show _ = _
        rw [List.drop_eq_getElem_cons hlt]
        rw [List.getElem?_eq_getElem hlt] at hl'
        rw [Option.some.inj hl']
      clear hl' hf
      cases hvl : validL l with
      | true =>
        rw [hvl] at CV
        have HN : Hid (log.all validL = (log.drop (k + 1)).all validL) := by show _ = _; rw [HA.out, HD.out, List.all_cons, hvl]; rfl
        clear hvl
        go_wp2_with ((with_reducible refine CV.mono ?_); rintro e w' ⟨rfl, hb⟩)
        refine ⟨⟨k + 1, by go_num, ⟨by omega, HN.out⟩, below_to HW.out (Nat.le_refl _) (by assumption)⟩, ?_⟩
        simp [intOf]; omega
      | false =>
        rw [hvl] at CV
        have HN : Hid (validG log = false) := by show _ = _; rw [HV.out, HA.out, HD.out, List.all_cons, hvl]; rfl
        clear hvl
        go_wp2_with ((with_reducible refine CV.mono ?_); rintro e w' ⟨rfl, hb⟩)
        go_ret
        exact ⟨ret_bool (by rw [HN.out]), below_to HW.out (Nat.le_refl _) (by assumption)⟩
    · obtain rfl : k = log.length := by omega
      have e1 : decide ((log.length : Int) < (log.length : Int)) = false := by simp
      have HN : Hid (validG log = decide ((log.length : Int) ≤ 10000)) := by
        show _ = _
        rw [HV.out, HA.out, List.drop_length, List.all_nil, Bool.true_and]
        exact decide_eq_decide.2 (by omega)
      go_wp2_with fail
      go_ret
      exact ⟨ret_bool (by rw [HN.out]), HB.out⟩
end Go.Proofs.YtgdgdhpmjkefjaaGreatDoor

/- Walks of package privacy: proper. -/
set_option linter.unusedVariables false
set_option linter.unusedSimpArgs false
namespace Go.Proofs.YtgdgdhpmjkefjaaGreatDoor
open Go.RowKit

theorem ent_rvalid : ∀ args w, (callFunc 20 args).run Tryz.prog w = .ok (.enter 20 args) w := enters_fn Tryz.func20 (by kernel_rfl) rfl
def rvalidF : Value := .func (.func 20) #[] #[]
set_option maxHeartbeats 2000000 in
theorem proper_any (v : Value) (log : List Ln) (hf : ∀ l ∈ log, l.fit) (hl : log.length ≤ 1000000000) (q : List UInt8) (hq : q.length ≤ 140737488355328) (w : World) (hv : LnsAt w v log) (hg : Glob w) :
    Calls Tryz.prog 19 #[.func (.func 20) #[] #[], v, .string (bs q)] w fun e w' => e = .returned (.bool (validG log && isNm q)) ∧ Below w.heap.size w w' := by
  have CV := rvalid_any log hf hl v w hv hg
  have CN := fun w => named_any q hq w
  have hE := ent_rvalid
  cases hvg : validG log with
  | false =>
    rw [hvg] at CV
    clear hv hg hvg
    go_enter Tryz.func19, Tryz.ntmps19
    go_wp2_with ((with_reducible refine CV.mono ?_); rintro e w' ⟨rfl, hb⟩)
    go_ret
    exact ⟨ret_bool (by simp), by assumption⟩
  | true =>
    rw [hvg] at CV
    clear hv hg hvg
    go_enter Tryz.func19, Tryz.ntmps19
    go_wp2_with (first | ((with_reducible refine CV.mono ?_); rintro e w1 ⟨rfl, hb⟩) | ((with_reducible refine (CN _).mono ?_); rintro e w2 ⟨rfl, hb2⟩))
    go_ret
    exact ⟨ret_bool (by simp), below_to (by assumption) (Nat.le_refl _) (by assumption)⟩
end Go.Proofs.YtgdgdhpmjkefjaaGreatDoor

/- Walks of package privacy: mapped, at its instances; of what the function yields without a trace in older memory. -/
set_option linter.unusedVariables false
set_option linter.unusedSimpArgs false
namespace Go.Proofs.YtgdgdhpmjkefjaaGreatDoor
open Go.RowKit

def mapP {α β : Type} (f : α → β) (p : α → Bool) (l : List α) : List β := (l.filter p).map f
theorem mapP_snoc {α β : Type} (f : α → β) (p : α → Bool) {l : List α} {k : Nat} {x : α} (h : l[k]? = some x) : mapP f p (l.take (k + 1)) = if p x then mapP f p (l.take k) ++ [f x] else mapP f p (l.take k) := by
  unfold mapP
  rw [List.take_add_one, h]
  simp only [Option.toList_some, List.filter_append, List.map_append]
  cases hp : p x <;> simp [hp]
theorem mapP_len {α β : Type} (f : α → β) (p : α → Bool) (l : List α) : (mapP f p l).length ≤ l.length := by
  unfold mapP
  rw [List.length_map]
  exact List.length_filter_le _ _
theorem cells_new {W : World} {xs : List Value} {ty : TypeId} {b : Nat} (hb : b = W.heap.size) : ∀ (j : Nat) (u : Value), xs[j]? = some u → (W.alloc (.cells xs.toArray ty)).cell? ((⟨b, 0, none⟩ : Addr).add j) = some u := by
  subst hb
  intro j u hu
  rw [show (⟨W.heap.size, 0, none⟩ : Addr).add j = ⟨W.heap.size, j, none⟩ by unfold Addr.add; split <;> simp_all]
  refine ((Blk.new W ty xs.toArray).cell j).trans ?_
  simpa using hu
/-- an order -/
structure Od where
  i : List UInt8
  p : List UInt8
  f : List UInt8
  t : List UInt8
  a : Int
  b : Int
def odV (o : Od) : List Value := [.string (bs o.i), .string (bs o.p), .string (bs o.f), .string (bs o.t), .int .i64 o.a, .int .i64 o.b]
def OdsAt (w : World) (v : Value) (l : List Od) : Prop := RowsAt w 6 v (l.map odV)
theorem OdsAt.to {w w' : World} {v : Value} {log : List Od} (h : OdsAt w v log) (hb : Below w.heap.size w w') : OdsAt w' v log := RowsAt.to h hb
theorem OdsAt.slice {w : World} {v : Value} {log : List Od} (h : OdsAt w v log) : ∃ A c, v = .slice A log.length c := by
  obtain ⟨A, c, h1, _⟩ := h
  exact ⟨A, c, by rw [h1, List.length_map]⟩
theorem OdsAt.at_ {w : World} {A : Option Addr} {n c : Nat} {log : List Od} (h : OdsAt w (.slice A n c) log) {k : Nat} {l : Od} (hl : log[k]? = some l) : ∃ a, A = some a ∧ a.block < w.heap.size ∧
    w.cell? (a.add (k * 6)) = some (.string (bs l.i)) ∧ w.cell? ⟨(a.add (k * 6)).block, (a.add (k * 6)).off + 1, none⟩ = some (.string (bs l.p)) ∧ w.cell? ⟨(a.add (k * 6)).block, (a.add (k * 6)).off + 2, none⟩ = some (.string (bs l.f)) ∧ w.cell? ⟨(a.add (k * 6)).block, (a.add (k * 6)).off + 3, none⟩ = some (.string (bs l.t)) ∧ w.cell? ⟨(a.add (k * 6)).block, (a.add (k * 6)).off + 4, none⟩ = some (.int .i64 l.a) ∧ w.cell? ⟨(a.add (k * 6)).block, (a.add (k * 6)).off + 5, none⟩ = some (.int .i64 l.b) := by
  obtain ⟨a, c', h1, _, h3, _, h5⟩ := RowsAt.at_ h (k := k) (x := odV l) (by rw [List.getElem?_map, hl]; rfl)
  injection h1 with e1
  refine ⟨a, e1, h3, ?_, h5 1 _ rfl, h5 2 _ rfl, h5 3 _ rfl, h5 4 _ rfl, h5 5 _ rfl⟩
  have := h5 0 _ rfl
  rwa [show (a.add (k * 6)).add 0 = a.add (k * 6) by rw [add_of_add, Nat.add_zero]] at this

set_option maxRecDepth 100000 in
set_option maxHeartbeats 4000000 in
theorem mLs0_any (K : FuncId) (hE : ∀ args w, (callFunc K args).run Tryz.prog w = .ok (.enter K args) w) (f : Ln → List UInt8) (p : Ln → Bool) (log : List Ln) (hl : log.length ≤ 1000000000) (v : Value) (w : World) (hv : LnsAt w v log)
    (hF : ∀ l ∈ log, ∀ w', Below w.heap.size w w' → Calls Tryz.prog K #[.agg #[.string (bs l.p), .string (bs l.t), .string (bs l.s), .string (bs l.d)]] w' fun e w'' => e = .returned (.tuple #[.string (bs (f l)), .bool (p l)]) ∧ Below w'.heap.size w' w'') :
    Calls Tryz.prog 27 #[v, .func (.func K) #[] #[]] w fun e w' => ∃ v', e = .returned v' ∧ RowsAt w' 1 v' ((mapP f p log).map strV) ∧ Below w.heap.size w w' := by
  obtain ⟨A, c, rfl⟩ := hv.slice
  have HS := hide hv
  have HF := hide hF
  obtain ⟨i0, hi0, hz0, hz1, hz2⟩ := info_parts (show (Tryz.prog.info? 9).map (fun i => (i.zero, i.size, i.bytes)) = some (some (.string ⟨#[]⟩), 1, 16) by kernel_rfl)
  clear hv hF
  go_enter Tryz.func27, Tryz.ntmps27
  go_wp2_with fail
  go_loopw [5, 7, 8, 9, 12] (fun out _ _ _ i wr => ∃ k : Nat, i = .int .i64 (k : Int) ∧ k ≤ log.length ∧ Aside (Below w.heap.size w wr) ∧ Aside (wr.ownsRow w.heap.size 9 1 out (mapP f p (log.take k)).length ((mapP f p (log.take k)).map strV).flatten)) (fun _ _ _ _ i _ => log.length - (intOf i).toNat)
  case atStart => exact ⟨0, rfl, by omega, Below.refl _ _, World.ownsRow_nil _ _ _ _⟩
  case round =>
    obtain ⟨k, rfl, hk, hB, hO⟩ := hrel
    have HB : Hid (Below w.heap.size w wr) := hB
    have HO : Hid (wr.ownsRow w.heap.size 9 1 _ (mapP f p (log.take k)).length ((mapP f p (log.take k)).map strV).flatten) := hO
    clear hB hO
    by_cases hlt : k < log.length
    · have e1 : decide ((k : Int) < (log.length : Int)) = true := decide_eq_true (by omega)
      obtain ⟨l, hl'⟩ : ∃ l, log[k]? = some l := ⟨_, List.getElem?_eq_getElem hlt⟩
      obtain ⟨a, rfl, ha, c0, c1, c2, c3⟩ := LnsAt.at_ (HS.out.to HB.out) hl'
      have HW := hide (below_alloc HB.out (Nat.le_refl _) (.cells #[.string (bs l.p), .string (bs l.t), .string (bs l.s), .string (bs l.d)] 35))
      have CV := HF.out l (List.mem_of_getElem? hl') (wr.alloc (.cells #[.string (bs l.p), .string (bs l.t), .string (bs l.s), .string (bs l.d)] 35)) HW.out
      have HT := hide (mapP_snoc f p hl')
      have HLE : (mapP f p (log.take k)).length ≤ k := Nat.le_trans (mapP_len f p _) (List.length_take_le _ _)
      clear hl'
      cases hp : p l with
      | true =>
        rw [hp] at CV HT
        clear hp
        go_wp2_with (first | ((with_reducible refine CV.mono ?_); rintro e w4 ⟨rfl, hb4⟩) | (at_builtin; refine wpList_append_own _ rfl (.tmp 23) (.tmp 25) _ rfl w.heap.size 9 i0 (.string ⟨#[]⟩) 1 16 Tryz.underlying42 hi0 hz0 hz1 hz2 rfl (by omega) _ (mapP f p (log.take k)).length ((mapP f p (log.take k)).map strV).flatten rfl ?c0 ⟨_, 0, none⟩ 1 1 [.string (bs (f l))] rfl rfl ?c1 ?c2 ?c4 ?c5 ?c3 ?_))
        case c0 => exact own_to' (own_to' (own_to' HO.out (below_one wr _)) (by assumption)) (below_one _ _)
        case c1 => exact cells_new (by simp)
        case c2 => intro u hu; simp only [List.mem_cons, List.not_mem_nil, or_false] at hu; rcases hu with rfl <;> rfl
        case c4 => simp only [maxLen]; omega
        case c5 => omega
        case c3 => have := HW.out.size; have := (by assumption : Below _ _ w4).size; simp at *; omega
        · intro v' w6 hown6 hgr6 _
          have HB6 := hide ((below_alloc (below_to HW.out (Nat.le_refl _) (by assumption)) (Nat.le_refl _) (.cells #[.string (bs (f l))] 9)).grown hgr6 (by have := HW.out.size; have := (by assumption : Below _ _ w4).size; simp at *; omega) (fun b hb => (HO.out.lt b hb).1))
          have HO6 : Hid (w6.ownsRow w.heap.size 9 1 v' (mapP f p (log.take (k + 1))).length ((mapP f p (log.take (k + 1))).map strV).flatten) := by
            show World.ownsRow _ _ _ _ _ _ _
            rw [HT.out]
            simpa [strV] using hown6
          clear hown6 hgr6
          go_wp2_with fail
          refine ⟨⟨k + 1, by go_num, by omega, HB6.out, HO6.out⟩, ?_⟩
          simp [intOf]; omega
      | false =>
        rw [hp] at CV HT
        clear hp
        go_wp2_with ((with_reducible refine CV.mono ?_); rintro e w4 ⟨rfl, hb4⟩)
        refine ⟨⟨k + 1, by go_num, by omega, below_to HW.out (Nat.le_refl _) (by assumption), ?_⟩, ?_⟩
        · rw [HT.out]
          exact own_to' (own_to' HO.out (below_one wr _)) (by assumption)
        · simp [intOf]; omega
    · obtain rfl : k = log.length := by omega
      have e1 : decide ((log.length : Int) < (log.length : Int)) = false := by simp
      rw [List.take_length] at HO
      go_wp2_with fail
      go_ret
      exact ⟨_, rfl, RowsAt.of_own (by simp [strV]) (by rw [List.length_map]; exact HO.out), HB.out⟩

set_option maxRecDepth 100000 in
set_option maxHeartbeats 4000000 in
theorem mLs1_any (K : FuncId) (hE : ∀ args w, (callFunc K args).run Tryz.prog w = .ok (.enter K args) w) (f : Ln → List UInt8) (p : Ln → Bool) (pb : Nat) (log : List Ln) (hl : log.length ≤ 1000000000) (v : Value) (w : World) (hv : LnsAt w v log)
    (hF : ∀ l ∈ log, ∀ w', Below w.heap.size w w' → Calls Tryz.prog K #[.agg #[.string (bs l.p), .string (bs l.t), .string (bs l.s), .string (bs l.d)], .pointer (some ⟨pb, 0, none⟩)] w' fun e w'' => e = .returned (.tuple #[.string (bs (f l)), .bool (p l)]) ∧ Below w'.heap.size w' w'') :
    Calls Tryz.prog 27 #[v, .func (.func K) #[] #[.pointer (some ⟨pb, 0, none⟩)]] w fun e w' => ∃ v', e = .returned v' ∧ RowsAt w' 1 v' ((mapP f p log).map strV) ∧ Below w.heap.size w w' := by
  obtain ⟨A, c, rfl⟩ := hv.slice
  have HS := hide hv
  have HF := hide hF
  obtain ⟨i0, hi0, hz0, hz1, hz2⟩ := info_parts (show (Tryz.prog.info? 9).map (fun i => (i.zero, i.size, i.bytes)) = some (some (.string ⟨#[]⟩), 1, 16) by kernel_rfl)
  clear hv hF
  go_enter Tryz.func27, Tryz.ntmps27
  go_wp2_with fail
  go_loopw [5, 7, 8, 9, 12] (fun out _ _ _ i wr => ∃ k : Nat, i = .int .i64 (k : Int) ∧ k ≤ log.length ∧ Aside (Below w.heap.size w wr) ∧ Aside (wr.ownsRow w.heap.size 9 1 out (mapP f p (log.take k)).length ((mapP f p (log.take k)).map strV).flatten)) (fun _ _ _ _ i _ => log.length - (intOf i).toNat)
  case atStart => exact ⟨0, rfl, by omega, Below.refl _ _, World.ownsRow_nil _ _ _ _⟩
  case round =>
    obtain ⟨k, rfl, hk, hB, hO⟩ := hrel
    have HB : Hid (Below w.heap.size w wr) := hB
    have HO : Hid (wr.ownsRow w.heap.size 9 1 _ (mapP f p (log.take k)).length ((mapP f p (log.take k)).map strV).flatten) := hO
    clear hB hO
    by_cases hlt : k < log.length
    · have e1 : decide ((k : Int) < (log.length : Int)) = true := decide_eq_true (by omega)
      obtain ⟨l, hl'⟩ : ∃ l, log[k]? = some l := ⟨_, List.getElem?_eq_getElem hlt⟩
      obtain ⟨a, rfl, ha, c0, c1, c2, c3⟩ := LnsAt.at_ (HS.out.to HB.out) hl'
      have HW := hide (below_alloc HB.out (Nat.le_refl _) (.cells #[.string (bs l.p), .string (bs l.t), .string (bs l.s), .string (bs l.d)] 35))
      have CV := HF.out l (List.mem_of_getElem? hl') (wr.alloc (.cells #[.string (bs l.p), .string (bs l.t), .string (bs l.s), .string (bs l.d)] 35)) HW.out
      have HT := hide (mapP_snoc f p hl')
      have HLE : (mapP f p (log.take k)).length ≤ k := Nat.le_trans (mapP_len f p _) (List.length_take_le _ _)
      clear hl'
      cases hp : p l with
      | true =>
        rw [hp] at CV HT
        clear hp
        go_wp2_with (first | ((with_reducible refine CV.mono ?_); rintro e w4 ⟨rfl, hb4⟩) | (at_builtin; refine wpList_append_own _ rfl (.tmp 23) (.tmp 25) _ rfl w.heap.size 9 i0 (.string ⟨#[]⟩) 1 16 Tryz.underlying42 hi0 hz0 hz1 hz2 rfl (by omega) _ (mapP f p (log.take k)).length ((mapP f p (log.take k)).map strV).flatten rfl ?c0 ⟨_, 0, none⟩ 1 1 [.string (bs (f l))] rfl rfl ?c1 ?c2 ?c4 ?c5 ?c3 ?_))
        case c0 => exact own_to' (own_to' (own_to' HO.out (below_one wr _)) (by assumption)) (below_one _ _)
        case c1 => exact cells_new (by simp)
        case c2 => intro u hu; simp only [List.mem_cons, List.not_mem_nil, or_false] at hu; rcases hu with rfl <;> rfl
        case c4 => simp only [maxLen]; omega
        case c5 => omega
        case c3 => have := HW.out.size; have := (by assumption : Below _ _ w4).size; simp at *; omega
        · intro v' w6 hown6 hgr6 _
          have HB6 := hide ((below_alloc (below_to HW.out (Nat.le_refl _) (by assumption)) (Nat.le_refl _) (.cells #[.string (bs (f l))] 9)).grown hgr6 (by have := HW.out.size; have := (by assumption : Below _ _ w4).size; simp at *; omega) (fun b hb => (HO.out.lt b hb).1))
          have HO6 : Hid (w6.ownsRow w.heap.size 9 1 v' (mapP f p (log.take (k + 1))).length ((mapP f p (log.take (k + 1))).map strV).flatten) := by
            show World.ownsRow _ _ _ _ _ _ _
            rw [HT.out]
            simpa [strV] using hown6
          clear hown6 hgr6
          go_wp2_with fail
          refine ⟨⟨k + 1, by go_num, by omega, HB6.out, HO6.out⟩, ?_⟩
          simp [intOf]; omega
      | false =>
        rw [hp] at CV HT
        clear hp
        go_wp2_with ((with_reducible refine CV.mono ?_); rintro e w4 ⟨rfl, hb4⟩)
        refine ⟨⟨k + 1, by go_num, by omega, below_to HW.out (Nat.le_refl _) (by assumption), ?_⟩, ?_⟩
        · rw [HT.out]
          exact own_to' (own_to' HO.out (below_one wr _)) (by assumption)
        · simp [intOf]; omega
    · obtain rfl : k = log.length := by omega
      have e1 : decide ((log.length : Int) < (log.length : Int)) = false := by simp
      rw [List.take_length] at HO
      go_wp2_with fail
      go_ret
      exact ⟨_, rfl, RowsAt.of_own (by simp [strV]) (by rw [List.length_map]; exact HO.out), HB.out⟩

set_option maxRecDepth 100000 in
set_option maxHeartbeats 4000000 in
theorem mOO_any (K : FuncId) (hE : ∀ args w, (callFunc K args).run Tryz.prog w = .ok (.enter K args) w) (f : Od → Od) (p : Od → Bool) (pb : Nat) (log : List Od) (hl : log.length ≤ 1000000000) (v : Value) (w : World) (hv : OdsAt w v log)
    (hF : ∀ l ∈ log, ∀ w', Below w.heap.size w w' → Calls Tryz.prog K #[.agg #[.string (bs l.i), .string (bs l.p), .string (bs l.f), .string (bs l.t), .int .i64 l.a, .int .i64 l.b], .pointer (some ⟨pb, 0, none⟩)] w' fun e w'' => e = .returned (.tuple #[.agg #[.string (bs (f l).i), .string (bs (f l).p), .string (bs (f l).f), .string (bs (f l).t), .int .i64 (f l).a, .int .i64 (f l).b], .bool (p l)]) ∧ Below w'.heap.size w' w'') :
    Calls Tryz.prog 24 #[v, .func (.func K) #[] #[.pointer (some ⟨pb, 0, none⟩)]] w fun e w' => ∃ v', e = .returned v' ∧ RowsAt w' 6 v' ((mapP f p log).map odV) ∧ Below w.heap.size w w' := by
  obtain ⟨A, c, rfl⟩ := hv.slice
  have HS := hide hv
  have HF := hide hF
  obtain ⟨i0, hi0, hz0, hz1, hz2⟩ := info_parts (show (Tryz.prog.info? 39).map (fun i => (i.zero, i.size, i.bytes)) = some (some (.agg #[.string ⟨#[]⟩, .string ⟨#[]⟩, .string ⟨#[]⟩, .string ⟨#[]⟩, .int .i64 0, .int .i64 0]), 6, 80) by kernel_rfl)
  clear hv hF
  go_enter Tryz.func24, Tryz.ntmps24
  go_wp2_with fail
  go_loopw [5, 7, 8, 9, 12] (fun out _ _ _ i wr => ∃ k : Nat, i = .int .i64 (k : Int) ∧ k ≤ log.length ∧ Aside (Below w.heap.size w wr) ∧ Aside (wr.ownsRow w.heap.size 39 6 out (mapP f p (log.take k)).length ((mapP f p (log.take k)).map odV).flatten)) (fun _ _ _ _ i _ => log.length - (intOf i).toNat)
  case atStart => exact ⟨0, rfl, by omega, Below.refl _ _, World.ownsRow_nil _ _ _ _⟩
  case round =>
    obtain ⟨k, rfl, hk, hB, hO⟩ := hrel
    have HB : Hid (Below w.heap.size w wr) := hB
    have HO : Hid (wr.ownsRow w.heap.size 39 6 _ (mapP f p (log.take k)).length ((mapP f p (log.take k)).map odV).flatten) := hO
    clear hB hO
    by_cases hlt : k < log.length
    · have e1 : decide ((k : Int) < (log.length : Int)) = true := decide_eq_true (by omega)
      obtain ⟨l, hl'⟩ : ∃ l, log[k]? = some l := ⟨_, List.getElem?_eq_getElem hlt⟩
      obtain ⟨a, rfl, ha, c0, c1, c2, c3, c4, c5⟩ := OdsAt.at_ (HS.out.to HB.out) hl'
      have HW := hide (below_alloc HB.out (Nat.le_refl _) (.cells #[.string (bs l.i), .string (bs l.p), .string (bs l.f), .string (bs l.t), .int .i64 l.a, .int .i64 l.b] 39))
      have CV := HF.out l (List.mem_of_getElem? hl') (wr.alloc (.cells #[.string (bs l.i), .string (bs l.p), .string (bs l.f), .string (bs l.t), .int .i64 l.a, .int .i64 l.b] 39)) HW.out
      have HT := hide (mapP_snoc f p hl')
      have HLE : (mapP f p (log.take k)).length ≤ k := Nat.le_trans (mapP_len f p _) (List.length_take_le _ _)
      clear hl'
      cases hp : p l with
      | true =>
        rw [hp] at CV HT
        clear hp
        go_wp2_with (first | ((with_reducible refine CV.mono ?_); rintro e w4 ⟨rfl, hb4⟩) | (at_builtin; refine wpList_append_own _ rfl (.tmp 23) (.tmp 25) _ rfl w.heap.size 39 i0 (.agg #[.string ⟨#[]⟩, .string ⟨#[]⟩, .string ⟨#[]⟩, .string ⟨#[]⟩, .int .i64 0, .int .i64 0]) 6 80 Tryz.underlying22 hi0 hz0 hz1 hz2 rfl (by omega) _ (mapP f p (log.take k)).length ((mapP f p (log.take k)).map odV).flatten rfl ?c0 ⟨_, 0, none⟩ 1 1 [.string (bs (f l).i), .string (bs (f l).p), .string (bs (f l).f), .string (bs (f l).t), .int .i64 (f l).a, .int .i64 (f l).b] rfl rfl ?c1 ?c2 ?c4 ?c5 ?c3 ?_))
        case c0 => exact own_to' (own_to' (own_to' (own_to' HO.out (below_one wr _)) (by assumption)) (below_one _ _)) (below_one _ _)
        case c1 => exact cells_new (by simp)
        case c2 => intro u hu; simp only [List.mem_cons, List.not_mem_nil, or_false] at hu; rcases hu with rfl | rfl | rfl | rfl | rfl | rfl <;> rfl
        case c4 => simp only [maxLen]; omega
        case c5 => omega
        case c3 => have := HW.out.size; have := (by assumption : Below _ _ w4).size; simp at *; omega
        · intro v' w6 hown6 hgr6 _
          have HB6 := hide ((below_alloc (below_alloc (below_to HW.out (Nat.le_refl _) (by assumption)) (Nat.le_refl _) (.cells #[.string (bs (f l).i), .string (bs (f l).p), .string (bs (f l).f), .string (bs (f l).t), .int .i64 (f l).a, .int .i64 (f l).b] 39)) (Nat.le_refl _) (.cells #[.string (bs (f l).i), .string (bs (f l).p), .string (bs (f l).f), .string (bs (f l).t), .int .i64 (f l).a, .int .i64 (f l).b] 39)).grown hgr6 (by have := HW.out.size; have := (by assumption : Below _ _ w4).size; simp at *; omega) (fun b hb => (HO.out.lt b hb).1))
          have HO6 : Hid (w6.ownsRow w.heap.size 39 6 v' (mapP f p (log.take (k + 1))).length ((mapP f p (log.take (k + 1))).map odV).flatten) := by
            show World.ownsRow _ _ _ _ _ _ _
            rw [HT.out]
            simpa [odV] using hown6
          clear hown6 hgr6
          go_wp2_with fail
          refine ⟨⟨k + 1, by go_num, by omega, HB6.out, HO6.out⟩, ?_⟩
          simp [intOf]; omega
      | false =>
        rw [hp] at CV HT
        clear hp
        go_wp2_with ((with_reducible refine CV.mono ?_); rintro e w4 ⟨rfl, hb4⟩)
        refine ⟨⟨k + 1, by go_num, by omega, below_alloc (below_to HW.out (Nat.le_refl _) (by assumption)) (Nat.le_refl _) _, ?_⟩, ?_⟩
        · rw [HT.out]
          exact own_to' (own_to' (own_to' HO.out (below_one wr _)) (by assumption)) (below_one _ _)
        · simp [intOf]; omega
    · obtain rfl : k = log.length := by omega
      have e1 : decide ((log.length : Int) < (log.length : Int)) = false := by simp
      rw [List.take_length] at HO
      go_wp2_with fail
      go_ret
      exact ⟨_, rfl, RowsAt.of_own (by simp [odV]) (by rw [List.length_map]; exact HO.out), HB.out⟩
end Go.Proofs.YtgdgdhpmjkefjaaGreatDoor

/- Walks of package privacy: Root, About, Orders and their function values. -/
set_option linter.unusedVariables false
set_option linter.unusedSimpArgs false
namespace Go.Proofs.YtgdgdhpmjkefjaaGreatDoor
open Go.RowKit

theorem ent_cRoot : ∀ args w, (callFunc 28 args).run Tryz.prog w = .ok (.enter 28 args) w := enters_fn Tryz.func28 (by kernel_rfl) rfl
theorem ent_cAbout : ∀ args w, (callFunc 37 args).run Tryz.prog w = .ok (.enter 37 args) w := enters_fn Tryz.func37 (by kernel_rfl) rfl
theorem ent_cOrders : ∀ args w, (callFunc 25 args).run Tryz.prog w = .ok (.enter 25 args) w := enters_fn Tryz.func25 (by kernel_rfl) rfl
set_option maxHeartbeats 2000000 in
theorem cRoot_any (l : Ln) (hf : l.d.length ≤ 100000000000) (w : World) (hg : Glob w) : Calls Tryz.prog 28 #[.agg #[.string (bs l.p), .string (bs l.t), .string (bs l.s), .string (bs l.d)]] w fun e w' => e = .returned (.tuple #[.string (bs (leafD l.d)), .bool true]) ∧ Below w.heap.size w w' := by
  have HB := hide (below_one w (.cells #[.string (bs l.p), .string (bs l.t), .string (bs l.s), .string (bs l.d)] 35))
  have CL := Leaf_any l.d hf (w.alloc (.cells #[.string (bs l.p), .string (bs l.t), .string (bs l.s), .string (bs l.d)] 35)) (hg.alloc _)
  clear hg
  go_enter Tryz.func28, Tryz.ntmps28
  go_wp2_with ((with_reducible refine CL.mono ?_); rintro e w' ⟨rfl, hb⟩)
  go_ret2
  exact ⟨rfl, below_to HB.out (Nat.le_refl _) (by assumption)⟩
set_option maxHeartbeats 2000000 in
theorem cAbout_any (l : Ln) (q : List UInt8) (pb : Nat) (w : World) (hp : w.cell? ⟨pb, 0, none⟩ = some (.string (bs q))) : Calls Tryz.prog 37 #[.agg #[.string (bs l.p), .string (bs l.t), .string (bs l.s), .string (bs l.d)], .pointer (some ⟨pb, 0, none⟩)] w fun e w' => e = .returned (.tuple #[.string (bs l.t), .bool (decide (l.p = q))]) ∧ Below w.heap.size w w' := by
  have HB := hide (below_one w (.cells #[.string (bs l.p), .string (bs l.t), .string (bs l.s), .string (bs l.d)] 35))
  have hlt := World.block_lt_of_cell? w _ hp
  have hp2 : (w.alloc (.cells #[.string (bs l.p), .string (bs l.t), .string (bs l.s), .string (bs l.d)] 35)).cell? ⟨pb, 0, none⟩ = some (.string (bs q)) := (HB.out.cell (p := ⟨pb, 0, none⟩) hlt).trans hp
  have HV : Hid (((bs l.p).toList == (bs q).toList) = decide (l.p = q)) := by
    show _ = _
    rw [bs_toList, bs_toList]
    by_cases h : l.p = q
    · rw [decide_eq_true h, h]; simp
    · rw [decide_eq_false h, beq_eq_false_iff_ne]; exact h
  clear hp
  go_enter Tryz.func37, Tryz.ntmps37
  go_wp2_with fail
  go_quiet (fail)
  go_wp2_with fail
  go_ret2
  exact ⟨by rw [← HV.out]; rfl, below_drewN HB.out _⟩
def odC (o : Od) : Array Value := #[.string (bs o.i), .string (bs o.p), .string (bs o.f), .string (bs o.t), .int .i64 o.a, .int .i64 o.b]
set_option maxHeartbeats 2000000 in
theorem cOrders_any (l : Od) (q : List UInt8) (pb : Nat) (w : World) (hp : w.cell? ⟨pb, 0, none⟩ = some (.string (bs q))) : Calls Tryz.prog 25 #[.agg #[.string (bs l.i), .string (bs l.p), .string (bs l.f), .string (bs l.t), .int .i64 l.a, .int .i64 l.b], .pointer (some ⟨pb, 0, none⟩)] w fun e w' => e = .returned (.tuple #[.agg #[.string (bs l.i), .string (bs l.p), .string (bs l.f), .string (bs l.t), .int .i64 l.a, .int .i64 l.b], .bool (!decide (l.p = q))]) ∧ Below w.heap.size w w' := by
  have HB := hide (below_two w (.cells #[.string (bs l.i), .string (bs l.p), .string (bs l.f), .string (bs l.t), .int .i64 l.a, .int .i64 l.b] 39) (.cells #[.string ⟨#[]⟩, .string ⟨#[]⟩, .string ⟨#[]⟩, .string ⟨#[]⟩, .int .i64 0, .int .i64 0] 39))
  have hlt := World.block_lt_of_cell? w _ hp
  have hp2 : ((w.alloc (.cells #[.string (bs l.i), .string (bs l.p), .string (bs l.f), .string (bs l.t), .int .i64 l.a, .int .i64 l.b] 39)).alloc (.cells #[.string ⟨#[]⟩, .string ⟨#[]⟩, .string ⟨#[]⟩, .string ⟨#[]⟩, .int .i64 0, .int .i64 0] 39)).cell? ⟨pb, 0, none⟩ = some (.string (bs q)) := (HB.out.cell (p := ⟨pb, 0, none⟩) hlt).trans hp
  have HV : Hid ((!((bs l.p).toList == (bs q).toList)) = !decide (l.p = q)) := by
    show _ = _
    rw [bs_toList, bs_toList]
    by_cases h : l.p = q
    · rw [decide_eq_true h, h]; simp
    · rw [decide_eq_false h]; simp [h]
  have hlt' : pb < w.heap.size := hlt
  have hn1 : pb ≠ w.heap.size := by omega
  have hn2 : pb ≠ w.heap.size + 1 := by omega
  clear hlt'
  clear hp2
  go_enter Tryz.func25, Tryz.ntmps25
  go_wp2_with fail
  go_region
  all_goals go_wp2_with fail
  have hb : Blk ((w.alloc (.cells #[.string (bs l.i), .string (bs l.p), .string (bs l.f), .string (bs l.t), .int .i64 l.a, .int .i64 l.b] 39)).alloc (.cells #[.string (bs l.i), .string (bs l.p), .string (bs l.f), .string (bs l.t), .int .i64 l.a, .int .i64 l.b] 39)).drew (w.heap.size + 1) 39 (odC l) := by
    have := Blk.new (w.alloc (.cells #[.string (bs l.i), .string (bs l.p), .string (bs l.f), .string (bs l.t), .int .i64 l.a, .int .i64 l.b] 39)) 39 (odC l)
    exact Blk.drew (by simpa [odC] using this)
  refine bodyPost_ret (results_c1 (p := 3) (u := 4) rfl _ _ (w.heap.size + 1) 39 _ _ rfl hb Tryz.underlying39 rfl (by kernel_rfl)) rfl ⟨by rw [← HV.out]; rfl, (below_two w _ _).drew⟩
/-- what came out of a log: an error or a list of texts -/
def okA (log : List Ln) (q : List UInt8) : Bool := validG log && isNm q
def aboutV (log : List Ln) (q : List UInt8) : List (List UInt8) := if okA log q then aboutP log q else []
def errE (b : Bool) : Int := if b then 0 else 1
def AboutR (log : List Ln) (q : List UInt8) (w : World) (e : Ending) (w' : World) : Prop := ∃ v', e = .returned (.tuple #[v', .int .i64 (errE (okA log q))]) ∧ TextsAt w' v' (aboutV log q) ∧ Below w.heap.size w w'
set_option maxRecDepth 100000 in
set_option maxHeartbeats 4000000 in
theorem About_any (log : List Ln) (hf : ∀ l ∈ log, l.fit) (hl : log.length ≤ 1000000000) (q : List UInt8) (hq : q.length ≤ 140737488355328) (v : Value) (w : World) (hv : LnsAt w v log) (hg : Glob w) :
    Calls Tryz.prog 12 #[v, .string (bs q)] w (AboutR log q w) := by
  have HB := hide (below_one w (.cells #[.string (bs q)] 9))
  have HX := hide (Blk.new w 9 #[.string (bs q)])
  have CP := proper_any v log hf hl q hq (w.alloc (.cells #[.string (bs q)] 9)) (hv.to HB.out) (hg.alloc _)
  have CM := fun (w' : World) (hb : Below (w.alloc (.cells #[.string (bs q)] 9)).heap.size (w.alloc (.cells #[.string (bs q)] 9)) w') => mLs1_any 37 ent_cAbout (fun l => l.t) (fun l => decide (l.p = q)) w.heap.size log hl v w' ((hv.to HB.out).to hb) (fun l hl w2 hb2 => cAbout_any l q w.heap.size w2 (((HX.out.to hb).to hb2).cell 0))
  have HO : Hid (okA log q = (validG log && isNm q)) := rfl
  clear hv hg hf
  cases hp : validG log && isNm q with
  | false =>
    rw [hp] at CP HO
    clear hp CM
    go_enter Tryz.func12, Tryz.ntmps12
    go_wp2_with ((with_reducible refine CP.mono ?_); rintro e w' ⟨rfl, hb⟩)
    go_ret2
    exact ⟨.slice none 0 0, by rw [HO.out]; rfl, by unfold aboutV; rw [HO.out]; exact RowsAt.nil _ _, below_to HB.out (Nat.le_refl _) (by assumption)⟩
  | true =>
    rw [hp] at CP HO
    clear hp
    go_enter Tryz.func12, Tryz.ntmps12
    go_wp2_with fail
    refine CP.mono ?_
    rintro e w2 ⟨rfl, hb⟩
    have HB2 := hide (below_to HB.out (Nat.le_refl _) hb)
    have CM2 := CM _ hb
    clear CM CP hb
    go_wp2_with fail
    refine CM2.mono ?_
    rintro e w3 ⟨v', rfl, hr, hb⟩
    have HB3 := hide (below_to HB2.out (Nat.le_refl _) hb)
    have HR := hide hr
    clear hr hb CM2
    go_wp2_with fail
    go_ret2
    exact ⟨v', by rw [HO.out]; rfl, by unfold aboutV; rw [HO.out]; exact HR.out, HB3.out⟩
set_option maxRecDepth 100000 in
set_option maxHeartbeats 4000000 in
theorem Root_any (log : List Ln) (hf : ∀ l ∈ log, l.fit) (hd : ∀ l ∈ log, l.d.length ≤ 100000000000) (hl : log.length ≤ 1000000000) (v : Value) (w : World) (hv : LnsAt w v log) (hg : Glob w) :
    Calls Tryz.prog 9 #[v] w fun e w' => e = .returned (.tuple #[.string (bs (if validG log then totalT (leavesP log) else [])), .int .i64 (errE (validG log))]) ∧ Below w.heap.size w w' := by
  have CP := rvalid_any log hf hl v w hv hg
  have CM := fun (w' : World) (hb : Below w.heap.size w w') => mLs0_any 28 ent_cRoot (fun l => leafD l.d) (fun l => true) log hl v w' (hv.to hb) (fun l hl w2 hb2 => cRoot_any l (hd l hl) w2 ((hg.to hb).to hb2))
  have CR := fun (w' : World) (hb : Below w.heap.size w w') (u : Value) (hu : TextsAt w' u (leavesP log)) => tRoot_any (leavesP log) (by unfold leavesP; rw [List.length_map]; omega) (fun x hx => by
    unfold leavesP at hx
    obtain ⟨l, _, rfl⟩ := List.mem_map.1 hx
    have := isD_len (leaf_isD l.d)
    omega) u w' hu (hg.to hb)
  have HM : Hid (mapP (fun l : Ln => leafD l.d) (fun _ => true) log = leavesP log) := by show _ = _; unfold mapP leavesP; rw [List.filter_eq_self.2 (by simp)]
  have HRV : Hid (rootV (leavesP log) = totalT (leavesP log) ∧ rootE (leavesP log) = 0) := ⟨by unfold rootV; rw [if_pos (leaves_proper log)], by unfold rootE; rw [if_pos (leaves_proper log)]⟩
  clear hv hg hf hd
  cases hp : validG log with
  | false =>
    rw [hp] at CP
    rw [if_neg (by simp)]
    clear hp CM CR
    go_enter Tryz.func9, Tryz.ntmps9
    go_wp2_with ((with_reducible refine CP.mono ?_); rintro e w' ⟨rfl, hb⟩)
    go_ret2
    exact ⟨rfl, by assumption⟩
  | true =>
    rw [hp] at CP
    rw [if_pos rfl]
    clear hp
    go_enter Tryz.func9, Tryz.ntmps9
    go_wp2_with fail
    refine CP.mono ?_
    rintro e w2 ⟨rfl, hb⟩
    have HB2 := hide hb
    have CM2 := CM _ hb
    clear CM CP hb
    go_wp2_with fail
    refine CM2.mono ?_
    rintro e w3 ⟨v', rfl, hr, hb⟩
    have HB3 := hide (below_to HB2.out (Nat.le_refl _) hb)
    rw [HM.out] at hr
    have CR2 := CR _ HB3.out v' hr
    rw [HRV.out.1, HRV.out.2] at CR2
    clear hr hb CM2 CR
    go_wp2_with ((with_reducible refine CR2.mono ?_); rintro e w' ⟨rfl, hb⟩)
    go_ret2
    exact ⟨rfl, below_to HB3.out (Nat.le_refl _) (by assumption)⟩
def ordersP (l : List Od) (q : List UInt8) : List Od := l.filter fun o => !decide (o.p = q)
def OrdersR (l : List Od) (q : List UInt8) (w : World) (e : Ending) (w' : World) : Prop := ∃ v', e = .returned v' ∧ OdsAt w' v' (ordersP l q) ∧ Below w.heap.size w w'
set_option maxRecDepth 100000 in
set_option maxHeartbeats 4000000 in
theorem Orders_any (l : List Od) (hl : l.length ≤ 1000000000) (q : List UInt8) (v : Value) (w : World) (hv : OdsAt w v l) :
    Calls Tryz.prog 8 #[v, .string (bs q)] w (OrdersR l q w) := by
  have HB := hide (below_one w (.cells #[.string (bs q)] 9))
  have HX := hide (Blk.new w 9 #[.string (bs q)])
  have CM := mOO_any 25 ent_cOrders id (fun l => !decide (l.p = q)) w.heap.size l hl v (w.alloc (.cells #[.string (bs q)] 9)) (hv.to HB.out) (fun l hl w2 hb2 => cOrders_any l q w.heap.size w2 ((HX.out.to hb2).cell 0))
  have HM : Hid (mapP id (fun l : Od => !decide (l.p = q)) l = ordersP l q) := by show _ = _; unfold mapP ordersP; rw [List.map_id]
  rw [HM.out] at CM
  clear hv HX HM
  go_enter Tryz.func8, Tryz.ntmps8
  go_wp2_with fail
  refine CM.mono ?_
  rintro e w3 ⟨v', rfl, hr, hb⟩
  have HB3 := hide (below_to HB.out (Nat.le_refl _) hb)
  have HR := hide hr
  clear hr hb CM
  go_wp2_with fail
  go_ret
  exact ⟨v', rfl, HR.out, HB3.out⟩
end Go.Proofs.YtgdgdhpmjkefjaaGreatDoor

/- Walks of package forward: isName, which says the same as the lexer's 'one name'. -/
set_option linter.unusedVariables false
set_option linter.unusedSimpArgs false
namespace Go.Proofs.YtgdgdhpmjkefjaaGreatDoor
open Go.RowKit

theorem isLet_iff (c : UInt8) : isLet c = true ↔ (97 ≤ c.toNat ∧ c.toNat ≤ 122) ∨ (65 ≤ c.toNat ∧ c.toNat ≤ 90) := by
  unfold isLet clsB clsN
  split
  · simp; omega
  · rename_i h
    constructor
    · intro h'
      exfalso
      revert h'
      (repeat' split) <;> decide
    · intro h'; exact absurd (by omega) h
theorem isWd_eq (c : UInt8) : isWd c = (isLet c || isDi c || (c == 95)) := by
  have h95 : (c == 95) = decide (c.toNat = 95) := by
    by_cases h : c = 95
    · subst h; rfl
    · rw [beq_eq_false_iff_ne.2 h, decide_eq_false]; intro h'; exact h (UInt8.toNat_inj.1 h')
  rw [h95]
  unfold isWd isLet isDi clsB clsN
  by_cases h1 : 97 ≤ c.toNat ∧ c.toNat ≤ 122 ∨ 65 ≤ c.toNat ∧ c.toNat ≤ 90
  · rw [if_pos h1]; simp
  · rw [if_neg h1]
    by_cases h2 : 48 ≤ c.toNat ∧ c.toNat ≤ 57
    · rw [if_pos h2]; simp [h2]
    · rw [if_neg h2]
      by_cases h3 : c.toNat = 95
      · rw [if_pos h3]; simp [h3]
      · rw [if_neg h3]
        have h2' : (decide (48 ≤ c.toNat) && decide (c.toNat ≤ 57)) = false := by rw [Bool.and_eq_false_iff]; rcases Nat.lt_or_ge c.toNat 48 with h | h; exact .inl (decide_eq_false (by omega)); exact .inr (decide_eq_false (by omega))
        rw [h2', decide_eq_false h3]
        (repeat' split) <;> decide
def hdLet : List UInt8 → Bool
  | c :: _ => isLet c
  | [] => false
theorem isNm_eq (s : List UInt8) : isNm s = (s.all isWd && decide (0 < s.length) && decide (s.length ≤ 24) && hdLet s) := by
  unfold isNm
  cases s with
  | nil => rfl
  | cons c r =>
    rw [decide_eq_true (show 0 < (c :: r).length by simp)]
    show (isLet c && (c :: r).all isWd && decide ((c :: r).length ≤ 24)) = ((c :: r).all isWd && true && decide ((c :: r).length ≤ 24) && isLet c)
    generalize isLet c = A
    generalize (c :: r).all isWd = B
    generalize decide ((c :: r).length ≤ 24) = D
    cases A <;> cases B <;> cases D <;> rfl
/-- a byte that may stand at place k of an identifier -/
def okAt (k : Nat) (c : UInt8) : Bool := isLet c || (!decide (k = 0) && (c == 95 || isDi c))
def okFrom : Nat → List UInt8 → Bool
  | _, [] => true
  | k, c :: r => okAt k c && okFrom (k + 1) r
theorem okFrom_pos : ∀ (r : List UInt8) (k : Nat), 0 < k → okFrom k r = r.all isWd
  | [], _, _ => rfl
  | c :: r, k, h => by
    have h0 : decide (k = 0) = false := decide_eq_false (by omega)
    rw [okFrom, okFrom_pos r (k + 1) (by omega), List.all_cons]
    unfold okAt
    rw [h0, isWd_eq]
    cases isLet c <;> cases isDi c <;> cases (c == 95) <;> rfl
theorem isNm_from (s : List UInt8) : isNm s = (okFrom 0 s && (!s.isEmpty && decide (s.length ≤ 24))) := by
  rw [isNm_eq]
  cases s with
  | nil => rfl
  | cons c r =>
    rw [okFrom, okFrom_pos r 1 (by omega), List.all_cons, decide_eq_true (show 0 < (c :: r).length by simp)]
    show (isWd c && r.all isWd && true && decide ((c :: r).length ≤ 24) && isLet c) = ((isLet c || (false && (c == 95 || isDi c))) && r.all isWd && (true && decide ((c :: r).length ≤ 24)))
    rw [isWd_eq]
    generalize isLet c = A
    generalize isDi c = B
    generalize (c == 95) = C
    generalize r.all isWd = D
    generalize decide ((c :: r).length ≤ 24) = E
    cases A <;> cases B <;> cases C <;> cases D <;> cases E <;> rfl
def OkN (k : Nat) (c : Int) : Prop := (97 ≤ c ∧ c ≤ 122) ∨ (65 ≤ c ∧ c ≤ 90) ∨ (k ≠ 0 ∧ (c = 95 ∨ (48 ≤ c ∧ c ≤ 57)))
theorem okAt_iff (k : Nat) (c : UInt8) : okAt k c = true ↔ OkN k (c.toNat : Int) := by
  have h3 : (c == 95) = true ↔ (c.toNat : Int) = 95 := by
    rw [beq_iff_eq]
    constructor
    · rintro rfl; rfl
    · intro h'; exact UInt8.toNat_inj.1 (by show c.toNat = 95; omega)
  unfold okAt OkN
  rw [Bool.or_eq_true, Bool.and_eq_true, Bool.or_eq_true, isLet_iff, h3]
  unfold isDi
  simp
  omega
theorem okAt_yes {k : Nat} {c : UInt8} (h : OkN k (c.toNat : Int)) : okAt k c = true := (okAt_iff k c).2 h
theorem okAt_no {k : Nat} {c : UInt8} (h : ¬ OkN k (c.toNat : Int)) : okAt k c = false := by rw [← Bool.not_eq_true, okAt_iff]; exact h
set_option maxRecDepth 100000 in
set_option maxHeartbeats 2000000 in
theorem isName_any (s : List UInt8) (hs : s.length ≤ 140737488355328) (w : World) : Calls Tryz.prog 14 #[.string (bs s)] w fun e w' => e = .returned (.bool (isNm s)) ∧ w' = w := by
  have hsz : (bs s).size = s.length := bs_size s
  have HNM := hide (isNm_from s)
  go_enter Tryz.func14, Tryz.ntmps14
  go_wp2_with fail
  go_loopw [8] (fun i wr => ∃ k : Nat, i = .int .i64 (k : Int) ∧ (k ≤ s.length ∧ okFrom 0 s = okFrom k (s.drop k)) ∧ wr = w) (fun i _ => s.length - (intOf i).toNat)
  case atStart => exact ⟨0, rfl, ⟨by omega, rfl⟩, rfl⟩
  case round =>
    obtain ⟨k, rfl, ⟨hk, hall⟩, rfl⟩ := hrel
    have HA := hide hall
    clear hall
    by_cases hlt : k < s.length
    · have e1 : decide ((k : Int) < (s.length : Int)) = true := by simp; omega
      obtain ⟨c, hc⟩ : ∃ c, s[k]? = some c := ⟨_, List.getElem?_eq_getElem hlt⟩
      have ci := index_bs s k c hc
      have HD := hide (drop_at hc)
      have HN : Hid (okFrom k (s.drop k) = (okAt k c && okFrom (k + 1) (s.drop (k + 1)))) := by show _ = _; rw [HD.out]; rfl
      clear hc HD
      go_wp2_with fail
      all_goals simp only [Bool.not_eq_true', Bool.not_eq_false', Bool.not_eq_eq_eq_not, Bool.not_true, Bool.not_false, decide_eq_false_iff_not, decide_eq_true_eq, beq_iff_eq, bne_iff_ne, beq_eq_false_iff_ne, bne_eq_false_iff_eq, ne_eq, Int.not_le, Int.not_lt] at *
      all_goals first
        | (exfalso; omega)
        | (go_ret; exact ⟨ret_bool (by rw [HNM.out, HA.out, HN.out, okAt_no (by unfold OkN; omega)]; rfl), rfl⟩)
        | (refine ⟨⟨k + 1, by first | go_num | (congr 1; omega), ⟨by omega, by rw [HA.out, HN.out, okAt_yes (by unfold OkN; omega)]; rfl⟩, (by first | rfl | trivial)⟩, ?_⟩; simp [intOf]; omega)
    · obtain rfl : k = s.length := by omega
      have e1 : decide ((s.length : Int) < (s.length : Int)) = false := by simp
      have HT : Hid (okFrom 0 s = true) := by show _ = _; rw [HA.out, List.drop_length]; rfl
      clear HA
      have HF : Hid ((!(bs s).toList.isEmpty && decide ((s.length : Int) ≤ 24)) = isNm s) := by
        show _ = _
        rw [HNM.out, HT.out, bs_toList, Bool.eq_iff_iff]
        simp
        omega
      have HE : (bs s).toList = [] → Hid (isNm s = false) := fun h => by
        rw [bs_toList] at h; subst h; exact rfl
      go_wp2_with fail
      all_goals go_ret
      all_goals first
        | exact ⟨ret_bool (by rw [(HE (by assumption)).out]), rfl⟩
        | exact ⟨ret_bool (by rw [HF.out]), rfl⟩
        | (refine ⟨ret_bool ?_, rfl⟩; rw [← HF.out]; simp only [*]; try rfl)
end Go.Proofs.YtgdgdhpmjkefjaaGreatDoor

/- Plain laws of the calendar: a day is that of its year, month and day of the month. No program in sight. -/
set_option linter.unusedVariables false
set_option linter.unusedSimpArgs false
namespace Go.Proofs.YtgdgdhpmjkefjaaGreatDoor

def leapB (y : Nat) : Bool := (decide (y % 4 = 0) && !decide (y % 100 = 0)) || decide (y % 400 = 0)
/-- days of a month -/
def mlen (y m : Nat) : Nat := if m = 2 ∧ leapB y = true then 29 else if m = 2 then 28 else if m = 4 ∨ m = 6 ∨ m = 9 ∨ m = 11 then 30 else 31
/-- the year of an era in which day r of it lies (years begin in March) -/
def yoe (r : Nat) : Nat := (r - r / 1460 + r / 36524 - r / 146096) / 365
def doy (r : Nat) : Nat := r - (365 * yoe r + yoe r / 4 - yoe r / 100)
def mOf (q : Nat) : Nat := (5 * q + 2) / 153
structure Ymd where
  y : Nat
  m : Nat
  d : Nat
/-- the date of a day -/
def splitD (day : Nat) : Ymd :=
  ⟨400 * ((day + 657377) / 146097) + yoe ((day + 657377) % 146097) + (if (mOf (doy ((day + 657377) % 146097)) + 2) % 12 + 1 ≤ 2 then 1 else 0), (mOf (doy ((day + 657377) % 146097)) + 2) % 12 + 1,
    doy ((day + 657377) % 146097) - (153 * mOf (doy ((day + 657377) % 146097)) + 2) / 5 + 1⟩
/-- the day of a date: what Make reckons -/
def dayOf (y m d : Nat) : Int :=
  365 * ((if m ≤ 2 then y - 1 else y : Nat) : Int) + (((if m ≤ 2 then y - 1 else y) / 4 : Nat) : Int) - (((if m ≤ 2 then y - 1 else y) / 100 : Nat) : Int) + (((if m ≤ 2 then y - 1 else y) / 400 : Nat) : Int) + (((153 * ((m + 9) % 12) + 2) / 5 : Nat) : Int) + d - 1 - 657377

theorem era_parts {r : Nat} (h : r < 146097) : ∃ c b a e, r = 36524 * c + 1461 * b + 365 * a + e ∧ c ≤ 3 ∧ b ≤ 24 ∧ a ≤ 3 ∧ e ≤ 365 ∧ (e = 365 → a = 3 ∧ (b = 24 → c = 3)) := by
  obtain ⟨c, r1, h1, hc, h2, h3⟩ : ∃ c r1, r = 36524 * c + r1 ∧ c ≤ 3 ∧ r1 ≤ 36524 ∧ (r1 = 36524 → c = 3) := by
    by_cases h3 : r = 146096
    · exact ⟨3, 36524, by omega, by omega, by omega, fun _ => rfl⟩
    · exact ⟨r / 36524, r % 36524, by omega, by omega, by omega, by omega⟩
  obtain ⟨b, r2, h4, hb, h5, h6⟩ : ∃ b r2, r1 = 1461 * b + r2 ∧ b ≤ 24 ∧ r2 ≤ 1460 ∧ (b = 24 → r2 = 1460 → r1 = 36524) := ⟨r1 / 1461, r1 % 1461, by omega, by omega, by omega, by omega⟩
  by_cases h7 : r2 = 1460
  · exact ⟨c, b, 3, 365, by omega, hc, hb, by omega, by omega, fun _ => ⟨rfl, fun hb2 => h3 (h6 hb2 h7)⟩⟩
  · exact ⟨c, b, r2 / 365, r2 % 365, by omega, hc, hb, by omega, by omega, fun he => by omega⟩
theorem yoe_parts {r c b a e : Nat} (hr : r = 36524 * c + 1461 * b + 365 * a + e) (hc : c ≤ 3) (hb : b ≤ 24) (ha : a ≤ 3) (he : e ≤ 365) (hl : e = 365 → a = 3 ∧ (b = 24 → c = 3)) : yoe r = 100 * c + 4 * b + a := by
  have h0 : r ≤ 146096 := by
    by_cases h : e = 365
    · obtain ⟨h1, h2⟩ := hl h
      by_cases hb2 : b = 24
      · have := h2 hb2; omega
      · omega
    · omega
  have h1 : r / 1460 = (24 * c + b + 365 * a + e) / 1460 + (25 * c + b) := by
    rw [show r = (24 * c + b + 365 * a + e) + 1460 * (25 * c + b) by omega, Nat.add_mul_div_left _ _ (by decide)]
  have h2 : r / 36524 = (1461 * b + 365 * a + e) / 36524 + c := by
    rw [show r = (1461 * b + 365 * a + e) + 36524 * c by omega, Nat.add_mul_div_left _ _ (by decide)]
  have h3 : (1461 * b + 365 * a + e) / 36524 = r / 146096 := by
    by_cases h : r = 146096
    · have : 1461 * b + 365 * a + e = 36524 := by omega
      rw [this, h]
    · rw [Nat.div_eq_of_lt (show r < 146096 by omega), Nat.div_eq_of_lt]
      by_cases h5 : e = 365
      · obtain ⟨g1, g2⟩ := hl h5
        by_cases hb2 : b = 24
        · have := g2 hb2; omega
        · omega
      · omega
  have h6 : (24 * c + b + 365 * a + e) / 1460 = 0 ∧ e ≤ 364 ∨ (24 * c + b + 365 * a + e) / 1460 = 1 ∧ 1 ≤ e := by
    by_cases h : 24 * c + b + 365 * a + e < 1460
    · left
      refine ⟨Nat.div_eq_of_lt h, ?_⟩
      rcases Nat.lt_or_ge e 365 with h5 | h5
      · omega
      · have := (hl (by omega)).1; omega
    · right
      refine ⟨?_, by omega⟩
      have : 24 * c + b + 365 * a + e = (24 * c + b + 365 * a + e - 1460) + 1460 * 1 := by omega
      rw [this, Nat.add_mul_div_left _ _ (by decide), Nat.div_eq_of_lt (by omega)]
  unfold yoe
  rw [h1, h2, h3]
  have h8 : r - ((24 * c + b + 365 * a + e) / 1460 + (25 * c + b)) + (r / 146096 + c) - r / 146096 = (e - (24 * c + b + 365 * a + e) / 1460) + 365 * (100 * c + 4 * b + a) := by
    rcases h6 with ⟨h6, h7⟩ | ⟨h6, h7⟩ <;> rw [h6] <;> omega
  rw [h8, Nat.add_mul_div_left _ _ (by decide), Nat.div_eq_of_lt (by rcases h6 with ⟨h6, h7⟩ | ⟨h6, h7⟩ <;> rw [h6] <;> omega), Nat.zero_add]
theorem year_split {c b a : Nat} (hb : b ≤ 24) (ha : a ≤ 3) (hc : c ≤ 3) : (100 * c + 4 * b + a) / 4 = 25 * c + b ∧ (100 * c + 4 * b + a) / 100 = c ∧ (100 * c + 4 * b + a) / 400 = 0 := by
  refine ⟨by omega, by omega, by omega⟩
theorem doy_parts {r c b a e : Nat} (hr : r = 36524 * c + 1461 * b + 365 * a + e) (hc : c ≤ 3) (hb : b ≤ 24) (ha : a ≤ 3) (he : e ≤ 365) (hl : e = 365 → a = 3 ∧ (b = 24 → c = 3)) : doy r = e := by
  unfold doy
  rw [yoe_parts hr hc hb ha he hl]
  obtain ⟨h1, h2, _⟩ := year_split hb ha hc
  rw [h1, h2]
  omega
theorem month_cases {e : Nat} (he : e ≤ 365) : mOf e ≤ 11 ∧ (153 * mOf e + 2) / 5 ≤ e := by
  unfold mOf
  constructor
  · omega
  · omega
theorem month_back {m : Nat} (h : m ≤ 11) : ((m + 2) % 12 + 1 + 9) % 12 = m ∧ 1 ≤ (m + 2) % 12 + 1 ∧ (m + 2) % 12 + 1 ≤ 12 ∧ ((m + 2) % 12 + 1 ≤ 2 ↔ 10 ≤ m) := by omega
theorem of_len {e Y : Nat} (he : e ≤ 365) (hl : e = 365 → leapB (Y + 1) = true) : e - (153 * mOf e + 2) / 5 + 1 ≤ mlen (Y + (if (mOf e + 2) % 12 + 1 ≤ 2 then 1 else 0)) ((mOf e + 2) % 12 + 1) := by
  obtain ⟨h11, hle⟩ := month_cases he
  have hm : mOf e = (5 * e + 2) / 153 := rfl
  generalize mOf e = m at *
  have hc : m = 0 ∨ m = 1 ∨ m = 2 ∨ m = 3 ∨ m = 4 ∨ m = 5 ∨ m = 6 ∨ m = 7 ∨ m = 8 ∨ m = 9 ∨ m = 10 ∨ m = 11 := by omega
  rcases hc with rfl | rfl | rfl | rfl | rfl | rfl | rfl | rfl | rfl | rfl | rfl | rfl
  case inr.inr.inr.inr.inr.inr.inr.inr.inr.inr.inr =>
    show e - 337 + 1 ≤ mlen (Y + 1) 2
    unfold mlen
    by_cases h : leapB (Y + 1) = true
    · rw [if_pos ⟨rfl, h⟩]; omega
    · rw [if_neg (fun hh => h hh.2), if_pos rfl]
      have : e ≠ 365 := fun h5 => h (hl h5)
      omega
  all_goals
    simp only [mlen]
    simp
    omega
theorem split_make {day : Nat} (hd : day ≤ 100000) : (1800 ≤ (splitD day).y ∧ (splitD day).y ≤ 2073) ∧ (1 ≤ (splitD day).m ∧ (splitD day).m ≤ 12) ∧ (1 ≤ (splitD day).d ∧ (splitD day).d ≤ mlen (splitD day).y (splitD day).m) ∧ dayOf (splitD day).y (splitD day).m (splitD day).d = (day : Int) := by
  unfold splitD
  dsimp only
  have hE : (day + 657377) = 146097 * ((day + 657377) / 146097) + (day + 657377) % 146097 := (Nat.div_add_mod _ _).symm
  have hr : (day + 657377) % 146097 < 146097 := Nat.mod_lt _ (by decide)
  have hE2 : 4 ≤ (day + 657377) / 146097 ∧ (day + 657377) / 146097 ≤ 5 := by omega
  generalize (day + 657377) / 146097 = E at *
  generalize (day + 657377) % 146097 = r at *
  obtain ⟨c, b, a, e, h1, hc, hb, ha, he, hl⟩ := era_parts hr
  rw [yoe_parts h1 hc hb ha he hl, doy_parts h1 hc hb ha he hl]
  obtain ⟨g1, g2, g12, gi⟩ := month_back (month_cases he).1
  have hm10 : (mOf e + 2) % 12 + 1 ≤ 2 ↔ 306 ≤ e := by rw [gi]; unfold mOf; omega
  have hle := (month_cases he).2
  have hof := of_len (Y := 400 * E + (100 * c + 4 * b + a)) he (fun h5 => by
    obtain ⟨k1, k2⟩ := hl h5
    subst k1
    unfold leapB
    have e4 : (400 * E + (100 * c + 4 * b + 3) + 1) % 4 = 0 := by omega
    rw [e4]
    by_cases hb2 : b = 24
    · have := k2 hb2
      subst hb2 this
      have : (400 * E + (100 * 3 + 4 * 24 + 3) + 1) % 400 = 0 := by omega
      rw [this]; simp
    · have : (400 * E + (100 * c + 4 * b + 3) + 1) % 100 ≠ 0 := by omega
      rw [decide_eq_false this]; rfl)
  generalize hM : (mOf e + 2) % 12 + 1 = M at *
  refine ⟨?_, ⟨g2, g12⟩, ⟨by omega, hof⟩, ?_⟩
  · by_cases h2 : M ≤ 2
    · rw [if_pos h2]; have := hm10.1 h2; omega
    · rw [if_neg h2]; have : e < 306 := by (rcases Nat.lt_or_ge e 306 with h | h; exact h; exact absurd (hm10.2 h) h2)
      omega
  · have hy : (if M ≤ 2 then (400 * E + (100 * c + 4 * b + a) + (if M ≤ 2 then 1 else 0)) - 1 else 400 * E + (100 * c + 4 * b + a) + (if M ≤ 2 then 1 else 0)) = 400 * E + (100 * c + 4 * b + a) := by
      split <;> omega
    unfold dayOf
    rw [hy, g1]
    have q4 : (400 * E + (100 * c + 4 * b + a)) / 4 = 100 * E + 25 * c + b := by omega
    have q100 : (400 * E + (100 * c + 4 * b + a)) / 100 = 4 * E + c := by omega
    have q400 : (400 * E + (100 * c + 4 * b + a)) / 400 = E := by omega
    rw [q4, q100, q400]
    generalize (153 * mOf e + 2) / 5 = D at *
    omega
end Go.Proofs.YtgdgdhpmjkefjaaGreatDoor

/- Plain laws: texts joined and split at a byte; the text of a day. No program in sight. -/
set_option linter.unusedVariables false
set_option linter.unusedSimpArgs false
namespace Go.Proofs.YtgdgdhpmjkefjaaGreatDoor
open Go.RowKit

theorem indexByte_app : ∀ (l r : List UInt8) (c : UInt8), c ∉ l → Lib.indexByte (l ++ c :: r) c = (l.length : Int)
  | [], r, c, _ => by simp [Lib.indexByte]
  | x :: l, r, c, h => by
    have hx : x ≠ c := fun e => h (by rw [e]; exact List.mem_cons_self ..)
    have ih := indexByte_app l r c (fun hh => h (List.mem_cons_of_mem _ hh))
    rw [List.cons_append, Lib.indexByte]
    simp [hx, ih]
    try omega
theorem split_last (l : List UInt8) (c : UInt8) (h : c ∉ l) : Lib.split l [c] = [l] := by
  unfold Lib.split
  rw [Lib.count_one, List.count_eq_zero_of_not_mem h]
  rfl
theorem split_cons (l r : List UInt8) (c : UInt8) (h : c ∉ l) : Lib.split (l ++ c :: r) [c] = l :: Lib.split r [c] := by
  unfold Lib.split
  rw [Lib.count_one, Lib.count_one, List.count_append, List.count_eq_zero_of_not_mem h, List.count_cons_self, Nat.zero_add, Lib.splitK]
  have hi : Lib.index (l ++ c :: r) [c] = (l.length : Int) := by rw [Lib.index_one]; exact indexByte_app l r c h
  rw [hi]
  have hn : ((l.length : Int) == -1) = false := by rw [beq_eq_false_iff_ne]; omega
  rw [hn]
  simp
theorem split_join (c : UInt8) : ∀ (x : List UInt8) (r : List (List UInt8)), (∀ y ∈ x :: r, c ∉ y) → Lib.split (Lib.join (x :: r) [c]) [c] = x :: r
  | x, [], h => by rw [Lib.join_one, split_last _ _ (h x (List.mem_cons_self ..))]
  | x, y :: r, h => by
    have e : Lib.join (x :: y :: r) [c] = x ++ c :: Lib.join (y :: r) [c] := by
      rw [Lib.join_cons, Lib.join_cons]; simp [Lib.joinTail]
    rw [e, split_cons _ _ _ (h x (List.mem_cons_self ..)), split_join c y r (fun z hz => h z (List.mem_cons_of_mem _ hz))]
end Go.Proofs.YtgdgdhpmjkefjaaGreatDoor

/- Plain laws: the texts of days and of orders. No program in sight. -/
set_option linter.unusedVariables false
set_option linter.unusedSimpArgs false
namespace Go.Proofs.YtgdgdhpmjkefjaaGreatDoor
open Go.RowKit

/-! digits -/
def isDg (c : UInt8) : Prop := 48 ≤ c.toNat ∧ c.toNat ≤ 57
theorem ofNat_dg {d : Nat} (h : d < 10) : (UInt8.ofNat (48 + d)).toNat = 48 + d := by simp; omega
theorem dec_dg : ∀ (u : Nat), ∀ c ∈ Lib.decDigits u, isDg c := by
  intro u
  induction u using Nat.strongRecOn with
  | ind u ih =>
    intro c hc
    rw [Lib.decDigits] at hc
    split at hc
    · rename_i h
      simp only [List.mem_cons, List.not_mem_nil, or_false] at hc
      subst hc
      unfold isDg
      rw [ofNat_dg h]; omega
    · rename_i h
      rcases List.mem_append.1 hc with hc | hc
      · exact ih (u / 10) (by omega) c hc
      · simp only [List.mem_cons, List.not_mem_nil, or_false] at hc
        subst hc
        unfold isDg
        rw [ofNat_dg (by omega)]; omega
theorem dec_ne' (u : Nat) : Lib.decDigits u ≠ [] := by
  rw [Lib.decDigits]
  split <;> simp
def valD (acc : Nat) (l : List UInt8) : Nat := l.foldl (fun a c => a * 10 + (c.toNat - 48)) acc
theorem valD_snoc (acc : Nat) (l : List UInt8) (c : UInt8) : valD acc (l ++ [c]) = valD acc l * 10 + (c.toNat - 48) := by simp [valD]
theorem valD_le : ∀ (l : List UInt8) (acc : Nat), acc ≤ valD acc l
  | [], acc => Nat.le_refl _
  | c :: r, acc => by
    have := valD_le r (acc * 10 + (c.toNat - 48))
    show acc ≤ valD (acc * 10 + (c.toNat - 48)) r
    omega
theorem valD_dec : ∀ u : Nat, valD 0 (Lib.decDigits u) = u := by
  intro u
  induction u using Nat.strongRecOn with
  | ind u ih =>
    rw [Lib.decDigits]
    split
    · rename_i h
      simp only [valD, List.foldl_cons, List.foldl_nil]
      rw [ofNat_dg h]; omega
    · rename_i h
      rw [valD_snoc, ih (u / 10) (by omega), ofNat_dg (by omega)]; omega
theorem parse_dg : ∀ (l : List UInt8) (acc : Nat), (∀ c ∈ l, isDg c) → valD acc l < 1000000000000000000 → Lib.parseUint10 acc l = .ok (valD acc l)
  | [], acc, _, _ => rfl
  | c :: r, acc, hd, hv => by
    obtain ⟨h1, h2⟩ := hd c (by simp)
    have hv' : valD (acc * 10 + (c.toNat - 48)) r < 1000000000000000000 := hv
    have := valD_le r (acc * 10 + (c.toNat - 48))
    rw [Lib.parseUint10, if_pos ⟨h1, h2⟩, if_neg (by omega), if_neg (by omega), parse_dg r _ (fun c' hc' => hd c' (by simp [hc'])) hv']
    rfl
theorem atoi_dec {u : Nat} (h : u < 1000000000000000000) : Lib.atoiAll (Lib.decDigits u) = .ok (u : Int) := by
  have hd := dec_dg u
  have hne := dec_ne' u
  have hv := valD_dec u
  have hp := parse_dg (Lib.decDigits u) 0 hd (by omega)
  rw [hv] at hp
  cases hl : Lib.decDigits u with
  | nil => exact absurd hl hne
  | cons c r =>
    rw [hl] at hd hp
    obtain ⟨h1, h2⟩ := hd c (by simp)
    unfold Lib.atoiAll Lib.parseMag
    simp only
    rw [if_neg (show ¬ (c.toNat = 43 ∨ c.toNat = 45) by omega), if_neg (by simp), hp]
    simp only
    rw [if_neg (by omega), if_neg (by omega), if_neg (by omega)]
theorem dg_not {l : List UInt8} (h : ∀ c ∈ l, isDg c) {b : UInt8} (hb : b.toNat < 48 ∨ 57 < b.toNat) : b ∉ l := fun hm => by
  obtain ⟨h1, h2⟩ := h b hm
  omega
/-- a number in two digits -/
def twoT (n : Nat) : List UInt8 := Lib.decDigits (n / 10) ++ Lib.decDigits (n % 10)
theorem two_dg (n : Nat) : ∀ c ∈ twoT n, isDg c := fun c hc => (List.mem_append.1 hc).elim (dec_dg _ c) (dec_dg _ c)
theorem atoi_two {n : Nat} (h : n < 100) : Lib.atoiAll (twoT n) = .ok (n : Int) := by
  have hd := two_dg n
  have hv : valD 0 (twoT n) = n := by
    unfold twoT
    rw [Lib.decDigits_one (show n % 10 < 10 by omega), valD_snoc, valD_dec, ofNat_dg (by omega)]
    omega
  have hp := parse_dg (twoT n) 0 hd (by omega)
  rw [hv] at hp
  cases hl : twoT n with
  | nil => unfold twoT at hl; exact absurd (List.append_eq_nil_iff.1 hl).1 (dec_ne' _)
  | cons c r =>
    rw [hl] at hd hp
    obtain ⟨h1, h2⟩ := hd c (by simp)
    unfold Lib.atoiAll Lib.parseMag
    simp only
    rw [if_neg (show ¬ (c.toNat = 43 ∨ c.toNat = 45) by omega), if_neg (by simp), hp]
    simp only
    rw [if_neg (by omega), if_neg (by omega), if_neg (by omega)]
theorem dec_small : ∀ (k u : Nat), u < 10 ^ (k + 1) → (Lib.decDigits u).length ≤ k + 1
  | 0, u, h => by rw [Lib.decDigits_one (by omega)]; simp
  | k + 1, u, h => by
    rw [Lib.decDigits]
    split
    · simp
    · have := dec_small k (u / 10) (by rw [Nat.pow_succ] at h; omega)
      rw [List.length_append, List.length_singleton]; omega
theorem two_len (n : Nat) (h : n < 100) : (twoT n).length = 2 := by
  unfold twoT
  rw [Lib.decDigits_one (show n / 10 < 10 by omega), Lib.decDigits_one (show n % 10 < 10 by omega)]; rfl
/-- the pieces of the text of a day -/
def dateL (D : Nat) : List (List UInt8) := [Lib.decDigits (splitD D).y, twoT (splitD D).m, twoT (splitD D).d]
def dateT (D : Nat) : List UInt8 := Lib.join (dateL D) [45]
theorem date_small {D : Nat} (h : D ≤ 100000) : (splitD D).y < 10000 ∧ (splitD D).m < 100 ∧ (splitD D).d < 100 := by
  obtain ⟨⟨_, h1⟩, ⟨_, h2⟩, ⟨_, h3⟩, _⟩ := split_make h
  have : mlen (splitD D).y (splitD D).m ≤ 31 := by unfold mlen; (repeat' split); all_goals omega
  omega
theorem date_pieces (D : Nat) : ∀ x ∈ dateL D, ∀ c ∈ x, isDg c := by
  intro x hx
  simp only [dateL, List.mem_cons, List.not_mem_nil, or_false] at hx
  rcases hx with rfl | rfl | rfl
  · exact dec_dg _
  · exact two_dg _
  · exact two_dg _
theorem date_split (D : Nat) : Lib.split (dateT D) [45] = dateL D := split_join 45 _ _ (fun y hy => dg_not (date_pieces D y hy) (.inl (by decide)))
theorem mem_join (s : List UInt8) : ∀ (x : List UInt8) (r : List (List UInt8)) {c : UInt8}, c ∈ Lib.join (x :: r) s → (∃ y ∈ x :: r, c ∈ y) ∨ c ∈ s := by
  intro x r c h
  rw [Lib.join_cons] at h
  rcases List.mem_append.1 h with h | h
  · exact .inl ⟨x, List.mem_cons_self .., h⟩
  · unfold Lib.joinTail at h
    obtain ⟨l, hl, hc⟩ := List.mem_flatten.1 h
    obtain ⟨y, hy, rfl⟩ := List.mem_map.1 hl
    rcases List.mem_append.1 hc with h | h
    · exact .inr h
    · exact .inl ⟨y, List.mem_cons_of_mem _ hy, h⟩
theorem date_chars {D : Nat} {c : UInt8} (h : c ∈ dateT D) : isDg c ∨ c = 45 := by
  rcases mem_join [45] _ _ h with ⟨y, hy, hc⟩ | hc
  · exact .inl (date_pieces D y hy c hc)
  · exact .inr (by simpa using hc)
theorem date_len {D : Nat} (h : D ≤ 100000) : 6 ≤ (dateT D).length ∧ (dateT D).length ≤ 10 := by
  obtain ⟨h1, h2, h3⟩ := date_small h
  have a1 := dec_small 3 _ h1
  have a2 : 1 ≤ (Lib.decDigits (splitD D).y).length := by
    cases hl : Lib.decDigits (splitD D).y with
    | nil => exact absurd hl (dec_ne' _)
    | cons _ _ => simp
  unfold dateT dateL
  rw [Lib.join_cons]
  unfold Lib.joinTail
  simp only [List.map_cons, List.map_nil, List.flatten_cons, List.flatten_nil, List.length_append, List.length_cons, List.length_nil, two_len _ h2, two_len _ h3]
  omega
/-! orders -/
def untilT (b : Int) : List UInt8 := if b < 0 then [45] else dateT b.toNat
def ordW : List UInt8 := [111, 114, 100, 101, 114]
def orderL (o : Od) : List (List UInt8) := [ordW, o.i, o.p, o.f, o.t, dateT o.a.toNat, untilT o.b]
def orderT (o : Od) : List UInt8 := Lib.join (orderL o) [32]
def isDayB (x : Int) : Bool := decide (0 ≤ x) && decide (x ≤ 100000)
def properB (a b : Int) : Bool := isDayB a && (decide (b = -1) || (isDayB b && decide (a < b)))
/-- an order by itself is proper -/
def okO (o : Od) : Bool := isNm o.i && (isNm o.p && (isNm o.f && (isNm o.t && (!decide (o.f = o.t) && properB o.a o.b))))
structure OkO (o : Od) : Prop where
  i : isNm o.i = true
  p : isNm o.p = true
  f : isNm o.f = true
  t : isNm o.t = true
  ne : o.f ≠ o.t
  per : properB o.a o.b = true
theorem okO_iff (o : Od) : okO o = true ↔ OkO o := by
  unfold okO
  simp only [Bool.and_eq_true, Bool.not_eq_true', decide_eq_false_iff_not]
  exact ⟨fun ⟨h1, h2, h3, h4, h5, h6⟩ => ⟨h1, h2, h3, h4, h5, h6⟩, fun h => ⟨h.i, h.p, h.f, h.t, h.ne, h.per⟩⟩
theorem per_facts {a b : Int} (h : properB a b = true) : 0 ≤ a ∧ a ≤ 100000 ∧ (b = -1 ∨ (0 ≤ b ∧ b ≤ 100000)) := by
  unfold properB isDayB at h
  simp at h
  omega
theorem nm_chars {t : List UInt8} (h : isNm t = true) {c : UInt8} (hc : c ∈ t) : 48 ≤ c.toNat := by
  unfold isNm at h
  simp only [Bool.and_eq_true] at h
  have := List.all_eq_true.1 h.1.2 c hc
  rw [isWd_eq] at this
  simp only [Bool.or_eq_true, beq_iff_eq] at this
  rcases this with (h1 | h1) | h1
  · rw [isLet_iff] at h1; omega
  · unfold isDi at h1; simp at h1; exact h1.1
  · rw [h1]; decide
theorem nm_len {t : List UInt8} (h : isNm t = true) : t.length ≤ 24 := (nm_facts h).2.2.1
theorem order_pieces {o : Od} (h : OkO o) : ∀ x ∈ orderL o, (∀ c ∈ x, 45 ≤ c.toNat) ∧ x.length ≤ 24 := by
  obtain ⟨p1, p2, p3⟩ := per_facts h.per
  have hdt : ∀ D, D ≤ 100000 → (∀ c ∈ dateT D, 45 ≤ c.toNat) ∧ (dateT D).length ≤ 24 := fun D hD => ⟨fun c hc => by
    rcases date_chars hc with ⟨h1, h2⟩ | rfl
    · omega
    · decide, by have := date_len hD; omega⟩
  intro x hx
  simp only [orderL, List.mem_cons, List.not_mem_nil, or_false] at hx
  rcases hx with rfl | rfl | rfl | rfl | rfl | rfl | rfl
  · exact ⟨by decide, by decide⟩
  · exact ⟨fun c hc => by have := nm_chars h.i hc; omega, nm_len h.i⟩
  · exact ⟨fun c hc => by have := nm_chars h.p hc; omega, nm_len h.p⟩
  · exact ⟨fun c hc => by have := nm_chars h.f hc; omega, nm_len h.f⟩
  · exact ⟨fun c hc => by have := nm_chars h.t hc; omega, nm_len h.t⟩
  · exact hdt _ (by omega)
  · unfold untilT
    split
    · exact ⟨by decide, by decide⟩
    · exact hdt _ (by omega)
theorem order_split {o : Od} (h : OkO o) : Lib.split (orderT o) [32] = orderL o := split_join 32 _ _ (fun y hy hc => by
  have := (order_pieces h y hy).1 32 hc
  exact absurd this (by decide))
theorem order_line {o : Od} (h : OkO o) : (orderT o).contains 10 = false := by
  rw [← Bool.not_eq_true, List.contains_iff_mem]
  intro hc
  rcases mem_join [32] _ _ hc with ⟨y, hy, hc⟩ | hc
  · exact absurd ((order_pieces h y hy).1 10 hc) (by decide)
  · exact absurd hc (by decide)
theorem order_len {o : Od} (h : OkO o) : 1 ≤ (orderT o).length ∧ (orderT o).length ≤ 200 := by
  have hp := order_pieces h
  have h1 := (hp o.i (by simp [orderL])).2
  have h2 := (hp o.p (by simp [orderL])).2
  have h3 := (hp o.f (by simp [orderL])).2
  have h4 := (hp o.t (by simp [orderL])).2
  have h5 := (hp (dateT o.a.toNat) (by simp [orderL])).2
  have h6 := (hp (untilT o.b) (by simp [orderL])).2
  unfold orderT orderL
  rw [Lib.join_cons]
  unfold Lib.joinTail
  simp only [List.map_cons, List.map_nil, List.flatten_cons, List.flatten_nil, List.length_append, List.length_cons, List.length_nil, ordW]
  omega
end Go.Proofs.YtgdgdhpmjkefjaaGreatDoor

/- Walks of package date: the small ones. -/
set_option linter.unusedVariables false
set_option linter.unusedSimpArgs false
namespace Go.Proofs.YtgdgdhpmjkefjaaGreatDoor
open Go.RowKit

def endV (b : Int) : Int := if b < 0 then 100001 else b
def coversB (a b d : Int) : Bool := properB a b && (isDayB d && (decide (a ≤ d) && decide (d < endV b)))
set_option maxHeartbeats 1000000 in
theorem isDay_any (x : Int) (w : World) : Calls Tryz.prog 38 #[.int .i64 x] w fun e w' => e = .returned (.bool (isDayB x)) ∧ w' = w := by
  have HF : Hid (isDayB x = (decide (0 ≤ x) && decide (x ≤ 100000))) := rfl
  go_enter Tryz.func38, Tryz.ntmps38
  go_wp2_with fail
  all_goals go_ret
  all_goals exact ⟨ret_bool (by rw [HF.out]; simp <;> omega), rfl⟩
set_option maxHeartbeats 1000000 in
theorem end_any (a b : Int) (w : World) : Calls Tryz.prog 57 #[.agg #[.int .i64 a, .int .i64 b]] w fun e w' => e = .returned (.int .i64 (endV b)) ∧ Below w.heap.size w w' := by
  have HF : Hid (endV b = if b < 0 then 100001 else b) := rfl
  go_enter Tryz.func57, Tryz.ntmps57
  go_wp2_with fail
  all_goals go_ret
  all_goals exact ⟨congrArg (fun x => Ending.returned (.int .i64 x)) (by rw [HF.out]; simp <;> omega), below_one _ _⟩
set_option maxHeartbeats 1000000 in
theorem dProper_any (a b : Int) (w : World) : Calls Tryz.prog 15 #[.agg #[.int .i64 a, .int .i64 b]] w fun e w' => e = .returned (.bool (properB a b)) ∧ Below w.heap.size w w' := by
  have CD := fun x w => isDay_any x w
  have HF : Hid (properB a b = (isDayB a && (decide (b = -1) || (isDayB b && decide (a < b))))) := rfl
  go_enter Tryz.func15, Tryz.ntmps15
  go_wp2_with ((with_reducible refine (CD _ _).mono ?_); rintro e w' ⟨rfl, rfl⟩)
  all_goals go_ret
  all_goals refine ⟨ret_bool ?_, below_one _ _⟩
  all_goals rw [HF.out]
  all_goals simp [*]
set_option maxRecDepth 100000 in
set_option maxHeartbeats 1000000 in
theorem Covers_any (a b d : Int) (w : World) : Calls Tryz.prog 33 #[.agg #[.int .i64 a, .int .i64 b], .int .i64 d] w fun e w' => e = .returned (.bool (coversB a b d)) ∧ Below w.heap.size w w' := by
  have HB := hide (below_one w (.cells #[.int .i64 a, .int .i64 b] 37))
  have HR := hide (Blk.new w 37 #[.int .i64 a, .int .i64 b])
  have HF : Hid (coversB a b d = (properB a b && (isDayB d && (decide (a ≤ d) && decide (d < endV b))))) := rfl
  go_enter Tryz.func33, Tryz.ntmps33
  go_wp2_with fail
  generalize w.alloc (.cells #[.int .i64 a, .int .i64 b] 37) = w1 at *
  obtain ⟨b1, hb1⟩ : ∃ b, Hid (w.heap.size = b) := ⟨_, rfl⟩
  rw [hb1.out] at HR ⊢
  obtain ⟨U, hU, g, u0, rfl, hgu, hi⟩ := cls w1
  have CP := cls_call hgu hi (fun w _ => dProper_any a b w)
  have CE := cls_call hgu hi (fun w _ => end_any a b w)
  have CD := fun x w => isDay_any x w
  have r0 := blk_all hgu HR.out 0 rfl
  have r1 := blk_all hgu HR.out 1 rfl
  have HGU := hide hgu
  clear hgu hi
  go_wp2_with (first | ((with_reducible refine (CP _).mono ?_); rintro e w' ⟨rfl, uz, rfl⟩) | ((with_reducible refine (CE _).mono ?_); rintro e w' ⟨rfl, uy, rfl⟩) | ((with_reducible refine (CD _ _).mono ?_); rintro e w' ⟨rfl, rfl⟩))
  all_goals go_ret
  all_goals refine ⟨ret_bool ?_, below_to HB.out (Nat.le_refl _) (HGU.out _)⟩
  all_goals rw [HF.out]
  all_goals (simp [*] <;> intros <;> omega)
end Go.Proofs.YtgdgdhpmjkefjaaGreatDoor

/- Walks of package date: Split. -/
set_option linter.unusedVariables false
set_option linter.unusedSimpArgs false
namespace Go.Proofs.YtgdgdhpmjkefjaaGreatDoor
open Go.RowKit

theorem results_tmp4 {fn : Func} {t u v x : Tmp} (h : fn.results = #[.tmp t, .tmp u, .tmp v, .tmp x]) (tmps : Array Value) (P : Program) (w : World) :
    (results fn tmps).run P w = .ok (.tuple #[tmps.getD t undef, tmps.getD u undef, tmps.getD v undef, tmps.getD x undef]) w := by
  simp [results, h]
theorem splitD_y (D : Nat) : (splitD D).y = 400 * ((D + 657377) / 146097) + yoe ((D + 657377) % 146097) + (if (mOf (doy ((D + 657377) % 146097)) + 2) % 12 + 1 ≤ 2 then 1 else 0) := rfl
theorem splitD_m (D : Nat) : (splitD D).m = (mOf (doy ((D + 657377) % 146097)) + 2) % 12 + 1 := rfl
theorem splitD_d (D : Nat) : (splitD D).d = doy ((D + 657377) % 146097) - (153 * mOf (doy ((D + 657377) % 146097)) + 2) / 5 + 1 := rfl
theorem yoe_le {r : Nat} (h : r < 146097) : yoe r ≤ 399 ∧ 365 * yoe r + yoe r / 4 - yoe r / 100 ≤ r ∧ r ≤ 365 * yoe r + yoe r / 4 - yoe r / 100 + 365 := by
  obtain ⟨c, b, a, e, h1, hc, hb, ha, he, hl⟩ := era_parts h
  rw [yoe_parts h1 hc hb ha he hl]
  obtain ⟨g1, g2, _⟩ := year_split hb ha hc
  rw [g1, g2]
  omega
set_option maxRecDepth 100000 in
set_option maxHeartbeats 1000000 in
theorem Split_any (D : Nat) (hD : D ≤ 100000) (w : World) : Calls Tryz.prog 54 #[.int .i64 (D : Int)] w fun e w' => e = .returned (.tuple #[.int .i64 (splitD D).y, .int .i64 (splitD D).m, .int .i64 (splitD D).d, .int .i64 0]) ∧ w' = w := by
  have CD := fun x w => isDay_any x w
  have e1 : isDayB (D : Int) = true := by unfold isDayB; simp; omega
  have hy := hide (splitD_y D)
  have hm := hide (splitD_m D)
  have hd := hide (splitD_d D)
  obtain ⟨r, hr⟩ : ∃ r, Hid ((D + 657377) % 146097 = r) := ⟨_, rfl⟩
  obtain ⟨E, hE⟩ : ∃ E, Hid ((D + 657377) / 146097 = E) := ⟨_, rfl⟩
  have hrl : Hid (r < 146097) := by show _ < _; rw [← hr.out]; omega
  have hEl : Hid (E ≤ 5) := by show _ ≤ _; rw [← hE.out]; omega
  go_enter Tryz.func54, Tryz.ntmps54
  go_upto_region 6 with ((with_reducible refine (CD _ _).mono ?_); rintro e w' ⟨rfl, rfl⟩)
  rw [show ((D : Int) + 657377) % 146097 = (r : Int) by rw [← hr.out]; omega, show ((D : Int) + 657377) / 146097 = (E : Int) by rw [← hE.out]; omega]
  have hr1 := hrl.out
  have hE1 := hEl.out
  go_upto_region 7 with fail
  obtain ⟨Y, hY⟩ : ∃ Y, Hid (yoe r = Y) := ⟨_, rfl⟩
  obtain ⟨y1, y2, y3⟩ := yoe_le hr1
  rw [hY.out] at y1 y2 y3
  have eY : ((r : Int) - (r : Int) / 1460 + (r : Int) / 36524 - (r : Int) / 146096) / 365 = (Y : Int) := by
    rw [← hY.out]; unfold yoe; omega
  rw [eY]
  clear eY
  have Hy1 := hide y1
  have Hy2 := hide y2
  have Hy3 := hide y3
  go_upto_region 8 with fail
  obtain ⟨q, hq⟩ : ∃ q, Hid (doy r = q) := ⟨_, rfl⟩
  have hqe : q = r - (365 * Y + Y / 4 - Y / 100) := by rw [← hq.out, ← hY.out]; rfl
  have hq1 : q ≤ 365 := by omega
  have eq : (r : Int) - (365 * (Y : Int) + (Y : Int) / 4 - (Y : Int) / 100) = (q : Int) := by omega
  rw [eq]
  clear eq y2 y3 hqe
  go_upto_region 9 with fail
  obtain ⟨m, hm'⟩ : ∃ m, Hid (mOf q = m) := ⟨_, rfl⟩
  obtain ⟨m1, m2⟩ := month_cases hq1
  rw [hm'.out] at m1 m2
  have em : (5 * (q : Int) + 2) / 153 = (m : Int) := by rw [← hm'.out]; unfold mOf; omega
  rw [em]
  clear em
  go_upto_region 11 with fail
  have hmm : (splitD D).m = (m + 2) % 12 + 1 := by rw [hm.out, hr.out, hq.out, hm'.out]
  have hyy : (splitD D).y = 400 * E + Y + (if (m + 2) % 12 + 1 ≤ 2 then 1 else 0) := by rw [hy.out, hr.out, hE.out, hY.out, hq.out, hm'.out]
  have hdd : (splitD D).d = q - (153 * m + 2) / 5 + 1 := by rw [hd.out, hr.out, hq.out, hm'.out]
  have hM : 1 ≤ (splitD D).m ∧ (splitD D).m ≤ 12 := by rw [hmm]; omega
  have hmle : (153 * m + 2) / 5 ≤ q := m2
  have eM : ((m : Int) + 2) % 12 + 1 = ((splitD D).m : Int) := by rw [hmm]; omega
  have ed : (q : Int) - (153 * (m : Int) + 2) / 5 + 1 = ((splitD D).d : Int) := by rw [hdd]; omega
  have hbig : E ≤ 5 ∧ Y ≤ 399 := ⟨hE1, y1⟩
  have Hyy := hide hyy
  rw [← hmm] at Hyy
  rw [eM, ed]
  obtain ⟨M, hMM⟩ : ∃ M, Hid ((splitD D).m = M) := ⟨_, rfl⟩
  obtain ⟨d, hdM⟩ : ∃ d, Hid ((splitD D).d = d) := ⟨_, rfl⟩
  rw [hMM.out, hdM.out]
  rw [hMM.out] at hM
  have Hyz : Hid ((splitD D).y = 400 * E + Y + if M ≤ 2 then 1 else 0) := by show _ = _; rw [Hyy.out, hMM.out]
  clear hmm hyy hdd eM ed m1 m2 hmle hq1 hr1
  by_cases h2 : M ≤ 2
  · have e2 : decide ((M : Int) ≤ 2) = true := decide_eq_true (by omega)
    have hF : Hid ((400 * (E : Int) + (Y : Int) + 1) = ((splitD D).y : Int)) := by show _ = _; rw [Hyz.out, if_pos h2]; omega
    clear h2 hM
    go_wp2_with fail
    refine bodyPost_ret (results_tmp4 rfl _ _ _) rfl ?_
    exact ⟨by rw [← hF.out, hMM.out, hdM.out]; rfl, rfl⟩
  · have e2 : decide ((M : Int) ≤ 2) = false := decide_eq_false (by omega)
    have hF : Hid ((400 * (E : Int) + (Y : Int)) = ((splitD D).y : Int)) := by show _ = _; rw [Hyz.out, if_neg h2]; omega
    clear h2 hM
    go_wp2_with fail
    refine bodyPost_ret (results_tmp4 rfl _ _ _) rfl ?_
    exact ⟨by rw [← hF.out, hMM.out, hdM.out]; rfl, rfl⟩
end Go.Proofs.YtgdgdhpmjkefjaaGreatDoor

/- Walks of package date: length, Make at a date that is one, two, Text. -/
set_option linter.unusedVariables false
set_option linter.unusedSimpArgs false
namespace Go.Proofs.YtgdgdhpmjkefjaaGreatDoor
open Go.RowKit

def lensL : List Int := [31, 28, 31, 30, 31, 30, 31, 31, 30, 31, 30, 31]
/-- the table of the months stands in its variable -/
def Days (w : World) : Prop := ∀ (j : Nat) (x : Int), lensL[j]? = some x → w.cell? ⟨0, j, none⟩ = some (.int .i64 x)
/-- what the package's variables hold, those of package date too -/
structure GlobD (w : World) : Prop where
  g : Glob w
  days : Days w
theorem Days.to {w w' : World} (h : Days w) (ht : Tryz.prog.globals.size ≤ w.heap.size) (hb : Below w.heap.size w w') : Days w' := fun j x hx => by rw [hb.cell (g_lt (w := w) ht (by kernel_rfl))]; exact h j x hx
theorem GlobD.to {w w' : World} (h : GlobD w) (hb : Below w.heap.size w w') : GlobD w' := ⟨h.g.to hb, h.days.to h.g.top hb⟩
theorem GlobD.alloc {w : World} (h : GlobD w) (o : Obj) : GlobD (w.alloc o) := h.to (below_one w o)
theorem lens_at {m : Nat} (h1 : 1 ≤ m) (h2 : m ≤ 12) : ∃ x, lensL[m - 1]? = some x := ⟨_, List.getElem?_eq_getElem (by simp [lensL]; omega)⟩
theorem lens_is {m : Nat} (h1 : 1 ≤ m) (h2 : m ≤ 12) {y : Nat} (h : ¬ (m = 2 ∧ leapB y = true)) {x : Int} (hx : lensL[m - 1]? = some x) : x = (mlen y m : Int) := by
  have hm : m = 1 ∨ m = 2 ∨ m = 3 ∨ m = 4 ∨ m = 5 ∨ m = 6 ∨ m = 7 ∨ m = 8 ∨ m = 9 ∨ m = 10 ∨ m = 11 ∨ m = 12 := by omega
  rcases hm with rfl | rfl | rfl | rfl | rfl | rfl | rfl | rfl | rfl | rfl | rfl | rfl
  case inr.inl =>
    simp [lensL] at hx
    subst hx
    unfold mlen
    rw [if_neg h]; rfl
  all_goals (simp [lensL] at hx; subst hx; rfl)
set_option maxRecDepth 100000 in
set_option maxHeartbeats 1000000 in
theorem length_any (y m : Nat) (hy : y ≤ 3000) (h1 : 1 ≤ m) (h2 : m ≤ 12) (w : World) (hg : Days w) : Calls Tryz.prog 78 #[.int .i64 (y : Int), .int .i64 (m : Int)] w fun e w' => e = .returned (.int .i64 (mlen y m : Int)) ∧ w' = w := by
  obtain ⟨x, hx⟩ := lens_at h1 h2
  have c0 := hg _ _ hx
  by_cases h : m = 2
  · subst h
    have c1 : w.cell? ⟨0, 1, none⟩ = some (.int .i64 28) := hg 1 28 rfl
    have hl : Hid (mlen y 2 = if leapB y = true then 29 else 28) := by show _ = _; unfold mlen; by_cases hh : leapB y = true <;> simp [hh]
    by_cases h4 : y % 4 = 0
    · have e4 : ((y : Int) % 4 == 0) = true := by rw [beq_iff_eq]; omega
      by_cases h100 : y % 100 = 0
      · have e100 : ((y : Int) % 100 == 0) = true := by rw [beq_iff_eq]; omega
        have n100 : ((y : Int) % 100 != 0) = false := by rw [bne, e100]; rfl
        by_cases h400 : y % 400 = 0
        · have e400 : ((y : Int) % 400 == 0) = true := by rw [beq_iff_eq]; omega
          have HF : Hid (mlen y 2 = 29) := by show _ = _; rw [hl.out]; unfold leapB; rw [decide_eq_true h4, decide_eq_true h100, decide_eq_true h400]; rfl
          clear hx c0 h4 h100 h400
          go_enter Tryz.func78, Tryz.ntmps78
          go_wp2_with fail
          go_ret
          exact ⟨by rw [HF.out]; rfl, rfl⟩
        · have e400 : ((y : Int) % 400 == 0) = false := by rw [beq_eq_false_iff_ne]; omega
          have HF : Hid (mlen y 2 = 28) := by show _ = _; rw [hl.out]; unfold leapB; rw [decide_eq_true h4, decide_eq_true h100, decide_eq_false h400]; rfl
          clear hx c0 h4 h100 h400
          go_enter Tryz.func78, Tryz.ntmps78
          go_wp2_with fail
          go_ret
          exact ⟨by rw [HF.out]; rfl, rfl⟩
      · have e100 : ((y : Int) % 100 == 0) = false := by rw [beq_eq_false_iff_ne]; omega
        have n100 : ((y : Int) % 100 != 0) = true := by rw [bne, e100]; rfl
        have HF : Hid (mlen y 2 = 29) := by show _ = _; rw [hl.out]; unfold leapB; rw [decide_eq_true h4, decide_eq_false h100]; rfl
        clear hx c0 h4 h100
        go_enter Tryz.func78, Tryz.ntmps78
        go_wp2_with fail
        go_ret
        exact ⟨by rw [HF.out]; rfl, rfl⟩
    · have e4 : ((y : Int) % 4 == 0) = false := by rw [beq_eq_false_iff_ne]; omega
      have e400 : ((y : Int) % 400 == 0) = false := by rw [beq_eq_false_iff_ne]; omega
      have HF : Hid (mlen y 2 = 28) := by show _ = _; rw [hl.out]; unfold leapB; rw [decide_eq_false h4, decide_eq_false (show ¬ y % 400 = 0 by omega)]; rfl
      clear hx c0 h4
      go_enter Tryz.func78, Tryz.ntmps78
      go_wp2_with fail
      go_ret
      exact ⟨by rw [HF.out]; rfl, rfl⟩
  · have HF : Hid (x = (mlen y m : Int)) := lens_is h1 h2 (fun hh => h hh.1) hx
    have e0 : ((m : Int) == 2) = false := by rw [beq_eq_false_iff_ne]; omega
    obtain ⟨k, hk⟩ : ∃ k, m = k + 1 := ⟨m - 1, by omega⟩
    subst hk
    rw [Nat.add_sub_cancel] at c0
    have e1 : (((k + 1 : Nat) : Int)) - 1 = (k : Int) := by omega
    have e2 : (((k : Int) + 1)) - 1 = (k : Int) := by omega
    have e3 : ((k : Int) + 1 == 2) = false := e0
    have e4 : ¬ ((k : Int) + 1 = 2) := by omega
    clear h hx
    go_enter Tryz.func78, Tryz.ntmps78
    go_wp2_with fail
    go_ret
    exact ⟨by rw [← HF.out]; rfl, rfl⟩
set_option maxRecDepth 100000 in
set_option maxHeartbeats 1000000 in
/-- Make at a date that is one -/
theorem Make_day (y m d D : Nat) (hy1 : 1800 ≤ y) (hy2 : y ≤ 2073) (h1 : 1 ≤ m) (h2 : m ≤ 12) (hd1 : 1 ≤ d) (hd2 : d ≤ mlen y m) (hD : dayOf y m d = (D : Int)) (hD2 : D ≤ 100000) (w : World) (hg : Days w) :
    Calls Tryz.prog 53 #[.int .i64 (y : Int), .int .i64 (m : Int), .int .i64 (d : Int)] w fun e w' => e = .returned (.tuple #[.int .i64 (D : Int), .int .i64 0]) ∧ w' = w := by
  have CL := fun w hg => length_any y m (by omega) h1 h2 w hg
  have CD := fun x w => isDay_any x w
  have hml : mlen y m ≤ 31 := by unfold mlen; repeat' split
                                 all_goals omega
  have HD := hide hD
  have eD : isDayB (D : Int) = true := by unfold isDayB; simp; omega
  have a1 : decide ((y : Int) < 1800) = false := decide_eq_false (by omega)
  have a2 : decide ((2073 : Int) < (y : Int)) = false := decide_eq_false (by omega)
  have a3 : decide ((m : Int) < 1) = false := decide_eq_false (by omega)
  have a4 : decide ((12 : Int) < (m : Int)) = false := decide_eq_false (by omega)
  have a5 : decide ((d : Int) < 1) = false := decide_eq_false (by omega)
  obtain ⟨L, hL⟩ : ∃ L, Hid (mlen y m = L) := ⟨_, rfl⟩
  rw [hL.out] at CL hd2 hml
  have a6 : decide ((L : Int) < (d : Int)) = false := decide_eq_false (by omega)
  have a6' : decide (L < d) = false := decide_eq_false (by omega)
  obtain ⟨Y, hY⟩ : ∃ Y, Hid ((if m ≤ 2 then y - 1 else y) = Y) := ⟨_, rfl⟩
  have HF : Hid (365 * (Y : Int) + (Y : Int) / 4 - (Y : Int) / 100 + (Y : Int) / 400 + (153 * (((m : Int) + 9) % 12) + 2) / 5 + (d : Int) - 1 - 657377 = (D : Int)) := by
    show _ = _
    rw [← HD.out]
    unfold dayOf
    rw [hY.out]
    omega
  clear hD
  have hdb : d ≤ 31 := by omega
  by_cases hm : m ≤ 2
  · have a7 : decide ((m : Int) ≤ 2) = true := decide_eq_true (by omega)
    have hYY := hY.out
    rw [if_pos hm] at hYY
    have eY : (y : Int) - 1 = (Y : Int) := by omega
    have hYb : Y ≤ 2073 := by omega
    clear hYY hm hd2 hD2
    go_enter Tryz.func53, Tryz.ntmps53
    go_upto_region 8 with ((with_reducible refine (CL _ hg).mono ?_); rintro e w' ⟨rfl, rfl⟩)
    try rw [eY]
    clear eY
    go_upto_region 9 with fail
    rw [HF.out]
    clear h1 h2 hd1 hml hYb hy1 hy2
    go_wp2_with ((with_reducible refine (CD _ _).mono ?_); rintro e w' ⟨rfl, rfl⟩)
    go_ret2
    exact ⟨rfl, rfl⟩
  · have a7 : decide ((m : Int) ≤ 2) = false := decide_eq_false (by omega)
    have hYY := hY.out
    rw [if_neg hm] at hYY
    subst hYY
    clear hm hd2 hD2
    go_enter Tryz.func53, Tryz.ntmps53
    go_upto_region 9 with ((with_reducible refine (CL _ hg).mono ?_); rintro e w' ⟨rfl, rfl⟩)
    rw [HF.out]
    clear h1 h2 hd1 hml hy1 hy2
    go_wp2_with ((with_reducible refine (CD _ _).mono ?_); rintro e w' ⟨rfl, rfl⟩)
    go_ret2
    exact ⟨rfl, rfl⟩
end Go.Proofs.YtgdgdhpmjkefjaaGreatDoor

/- Walks of package date: two, Text; strings.Join, strings.Split, strconv.Atoi. -/
set_option linter.unusedVariables false
set_option linter.unusedSimpArgs false
namespace Go.Proofs.YtgdgdhpmjkefjaaGreatDoor
open Go.RowKit Go.Shelf

theorem Join_any (sp : UInt8) (b o c : Nat) (ls : List (List UInt8)) (w : World) (hb : b < w.heap.size) (hc : ls.length ≤ c) (hn : ls.length ≤ 1000000) (hat : ∀ (j : Nat) x, ls[j]? = some x → w.cell? ⟨b, o + j, none⟩ = some (.string (bs x))) (hl : (Lib.join ls [sp]).length ≤ 140737488355328) :
    Calls Tryz.prog 39 #[.slice (some ⟨b, o, none⟩) ls.length c, .string ⟨#[sp]⟩] w fun e w' => e = .returned (.string (bs (Lib.join ls [sp]))) ∧ Below w.heap.size w w' := by
  have e1 : (ls.map bs).map (fun x => x.data.toList) = ls := by
    rw [List.map_map]
    conv => rhs; rw [← List.map_id ls]
    exact List.map_congr_left fun x _ => bs_list x
  have h := Tryz.strings_Join b o c (ls.map bs) ⟨#[sp]⟩ w (fun j x hx => by
    rw [List.getElem?_map] at hx
    obtain ⟨y, hy, rfl⟩ := Option.map_eq_some_iff.1 hx
    exact hat j y hy) hb (by rw [List.length_map]; omega) (by rw [List.length_map]; exact hc) (by rw [e1]; exact hl)
  rw [e1, List.length_map] at h
  exact h
theorem index_no {b : UInt8} : ∀ {l : List UInt8}, b ∉ l → Lib.index l [b] = -1
  | [], _ => rfl
  | c :: r, h => by
    simp only [List.mem_cons, not_or] at h
    rw [Lib.index, if_neg (by simp [List.isPrefixOf, h.1]), index_no h.2]
    rfl
theorem split_count (b : UInt8) : ∀ (n : Nat) (s : List UInt8), s.length ≤ n → (Lib.split s [b]).length = Lib.count s [b] + 1 := by
  intro n
  induction n with
  | zero =>
    intro s h
    obtain rfl : s = [] := List.eq_nil_of_length_eq_zero (by omega)
    rw [split_last _ _ (by simp)]
    rw [Lib.count_miss (index_no (by simp))]; rfl
  | succ n ih =>
    intro s h
    rcases Lib.index_spec s [b] with ⟨hi, _⟩ | ⟨i, hi, hl, _⟩
    · unfold Lib.split
      rw [Lib.count_miss hi]; rfl
    · have hr := Lib.index_room s [b] (by omega)
      rw [hi] at hr
      simp only [List.length_cons, List.length_nil] at hr
      have := ih (s.drop (i + [b].length)) (by rw [List.length_drop]; simp; omega)
      unfold Lib.split at this ⊢
      rw [Lib.count_hit (by simp) hi, Nat.add_comm 1, Lib.splitK, hi, if_neg (by rw [beq_iff_eq]; omega), List.length_cons]
      have e2 : (i : Int).toNat = i := by simp
      rw [e2, this]
theorem strs_flat : ∀ ls : List (List UInt8), (ls.map strV).flatten = ls.map fun l => Value.string (bs l)
  | [] => rfl
  | l :: r => by rw [List.map_cons, List.flatten_cons, strs_flat r]; rfl
theorem texts_new (w : World) (t : TypeId) (ls : List (List UInt8)) (cs : Array Value) (hcs : cs.toList = (ls.map strV).flatten) (n : Nat) (hn : n = ls.length) : TextsAt (w.alloc (.cells cs t)) (.slice (some ⟨w.heap.size, 0, none⟩) n n) ls := by
  refine RowsAt.of_blk (Blk.new w t cs) (by rw [List.length_map]; exact hn) (Nat.le_refl _) (by simp [strV]) fun k x hx j u hu => ?_
  have := flat_at (size := 1) (ls.map strV) (by simp [strV]) k x j u hx hu
  rw [← hcs] at this
  simpa using this
theorem sSplit_any (sp : UInt8) (l : List UInt8) (hl : l.length ≤ 4000000000) (w : World) (hg : Glob w) : Calls Tryz.prog 30 #[.string (bs l), .string ⟨#[sp]⟩] w fun e w' => ∃ g c, e = .returned (.slice (some ⟨g, 0, none⟩) (Lib.split l [sp]).length c) ∧ w.heap.size ≤ g ∧ TextsAt w' (.slice (some ⟨g, 0, none⟩) (Lib.split l [sp]).length c) (Lib.split l [sp]) ∧ Below w.heap.size w w' := by
  have hs := bs_size l
  obtain ⟨m, hm⟩ := hg.len
  refine (Tryz.strings_Split (bs l) ⟨#[sp]⟩ m w (by omega) hm (Nat.le_refl _)).mono ?_
  rintro e w' ⟨rfl, rfl⟩
  have hd := Lib.splitB_data ⟨#[sp]⟩ 0 (Lib.countB (bs l) ⟨#[sp]⟩) (bs l)
  rw [bs_list] at hd
  have hc : Lib.countB (bs l) ⟨#[sp]⟩ = Lib.count l [sp] := by unfold Lib.countB; rw [bs_list]
  rw [hc] at hd ⊢
  have hn := split_count sp l.length l (Nat.le_refl _)
  have hd' : (Lib.splitB ⟨#[sp]⟩ 0 (Lib.count l [sp]) (bs l)).map (·.data.toList) = Lib.split l [sp] := hd
  have hb : Lib.splitB ⟨#[sp]⟩ 0 (Lib.count l [sp]) (bs l) = (Lib.split l [sp]).map bs := by
    rw [← hd', List.map_map]
    conv => lhs; rw [← List.map_id (Lib.splitB _ _ _ _)]
    exact List.map_congr_left fun x _ => (bs_eq x)
  rw [← hn]
  refine ⟨_, _, rfl, Nat.le_refl _, ?_, below_one _ _⟩
  rw [hb, List.map_map]
  refine texts_new w 9 (Lib.split l [sp]) _ ?_ _ rfl
  rw [strs_flat]; simp [Function.comp_def]
theorem Atoi_ok {l : List UInt8} (hl : l.length ≤ 100000) {v : Int} (h : Lib.atoiAll l = .ok v) (w : World) : Calls Tryz.prog 52 #[.string (bs l)] w fun e w' => e = .returned (.tuple #[.int .i64 v, .nilIface]) ∧ Below w.heap.size w w' := by
  have hs := bs_size l
  refine (Tryz.strconv_Atoi_ok (bs l) (by omega) v (by rw [bs_list]; exact h) w).mono ?_
  rintro e w' ⟨rfl, hw⟩
  refine ⟨rfl, ?_⟩
  rcases hw with rfl | ⟨t, rfl⟩
  · exact Below.refl _ _
  · exact Lib.bytesWorld_below _ _ _
set_option maxRecDepth 100000 in
set_option maxHeartbeats 1000000 in
theorem two_any (n : Nat) (hn : n < 100) (w : World) : Calls Tryz.prog 56 #[.int .i64 (n : Int)] w fun e w' => e = .returned (.string (bs (twoT n))) ∧ Below w.heap.size w w' := by
  have C1 : ∀ w, Calls Tryz.prog 55 #[.int .i64 ((n : Int) / 10)] w fun e w' => e = .returned (.string (bs (Lib.decDigits (n / 10)))) ∧ w' = w := fun w => by
    have := Tryz.strconv_Itoa_small (n / 10) (by omega) w
    rw [show (((n / 10 : Nat)) : Int) = (n : Int) / 10 by omega] at this
    exact this
  have C2 : ∀ w, Calls Tryz.prog 55 #[.int .i64 ((n : Int) % 10)] w fun e w' => e = .returned (.string (bs (Lib.decDigits (n % 10)))) ∧ w' = w := fun w => by
    have := Tryz.strconv_Itoa_small (n % 10) (by omega) w
    rw [show (((n % 10 : Nat)) : Int) = (n : Int) % 10 by omega] at this
    exact this
  have HT : Hid (bs (Lib.decDigits (n / 10)) ++ bs (Lib.decDigits (n % 10)) = bs (twoT n)) := bs_app _ _
  obtain ⟨X, hX⟩ : ∃ X, Lib.decDigits (n / 10) = X := ⟨_, rfl⟩
  obtain ⟨Y, hY⟩ : ∃ Y, Lib.decDigits (n % 10) = Y := ⟨_, rfl⟩
  rw [hX] at C1 HT
  rw [hY] at C2 HT
  have lX : (bs X).size ≤ 2 := by rw [bs_size, ← hX]; exact dec_small 1 _ (by omega)
  have lY : (bs Y).size ≤ 2 := by rw [bs_size, ← hY]; exact dec_small 1 _ (by omega)
  clear hX hY
  go_enter Tryz.func56, Tryz.ntmps56
  go_wp2_with (first | ((with_reducible refine (C1 _).mono ?_); rintro e w' ⟨rfl, rfl⟩) | ((with_reducible refine (C2 _).mono ?_); rintro e w' ⟨rfl, rfl⟩))
  go_ret
  exact ⟨by rw [← HT.out]; rfl, Below.refl _ _⟩
end Go.Proofs.YtgdgdhpmjkefjaaGreatDoor

/- Walks of package date: Split at no day, Text. -/
set_option linter.unusedVariables false
set_option linter.unusedSimpArgs false
namespace Go.Proofs.YtgdgdhpmjkefjaaGreatDoor
open Go.RowKit Go.Shelf

theorem day_nat {x : Int} (h : isDayB x = true) : ∃ D : Nat, x = (D : Int) ∧ D ≤ 100000 := by
  unfold isDayB at h
  simp at h
  exact ⟨x.toNat, by omega, by omega⟩
set_option maxHeartbeats 1000000 in
theorem Split_no (x : Int) (hx : isDayB x = false) (w : World) : Calls Tryz.prog 54 #[.int .i64 x] w fun e w' => e = .returned (.tuple #[.int .i64 0, .int .i64 0, .int .i64 0, .int .i64 1]) ∧ w' = w := by
  have CD := fun w => isDay_any x w
  rw [hx] at CD
  go_enter Tryz.func54, Tryz.ntmps54
  go_wp2_with ((with_reducible refine (CD _).mono ?_); rintro e w' ⟨rfl, rfl⟩)
  refine bodyPost_ret (results_tmp4 rfl _ _ _) rfl ?_
  exact ⟨rfl, rfl⟩
def dayV (x : Int) : List UInt8 := if isDayB x then dateT x.toNat else []
def dayE (x : Int) : Int := if isDayB x then 0 else 1
set_option maxRecDepth 100000 in
set_option maxHeartbeats 1000000 in
theorem dText_any (x : Int) (w : World) (hg : Glob w) : Calls Tryz.prog 32 #[.int .i64 x] w fun e w' => e = .returned (.tuple #[.string (bs (dayV x)), .int .i64 (dayE x)]) ∧ Below w.heap.size w w' := by
  cases hx : isDayB x with
  | false =>
    have CS := fun w => Split_no x hx w
    have HV : Hid (dayV x = []) := by show _ = _; unfold dayV; rw [hx]; rfl
    have HE : Hid (dayE x = 1) := by show _ = _; unfold dayE; rw [hx]; rfl
    clear hx
    go_enter Tryz.func32, Tryz.ntmps32
    go_wp2_with ((with_reducible refine (CS _).mono ?_); rintro e w' ⟨rfl, rfl⟩)
    go_ret2
    exact ⟨by rw [HV.out, HE.out]; rfl, Below.refl _ _⟩
  | true =>
    have HV : Hid (dayV x = dateT x.toNat) := by show _ = _; unfold dayV; rw [hx]; rfl
    have HE : Hid (dayE x = 0) := by show _ = _; unfold dayE; rw [hx]; rfl
    obtain ⟨D, rfl, hD⟩ := day_nat hx
    rw [Int.toNat_natCast] at HV
    have CS := fun w => Split_any D hD w
    obtain ⟨y1, m1, d1⟩ := date_small hD
    have hlen := date_len hD
    have HT : Hid (Lib.join [Lib.decDigits (splitD D).y, twoT (splitD D).m, twoT (splitD D).d] [45] = dateT D) := rfl
    have hlj : Hid ((Lib.join [Lib.decDigits (splitD D).y, twoT (splitD D).m, twoT (splitD D).d] [45]).length ≤ 140737488355328) := by show _ ≤ _; rw [HT.out]; omega
    obtain ⟨U, hU, g, u0, rfl, hgu, hi⟩ := cls w
    have HG := hide hg
    have CI := cls_call hgu hi (fun w' hb => Itoa_any ((splitD D).y : Int) (by omega) (by omega) w' (HG.out.to hb))
    rw [Lib.itoa_nonneg] at CI
    have CM := cls_call hgu hi (fun w' hb => two_any (splitD D).m m1 w')
    have CD := cls_call hgu hi (fun w' hb => two_any (splitD D).d d1 w')
    have CJ : ∀ u, Calls Tryz.prog 39 #[.slice (some ⟨(g u).heap.size, 0, none⟩) 3 3, .string ⟨#[45]⟩] ((g u).alloc (.cells #[.string (bs (Lib.decDigits (splitD D).y)), .string (bs (twoT (splitD D).m)), .string (bs (twoT (splitD D).d))] 9)) fun e w' => e = .returned (.string (bs (dateT D))) ∧ ∃ u', w' = g u' := fun u => by
      refine (Join_any 45 (g u).heap.size 0 3 [Lib.decDigits (splitD D).y, twoT (splitD D).m, twoT (splitD D).d] _ (by simp) (Nat.le_refl _) (by simp) (fun j x hx => by rw [Nat.zero_add]; exact ((Blk.new (g u) 9 (strC [Lib.decDigits (splitD D).y, twoT (splitD D).m, twoT (splitD D).d])).cell j).trans (strC_at hx)) hlj.out).mono ?_
      rintro e w' ⟨rfl, hb⟩
      exact ⟨by rw [HT.out], hi _ ((hgu u).trans (below_to (below_one (g u) _) (Nat.le_refl _) hb |>.mono (hgu u).size))⟩
    have HGU := hide hgu
    clear hgu hi hlj y1 m1 d1 hlen hD hx HT
    generalize Lib.decDigits (splitD D).y = A at *
    generalize twoT (splitD D).m = B at *
    generalize twoT (splitD D).d = C at *
    go_enter Tryz.func32, Tryz.ntmps32
    go_wp2_with (first | ((with_reducible refine (CS _).mono ?_); rintro e w' ⟨rfl, rfl⟩) | ((with_reducible refine (CI _).mono ?_); rintro e w' ⟨rfl, uy, rfl⟩) | ((with_reducible refine (CM _).mono ?_); rintro e w' ⟨rfl, um, rfl⟩) | ((with_reducible refine (CD _).mono ?_); rintro e w' ⟨rfl, ud, rfl⟩) | ((with_reducible refine (CJ _).mono ?_); rintro e w' ⟨rfl, uj, rfl⟩))
    go_ret2
    exact ⟨by rw [HV.out, HE.out]; rfl, HGU.out _⟩
end Go.Proofs.YtgdgdhpmjkefjaaGreatDoor

/- Walks of package date: Parse at the text of a day. -/
set_option linter.unusedVariables false
set_option linter.unusedSimpArgs false
namespace Go.Proofs.YtgdgdhpmjkefjaaGreatDoor
open Go.RowKit Go.Shelf

def numsV (D : Nat) (k : Nat) : Array Value := #[.int .i64 (if 1 ≤ k then ((splitD D).y : Int) else 0), .int .i64 (if 2 ≤ k then ((splitD D).m : Int) else 0), .int .i64 (if 3 ≤ k then ((splitD D).d : Int) else 0)]
def numAt (D : Nat) (k : Nat) : Int := if k = 0 then ((splitD D).y : Int) else if k = 1 then ((splitD D).m : Int) else ((splitD D).d : Int)
theorem numsV_set (D : Nat) {k : Nat} (hk : k < 3) : (numsV D k).setIfInBounds k (.int .i64 (numAt D k)) = numsV D (k + 1) := by
  have : k = 0 ∨ k = 1 ∨ k = 2 := by omega
  rcases this with rfl | rfl | rfl <;> rfl
theorem date_atoi {D : Nat} (hD : D ≤ 100000) {k : Nat} {x : List UInt8} (hx : (dateL D)[k]? = some x) : Lib.atoiAll x = .ok (numAt D k) ∧ x.length ≤ 100 := by
  obtain ⟨h1, h2, h3⟩ := date_small hD
  unfold dateL at hx
  match k, hx with
  | 0, hx => simp at hx; subst hx; exact ⟨atoi_dec (by omega), by have := dec_small 3 _ h1; omega⟩
  | 1, hx => simp at hx; subst hx; exact ⟨atoi_two h2, by rw [two_len _ h2]; omega⟩
  | 2, hx => simp at hx; subst hx; exact ⟨atoi_two h3, by rw [two_len _ h3]; omega⟩
  | k + 3, hx => simp at hx
theorem add_zero_off (b k : Nat) : (⟨b, 0, none⟩ : Addr).add k = ⟨b, k, none⟩ := by
  unfold Addr.add
  split
  · rename_i h; subst h; rfl
  · simp
theorem numsV_at (D k : Nat) {j : Nat} (hj : j < 3) : ∃ u, (numsV D k)[j]? = some u := ⟨_, Array.getElem?_eq_getElem (by simpa [numsV] using hj)⟩
set_option maxRecDepth 100000 in
set_option maxHeartbeats 2000000 in
theorem dParse_any (D : Nat) (hD : D ≤ 100000) (w : World) (hg : GlobD w) : Calls Tryz.prog 31 #[.string (bs (dateT D))] w fun e w' => e = .returned (.tuple #[.int .i64 (D : Int), .int .i64 0]) ∧ Below w.heap.size w w' := by
  obtain ⟨⟨y1, y2⟩, ⟨m1, m2⟩, ⟨d1, d2⟩, hmk⟩ := split_make hD
  have CM := fun w hg => Make_day (splitD D).y (splitD D).m (splitD D).d D y1 y2 m1 m2 d1 d2 hmk hD w hg
  have CT := fun w hg => dText_any (D : Int) w hg
  have hdb : isDayB (D : Int) = true := by unfold isDayB; simp; omega
  rw [show dayV (D : Int) = dateT D by unfold dayV; rw [hdb]; rfl, show dayE (D : Int) = 0 by unfold dayE; rw [hdb]; rfl] at CT
  have hlen := date_len hD
  have CS := fun w hg => sSplit_any 45 (dateT D) (by omega) w hg
  rw [date_split] at CS
  have HA := fun k x hx => @date_atoi D hD k x hx
  have e0 : ((bs (dateT D)).toList == (bs (dateT D)).toList) = true := by simp
  have hL3 : (dateL D).length = 3 := rfl
  rw [hL3] at CS
  have HD := hide hD
  have HG := hide hg
  have c0 : numsV D 0 = #[.int .i64 0, .int .i64 0, .int .i64 0] := rfl
  have hn3 : numsV D 3 = #[.int .i64 ((splitD D).y : Int), .int .i64 ((splitD D).m : Int), .int .i64 ((splitD D).d : Int)] := rfl
  clear y1 y2 m1 m2 d1 d2 hmk hdb hlen hD hg
  go_enter Tryz.func31, Tryz.ntmps31
  go_wp2_with fail
  refine (CS _ HG.out.g).mono ?_
  rintro e w1 ⟨gb, c, rfl, hgb, hT, hb1⟩
  have HT := hide hT
  have HB1 := hide hb1
  have HG1 := hide (HG.out.to hb1)
  clear hT hb1 hgb CS
  go_wp2_with fail
  have HK1 := hide (Blk.new w1 93 #[.int .i64 0, .int .i64 0, .int .i64 0])
  have HW1 := hide (below_one w1 (.cells #[.int .i64 0, .int .i64 0, .int .i64 0] 93))
  generalize w1.alloc (.cells #[.int .i64 0, .int .i64 0, .int .i64 0] 93) = w2 at *
  obtain ⟨b2, hb2⟩ : ∃ b, Hid (w1.heap.size = b) := ⟨_, rfl⟩
  rw [hb2.out] at HK1 HW1 ⊢
  go_loopw [19] (fun i wr => ∃ k : Nat, i = .int .i64 (k : Int) ∧ k ≤ 3 ∧ Aside (Below b2 w1 wr) ∧ Aside (Blk wr b2 93 (numsV D k))) (fun i _ => 3 - (intOf i).toNat)
  case atStart => exact ⟨0, rfl, by omega, HW1.out, HK1.out⟩
  case round =>
    obtain ⟨k, rfl, hk, hB, hK⟩ := hrel
    have HB : Hid (Below b2 w1 wr) := hB
    have HK : Hid (Blk wr b2 93 (numsV D k)) := hK
    clear hB hK
    by_cases hlt : k < 3
    · have e1 : decide ((k : Int) < 3) = true := decide_eq_true (by omega)
      obtain ⟨x, hx⟩ : ∃ x, (dateL D)[k]? = some x := ⟨_, List.getElem?_eq_getElem (by rw [hL3]; exact hlt)⟩
      obtain ⟨hat, hlx⟩ := HA k x hx
      have HTr : TextsAt wr (.slice (some ⟨gb, 0, none⟩) 3 c) (dateL D) := HT.out.to (hb2.out ▸ HB.out)
      obtain ⟨aa, ea, ha0, ac⟩ := HTr.at_ hx
      cases ea
      have ac' : wr.cell? ⟨gb, k, none⟩ = some (.string (bs x)) := by rw [add_zero_off] at ac; exact ac
      have CA := fun w => Atoi_ok (l := x) (by omega) hat w
      have kcases : k = 0 ∨ k = 1 ∨ k = 2 := by omega
      have HS := hide (numsV_set D hlt)
      generalize numAt D k = N at *
      clear hx hat hlx HTr ac ha0 HA
      go_wp2_with fail
      refine (CA _).mono ?_
      rintro e w3 ⟨rfl, hb3⟩
      have HB3 := hide (HB.out.trans (hb3.mono (Nat.le_of_lt HK.out.lt)))
      have HK3 := hide (HK.out.to hb3)
      clear hb3
      obtain ⟨u, hu⟩ := numsV_at D k hlt
      have c3 : w3.cell? ⟨b2, k, none⟩ = some u := (HK3.out.cell k).trans hu
      have f3 := HK3.out.frozen k
      have i0 : (0 : Int) ≤ (k : Int) := by omega
      have i1 : (k : Int) < 3 := by omega
      have HN : Hid (Blk (w3.setCell ⟨b2, k, none⟩ (.int .i64 N)) b2 93 (numsV D (k + 1))) := by
        show Blk _ _ _ _
        rw [← HS.out]; exact HK3.out.set_ k _
      have HBN := hide (HB3.out.setCell (p := ⟨b2, k, none⟩) (Nat.le_refl _) (.int .i64 N))
      clear hu kcases
      go_wp2_with fail
      refine ⟨⟨k + 1, by go_num, by omega, HBN.out, HN.out⟩, ?_⟩
      simp [intOf]; omega
    · obtain rfl : k = 3 := by omega
      have e1 : decide ((3 : Int) < 3) = false := rfl
      have HM : GlobD wr := HG1.out.to (hb2.out ▸ HB.out)
      have HGr := hide HM
      have HKB := hide HK.out
      rw [hn3] at HKB
      have k0 := (HKB.out.cell 0).trans (show _ = some (Value.int .i64 ((splitD D).y : Int)) from rfl)
      have k1 := (HKB.out.cell 1).trans (show _ = some (Value.int .i64 ((splitD D).m : Int)) from rfl)
      have k2 := (HKB.out.cell 2).trans (show _ = some (Value.int .i64 ((splitD D).d : Int)) from rfl)
      have CM' := CM wr HM.days
      have CT' := CT wr HM.g
      have HEND := hide (HB1.out.trans ((hb2.out ▸ HB.out : Below w1.heap.size w1 wr).mono HB1.out.size))
      clear HM CM CT HA
      go_wp2_with (first | ((with_reducible refine CM'.mono ?_); rintro e w' ⟨rfl, rfl⟩) | ((with_reducible refine CT'.mono ?_); rintro e w' ⟨rfl, hbT⟩; have HBT := hide (HEND.out.trans (hbT.mono HEND.out.size)); clear hbT))
      go_ret2
      exact ⟨rfl, HBT.out⟩
end Go.Proofs.YtgdgdhpmjkefjaaGreatDoor

/- Maps that the call itself makes: a block that is a list of entries, in the order of their coming. -/
set_option linter.unusedVariables false
set_option linter.unusedSimpArgs false
namespace Go.Proofs.YtgdgdhpmjkefjaaGreatDoor
open Go.RowKit

/-- what the map's operations ask of the keys -/
structure KeySem (P : Program) (k : TypeId) (S : Value → Prop) : Prop where
  check : ∀ (w : World) (em : Bool) {v : Value}, S v → (Instr.checkKey em 10000 k v).run P w = .ok () w
  find : ∀ (w : World) {x : Value}, S x → ∀ es : List MapEntry, (∀ e ∈ es, S e.key) →
    ((Instr.findKey k x es).run P w = .ok none w ∧ ∀ e ∈ es, e.key ≠ x) ∨ ∃ j e, (Instr.findKey k x es).run P w = .ok (some (j, e.val)) w ∧ es[j]? = some e ∧ e.key = x
  stays : ∀ (w : World) {v : Value}, S v → (Instr.keyThatStays v v).run P w = .ok v w

theorem KeySem.of_keyed {P : Program} {k : TypeId} (K : Maps.Keyed P k) : KeySem P k (fun v => ∃ l, keyOf P k v = some l) :=
  ⟨fun w em _ ⟨_, h⟩ => K.check w em h, fun w _ ⟨_, h⟩ es hes => K.find w h es hes, fun w _ ⟨_, h⟩ => K.stays w h⟩

/-! keys that are pairs of integers: '[2]int', '[2]byte' -/
def pairKey (q : IntKind) (a b : Int) : Value := .agg #[.int q a, .int q b]
/-! the block -/
def EntList (l : List (Value × Value)) : List MapEntry := l.zipIdx.map fun x => { key := x.1.1, val := x.1.2, born := x.2 }
theorem EntList_length (l : List (Value × Value)) : (EntList l).length = l.length := by simp [EntList]
theorem EntList_get (l : List (Value × Value)) (j : Nat) : (EntList l)[j]? = (l[j]?).map fun x => { key := x.1, val := x.2, born := j } := by
  simp [EntList, List.getElem?_zipIdx]
  cases l[j]? <;> simp
theorem EntList_append (l : List (Value × Value)) (x : Value × Value) : EntList (l ++ [x]) = EntList l ++ [{ key := x.1, val := x.2, born := l.length }] := by
  simp [EntList, List.zipIdx_append]
theorem EntList_set (l : List (Value × Value)) (j : Nat) (x : Value × Value) : EntList (l.set j x) = (EntList l).set j { key := x.1, val := x.2, born := j } := by
  apply List.ext_getElem?
  intro i
  rw [EntList_get, List.getElem?_set, List.getElem?_set, EntList_length, EntList_get]
  by_cases h : j = i
  · subst h
    by_cases hl : j < l.length <;> simp [hl]
  · simp [h]

/-- block m is a map with just the entries l: keys apart, each a key of the type -/
structure MapIs (S : Value → Prop) (w : World) (m : Nat) (l : List (Value × Value)) : Prop where
  heap : w.heap[m]? = some (.map (EntList l).toArray l.length)
  keys : ∀ x ∈ l, S x.1
  apart : l.Pairwise fun x y => x.1 ≠ y.1

section
variable {P : Program} {k e t : TypeId} {S : Value → Prop} {w w' : World} {m : Nat} {l : List (Value × Value)}

theorem MapIs.lt (h : MapIs S w m l) : m < w.heap.size := by
  rcases Nat.lt_or_ge m w.heap.size with hlt | hge
  · exact hlt
  · have := h.heap; rw [Array.getElem?_eq_none hge] at this; cases this
theorem MapIs.new (S : Value → Prop) (w : World) : MapIs S (w.alloc (.map #[] 0)) w.heap.size [] :=
  ⟨by rw [heap_alloc_new]; rfl, by simp, by simp⟩
theorem MapIs.same (h : MapIs S w m l) (he : w'.heap[m]? = w.heap[m]?) : MapIs S w' m l := ⟨he.trans h.heap, h.keys, h.apart⟩
theorem MapIs.below {B : Nat} (h : MapIs S w m l) (hb : Below B w w') (hm : m < B) : MapIs S w' m l := h.same (hb.block m hm)
theorem MapIs.alloc (h : MapIs S w m l) (o : Obj) : MapIs S (w.alloc o) m l := h.same (Below.heap_alloc w o m h.lt)
theorem MapIs.setCell (h : MapIs S w m l) {p : Addr} (hp : m ≠ p.block) (u : Value) : MapIs S (w.setCell p u) m l := h.same (Below.heap_setCell w p u m hp)
theorem MapIs.drewN (h : MapIs S w m l) (n : Nat) : MapIs S (w.drewN n) m l := ⟨h.heap, h.keys, h.apart⟩

theorem MapIs.entKeys (h : MapIs S w m l) : ∀ e ∈ EntList l, S e.key := by
  intro e he
  obtain ⟨j, hj⟩ := List.getElem?_of_mem he
  rw [EntList_get] at hj
  cases hl : l[j]? with
  | none => simp [hl] at hj
  | some x =>
    simp [hl] at hj
    subst hj
    exact h.keys x (List.mem_of_getElem? hl)

theorem MapIs.find (h : MapIs S w m l) (K : KeySem P k S) {x : Value} (hx : S x) (W : World) :
    ((Instr.findKey k x (EntList l)).run P W = .ok none W ∧ ∀ y ∈ l, y.1 ≠ x) ∨ ∃ j v, (Instr.findKey k x (EntList l)).run P W = .ok (some (j, v)) W ∧ l[j]? = some (x, v) := by
  rcases K.find W hx (EntList l) h.entKeys with ⟨h1, h2⟩ | ⟨j, e, h1, h2, h3⟩
  · refine .inl ⟨h1, fun y hy => ?_⟩
    obtain ⟨j, hj⟩ := List.getElem?_of_mem hy
    have := h2 { key := y.1, val := y.2, born := j } (List.mem_of_getElem? (i := j) (by rw [EntList_get, hj]; rfl))
    exact this
  · rw [EntList_get] at h2
    cases hl : l[j]? with
    | none => simp [hl] at h2
    | some y =>
      simp [hl] at h2
      subst h2
      exact .inr ⟨j, y.2, h1, by rw [hl, ← h3]⟩


/-- what a key leads to -/
def has (l : List (Value × Value)) (x v : Value) : Prop := (x, v) ∈ l
def lacks (l : List (Value × Value)) (x : Value) : Prop := ∀ y ∈ l, y.1 ≠ x

theorem run_lookup_ok (h : MapIs S w m l) (K : KeySem P k S) (ht : P.underlying t = some (.map k e)) {z : Value} (hz : (zeroValue e).run P w = .ok z w) {x : Value} (hx : S x) :
    ((Instr.lookup t (.map (some m)) x true).run P w = .ok (.tuple #[z, .bool false]) w ∧ lacks l x) ∨
    ∃ v, (Instr.lookup t (.map (some m)) x true).run P w = .ok (.tuple #[v, .bool true]) w ∧ has l x v := by
  rcases h.find K hx w with ⟨h1, h2⟩ | ⟨j, v, h1, h2⟩
  · exact .inl ⟨by simp [Instr.lookup, run_underlying ht, MapKept.run_getObj_map h.heap, K.check w _ hx, h1, hz, Result.andThen], h2⟩
  · exact .inr ⟨v, by simp [Instr.lookup, run_underlying ht, MapKept.run_getObj_map h.heap, K.check w _ hx, h1, Result.andThen], List.mem_of_getElem? h2⟩

theorem run_lookup (h : MapIs S w m l) (K : KeySem P k S) (ht : P.underlying t = some (.map k e)) {z : Value} (hz : (zeroValue e).run P w = .ok z w) {x : Value} (hx : S x) :
    ((Instr.lookup t (.map (some m)) x false).run P w = .ok z w ∧ lacks l x) ∨
    ∃ v, (Instr.lookup t (.map (some m)) x false).run P w = .ok v w ∧ has l x v := by
  rcases h.find K hx w with ⟨h1, h2⟩ | ⟨j, v, h1, h2⟩
  · exact .inl ⟨by simp [Instr.lookup, run_underlying ht, MapKept.run_getObj_map h.heap, K.check w _ hx, h1, hz, Result.andThen], h2⟩
  · exact .inr ⟨v, by simp [Instr.lookup, run_underlying ht, MapKept.run_getObj_map h.heap, K.check w _ hx, h1, Result.andThen], List.mem_of_getElem? h2⟩

theorem MapIs.not_both {x v : Value} (h1 : lacks l x) (h2 : has l x v) : False := h1 _ h2 rfl
theorem run_lookup_lacks (h : MapIs S w m l) (K : KeySem P k S) (ht : P.underlying t = some (.map k e)) {z : Value} (hz : (zeroValue e).run P w = .ok z w) {x : Value} (hx : S x) (hl : lacks l x) :
    (Instr.lookup t (.map (some m)) x false).run P w = .ok z w := by
  rcases run_lookup h K ht hz hx with ⟨h1, _⟩ | ⟨v, _, h2⟩
  · exact h1
  · exact absurd h2 (fun h => MapIs.not_both hl h)
theorem run_lookup_ok_lacks (h : MapIs S w m l) (K : KeySem P k S) (ht : P.underlying t = some (.map k e)) {z : Value} (hz : (zeroValue e).run P w = .ok z w) {x : Value} (hx : S x) (hl : lacks l x) :
    (Instr.lookup t (.map (some m)) x true).run P w = .ok (.tuple #[z, .bool false]) w := by
  rcases run_lookup_ok h K ht hz hx with ⟨h1, _⟩ | ⟨v, _, h2⟩
  · exact h1
  · exact absurd h2 (fun h => MapIs.not_both hl h)

theorem has_inj (h : MapIs S w m l) {x v v' : Value} (h1 : has l x v) (h2 : has l x v') : v = v' := by
  have ha := h.apart
  clear h
  unfold has at h1 h2
  induction l with
  | nil => cases h1
  | cons y r ih =>
    rw [List.pairwise_cons] at ha
    rcases List.mem_cons.1 h1 with e1 | m1 <;> rcases List.mem_cons.1 h2 with e2 | m2
    · rw [← e1] at e2; exact (Prod.mk.inj e2).2.symm
    · exact absurd (by rw [← e1]) (ha.1 _ m2)
    · exact absurd (by rw [← e2]) (ha.1 _ m1)
    · exact ih m1 m2 ha.2

theorem run_lookup_has (h : MapIs S w m l) (K : KeySem P k S) (ht : P.underlying t = some (.map k e)) {z : Value} (hz : (zeroValue e).run P w = .ok z w) {x v : Value} (hx : S x) (hl : has l x v) :
    (Instr.lookup t (.map (some m)) x false).run P w = .ok v w := by
  rcases run_lookup h K ht hz hx with ⟨_, h2⟩ | ⟨v', h1, h2⟩
  · exact absurd hl (fun h => MapIs.not_both h2 h)
  · rw [has_inj h hl h2]; exact h1
theorem run_lookup_ok_has (h : MapIs S w m l) (K : KeySem P k S) (ht : P.underlying t = some (.map k e)) {z : Value} (hz : (zeroValue e).run P w = .ok z w) {x v : Value} (hx : S x) (hl : has l x v) :
    (Instr.lookup t (.map (some m)) x true).run P w = .ok (.tuple #[v, .bool true]) w := by
  rcases run_lookup_ok h K ht hz hx with ⟨_, h2⟩ | ⟨v', h1, h2⟩
  · exact absurd hl (fun h => MapIs.not_both h2 h)
  · rw [has_inj h hl h2]; exact h1

/-- the world with the map's block put anew -/
def putMap (w : World) (m : Nat) (l : List (Value × Value)) : World := { w with heap := w.heap.setIfInBounds m (.map (EntList l).toArray l.length) }
theorem putMap_size (w : World) (m : Nat) (l : List (Value × Value)) : (putMap w m l).heap.size = w.heap.size := by simp [putMap]
theorem putMap_other (w : World) (m : Nat) (l : List (Value × Value)) {i : Nat} (h : i ≠ m) : (putMap w m l).heap[i]? = w.heap[i]? := by
  simp [putMap, Array.getElem?_setIfInBounds]; intro e; exact absurd e.symm h
theorem putMap_grown (w : World) (m : Nat) (l : List (Value × Value)) : w.grownBy (putMap w m l) (some m) :=
  ⟨rfl, rfl, rfl, by simp [putMap], fun i _ hi => putMap_other w m l (fun e => hi (by rw [e]))⟩
theorem putMap_below {B : Nat} {W : World} (h : Below B W w) (hm : B ≤ m) : Below B W (putMap w m l) :=
  h.trans ⟨rfl, rfl, rfl, by simp [putMap], fun i hi => putMap_other w m l (by omega)⟩
theorem putMap_blk {g : Nat} {ty : TypeId} {cs : Array Value} (h : Blk w g ty cs) (hm : g ≠ m) : Blk (putMap w m l) g ty cs := (putMap_other w m l hm).trans h
theorem putMap_is (h : MapIs S w m l) {l' : List (Value × Value)} (hk : ∀ x ∈ l', S x.1) (ha : l'.Pairwise fun x y => x.1 ≠ y.1) : MapIs S (putMap w m l') m l' :=
  ⟨by simp [putMap, h.lt], hk, ha⟩

theorem MapIs.append_is (h : MapIs S w m l) {x v : Value} (hx : S x) (hl : lacks l x) : MapIs S (putMap w m (l ++ [(x, v)])) m (l ++ [(x, v)]) := by
  refine putMap_is h (fun y hy => ?_) ?_
  · rcases List.mem_append.1 hy with h1 | h1
    · exact h.keys y h1
    · rw [List.mem_singleton.1 h1]; exact hx
  · rw [List.pairwise_append]
    refine ⟨h.apart, by simp, fun a ha b hb => ?_⟩
    rw [List.mem_singleton.1 hb]
    exact hl a ha
theorem MapIs.set_is (h : MapIs S w m l) {j : Nat} {x v u : Value} (hj : l[j]? = some (x, u)) : MapIs S (putMap w m (l.set j (x, v))) m (l.set j (x, v)) := by
  have hjl : j < l.length := (List.getElem?_eq_some_iff.1 hj).1
  have hkeys : (l.set j (x, v)).map (·.1) = l.map (·.1) := by
    apply List.ext_getElem?
    intro i
    simp only [List.getElem?_map, List.getElem?_set]
    by_cases hi : j = i
    · subst hi; rw [hj]; simp [hjl]
    · simp [hi]
  refine putMap_is h (fun y hy => ?_) ?_
  · have : y.1 ∈ (l.set j (x, v)).map (·.1) := List.mem_map.2 ⟨y, hy, rfl⟩
    rw [hkeys] at this
    obtain ⟨z, hz, e⟩ := List.mem_map.1 this
    rw [← e]; exact h.keys z hz
  · have h1 : (l.map (·.1)).Pairwise (· ≠ ·) := List.pairwise_map.2 h.apart
    rw [← hkeys] at h1
    exact List.pairwise_map.1 h1

/-- 'm[x] = v' at a key that is not there -/
theorem run_update_new (h : MapIs S w m l) (K : KeySem P k S) (ht : P.underlying t = some (.map k e)) {x v : Value} (hx : S x) (hl : lacks l x) :
    (Instr.mapUpdate t (.map (some m)) x v).run P w = .ok () (putMap w m (l ++ [(x, v)])) := by
  rcases h.find K hx w with ⟨h1, h2⟩ | ⟨j, u, h1, h2⟩
  · have e1 : (EntList l).toArray.push { key := x, val := v, born := l.length } = (EntList (l ++ [(x, v)])).toArray := by rw [EntList_append]; simp
    simp [Instr.mapUpdate, run_underlying ht, MapKept.run_getObj_map h.heap, K.check w false hx, h1, MapKept.run_setObj_map _ h.heap, Result.andThen, putMap, ← e1]
  · exact absurd rfl (hl _ (List.mem_of_getElem? h2))
/-- 'm[x] = v' at a key that is there -/
theorem run_update_old (h : MapIs S w m l) (K : KeySem P k S) (ht : P.underlying t = some (.map k e)) {x v u : Value} (hx : S x) (hl : has l x u) :
    ∃ j, l[j]? = some (x, u) ∧ (Instr.mapUpdate t (.map (some m)) x v).run P w = .ok () (putMap w m (l.set j (x, v))) := by
  rcases h.find K hx w with ⟨h1, h2⟩ | ⟨j, u', h1, h2⟩
  · exact absurd rfl (h2 _ hl)
  · obtain rfl : u = u' := has_inj h hl (List.mem_of_getElem? h2)
    refine ⟨j, h2, ?_⟩
    have hjl : j < l.length := (List.getElem?_eq_some_iff.1 h2).1
    have hk : ((EntList l)[j]?).map (·.key) = some x := by rw [EntList_get, h2]; rfl
    have e1 : ((EntList l).modify j fun e => { e with key := x, val := v }) = EntList (l.set j (x, v)) := by
      apply List.ext_getElem?
      intro i
      rw [EntList_set]
      simp only [List.getElem?_modify, List.getElem?_set, EntList_length, EntList_get]
      by_cases hi : j = i
      · subst hi; rw [h2]; simp [hjl]
      · simp [hi]
    have hkey : Option.map MapEntry.key (EntList l)[j]? = some x := hk
    simp [Instr.mapUpdate, run_underlying ht, MapKept.run_getObj_map h.heap, K.check w false hx, h1, hkey, K.stays w hx, MapKept.run_setObj_map _ h.heap, Result.andThen, putMap, e1]
end
end Go.Proofs.YtgdgdhpmjkefjaaGreatDoor

/- Walks of package forward: newer, greatest, Proper. -/
set_option linter.unusedVariables false
set_option linter.unusedSimpArgs false
namespace Go.Proofs.YtgdgdhpmjkefjaaGreatDoor
open Go.RowKit Go.Shelf

/-- the order of newer orders -/
def newerB (x y : Od) : Bool := if x.a = y.a then (!Op.bytesLess (bs x.i).toList (bs y.i).toList && !((bs x.i).toList == (bs y.i).toList)) else decide (y.a < x.a)
set_option maxRecDepth 100000 in
set_option maxHeartbeats 1000000 in
theorem newer_any (x y : Od) (w : World) : Calls Tryz.prog 34 #[.agg #[.string (bs x.i), .string (bs x.p), .string (bs x.f), .string (bs x.t), .int .i64 x.a, .int .i64 x.b], .agg #[.string (bs y.i), .string (bs y.p), .string (bs y.f), .string (bs y.t), .int .i64 y.a, .int .i64 y.b]] w fun e w' => e = .returned (.bool (newerB x y)) ∧ Below w.heap.size w w' := by
  have HB := hide (below_two w (.cells #[.string (bs x.i), .string (bs x.p), .string (bs x.f), .string (bs x.t), .int .i64 x.a, .int .i64 x.b] 39) (.cells #[.string (bs y.i), .string (bs y.p), .string (bs y.f), .string (bs y.t), .int .i64 y.a, .int .i64 y.b] 39))
  by_cases h : x.a = y.a
  · have e1 : (x.a != y.a) = false := by rw [h]; simp
    have HF : Hid (newerB x y = (!Op.bytesLess (bs x.i).toList (bs y.i).toList && !((bs x.i).toList == (bs y.i).toList))) := by show _ = _; unfold newerB; rw [if_pos h]
    clear h
    go_enter Tryz.func34, Tryz.ntmps34
    go_wp2_with fail
    go_ret
    exact ⟨ret_bool (by rw [HF.out]), HB.out⟩
  · have e1 : (x.a != y.a) = true := by rw [bne_iff_ne]; exact h
    have HF : Hid (newerB x y = decide (y.a < x.a)) := by show _ = _; unfold newerB; rw [if_neg h]
    clear h
    go_enter Tryz.func34, Tryz.ntmps34
    go_wp2_with fail
    go_ret
    exact ⟨ret_bool (by rw [HF.out]), HB.out⟩
set_option maxRecDepth 100000 in
set_option maxHeartbeats 1000000 in
theorem more_any (x y : Od) (w : World) : Calls Tryz.prog 36 #[.agg #[.string (bs x.i), .string (bs x.p), .string (bs x.f), .string (bs x.t), .int .i64 x.a, .int .i64 x.b], .agg #[.string (bs y.i), .string (bs y.p), .string (bs y.f), .string (bs y.t), .int .i64 y.a, .int .i64 y.b]] w fun e w' => e = .returned (.bool (newerB x y)) ∧ Below w.heap.size w w' := by
  have HB := hide (below_two w (.cells #[.string (bs x.i), .string (bs x.p), .string (bs x.f), .string (bs x.t), .int .i64 x.a, .int .i64 x.b] 39) (.cells #[.string (bs y.i), .string (bs y.p), .string (bs y.f), .string (bs y.t), .int .i64 y.a, .int .i64 y.b] 39))
  have CN := fun w => newer_any x y w
  go_enter Tryz.func36, Tryz.ntmps36
  go_wp2_with ((with_reducible refine (CN _).mono ?_); rintro e w' ⟨rfl, hb⟩)
  go_ret
  exact ⟨rfl, below_to HB.out (Nat.le_refl _) (by assumption)⟩
end Go.Proofs.YtgdgdhpmjkefjaaGreatDoor

/- Walks of package forward: Proper. -/
set_option linter.unusedVariables false
set_option linter.unusedSimpArgs false
namespace Go.Proofs.YtgdgdhpmjkefjaaGreatDoor
open Go.RowKit Go.Shelf

structure Od.fit (o : Od) : Prop where
  i : o.i.length ≤ 140737488355328
  p : o.p.length ≤ 140737488355328
  f : o.f.length ≤ 140737488355328
  t : o.t.length ≤ 140737488355328
def SStr (v : Value) : Prop := ∃ l, keyOf Tryz.prog 9 v = some l
theorem sstr {x : List UInt8} (h : x.length ≤ 140737488355328) : SStr (.string (bs x)) := by
  unfold SStr keyOf
  simp [Tryz.underlying9, mapKey]
  rw [bs_size]
  simp only [maxLen]
  omega
theorem lawStr : KeySem Tryz.prog 9 SStr := KeySem.of_keyed (Maps.string_keyed Tryz.underlying9)
def idsM (l : List Od) : List (Value × Value) := l.map fun o => (Value.string (bs o.i), Value.bool true)
theorem idsM_lacks {l : List Od} {x : List UInt8} (h : ∀ o ∈ l, o.i ≠ x) : lacks (idsM l) (.string (bs x)) := by
  intro y hy
  obtain ⟨o, ho, rfl⟩ := List.mem_map.1 hy
  intro e
  injection e with e
  exact h o ho (bs_inj e)
theorem idsM_has {l : List Od} {x : List UInt8} {o : Od} (ho : o ∈ l) (hx : o.i = x) : has (idsM l) (.string (bs x)) (.bool true) := by
  subst hx
  exact List.mem_map.2 ⟨o, ho, rfl⟩
theorem idsM_apart {l : List Od} (h : (idsM l).Pairwise fun x y => x.1 ≠ y.1) : (l.map (·.i)).Nodup := by
  rw [idsM, List.pairwise_map] at h
  rw [List.Nodup, List.pairwise_map]
  refine h.imp (fun {a b} hab e => hab ?_)
  show Value.string (bs a.i) = Value.string (bs b.i)
  rw [e]
/-- orders are proper -/
def properL (l : List Od) : Bool := l.all okO && (decide ((l.map (·.i)).Nodup) && decide ((l.length : Int) ≤ 1000))
theorem proper_bad {l : List Od} {k : Nat} {o : Od} (h : l[k]? = some o) (hb : okO o = false) : properL l = false := by
  have : l.all okO = false := by
    rw [← Bool.not_eq_true, List.all_eq_true]
    intro hh
    rw [hh o (List.mem_of_getElem? h)] at hb; cases hb
  unfold properL
  rw [this]; rfl
theorem proper_twice {l : List Od} {k : Nat} {o q : Od} (h : l[k]? = some o) (hq : q ∈ l.take k) (he : q.i = o.i) : properL l = false := by
  have : decide ((l.map (·.i)).Nodup) = false := by
    apply decide_eq_false
    intro hn
    obtain ⟨j, hj⟩ := List.getElem?_of_mem hq
    have hjk : j < k := by
      rcases Nat.lt_or_ge j k with h' | h'
      · exact h'
      · rw [List.getElem?_eq_none (by simp; omega)] at hj; cases hj
    rw [List.getElem?_take_of_lt hjk] at hj
    have hl1 : j < l.length := (List.getElem?_eq_some_iff.1 hj).1
    have hl2 : k < l.length := (List.getElem?_eq_some_iff.1 h).1
    have := (List.pairwise_iff_getElem.1 hn) j k (by simpa using hl1) (by simpa using hl2) hjk
    rw [List.getElem_map, List.getElem_map] at this
    rw [(List.getElem?_eq_some_iff.1 hj).2, (List.getElem?_eq_some_iff.1 h).2] at this
    exact this he
  unfold properL
  rw [this]; cases l.all okO <;> rfl
theorem take_all {l : List Od} {k : Nat} {o : Od} (h : l[k]? = some o) (ha : (l.take k).all okO = true) (ho : okO o = true) : (l.take (k + 1)).all okO = true := by
  rw [List.take_add_one, h, List.all_append, ha]
  simp [ho]
theorem idsM_take {l : List Od} {k : Nat} {o : Od} (h : l[k]? = some o) : idsM (l.take (k + 1)) = idsM (l.take k) ++ [(Value.string (bs o.i), Value.bool true)] := by
  rw [List.take_add_one, h]; simp [idsM]
set_option maxRecDepth 100000 in
set_option maxHeartbeats 4000000 in
theorem Proper_any (l : List Od) (hf : ∀ o ∈ l, o.fit) (hl : l.length ≤ 1000000000) (v : Value) (w : World) (hv : OdsAt w v l) : Calls Tryz.prog 5 #[v] w fun e w' => e = .returned (.bool (properL l)) ∧ Below w.heap.size w w' := by
  obtain ⟨A, c, rfl⟩ := hv.slice
  have HS := hide hv
  have HF := hide hf
  have hmm := @run_makeMap Tryz.prog
  have HM0 := hide (MapIs.new SStr w)
  have HB0 := hide (below_one w (.map #[] 0))
  clear hv hf
  go_enter Tryz.func5, Tryz.ntmps5
  go_wp2_with fail
  clear hmm
  obtain ⟨mb, hmb⟩ : ∃ b, Hid (w.heap.size = b) := ⟨_, rfl⟩
  rw [hmb.out] at HM0 HB0 ⊢
  generalize w.alloc (.map #[] 0) = w1 at *
  go_loopw [9] (fun i wr => ∃ k : Nat, i = .int .i64 (k : Int) ∧ k ≤ l.length ∧ Aside (Below mb w wr) ∧ Aside (MapIs SStr wr mb (idsM (l.take k))) ∧ Aside ((l.take k).all okO = true)) (fun i _ => l.length - (intOf i).toNat)
  case atStart => exact ⟨0, rfl, by omega, HB0.out, HM0.out, rfl⟩
  case round =>
    obtain ⟨k, rfl, hk, hB, hM, hO⟩ := hrel
    have HB : Hid (Below mb w wr) := hB
    have HM : Hid (MapIs SStr wr mb (idsM (l.take k))) := hM
    have HO : Hid ((l.take k).all okO = true) := hO
    clear hB hM hO
    by_cases hlt : k < l.length
    · have e1 : decide ((k : Int) < (l.length : Int)) = true := decide_eq_true (by omega)
      obtain ⟨o, ho⟩ : ∃ o, l[k]? = some o := ⟨_, List.getElem?_eq_getElem hlt⟩
      have hfo := HF.out o (List.mem_of_getElem? ho)
      have HBAD := hide (fun h => proper_bad ho h)
      have HTW := hide (fun q hq he => @proper_twice l k o q ho hq he)
      have HTA := hide (take_all ho HO.out)
      have HID := hide (idsM_take ho)
      obtain ⟨a, rfl, ha, c0, c1, c2, c3, c4, c5⟩ := OdsAt.at_ (HS.out.to (hmb.out ▸ HB.out)) ho
      have CN := fun x hx w => isName_any x hx w
      have HK := hide (Blk.new wr 39 #[.string (bs o.i), .string (bs o.p), .string (bs o.f), .string (bs o.t), .int .i64 o.a, .int .i64 o.b])
      have hmlt : mb < wr.heap.size := HM.out.lt
      have HBn := hide (HB.out.alloc (Nat.le_of_lt hmlt) (.cells #[.string (bs o.i), .string (bs o.p), .string (bs o.f), .string (bs o.t), .int .i64 o.a, .int .i64 o.b] 39))
      have HMn := hide (HM.out.alloc (.cells #[.string (bs o.i), .string (bs o.p), .string (bs o.f), .string (bs o.t), .int .i64 o.a, .int .i64 o.b] 39))
      clear ho
      go_upto_region 5 with fail
      generalize wr.alloc (.cells #[.string (bs o.i), .string (bs o.p), .string (bs o.f), .string (bs o.t), .int .i64 o.a, .int .i64 o.b] 39) = w2 at *
      obtain ⟨b1, hb1⟩ : ∃ b, Hid (wr.heap.size = b) := ⟨_, rfl⟩
      rw [hb1.out] at HK ⊢
      clear c0 c1 c2 c3 c4 c5 ha
      obtain ⟨U, hU, g, u0, rfl, hgu, hi⟩ := cls w2
      have CP := cls_call hgu hi (fun w _ => dProper_any o.a o.b w)
      have r0 := blk_all hgu HK.out 0 rfl
      have r1 := blk_all hgu HK.out 1 rfl
      have r2 := blk_all hgu HK.out 2 rfl
      have r3 := blk_all hgu HK.out 3 rfl
      have r4 := blk_all hgu HK.out 4 rfl
      have r5 := blk_all hgu HK.out 5 rfl
      have HGU := hide hgu
      have HBU : Hid (∀ u, Below mb w (g u)) := fun u => HBn.out.trans ((hgu u).mono (Nat.le_of_lt HMn.out.lt))
      have hS := sstr hfo.i
      have HMg : ∀ u, MapIs SStr (g u) mb (idsM (l.take k)) := fun u => HMn.out.below (hgu u) HMn.out.lt
      have HMH := hide HMg
      have CN0 := fun w => CN o.i hfo.i w
      have CN1 := fun w => CN o.p hfo.p w
      have CN2 := fun w => CN o.f hfo.f w
      have CN3 := fun w => CN o.t hfo.t w
      have HOK : Hid (okO o = (isNm o.i && (isNm o.p && (isNm o.f && (isNm o.t && (!((bs o.f).toList == (bs o.t).toList) && properB o.a o.b)))))) := by
        show _ = _
        unfold okO
        rw [bs_toList, bs_toList, show (o.f == o.t) = decide (o.f = o.t) by rw [Bool.eq_iff_iff]; simp]
      clear CN hgu hi hfo
      generalize isNm o.i = N0 at *
      generalize isNm o.p = N1 at *
      generalize isNm o.f = N2 at *
      generalize isNm o.t = N3 at *
      generalize properB o.a o.b = N4 at *
      by_cases hs : ∀ q ∈ l.take k, q.i ≠ o.i
      · have hlk : ∀ u, (Instr.lookup 49 (.map (some mb)) (.string (bs o.i)) false).run Tryz.prog (g u) = .ok (.bool false) (g u) := fun u => run_lookup_lacks (HMg u) lawStr Tryz.underlying49 (by kernel_rfl) hS (idsM_lacks hs)
        have hup : ∀ u, (Instr.mapUpdate 49 (.map (some mb)) (.string (bs o.i)) (.bool true)).run Tryz.prog (g u) = .ok () (putMap (g u) mb (idsM (l.take k) ++ [(.string (bs o.i), .bool true)])) := fun u => run_update_new (HMg u) lawStr Tryz.underlying49 hS (idsM_lacks hs)
        have HNEW : Hid (∀ u, MapIs SStr (putMap (g u) mb (idsM (l.take k) ++ [(.string (bs o.i), .bool true)])) mb (idsM (l.take (k + 1)))) := fun u => by
          rw [HID.out]; exact (HMg u).append_is hS (idsM_lacks hs)
        have HBN : Hid (∀ u, Below mb w (putMap (g u) mb (idsM (l.take k) ++ [(.string (bs o.i), .bool true)]))) := fun u => putMap_below (HBn.out.trans ((HGU.out u).mono (Nat.le_of_lt HMn.out.lt))) (Nat.le_refl _)
        clear hs HMg
        go_wp2_with (first | ((with_reducible refine (CP _).mono ?_); rintro e w' ⟨rfl, uz, rfl⟩) | ((with_reducible refine (CN0 _).mono ?_); rintro e w' ⟨rfl, rfl⟩) | ((with_reducible refine (CN1 _).mono ?_); rintro e w' ⟨rfl, rfl⟩) | ((with_reducible refine (CN2 _).mono ?_); rintro e w' ⟨rfl, rfl⟩) | ((with_reducible refine (CN3 _).mono ?_); rintro e w' ⟨rfl, rfl⟩))
        all_goals first
          | (refine ⟨⟨k + 1, by go_num, by omega, HBN.out _, HNEW.out _, HTA.out (by rw [HOK.out]; simp [*])⟩, ?_⟩; simp [intOf]; omega)
          | (go_ret; exact ⟨ret_bool (by rw [HBAD.out (by rw [HOK.out]; simp [*])]), hmb.out ▸ HBU.out _⟩)
      · obtain ⟨q, hq, hqe⟩ : ∃ q ∈ l.take k, q.i = o.i := by
          apply Classical.byContradiction
          intro hh
          exact hs (fun q hq he => hh ⟨q, hq, he⟩)
        have hlk : ∀ u, (Instr.lookup 49 (.map (some mb)) (.string (bs o.i)) false).run Tryz.prog (g u) = .ok (.bool true) (g u) := fun u => run_lookup_has (HMg u) lawStr Tryz.underlying49 (z := .bool false) (by kernel_rfl) hS (idsM_has hq hqe)
        have HNO : Hid (properL l = false) := HTW.out q hq hqe
        clear hs HMg hq hqe
        go_wp2_with (first | ((with_reducible refine (CP _).mono ?_); rintro e w' ⟨rfl, uz, rfl⟩) | ((with_reducible refine (CN0 _).mono ?_); rintro e w' ⟨rfl, rfl⟩) | ((with_reducible refine (CN1 _).mono ?_); rintro e w' ⟨rfl, rfl⟩) | ((with_reducible refine (CN2 _).mono ?_); rintro e w' ⟨rfl, rfl⟩) | ((with_reducible refine (CN3 _).mono ?_); rintro e w' ⟨rfl, rfl⟩))
        all_goals (go_ret; exact ⟨ret_bool (by rw [HNO.out]), hmb.out ▸ HBU.out _⟩)
    · obtain rfl : k = l.length := by omega
      have e1 : decide ((l.length : Int) < (l.length : Int)) = false := by simp
      have HV : Hid (properL l = decide ((l.length : Int) ≤ 1000)) := by
        show _ = _
        have h1 := HO.out
        have h2 := idsM_apart HM.out.apart
        rw [List.take_length] at h1 h2
        unfold properL
        rw [h1, decide_eq_true h2]; simp
      have HBE := hide (hmb.out ▸ HB.out : Below w.heap.size w wr)
      go_wp2_with fail
      all_goals go_ret
      all_goals exact ⟨ret_bool (by rw [HV.out]), HBE.out⟩
end Go.Proofs.YtgdgdhpmjkefjaaGreatDoor

/- Plain laws: where mail goes. -/
set_option linter.unusedVariables false
set_option linter.unusedSimpArgs false
namespace Go.Proofs.YtgdgdhpmjkefjaaGreatDoor
open Go.RowKit

/-- an order takes the place of the one that counted till now -/
def beats (cur : Option Od) (o : Od) : Bool := match cur with | none => true | some old => newerB o old
def candStep (p : List UInt8) (day : Int) (x : List UInt8) (cur : Option Od) (o : Od) : Option Od :=
  if o.f = x ∧ o.p = p ∧ coversB o.a o.b day = true ∧ beats cur o = true then some o else cur
/-- the order that counts for an entrance -/
def cand (p : List UInt8) (day : Int) (x : List UInt8) (l : List Od) : Option Od := l.foldl (candStep p day x) none
theorem cand_snoc (p : List UInt8) (day : Int) (x : List UInt8) {l : List Od} {k : Nat} {o : Od} (h : l[k]? = some o) : cand p day x (l.take (k + 1)) = candStep p day x (cand p day x (l.take k)) o := by
  unfold cand
  rw [List.take_add_one, h, List.foldl_append]; rfl
theorem cand_no {p : List UInt8} {day : Int} {l : List Od} {k : Nat} {o : Od} (h : l[k]? = some o) (hc : ¬ (o.p = p ∧ coversB o.a o.b day = true ∧ beats (cand p day o.f (l.take k)) o = true)) : ∀ x, cand p day x (l.take (k + 1)) = cand p day x (l.take k) := fun x => by
  rw [cand_snoc p day x h]
  unfold candStep
  rw [if_neg]
  rintro ⟨rfl, h1, h2, h3⟩
  exact hc ⟨h1, h2, h3⟩
theorem cand_yes {p : List UInt8} {day : Int} {l : List Od} {k : Nat} {o : Od} (h : l[k]? = some o) (h1 : o.p = p) (h2 : coversB o.a o.b day = true) (h3 : beats (cand p day o.f (l.take k)) o = true) : ∀ x, cand p day x (l.take (k + 1)) = if o.f = x then some o else cand p day x (l.take k) := fun x => by
  rw [cand_snoc p day x h]
  unfold candStep
  by_cases hx : o.f = x
  · subst hx
    rw [if_pos ⟨rfl, h1, h2, h3⟩, if_pos rfl]
  · rw [if_neg (fun hh => hx hh.1), if_neg hx]
theorem fold_mem (p : List UInt8) (day : Int) (x : List UInt8) : ∀ (l : List Od) (cur : Option Od) (o : Od), l.foldl (candStep p day x) cur = some o → (o ∈ l ∧ o.f = x ∧ o.p = p) ∨ cur = some o
  | [], cur, o, h => .inr h
  | q :: r, cur, o, h => by
    rcases fold_mem p day x r _ o h with ⟨h1, h2⟩ | h1
    · exact .inl ⟨List.mem_cons_of_mem _ h1, h2⟩
    · unfold candStep at h1
      split at h1
      · rename_i hc
        cases h1
        exact .inl ⟨List.mem_cons_self .., hc.1, hc.2.1⟩
      · exact .inr h1
theorem cand_mem {p : List UInt8} {day : Int} {x : List UInt8} {l : List Od} {o : Od} (h : cand p day x l = some o) : o ∈ l ∧ o.f = x ∧ o.p = p := by
  rcases fold_mem p day x l none o h with h | h
  · exact h
  · cases h
theorem cand_none {p : List UInt8} {day : Int} {x : List UInt8} {l : List Od} (h : ∀ o ∈ l, o.p ≠ p) : cand p day x l = none := by
  cases hc : cand p day x l with
  | none => rfl
  | some o => obtain ⟨h1, _, h3⟩ := cand_mem hc; exact absurd h3 (h o h1)
theorem fold_filter {p q : List UInt8} (hpq : p ≠ q) (day : Int) (x : List UInt8) : ∀ (l : List Od) (cur : Option Od), (l.filter fun o => !decide (o.p = q)).foldl (candStep p day x) cur = l.foldl (candStep p day x) cur
  | [], cur => rfl
  | o :: r, cur => by
    by_cases h : o.p = q
    · rw [List.filter_cons_of_neg (by simp [h]), List.foldl_cons, fold_filter hpq day x r]
      congr 1
      unfold candStep
      rw [if_neg (fun hh => hpq (hh.2.1.symm.trans h))]
    · rw [List.filter_cons_of_pos (by simp [h]), List.foldl_cons, List.foldl_cons, fold_filter hpq day x r]
theorem cand_other {p q : List UInt8} (hpq : p ≠ q) (day : Int) (x : List UInt8) (l : List Od) : cand p day x (ordersP l q) = cand p day x l := fold_filter hpq day x l none
/-! the way -/
def bestB (b : Od) (l : List Od) : Od := l.foldl (fun b x => if newerB x b then x else b) b
def noO : Od := ⟨[], [], [], [], 0, 0⟩
def greatestB : List Od → Od
  | [] => noO
  | o :: r => bestB o r
def idxF (way : List Od) (x : List UInt8) : Option Nat := way.findIdx? fun o => decide (o.f = x)
def settleF (F : List UInt8 → Option Od) : Nat → List Od → List UInt8 → List UInt8 × List Od
  | 0, way, x => (x, way)
  | n + 1, way, x => match idxF way x with
    | some i => ((greatestB (way.drop i)).t, way)
    | none => match F x with
      | none => (x, way)
      | some o => settleF F n (way ++ [o]) o.t
theorem settle_found {F : List UInt8 → Option Od} {n : Nat} {way : List Od} {x : List UInt8} {i : Nat} (h : idxF way x = some i) : settleF F (n + 1) way x = ((greatestB (way.drop i)).t, way) := by
  unfold settleF; rw [h]
theorem settle_stop {F : List UInt8 → Option Od} {n : Nat} {way : List Od} {x : List UInt8} (h : idxF way x = none) (hF : F x = none) : settleF F (n + 1) way x = (x, way) := by
  rw [settleF, h]; simp only [hF]
theorem settle_on {F : List UInt8 → Option Od} {n : Nat} {way : List Od} {x : List UInt8} {o : Od} (h : idxF way x = none) (hF : F x = some o) : settleF F (n + 1) way x = settleF F n (way ++ [o]) o.t := by
  rw [settleF, h]; simp only [hF]
theorem settle_same {F G : List UInt8 → Option Od} (h : ∀ x, F x = G x) : settleF F = settleF G := by rw [funext h]
theorem idxF_none {way : List Od} {x : List UInt8} (h : idxF way x = none) : ∀ o ∈ way, o.f ≠ x := by
  unfold idxF at h
  rw [List.findIdx?_eq_none_iff] at h
  intro o ho
  simpa using h o ho
theorem idxF_some {way : List Od} {x : List UInt8} {i : Nat} (h : idxF way x = some i) : ∃ o, way[i]? = some o ∧ o.f = x := by
  unfold idxF at h
  rw [List.findIdx?_eq_some_iff_getElem] at h
  obtain ⟨h1, h2, _⟩ := h
  exact ⟨way[i], List.getElem?_eq_getElem h1, by simpa using h2⟩
def passB (way : List Od) (b : Od) : Bool := way.any fun q => decide (q.f = b.f)
theorem passB_snoc (way : List Od) (o b : Od) : passB (way ++ [o]) b = (passB way b || decide (o.f = b.f)) := by unfold passB; rw [List.any_append]; simp
/-- orders whose entrance was not passed -/
def left_ (l way : List Od) : Nat := (l.filter fun o => !passB way o).length
theorem left_le (l way : List Od) (o : Od) : left_ l (way ++ [o]) ≤ left_ l way := by
  unfold left_
  induction l with
  | nil => simp
  | cons b r ih =>
    rw [List.filter_cons, List.filter_cons, passB_snoc]
    cases passB way b <;> cases decide (o.f = b.f) <;> simp <;> omega
theorem left_less {way : List Od} {o : Od} (hn : passB way o = false) : ∀ {l : List Od}, o ∈ l → left_ l (way ++ [o]) < left_ l way
  | [], ho => by cases ho
  | b :: r, ho => by
    have hle := left_le r way o
    unfold left_ at hle ⊢
    rw [List.filter_cons, List.filter_cons]
    rcases List.mem_cons.1 ho with rfl | ho
    · rw [hn, passB_snoc, hn]
      simp
      omega
    · have ih := left_less hn ho
      unfold left_ at ih
      rw [passB_snoc]
      cases passB way b <;> cases decide (o.f = b.f) <;> simp <;> omega
theorem pass_none {way : List Od} {o : Od} (h : ∀ q ∈ way, q.f ≠ o.f) : passB way o = false := by
  rw [← Bool.not_eq_true]
  intro hh
  obtain ⟨q, hq, e⟩ := List.any_eq_true.1 hh
  exact h q hq (of_decide_eq_true e)
theorem left_start (l : List Od) : left_ l [] ≤ l.length := List.length_filter_le _ _
/-! what Settle answers -/
def okS (l : List Od) (p door : List UInt8) (day : Int) : Bool := isDayB day && (properL l && (isNm p && isNm door))
def settleR (l : List Od) (p door : List UInt8) (day : Int) : List UInt8 × List Od := settleF (fun x => cand p day x l) 2000 [] door
def setT (l : List Od) (p door : List UInt8) (day : Int) : List UInt8 := if okS l p door day then (settleR l p door day).1 else []
def setI (l : List Od) (p door : List UInt8) (day : Int) : List (List UInt8) := if okS l p door day then (settleR l p door day).2.map (·.i) else []
def setE (l : List Od) (p door : List UInt8) (day : Int) : Int := if okS l p door day then 0 else 1
theorem proper_filter {l : List Od} (q : List UInt8) (h : properL l = true) : properL (ordersP l q) = true := by
  unfold properL at h ⊢
  simp only [Bool.and_eq_true, decide_eq_true_eq] at h ⊢
  obtain ⟨h1, h2, h3⟩ := h
  have hle : (ordersP l q).length ≤ l.length := List.length_filter_le _ _
  refine ⟨?_, ?_, by omega⟩
  · rw [List.all_eq_true] at h1 ⊢
    exact fun o ho => h1 o (List.mem_filter.1 ho).1
  · exact h2.sublist (List.filter_sublist.map _)
theorem orders_not (l : List Od) (q : List UInt8) : ∀ o ∈ ordersP l q, o.p ≠ q := fun o ho => by
  have := (List.mem_filter.1 ho).2
  simpa using this
theorem settle_own {l : List Od} {q door : List UInt8} {day : Int} (h : setE (ordersP l q) q door day = 0) : setT (ordersP l q) q door day = door ∧ setI (ordersP l q) q door day = [] := by
  unfold setE at h
  unfold setT setI
  split at h
  · rename_i hok
    rw [if_pos hok, if_pos hok]
    have hs : settleR (ordersP l q) q door day = (door, []) := settle_stop rfl (cand_none (orders_not l q))
    rw [hs]; exact ⟨rfl, rfl⟩
  · cases h
theorem settle_other {l : List Od} {p q : List UInt8} (hpq : p ≠ q) (hp : properL l = true) (door : List UInt8) (day : Int) : setT (ordersP l q) p door day = setT l p door day ∧ setI (ordersP l q) p door day = setI l p door day ∧ setE (ordersP l q) p door day = setE l p door day := by
  have h1 : okS (ordersP l q) p door day = okS l p door day := by unfold okS; rw [hp, proper_filter q hp]
  have h2 : settleR (ordersP l q) p door day = settleR l p door day := by unfold settleR; rw [settle_same (fun x => cand_other hpq day x l)]
  unfold setT setI setE
  rw [h1, h2]
  exact ⟨rfl, rfl, rfl⟩
end Go.Proofs.YtgdgdhpmjkefjaaGreatDoor

/- Walks of package forward: Text at a proper order. -/
set_option linter.unusedVariables false
set_option linter.unusedSimpArgs false
namespace Go.Proofs.YtgdgdhpmjkefjaaGreatDoor
open Go.RowKit Go.Shelf

theorem rows_new (w : World) (size : Nat) (t : TypeId) (ls : List (List Value)) (hs : ∀ x ∈ ls, x.length = size) (cs : Array Value) (hcs : cs.toList = ls.flatten) (n : Nat) (hn : n = ls.length) : RowsAt (w.alloc (.cells cs t)) size (.slice (some ⟨w.heap.size, 0, none⟩) n n) ls := by
  refine RowsAt.of_blk (Blk.new w t cs) hn (Nat.le_refl _) hs fun k x hx j u hu => ?_
  have := flat_at ls hs k x j u hx hu
  rw [← hcs] at this
  simpa using this
theorem fit_of {o : Od} (h : OkO o) : o.fit := ⟨by have := nm_len h.i; omega, by have := nm_len h.p; omega, by have := nm_len h.f; omega, by have := nm_len h.t; omega⟩
theorem proper_one {o : Od} (h : OkO o) : properL [o] = true := by
  have := (okO_iff o).2 h
  unfold properL
  simp [this]
set_option maxRecDepth 100000 in
set_option maxHeartbeats 2000000 in
theorem oText_any (o : Od) (ho : OkO o) (w : World) (hg : Glob w) : Calls Tryz.prog 16 #[.agg #[.string (bs o.i), .string (bs o.p), .string (bs o.f), .string (bs o.t), .int .i64 o.a, .int .i64 o.b]] w fun e w' => e = .returned (.tuple #[.string (bs (orderT o)), .int .i64 0]) ∧ Below w.heap.size w w' := by
  obtain ⟨p1, p2, p3⟩ := per_facts ho.per
  have HB := hide (below_one w (.cells #[.string (bs o.i), .string (bs o.p), .string (bs o.f), .string (bs o.t), .int .i64 o.a, .int .i64 o.b] 39))
  have HG := hide (hg.alloc (.cells #[.string (bs o.i), .string (bs o.p), .string (bs o.f), .string (bs o.t), .int .i64 o.a, .int .i64 o.b] 39))
  have HK := hide (Blk.new w 39 #[.string (bs o.i), .string (bs o.p), .string (bs o.f), .string (bs o.t), .int .i64 o.a, .int .i64 o.b])
  have HT : Hid (orderT o = Lib.join [ordW, o.i, o.p, o.f, o.t, dateT o.a.toNat, untilT o.b] [32]) := rfl
  have hlen := order_len ho
  have hda : isDayB o.a = true := by unfold isDayB; simp; omega
  have eda : dayV o.a = dateT o.a.toNat := by unfold dayV; rw [hda]; rfl
  have eea : dayE o.a = 0 := by unfold dayE; rw [hda]; rfl
  have hfit := fit_of ho
  have hpro := proper_one ho
  clear hg
  go_enter Tryz.func16, Tryz.ntmps16
  go_upto_region 1 with fail
  generalize w.alloc (.cells #[.string (bs o.i), .string (bs o.p), .string (bs o.f), .string (bs o.t), .int .i64 o.a, .int .i64 o.b] 39) = w1 at *
  obtain ⟨b1, hb1⟩ : ∃ b, Hid (w.heap.size = b) := ⟨_, rfl⟩
  rw [hb1.out] at HK ⊢
  obtain ⟨U, hU, g, u0, rfl, hgu, hi⟩ := cls w1
  have r0 := blk_all hgu HK.out 0 rfl
  have r1 := blk_all hgu HK.out 1 rfl
  have r2 := blk_all hgu HK.out 2 rfl
  have r3 := blk_all hgu HK.out 3 rfl
  have r4 := blk_all hgu HK.out 4 rfl
  have r5 := blk_all hgu HK.out 5 rfl
  have CA := cls_call hgu hi (fun w' hb => dText_any o.a w' (HG.out.to hb))
  rw [eda, eea] at CA
  have CP : ∀ u, Calls Tryz.prog 5 #[.slice (some ⟨(g u).heap.size, 0, none⟩) 1 1] ((g u).alloc (.cells #[.string (bs o.i), .string (bs o.p), .string (bs o.f), .string (bs o.t), .int .i64 o.a, .int .i64 o.b] 39)) fun e w' => e = .returned (.bool true) ∧ ∃ u', w' = g u' := fun u => by
    refine (Proper_any [o] (by intro q hq; rw [List.mem_singleton.1 hq]; exact hfit) (by simp) _ _ (rows_new (g u) 6 39 [odV o] (by simp [odV]) _ (by simp [odV]) 1 rfl)).mono ?_
    rintro e w' ⟨rfl, hb⟩
    exact ⟨by rw [hpro], hi _ ((hgu u).trans ((below_to (below_one (g u) _) (Nat.le_refl _) hb).mono (hgu u).size))⟩
  have CJ : ∀ T, untilT o.b = T → ∀ u, Calls Tryz.prog 39 #[.slice (some ⟨(g u).heap.size, 0, none⟩) 7 7, .string ⟨#[32]⟩] ((g u).alloc (.cells #[.string (bs ordW), .string (bs o.i), .string (bs o.p), .string (bs o.f), .string (bs o.t), .string (bs (dateT o.a.toNat)), .string (bs T)] 9)) fun e w' => e = .returned (.string (bs (orderT o))) ∧ ∃ u', w' = g u' := by
    rintro T rfl u
    refine (Join_any 32 (g u).heap.size 0 7 [ordW, o.i, o.p, o.f, o.t, dateT o.a.toNat, untilT o.b] _ (by simp) (Nat.le_refl _) (by simp) (fun j x hx => by rw [Nat.zero_add]; exact ((Blk.new (g u) 9 (strC [ordW, o.i, o.p, o.f, o.t, dateT o.a.toNat, untilT o.b])).cell j).trans (strC_at hx)) (by rw [← HT.out]; omega)).mono ?_
    rintro e w' ⟨rfl, hb⟩
    exact ⟨by rw [HT.out], hi _ ((hgu u).trans ((below_to (below_one (g u) _) (Nat.le_refl _) hb).mono (hgu u).size))⟩
  have HGU := hide hgu
  have HEND : Hid (∀ u, Below w.heap.size w (g u)) := fun u => below_to HB.out (Nat.le_refl _) (hgu u)
  rcases p3 with hbm | ⟨q1, q2⟩
  · have CJm := CJ [45] (by unfold untilT; rw [if_pos (by omega)])
    rw [show bs ordW = ⟨#[111, 114, 100, 101, 114]⟩ from rfl, show bs [45] = ⟨#[45]⟩ from rfl] at CJm
    have e1 : decide ((0 : Int) ≤ o.b) = false := decide_eq_false (by omega)
    clear CJ hgu hi p1 p2 hda eda eea hfit hpro hlen hbm
    generalize dateT o.a.toNat = DA at *
    go_wp2_with (first | ((with_reducible refine (CP _).mono ?_); rintro e w' ⟨rfl, up, rfl⟩) | ((with_reducible refine (CA _).mono ?_); rintro e w' ⟨rfl, ua, rfl⟩) | ((with_reducible refine (CJm _).mono ?_); rintro e w' ⟨rfl, uj, rfl⟩))
    go_ret2
    exact ⟨rfl, HEND.out _⟩
  · have hdb : isDayB o.b = true := by unfold isDayB; simp; omega
    have edb : dayV o.b = dateT o.b.toNat := by unfold dayV; rw [hdb]; rfl
    have eeb : dayE o.b = 0 := by unfold dayE; rw [hdb]; rfl
    have CB := cls_call hgu hi (fun w' hb => dText_any o.b w' (HG.out.to hb))
    rw [edb, eeb] at CB
    have CJm := CJ (dateT o.b.toNat) (by unfold untilT; rw [if_neg (by omega)])
    rw [show bs ordW = ⟨#[111, 114, 100, 101, 114]⟩ from rfl] at CJm
    have e1 : decide ((0 : Int) ≤ o.b) = true := decide_eq_true (by omega)
    clear CJ hgu hi p1 p2 hda eda eea hfit hpro hlen q1 q2 hdb edb eeb
    generalize dateT o.a.toNat = DA at *
    generalize dateT o.b.toNat = DB at *
    go_wp2_with (first | ((with_reducible refine (CP _).mono ?_); rintro e w' ⟨rfl, up, rfl⟩) | ((with_reducible refine (CA _).mono ?_); rintro e w' ⟨rfl, ua, rfl⟩) | ((with_reducible refine (CB _).mono ?_); rintro e w' ⟨rfl, ub, rfl⟩) | ((with_reducible refine (CJm _).mono ?_); rintro e w' ⟨rfl, uj, rfl⟩))
    go_ret2
    exact ⟨rfl, HEND.out _⟩
end Go.Proofs.YtgdgdhpmjkefjaaGreatDoor
