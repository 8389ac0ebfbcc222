/- Walks of package digest: blocks. -/
import Derived.Test.YtfhanbiifjiklaaGreatDoorDig2
import Derived.Lib.BufferWrite
set_option linter.unusedVariables false
set_option linter.unusedSimpArgs false
namespace Go.Proofs.YtfhanbiifjiklaaGreatDoor
open Go.RowKit

theorem byteCells_take (l : List UInt8) (n : Nat) : Lib.byteCells (l.take n) = (Lib.byteCells l).take n := by simp [Lib.byteCells, List.map_take]
/-- copy of a text into a block known whole: as much as fits -/
theorem wpList_copy_head {P : Program} {w : World} {ops : Array Oper} {rest : List Oper} {o : Oper} {a : Act} {Q : Exit → Act → World → Prop} (hgd : o.guard = none) (d s : Operand) (dT sT elem : TypeId)
    (ho : o.op = .call { callee := .builtin .copy, args := #[d, s], argTypes := #[dT, sT] }) (hu : P.underlying dT = some (.slice elem)) (hsz : (P.info? elem).map (·.size) = some 1)
    (g n c : Nat) (l : List UInt8) (hd : a.eval d = .slice (some ⟨g, 0, none⟩) n c) (hs : a.eval s = .string (bs l)) (t : TypeId) (cur : Array Value) (hg : Blk w g t cur) (hn : cur.size = n)
    (h : ∀ w', Only w w' g → Blk w' g t (splice cur 0 (Lib.byteCells (l.take n)).toArray) → wpList P ops Q rest (a.put o.dst (goInt (min l.length n : Nat))) w') : wpList P ops Q (o :: rest) a w := by
  have hlen : (Lib.byteCells (l.take n)).length = min l.length n := by rw [Lib.byteCells_length, List.length_take, Nat.min_comm]
  have hst := run_storeCells_at P g 0 t (Lib.byteCells (l.take n)) 0 cur w hg (by rw [hlen, hn]; omega) (Lib.byteCells_one _)
  have hrun : (Builtin.copy_ #[dT, sT] o.type #[.slice (some ⟨g, 0, none⟩) n c, .string (bs l)]).run P w = .ok (goInt (min l.length n : Nat)) (w.setRow g (splice cur 0 (Lib.byteCells (l.take n)).toArray)) := by
    cases hq : P.info? elem with
    | none => simp [hq] at hsz
    | some i =>
      have hmin : Nat.min (bs l).size n = min l.length n := by rw [bs_size]
      have htk : List.take (min l.length n) (List.map (fun b : UInt8 => Value.int IntKind.u8 (b.toNat : Int)) (bs l).data.toList) = Lib.byteCells (l.take n) := by
        rw [bs_list]
        unfold Lib.byteCells
        rw [← List.map_take]
        congr 1
        by_cases hle : l.length ≤ n
        · rw [Nat.min_eq_left hle, List.take_length, List.take_of_length_le hle]
        · rw [Nat.min_eq_right (by omega)]
      simp only [Nat.add_zero] at hst
      simp [Builtin.copy_, run_underlying hu, Builtin.lenOf, Builtin.firstCells, sizeOf, typeInfo, hq, hmin]
      rw [htk, hst]
      simp [Result.andThen, splice]
  exact wpList_plain hgd fun K hK => by
    unfold Oper.wp
    simp [execOp, ho, resolve, invoke, builtin, hd, hs, hrun, Result.andThen]
    exact hK _ _ (h _ (setRow_grown w g _) (setRow_heap w g cur _ t (0, 0) hg))
def zero8 : Array Value := (List.replicate 8 (Value.int .u8 0)).toArray
theorem splice_pad (l : List UInt8) : splice zero8 0 (Lib.byteCells (l.take 8)).toArray = (Lib.byteCells (pad8 l)).toArray := by
  have h : (splice zero8 0 (Lib.byteCells (l.take 8)).toArray).toList = Lib.byteCells (pad8 l) := by
    unfold splice pad8 zero8
    have e : Lib.byteCells (List.replicate (8 - l.length) 0) = List.replicate (8 - l.length) (Value.int .u8 0) := by simp [Lib.byteCells]
    have e2 : Lib.byteCells (l.take 8 ++ List.replicate (8 - l.length) 0) = Lib.byteCells (l.take 8) ++ Lib.byteCells (List.replicate (8 - l.length) 0) := by simp [Lib.byteCells]
    rw [e2, e]
    have e3 : (Lib.byteCells (l.take 8)).length = min 8 l.length := by rw [Lib.byteCells_length, List.length_take]
    simp only [List.size_toArray, e3, List.take_zero, List.nil_append, List.drop_replicate]
    have e4 : 8 - (0 + min 8 l.length) = 8 - l.length := by omega
    rw [e4]
  rw [← h]
def BlkI (l : List UInt8) (sb : Nat) (w wr : World) (v : Value) : Prop := ∃ k : Nat, 8 * k ≤ l.length + 8 ∧ v = .int .i64 (8 * (k : Int)) ∧ Below sb w wr ∧ Blk wr sb 143 (stCells (stN l k))
set_option maxHeartbeats 2000000 in
theorem blocks_any (l : List UInt8) (sb : Nat) (w : World) (hl : l.length ≤ 140737488355328) (hS : Blk w sb 143 (stCells (stN l 0))) :
    Calls Tryz.prog 134 #[.string (bs l), .func (.func 135) #[.pointer (some ⟨sb, 0, none⟩)] #[]] w fun e w' => e = .returned (.tuple #[]) ∧ Below sb w w' ∧ Blk w' sb 143 (stCells (sumN l)) := by
  have HS := hide hS
  have hsz : (bs l).size = l.length := bs_size l
  clear hS
  go_enter Tryz.func134, Tryz.ntmps134
  go_wp2_with fail
  go_loopw [4, 5] (fun v _ wr => BlkI l sb w wr v) (fun v _ _ => l.length + 8 - (intOf v).toNat)
  case atStart => exact ⟨0, by omega, rfl, Below.refl _ _, HS.out⟩
  case round =>
    obtain ⟨k, hk, rfl, hB, hK⟩ := hrel
    have HB := hide hB
    have HK := hide hK
    clear hB hK
    by_cases hlt : 8 * k ≤ l.length
    · go_wp2_with fail
      have HZ : Hid (Blk (wr.alloc (.cells #[.int .u8 0, .int .u8 0, .int .u8 0, .int .u8 0, .int .u8 0, .int .u8 0, .int .u8 0, .int .u8 0] 165)) wr.heap.size 165 zero8) := Blk.new wr _ _
      have HK1 := hide (HK.out.alloc (.cells #[.int .u8 0, .int .u8 0, .int .u8 0, .int .u8 0, .int .u8 0, .int .u8 0, .int .u8 0, .int .u8 0] 165))
      have HB1 := hide (HB.out.alloc (Nat.le_of_lt HK.out.lt) (.cells #[.int .u8 0, .int .u8 0, .int .u8 0, .int .u8 0, .int .u8 0, .int .u8 0, .int .u8 0, .int .u8 0] 165))
      have HL := hide HK.out.lt
      have HS1 := hide HK1.out.lt
      clear HB HK
      generalize wr.alloc (.cells #[.int .u8 0, .int .u8 0, .int .u8 0, .int .u8 0, .int .u8 0, .int .u8 0, .int .u8 0, .int .u8 0] 165) = w1 at *
      generalize wr.heap.size = B at *
      obtain ⟨U, hU, g, u0, rfl, hgu, hi⟩ := cls w1
      refine wp_region_class_tail g 4 (by kernel_rfl) (by kernel_rfl) (hi _ (hgu _).drew) ?_
      simp only [List.take_succ_cons, List.take_zero, List.drop_succ_cons, List.drop_zero]
      repeat (go_big_quiet_step (fail))
      refine wpQuiet_nil ?_
      intro w4 hw4
      obtain ⟨u, rfl⟩ := hw4
      rw [bs_drop]
      refine wpList_copy_head rfl (.tmp 12) (.tmp 15) 37 9 5 rfl Tryz.underlying37 (by kernel_rfl) B 8 8 (l.drop (8 * k)) rfl rfl 165 zero8 (HZ.out.to (hgu u)) rfl ?_
      intro w5 ho hb
      rw [splice_pad] at hb
      have HZ2 := hide hb
      have HK2 := hide (ho.blk (HK1.out.to (hgu u)) (Nat.ne_of_lt HL.out))
      have HB2 := hide (Only.below (HB1.out.trans ((hgu u).mono (Nat.le_of_lt HS1.out))) ho (Nat.le_trans (Nat.le_of_lt HS1.out) (hgu u).size) (Nat.le_of_lt HL.out))
      clear ho hb
      have hi8 : (Tryz.prog.info? 165).map (·.size) = some (Lib.byteCells (pad8 (l.drop (8 * k)))).toArray.size := by rw [List.size_toArray, Lib.byteCells_length, pad8_len]; kernel_rfl
      go_wp2_with ((with_reducible show wpList _ _ _ (Oper.mk _ (Op.load 165 (.tmp 5)) _ _ _ _ :: _) _ _); refine wpList_load_all rfl 165 (.tmp 5) rfl B rfl 165 (Lib.byteCells (pad8 (l.drop (8 * k)))).toArray _ HZ2.out Tryz.underlying165 rfl hi8 ?_)
      refine (take_any sb (stN l k) (pad8 (l.drop (8 * k))) (pad8_len _) (stN_lt (by omega) k) _ HK2.out).mono ?_
      rintro e w6 ⟨rfl, hb, hk6⟩
      have HB3 := hide (HB2.out.trans hb)
      have HK3 : Hid (Blk w6 sb 143 (stCells (stN l (k + 1)))) := hk6
      clear hb hk6 hi8 HZ2 HK2 HB2
      go_wp2_with fail
      go_roundw
      case rel => exact ⟨k + 1, by omega, by go_num, HB3.out, HK3.out⟩
      case measure => simp [intOf]; omega
    · have hkk : k = l.length / 8 + 1 := by omega
      have HE : Hid (stN l k = sumN l) := by rw [hkk]; exact (sumN_st l).symm
      clear hkk
      go_wp2_with fail
      go_end0
      exact ⟨rfl, HB.out, HE.out ▸ HK.out⟩
end Go.Proofs.YtfhanbiifjiklaaGreatDoor
