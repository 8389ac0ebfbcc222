/- Walks of package digest: List. -/
import Derived.Test.YtfhanbiifjiklaaGreatDoorDig4
import Derived.Test.YtfhanbiifjiklaaGreatDoorBu
import Derived.Lib.Builder
set_option linter.unusedVariables false
set_option linter.unusedSimpArgs false
namespace Go.Proofs.YtfhanbiifjiklaaGreatDoor
open Go.RowKit

def ListI (ls : List (List UInt8)) (w wr : World) (i : Value) : Prop := ∃ k : Nat, k ≤ ls.length ∧ i = .int .i64 (k : Int) ∧ Lib.IsBuilder 69 5 w.heap.size w.heap.size (Lib.byteCells (joinD (ls.take k))) wr ∧ Below w.heap.size w wr
set_option maxHeartbeats 4000000 in
theorem List_any (ls : List (List UInt8)) (b t : Nat) (w : World) (hS : Blk w b t (strC ls)) (hn : ls.length ≤ 1000) (hl : (joinD ls).length ≤ 140737488355328) (hg : Glob w) :
    Calls Tryz.prog 88 #[.slice (some ⟨b, 0, none⟩) ls.length ls.length] w fun e w' => e = .returned (.string (bs (listD ls))) ∧ Below w.heap.size w w' := by
  have HS := hide hS
  have HG := hide hg
  have HI0 := hide (Lib.fresh_isBuilder 69 5 w)
  have HB0 := hide (below_one w (.cells #[.pointer none, .slice none 0 0] 69))
  have HT := hide hl
  clear hS hg hl
  go_enter Tryz.func88, Tryz.ntmps88
  go_wp2_with fail
  generalize w.alloc (.cells #[.pointer none, .slice none 0 0] 69) = w1 at *
  go_loopw [5, 8] (fun _ i wr => ListI ls w wr i) (fun _ i _ => ls.length - (intOf i).toNat)
  case atStart => exact ⟨0, by omega, rfl, HI0.out, HB0.out⟩
  case round =>
    obtain ⟨k, hk, rfl, hI, hB⟩ := hrel
    have HI := hide hI
    have HB := hide hB
    clear hI hB
    by_cases hlt : k < ls.length
    · obtain ⟨l, hl⟩ : ∃ l, ls[k]? = some l := ⟨_, List.getElem?_eq_getElem hlt⟩
      have ck : wr.cell? ⟨b, k, none⟩ = some (.string (bs l)) := ((HS.out.below HB.out HS.out.lt).cell k).trans (strC_at hl)
      have HJ : Hid (joinD (ls.take (k + 1)) = joinD (ls.take k) ++ (Lib.itoa l.length ++ [58] ++ l)) := by
        show _ = _
        rw [List.take_add_one, hl]
        exact joinD_snoc _ _
      have HLen : Hid ((joinD (ls.take (k + 1))).length ≤ 140737488355328) := by
        have h1 : joinD ls = joinD (ls.take (k + 1)) ++ joinD (ls.drop (k + 1)) := by
          unfold joinD; rw [← List.flatMap_append, List.take_append_drop]
        have := HT.out
        rw [h1, List.length_append] at this
        show _ ≤ _
        omega
      have hsz : (bs l).size = l.length := bs_size l
      have ls3 : Hid ((joinD (ls.take k)).length + ((Lib.itoa l.length).length + 1 + l.length) ≤ 140737488355328) := by
        have := HLen.out
        rw [HJ.out] at this
        simp only [List.length_append, List.length_cons, List.length_nil] at this
        show _ ≤ _
        omega
      clear hl
      generalize joinD (ls.take k) = J at *
      go_wp2_with fail
      refine (Itoa_any (l.length : Int) (by omega) (by have := ls3.out; omega) _ (HG.out.belowB HB.out HG.out.top)).mono ?_
      rintro e w2 ⟨rfl, hb⟩
      have HI1 := hide (IsBuilder_to HI.out hb)
      have HB1 := hide (below_to HB.out (Nat.le_refl _) hb)
      clear hb
      generalize Lib.itoa (l.length : Int) = A at *
      go_wp2_with fail
      refine (Tryz.Builder_WriteString _ _ _ (bs A) _ HI1.out (by rw [Lib.byteCells_length, bs_size]; have := ls3.out; omega) HB1.out.size).mono ?_
      rintro e w3 ⟨rfl, hat, hb⟩
      rw [strCells_bs, ← byteCells_app] at hat
      have HI2 : Hid (Lib.IsBuilder 69 5 w.heap.size w.heap.size (Lib.byteCells (J ++ A)) w3) := .inr hat
      have HB2 := hide (HB1.out.trans hb)
      clear hat hb
      go_wp2_with fail
      refine (Tryz.Builder_WriteByte _ _ _ 58 _ HI2.out (by rw [Lib.byteCells_length, List.length_append]; have := ls3.out; omega) HB2.out.size).mono ?_
      rintro e w4 ⟨rfl, hat, hb⟩
      rw [show [Value.int IntKind.u8 58] = Lib.byteCells [58] from rfl, ← byteCells_app] at hat
      have HI3 : Hid (Lib.IsBuilder 69 5 w.heap.size w.heap.size (Lib.byteCells (J ++ A ++ [58])) w4) := .inr hat
      have HB3 := hide (HB2.out.trans hb)
      clear hat hb
      go_wp2_with fail
      refine (Tryz.Builder_WriteString _ _ _ (bs l) _ HI3.out (by rw [Lib.byteCells_length, bs_size, List.length_append, List.length_append]; have := ls3.out; simp only [List.length_cons, List.length_nil]; omega) HB3.out.size).mono ?_
      rintro e w5 ⟨rfl, hat, hb⟩
      rw [strCells_bs, ← byteCells_app] at hat
      have HI4 : Hid (Lib.IsBuilder 69 5 w.heap.size w.heap.size (Lib.byteCells (joinD (ls.take (k + 1)))) w5) := by
        rw [HJ.out]
        simp only [List.append_assoc] at hat ⊢
        exact .inr hat
      have HB4 := hide (HB3.out.trans hb)
      clear hat hb
      go_wp2_with fail
      go_roundw
      case rel => exact ⟨k + 1, by omega, by go_num, HI4.out, HB4.out⟩
      case measure => simp [intOf]; omega
    · obtain rfl : k = ls.length := by omega
      have e : ls.take ls.length = ls := List.take_length
      rw [e] at HI
      clear e
      go_wp2_with fail
      refine (Tryz.Builder_String_any _ _ _ _ HI.out HB.out.size).mono ?_
      rintro e w2 ⟨rfl, hb⟩
      have HB1 := hide (HB.out.trans hb)
      clear hb
      rw [show ByteArray.mk (joinD ls).toArray = bs (joinD ls) from rfl]
      go_wp2_with fail
      refine (Sum_any (joinD ls) HT.out _ (HG.out.belowB HB1.out HG.out.top)).mono ?_
      rintro e w3 ⟨rfl, hb⟩
      have HB2 := hide (below_to HB1.out (Nat.le_refl _) hb)
      clear hb
      go_wp2_with fail
      go_ret
      exact ⟨rfl, HB2.out⟩
end Go.Proofs.YtfhanbiifjiklaaGreatDoor
