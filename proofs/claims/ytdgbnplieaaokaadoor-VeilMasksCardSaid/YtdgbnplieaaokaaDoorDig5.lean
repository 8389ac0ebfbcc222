/- Walks of package digest: List. -/
import Derived.Test.YtdgbnplieaaokaaDoorDig4
import Derived.Lib.Builder
set_option linter.unusedVariables false
set_option linter.unusedSimpArgs false
namespace Go.Proofs.YtdgbnplieaaokaaDoor
open Go.RowKit

theorem grown_of_below {w w' : World} (hb : Below w.heap.size w w') : w.grownBy w' none := ⟨hb.os, hb.tape, hb.output, hb.size, fun i hi _ => hb.block i hi⟩
theorem below_grow {B : Nat} {a w : World} (h : Below B a w) (hB : B ≤ w.heap.size) (os : Array Obj) : Below B a (Sort.grow w os) :=
  ⟨h.os, h.tape, h.output, by simp; have := h.size; omega, fun k hk => by
    rw [← h.block k hk]
    show (w.heap ++ os)[k]? = w.heap[k]?
    rw [Array.getElem?_append_left (by omega)]⟩
theorem BuilderAt_to {T e : TypeId} {B b : Nat} {p : Value} {xs : List Value} {w w' : World} (h : Lib.BuilderAt T e B b p xs w) (hb : Below w.heap.size w w') : Lib.BuilderAt T e B b p xs w' := by
  have hlt := h.lt
  obtain ⟨h1, v, h2, h3, h4⟩ := h
  refine ⟨h1, v, (hb.block b hlt).trans h2, h3.kept (grown_of_below hb) ?_, h4⟩
  cases v.ownBlock <;> simp
theorem IsBuilder_to {T e : TypeId} {B b : Nat} {xs : List Value} {w w' : World} (h : Lib.IsBuilder T e B b xs w) (hb : Below w.heap.size w w') : Lib.IsBuilder T e B b xs w' :=
  h.elim (fun x => .inl (BuilderAt_to x hb)) (fun x => .inr (BuilderAt_to x hb))
theorem Itoa_any (n : Int) (h0 : -9223372036854775808 ≤ n) (h1 : n ≤ 9223372036854775807) (w : World) (hg : Glob w) : Calls Tryd.prog 27 #[.int .i64 n] w fun e w' => e = .returned (.string (bs (Lib.itoa n))) ∧ Below w.heap.size w w' :=
  (Tryd.strconv_Itoa n h0 h1 w hg.tab).mono fun e w' ⟨h, k, os, h'⟩ => ⟨h, h' ▸ below_grow (below_drewN (Below.refl _ w) k) (Nat.le_refl _) os⟩
theorem strCells_bs (l : List UInt8) : Lib.strCells (bs l) = Lib.byteCells l := by unfold Lib.strCells; rw [bs_list]; rfl
theorem byteCells_app (l m : List UInt8) : Lib.byteCells (l ++ m) = Lib.byteCells l ++ Lib.byteCells m := by simp [Lib.byteCells]
/-- a list of texts as the cells of a slice -/
def strC (ls : List (List UInt8)) : Array Value := (ls.map fun l => Value.string (bs l)).toArray
theorem strC_at {ls : List (List UInt8)} {k : Nat} {l : List UInt8} (h : ls[k]? = some l) : (strC ls)[k]? = some (.string (bs l)) := by simp [strC, h]
def ListI (ls : List (List UInt8)) (w wr : World) (i : Value) : Prop := ∃ k : Nat, k ≤ ls.length ∧ i = .int .i64 (k : Int) ∧ Lib.IsBuilder 58 5 w.heap.size w.heap.size (Lib.byteCells (joinD (ls.take k))) wr ∧ Below w.heap.size w wr
set_option maxHeartbeats 4000000 in
theorem List_any (ls : List (List UInt8)) (b t : Nat) (w : World) (hS : Blk w b t (strC ls)) (hn : ls.length ≤ 1000) (hl : (joinD ls).length ≤ 140737488355328) (hg : Glob w) :
    Calls Tryd.prog 15 #[.slice (some ⟨b, 0, none⟩) ls.length ls.length] w fun e w' => e = .returned (.string (bs (listD ls))) ∧ Below w.heap.size w w' := by
  have HS := hide hS
  have HG := hide hg
  have HI0 := hide (Lib.fresh_isBuilder 58 5 w)
  have HB0 := hide (below_one w (.cells #[.pointer none, .slice none 0 0] 58))
  have HT := hide hl
  clear hS hg hl
  go_enter Tryd.func15, Tryd.ntmps15
  go_wp2_with fail
  generalize w.alloc (.cells #[.pointer none, .slice none 0 0] 58) = w1 at *
  go_loopw [5, 8] (fun _ i wr => ListI ls w wr i) (fun _ i _ => ls.length - (intOf i).toNat)
  case atStart => exact ⟨0, by omega, rfl, HI0.out, HB0.out⟩
  case round =>
    obtain ⟨k, hk, rfl, hI, hB⟩ := hrel
    have HI := hide hI
    have HB := hide hB
    clear hI hB
    by_cases hlt : k < ls.length
    · obtain ⟨l, hl⟩ : ∃ l, ls[k]? = some l := ⟨_, List.getElem?_eq_getElem hlt⟩
      have ck : wr.cell? ⟨b, k, none⟩ = some (.string (bs l)) := ((HS.out.below HB.out HS.out.lt).cell k).trans (strC_at hl)
      have HJ : Hid (joinD (ls.take (k + 1)) = joinD (ls.take k) ++ (Lib.itoa l.length ++ [58] ++ l)) := by
        show _ = _
        rw [List.take_add_one, hl]
        exact joinD_snoc _ _
      have HLen : Hid ((joinD (ls.take (k + 1))).length ≤ 140737488355328) := by
        have h1 : joinD ls = joinD (ls.take (k + 1)) ++ joinD (ls.drop (k + 1)) := by
          unfold joinD; rw [← List.flatMap_append, List.take_append_drop]
        have := HT.out
        rw [h1, List.length_append] at this
        show _ ≤ _
        omega
      have hsz : (bs l).size = l.length := bs_size l
      have ls3 : Hid ((joinD (ls.take k)).length + ((Lib.itoa l.length).length + 1 + l.length) ≤ 140737488355328) := by
        have := HLen.out
        rw [HJ.out] at this
        simp only [List.length_append, List.length_cons, List.length_nil] at this
        show _ ≤ _
        omega
      clear hl
      generalize joinD (ls.take k) = J at *
      go_wp2_with fail
      refine (Itoa_any (l.length : Int) (by omega) (by have := ls3.out; omega) _ (HG.out.belowB HB.out HG.out.top)).mono ?_
      rintro e w2 ⟨rfl, hb⟩
      have HI1 := hide (IsBuilder_to HI.out hb)
      have HB1 := hide (below_to HB.out (Nat.le_refl _) hb)
      clear hb
      generalize Lib.itoa (l.length : Int) = A at *
      go_wp2_with fail
      refine (Tryd.Builder_WriteString _ _ _ (bs A) _ HI1.out (by rw [Lib.byteCells_length, bs_size]; have := ls3.out; omega) HB1.out.size).mono ?_
      rintro e w3 ⟨rfl, hat, hb⟩
      rw [strCells_bs, ← byteCells_app] at hat
      have HI2 : Hid (Lib.IsBuilder 58 5 w.heap.size w.heap.size (Lib.byteCells (J ++ A)) w3) := .inr hat
      have HB2 := hide (HB1.out.trans hb)
      clear hat hb
      go_wp2_with fail
      refine (Tryd.Builder_WriteByte _ _ _ 58 _ HI2.out (by rw [Lib.byteCells_length, List.length_append]; have := ls3.out; omega) HB2.out.size).mono ?_
      rintro e w4 ⟨rfl, hat, hb⟩
      rw [show [Value.int IntKind.u8 58] = Lib.byteCells [58] from rfl, ← byteCells_app] at hat
      have HI3 : Hid (Lib.IsBuilder 58 5 w.heap.size w.heap.size (Lib.byteCells (J ++ A ++ [58])) w4) := .inr hat
      have HB3 := hide (HB2.out.trans hb)
      clear hat hb
      go_wp2_with fail
      refine (Tryd.Builder_WriteString _ _ _ (bs l) _ HI3.out (by rw [Lib.byteCells_length, bs_size, List.length_append, List.length_append]; have := ls3.out; simp only [List.length_cons, List.length_nil]; omega) HB3.out.size).mono ?_
      rintro e w5 ⟨rfl, hat, hb⟩
      rw [strCells_bs, ← byteCells_app] at hat
      have HI4 : Hid (Lib.IsBuilder 58 5 w.heap.size w.heap.size (Lib.byteCells (joinD (ls.take (k + 1)))) w5) := by
        rw [HJ.out]
        simp only [List.append_assoc] at hat ⊢
        exact .inr hat
      have HB4 := hide (HB3.out.trans hb)
      clear hat hb
      go_wp2_with fail
      go_roundw
      case rel => exact ⟨k + 1, by omega, by go_num, HI4.out, HB4.out⟩
      case measure => simp [intOf]; omega
    · obtain rfl : k = ls.length := by omega
      have e : ls.take ls.length = ls := List.take_length
      rw [e] at HI
      clear e
      go_wp2_with fail
      refine (Tryd.Builder_String_any _ _ _ _ HI.out HB.out.size).mono ?_
      rintro e w2 ⟨rfl, hb⟩
      have HB1 := hide (HB.out.trans hb)
      clear hb
      rw [show ByteArray.mk (joinD ls).toArray = bs (joinD ls) from rfl]
      go_wp2_with fail
      refine (Sum_any (joinD ls) HT.out _ (HG.out.belowB HB1.out HG.out.top)).mono ?_
      rintro e w3 ⟨rfl, hb⟩
      have HB2 := hide (below_to HB1.out (Nat.le_refl _) hb)
      clear hb
      go_wp2_with fail
      go_ret
      exact ⟨rfl, HB2.out⟩
end Go.Proofs.YtdgbnplieaaokaaDoor
