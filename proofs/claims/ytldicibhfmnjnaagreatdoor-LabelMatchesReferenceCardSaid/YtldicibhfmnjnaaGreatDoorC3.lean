/- Walks of package label: text, values. -/
import Derived.Test.YtldicibhfmnjnaaGreatDoorC2
set_option linter.unusedVariables false
set_option linter.unusedSimpArgs false
namespace Go.Proofs.YtldicibhfmnjnaaGreatDoor
open Go.RowKit

def TxI (l : List Int) (w wr : World) (i : Value) : Prop := ∃ k : Nat, k ≤ l.length ∧ i = .int .i64 (k : Int) ∧ Lib.IsBuilder 89 5 w.heap.size w.heap.size (Lib.byteCells ((l.take k).map symC)) wr ∧ Below w.heap.size w wr
theorem symT_at {v : Int} (h0 : 0 ≤ v) (h1 : v < 37) : symT[v.toNat]? = some (symC v) := by
  unfold symC
  have : v.toNat < symT.length := by show v.toNat < 37; omega
  rw [List.getElem?_eq_getElem this, List.getD_eq_getElem?_getD, List.getElem?_eq_getElem this]; rfl
set_option maxHeartbeats 4000000 in
theorem text_any (l : List Int) (v : Value) (w : World) (hv : IntsAt w v l) (hn : l.length ≤ 1000) (hr : ∀ x ∈ l, 0 ≤ x ∧ x < 37) :
    Calls Tryz.prog 35 #[v] w fun e w' => e = .returned (.string (bs (l.map symC))) ∧ Below w.heap.size w w' := by
  obtain ⟨b, c, rfl, hb, hc, hcell⟩ := hv
  have HC := hide hcell
  have HR := hide hr
  have HI0 := hide (Lib.fresh_isBuilder 89 5 w)
  have HB0 := hide (below_one w (.cells #[.pointer none, .slice none 0 0] 89))
  have Hb := hide hb
  clear hcell hr hb
  go_enter Tryz.func35, Tryz.ntmps35
  go_wp2_with fail
  generalize w.alloc (.cells #[.pointer none, .slice none 0 0] 89) = w1 at *
  go_loopw [5, 8] (fun _ i wr => TxI l w wr i) (fun _ i _ => l.length - (intOf i).toNat)
  case atStart => exact ⟨0, by omega, rfl, HI0.out, HB0.out⟩
  case round =>
    obtain ⟨k, hk, rfl, hI, hB⟩ := hrel
    have HI := hide hI
    have HB := hide hB
    clear hI hB
    by_cases hlt : k < l.length
    · obtain ⟨x, hx⟩ : ∃ x, l[k]? = some x := ⟨_, List.getElem?_eq_getElem hlt⟩
      have ck : wr.cell? ⟨b, k, none⟩ = some (.int .i64 x) := (HB.out.cell (p := ⟨b, k, none⟩) Hb.out).trans (HC.out k x hx)
      have hx2 := HR.out x (List.mem_of_getElem? hx)
      have ci := index_bs symT x.toNat (symC x) (symT_at hx2.1 hx2.2)
      rw [show ((x.toNat : Nat) : Int) = x by omega] at ci
      have HT : Hid ((l.take (k + 1)).map symC = (l.take k).map symC ++ [symC x]) := by show _ = _; rw [List.take_add_one, hx]; simp
      have HL : Hid (((l.take k).map symC).length = k) := by show _ = _; simp; omega
      clear hx
      generalize (l.take k).map symC = J at *
      have sz : (bs symT).size = 37 := rfl
      go_wp2_with ((with_reducible refine (symbols_any _).mono ?_); rintro e w' ⟨rfl, rfl⟩)
      refine (Tryz.Builder_WriteByte _ _ _ _ _ HI.out (by rw [Lib.byteCells_length, HL.out]; omega) HB.out.size).mono ?_
      rintro e w4 ⟨rfl, hat, hb⟩
      have HI3 : Hid (Lib.IsBuilder 89 5 w.heap.size w.heap.size (Lib.byteCells ((l.take (k + 1)).map symC)) w4) := by
        rw [HT.out, byteCells_app]
        exact .inr hat
      have HB3 := hide (HB.out.trans hb)
      clear hat hb
      go_wp2_with fail
      go_roundw
      case rel => exact ⟨k + 1, by omega, by go_num, HI3.out, HB3.out⟩
      case measure => simp [intOf]; omega
    · obtain rfl : k = l.length := by omega
      rw [List.take_length] at HI
      go_wp2_with fail
      refine (Tryz.Builder_String_any _ _ _ _ HI.out HB.out.size).mono ?_
      rintro e w2 ⟨rfl, hb⟩
      have HB1 := hide (HB.out.trans hb)
      clear hb
      go_wp2_with fail
      go_ret
      exact ⟨rfl, HB1.out⟩
end Go.Proofs.YtldicibhfmnjnaaGreatDoor
