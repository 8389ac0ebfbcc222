/- Walks of the law's helpers: short, head. -/
import Derived.Test.YtdgbnplieaaokaaGreatDoorV6
set_option linter.unusedVariables false
set_option linter.unusedSimpArgs false
namespace Go.Proofs.YtdgbnplieaaokaaGreatDoor
open Go.RowKit

def shortP (ls : List (List UInt8)) : Bool := ls.all fun l => decide (l.length ≤ 300)
def ShI (ls : List (List UInt8)) (w wr : World) (i : Value) : Prop := ∃ k : Nat, k ≤ ls.length ∧ i = .int .i64 (k : Int) ∧ (∀ j l, j < k → ls[j]? = some l → l.length ≤ 300) ∧ w = wr
set_option maxHeartbeats 2000000 in
theorem short_any (ls : List (List UInt8)) (b t : Nat) (w : World) (hS : Blk w b t (strC ls)) (hn : ls.length ≤ 1000) (hl : ∀ l ∈ ls, l.length ≤ 140737488355328) :
    Calls Tryz.prog 5 #[.slice (some ⟨b, 0, none⟩) ls.length ls.length] w fun e w' => e = .returned (.bool (shortP ls)) ∧ w = w' := by
  have HS := hide hS
  have HL := hide hl
  clear hS hl
  go_enter Tryz.func5, Tryz.ntmps5
  go_wp2_with fail
  go_loopw [3] (fun i wr => ShI ls w wr i) (fun i _ => ls.length - (intOf i).toNat)
  case atStart => exact ⟨0, by omega, rfl, fun j l hj => by omega, rfl⟩
  case round =>
    obtain ⟨k, hk, rfl, hA, rfl⟩ := hrel
    have HA := hide hA
    clear hA
    by_cases hlt : k < ls.length
    · obtain ⟨l, hl⟩ : ∃ l, ls[k]? = some l := ⟨_, List.getElem?_eq_getElem hlt⟩
      have ck := (HS.out.cell k).trans (strC_at hl)
      have hsz : (bs l).size = l.length := bs_size l
      have hlm := HL.out l (List.mem_of_getElem? hl)
      have HC := hide hl
      clear hl
      by_cases h3 : 300 < l.length
      · have HV : Hid (shortP ls = false) := by
          show _ = _
          rw [← Bool.not_eq_true]
          intro h
          have := List.all_eq_true.1 h l (List.mem_of_getElem? HC.out)
          simp at this; omega
        have h3' : decide ((300 : Int) < ((l.length : Nat) : Int)) = true := by simp; omega
        clear h3
        go_wp2_with fail
        go_ret
        exact ⟨ret_bool HV.out.symm, rfl⟩
      · have h3' : decide ((300 : Int) < ((l.length : Nat) : Int)) = false := by simp; omega
        have H3 := hide h3
        clear h3
        go_wp2_with fail
        go_roundw
        case rel => exact ⟨k + 1, by omega, by go_num, fun j l' hj hl' => by
          rcases Nat.lt_or_ge j k with h | h
          · exact HA.out j l' h hl'
          · obtain rfl : j = k := by omega
            rw [HC.out] at hl'
            cases hl'
            have := H3.out
            omega, rfl⟩
        case measure => simp [intOf]; omega
    · obtain rfl : k = ls.length := by omega
      have HV : Hid (shortP ls = true) := by
        show _ = _
        refine List.all_eq_true.2 fun l hl => ?_
        obtain ⟨j, hj, e⟩ := List.getElem_of_mem hl
        have := HA.out j l hj (by rw [← e]; exact List.getElem?_eq_getElem hj)
        simpa using this
      go_wp2_with fail
      go_ret
      exact ⟨ret_bool HV.out.symm, rfl⟩
def keyT : List UInt8 := [107, 101, 121]
def otherT : List UInt8 := [111, 116, 104, 101, 114]
def saltT : List UInt8 := sumD [115, 97, 108, 116]
def headV : List UInt8 := lockP keyT saltT 7 12
theorem head_can : canL saltT 7 12 = true := by unfold canL; rw [show isD saltT = true from sumD_isD _]; rfl
theorem head_other : goodV otherT headV = false := by decide +kernel
theorem head_isV : isV headV = true := lock_isV head_can
end Go.Proofs.YtdgbnplieaaokaaGreatDoor
