/- The plain laws behind the examples of the chapter. No program in sight. -/
import Derived.Test.YtdiebacfbhjbdaaGreatDoorP2
set_option linter.unusedVariables false
set_option linter.unusedSimpArgs false
namespace Go.Proofs.YtdiebacfbhjbdaaGreatDoor
open Go

def annaT : List UInt8 := [97, 110, 110, 97]
def bobT : List UInt8 := [98, 111, 98]
def inT : List UInt8 := [109, 111, 118, 101, 100, 32, 105, 110]
def outT : List UInt8 := [109, 111, 118, 101, 100, 32, 111, 117, 116]
def parT : List UInt8 := [112, 97, 114, 99, 101, 108]
theorem can_in {S : List UInt8} (h : isD S = true) : canM annaT inT S = true := by unfold canM; rw [h]; decide +kernel
theorem can_out {S : List UInt8} (h : isD S = true) : canM annaT outT S = true := by unfold canM; rw [h]; decide +kernel
theorem can_par {S : List UInt8} (h : isD S = true) : canM bobT parT S = true := by unfold canM; rw [h]; decide +kernel
theorem can_1 (t S : List UInt8) : canM [49] t S = false := by
  have : isNm [49] = false := by decide +kernel
  unfold canM; rw [this]; rfl
theorem can_0 (p S : List UInt8) : canM p [] S = false := by unfold canM; simp
theorem can_x (p t : List UInt8) : canM p t [120] = false := by
  have : isD [120] = false := by decide +kernel
  unfold canM; rw [this]; simp
theorem head_valid {S : List UInt8} (h : isD S = true) : validG [mkL annaT inT S, mkL bobT parT S, mkL annaT outT S] = true := by
  unfold validG
  simp only [List.all_cons, List.all_nil, full_valid (can_in h), full_valid (can_par h), full_valid (can_out h)]
  rfl
theorem anna_nm : isNm annaT = true := by decide +kernel
theorem bob_nm : isNm bobT = true := by decide +kernel
theorem head_about (S : List UInt8) : aboutP [mkL annaT inT S, mkL bobT parT S, mkL annaT outT S] annaT = [inT, outT] := by
  have e : annaT ≠ bobT := by decide
  simp [aboutP, mkL, Ne.symm e]
theorem head_hits (S : List UInt8) : hitsP [mkL annaT inT S, mkL bobT parT S, mkL annaT outT S] annaT = 2 := by
  have e : annaT ≠ bobT := by decide
  simp [hitsP, mkL, Ne.symm e]
theorem head_bob (S : List UInt8) : aboutP [mkL annaT inT S, mkL bobT parT S, mkL annaT outT S] bobT = [parT] := by
  have e : annaT ≠ bobT := by decide
  simp [aboutP, mkL, e]
theorem total_ne {l : List (List UInt8)} (h : properT l = true) : totalT l ≠ [] := by
  intro e
  have := total_isD l h
  rw [e] at this
  exact absurd this (by decide)
end Go.Proofs.YtdiebacfbhjbdaaGreatDoor
