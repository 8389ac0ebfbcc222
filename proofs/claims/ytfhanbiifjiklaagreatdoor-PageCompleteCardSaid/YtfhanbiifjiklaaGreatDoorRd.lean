/- Walks of the reference of layer 1: decimal digits. -/
import Derived.Test.YtfhanbiifjiklaaGreatDoorSl
import Derived.Test.YtfhanbiifjiklaaGreatDoorDig5
import Derived.Test.YtfhanbiifjiklaaGreatDoorGl
import Derived.Lib.ItoaNum
set_option linter.unusedVariables false
set_option linter.unusedSimpArgs false
namespace Go.Proofs.YtfhanbiifjiklaaGreatDoor
open Go.RowKit

def dgc (m : Nat) : UInt8 := UInt8.ofNat (48 + m)
def decS : List UInt8 := [48, 49, 50, 51, 52, 53, 54, 55, 56, 57]
theorem decS_cut : ∀ m, m < 10 → (decS.drop m).take (m + 1 - m) = [dgc m] := by decide
theorem decS_ext (m : Nat) (h : m < 10) : (⟨#[48, 49, 50, 51, 52, 53, 54, 55, 56, 57]⟩ : ByteArray).extract m (m + 1) = bs [dgc m] := by
  have := bs_cut decS m (m + 1)
  rw [decS_cut m h] at this
  exact this
def restD (u : Nat) : List UInt8 := if u = 0 then [] else Lib.decDigits u
theorem restD_step {u : Nat} (h : 0 < u) : restD u = restD (u / 10) ++ [dgc (u % 10)] := by
  unfold restD
  rw [if_neg (by omega), Lib.decDigits]
  split
  · rename_i h10
    rw [if_pos (by omega), show u % 10 = u by omega]; rfl
  · rw [if_neg (by omega)]; rfl
theorem dec_step (u : Nat) : Lib.decDigits u = restD (u / 10) ++ [dgc (u % 10)] := by
  unfold restD
  conv => lhs; rw [Lib.decDigits]
  split
  · rename_i h10
    rw [if_pos (by omega), show u % 10 = u by omega]; rfl
  · rw [if_neg (by omega)]; rfl
theorem dec_len : ∀ (n u : Nat), u < 10 ^ (n + 1) → (Lib.decDigits u).length ≤ n + 1 := by
  intro n
  induction n with
  | zero => intro u hu; rw [Lib.decDigits, dif_pos (show u < 10 by omega)]; simp
  | succ n ih =>
    intro u hu
    rw [Lib.decDigits]
    split
    · simp
    · rw [List.length_append]
      have := ih (u / 10) (by rw [Nat.pow_succ] at hu; omega)
      simp; omega
def DgI (u : Nat) (w wr : World) (a s : Value) : Prop := ∃ (k : Nat) (S : List UInt8), a = .int .u64 (k : Int) ∧ s = .string (bs S) ∧ restD k ++ S = Lib.decDigits u ∧ k ≤ u ∧ wr = w
set_option maxRecDepth 100000 in
set_option maxHeartbeats 2000000 in
theorem rdigits_any (u : Nat) (hu : u < 18446744073709551616) (w : World) : Calls Tryz.prog 96 #[.int .u64 (u : Int)] w fun e w' => e = .returned (.string (bs (Lib.decDigits u))) ∧ w' = w := by
  have hlen := dec_len 19 u (by omega)
  obtain ⟨m, hm, hm10⟩ : ∃ m, u % 10 = m ∧ m < 10 := ⟨_, rfl, by omega⟩
  have h1 : (u : Int).tmod 10 = (m : Int) := by rw [Int.tmod_eq_emod_of_nonneg (by omega), ← hm, Int.natCast_emod]; rfl
  have hx := decS_ext m hm10
  have HS := hide (dec_step u)
  rw [hm] at HS
  have H2 : Hid ((u : Int) / 10 = ((u / 10 : Nat) : Int)) := by show _ = _; rw [Int.natCast_ediv]; rfl
  go_enter Tryz.func96, Tryz.ntmps96
  go_wp2_with fail
  clear hm h1 hx hm10
  go_loopw [0, 3] (fun a s wr => DgI u w wr a s) (fun a _ _ => (intOf a).toNat)
  case atStart => exact ⟨u / 10, [dgc m], by rw [H2.out], rfl, HS.out.symm, by omega, rfl⟩
  case round =>
    obtain ⟨k, S, rfl, rfl, hS, hk, rfl⟩ := hrel
    have HE := hide hS
    clear hS HS H2
    have hSl : S.length ≤ 20 := by have := congrArg List.length HE.out; rw [List.length_append] at this; omega
    have hz : (bs S).size = S.length := bs_size S
    by_cases h0 : 0 < k
    · have e1 : decide ((0 : Int) < (k : Int)) = true := decide_eq_true (by omega)
      obtain ⟨m', hm, hm10⟩ : ∃ m, k % 10 = m ∧ m < 10 := ⟨_, rfl, by omega⟩
      have h1 : (k : Int).tmod 10 = (m' : Int) := by rw [Int.tmod_eq_emod_of_nonneg (by omega), ← hm, Int.natCast_emod]; rfl
      have hx := decS_ext m' hm10
      have hz1 : (bs [dgc m']).size = 1 := rfl
      have H2 : Hid ((k : Int) / 10 = ((k / 10 : Nat) : Int)) := by show _ = _; rw [Int.natCast_ediv]; rfl
      have HN := hide (restD_step h0)
      rw [hm] at HN
      clear hm
      go_wp2_with fail
      refine ⟨⟨k / 10, [dgc m'] ++ S, by rw [H2.out], by rw [← bs_app], by rw [← HE.out, HN.out]; simp, by omega, (by first | rfl | trivial)⟩, ?_⟩
      simp [intOf]; omega
    · obtain rfl : k = 0 := by omega
      have HF : Hid (S = Lib.decDigits u) := by show _ = _; rw [← HE.out]; rfl
      go_wp2_with fail
      go_ret
      exact ⟨ret_str' (by rw [HF.out]), rfl⟩
theorem rDecimal_any (u : Nat) (hu : u ≤ 9223372036854775807) (w : World) : Calls Tryz.prog 59 #[.int .i64 (u : Int)] w fun e w' => e = .returned (.string (bs (Lib.decDigits u))) ∧ w' = w := by
  have CD := fun w => rdigits_any u (by omega) w
  have e1 : decide ((u : Int) < 0) = false := decide_eq_false (by omega)
  have hw : IntKind.u64.wrap (u : Int) = (u : Int) := by
    have hm : (u : Int) % 18446744073709551616 = u := by omega
    simp [IntKind.wrap, IntKind.signed, IntKind.bits, hm]
  go_enter Tryz.func59, Tryz.ntmps59
  go_wp2_with ((with_reducible refine (CD _).mono ?_); rintro e w' ⟨rfl, rfl⟩)
  go_ret
  exact ⟨rfl, rfl⟩
end Go.Proofs.YtfhanbiifjiklaaGreatDoor
