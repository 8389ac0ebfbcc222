/- Package label: Read, all ways; the laws' helpers with and read. -/
import Derived.Test.YtldicibhfmnjnaaGreatDoorC9
import Derived.Test.YtldicibhfmnjnaaGreatDoorCA
import Derived.Test.YtldicibhfmnjnaaGreatDoorCB
set_option linter.unusedVariables false
set_option linter.unusedSimpArgs false
namespace Go.Proofs.YtldicibhfmnjnaaGreatDoor
open Go.RowKit

theorem Read_any (s : List UInt8) (hs : s.length ≤ 1099511627776) (w : World) : Calls Tryz.prog 18 #[.string (bs s)] w fun e w' => e = .returned (.tuple #[.string (bs (readP s)), .int .i64 (readE s)]) ∧ Below w.heap.size w w' := by
  by_cases h : s.all okC = true ∧ 3 ≤ s.length ∧ s.length ≤ 36
  · obtain ⟨h1, h2, h3⟩ := h
    obtain ⟨M, hM⟩ : ∃ M, miss 0 (vals s) = M := ⟨_, rfl⟩
    match M, hM with
    | [], hM => exact Read_none s h1 h2 h3 hM w
    | [i], hM => exact Read_one s h1 h2 h3 i hM w
    | [i, j], hM => exact Read_two s h1 h2 h3 i j hM w
    | a :: b :: c :: r, hM => exact Read_many s h1 h2 h3 _ hM (by simp) w
  · exact Read_out s hs h w
theorem set_cut (s : List UInt8) (i : Nat) (c : UInt8) (h : i < s.length) : s.take i ++ [c] ++ s.drop (i + 1) = s.set i c := by
  rw [List.set_eq_take_append_cons_drop, if_pos h]; simp
set_option maxRecDepth 100000 in
set_option maxHeartbeats 2000000 in
theorem with_any (s : List UInt8) (i : Nat) (c : UInt8) (hi : i < s.length) (hs : s.length ≤ 140737488351232) (w : World) : Calls Tryz.prog 20 #[.string (bs s), .int .i64 (i : Int), .int .u8 (c.toNat : Int)] w fun e w' => e = .returned (.string (bs (s.set i c))) ∧ Below w.heap.size w w' := by
  have HS := hide (set_cut s i c hi)
  have e1 : (bs s).extract 0 i = bs (s.take i) := by rw [bs_cut]; simp
  have e2 : (bs s).extract (i + 1) s.length = bs (s.drop (i + 1)) := bs_drop s (i + 1)
  have hz : (bs s).size = s.length := bs_size s
  have hz1 : (bs (s.take i)).size = i := by rw [bs_size, List.length_take]; omega
  have hz2 : (bs (s.drop (i + 1))).size = s.length - (i + 1) := by rw [bs_size, List.length_drop]
  have hz3 : (bs [c]).size = 1 := rfl
  have hz12 : ¬ 9223372036854775807 < (bs (s.take i)).size + (bs [c]).size := by rw [hz1, hz3]; omega
  have hz123 : ¬ 9223372036854775807 < (bs (s.take i)).size + (bs [c]).size + (bs (s.drop (i + 1))).size := by rw [hz1, hz3, hz2]; omega
  have hi1 : IntKind.i64.wrap ((i : Int) + 1) = (i : Int) + 1 := w64 (by omega) (by omega)
  have hk := fun (w : World) (b cap : Nat) (h : w.cell? ⟨b, 0, none⟩ = some (.int .u8 (c.toNat : Int))) => conv_bytes (P := Tryz.prog) w 65 5 9 Tryz.underlying65 Tryz.underlying5 Tryz.underlying9 b 0 [c] 1 1 rfl (fun i d hd => by
    match i, hd with
    | 0, hd => simp at hd; subst hd; exact h)
  go_enter Tryz.func20, Tryz.ntmps20
  clear hz1 hz2 hz3
  have hle : i ≤ s.length := by omega
  have hle0 : (0 : Int) ≤ (i : Int) + 1 := by omega
  have hle1 : (i : Int) + 1 ≤ (s.length : Int) := by omega
  have HE : Hid (bs (s.take i) ++ bs [c] ++ bs (s.drop (i + 1)) = bs (s.set i c)) := by show _ = _; rw [bs_app, bs_app, HS.out]
  generalize bs (s.take i) = T1 at *
  generalize bs (s.drop (i + 1)) = T3 at *
  generalize bs [c] = T2 at *
  go_wp2_with fail
  obtain ⟨U, hU, g, u0, rfl, hgu, hi'⟩ := cls w
  apply wp_region_looseG g (V := [some _, some _, some _, some _, none, some _, some _, some _, some _, some _, some _, some _, some _]) (Fs := [(4, RowIs 5 11 1 #[.int .u8 (c.toNat : Int)])]) (Rel := fun _ w w' => Below w.heap.size w w')
  case hm => kernel_rfl
  case hB => kernel_rfl
  case hCw => exact hi' _ (Below.refl _ _).drew
  case hC =>
    rintro i uq w' hr
    exact hi' _ (below_to (hgu uq) (Nat.le_refl _) hr)
  case hst =>
    refine keeps_cons (fun i a a' w w' hne hwt hs hr h => h.keep (hs 11 (by kernel_rfl)) (Or.inr hr)) ?_
    exact keeps_nil
  case hop =>
    refine ⟨?_, ?_, ?_, ?_, ?_, ?_, ?_, ?_, ?_, ?_, ?_, ?_, ?_, trivial⟩
    · intro a uq K hS hd hK
      have s0 := hS.at 0 (by kernel_rfl) rfl
      rw [if_pos (want_free rfl)]
      go_simp
      exact hK _ _ (Below.refl _ _) (vok rfl) (facts_cons (fun h => absurd h (by decide)) facts_nil)
    · intro a uq K hS hd hK
      have s1 := hS.at 1 (by kernel_rfl) rfl
      rw [if_pos (want_free rfl)]
      go_simp
      exact hK _ _ (Below.refl _ _) (vok rfl) (facts_cons (fun h => absurd h (by decide)) facts_nil)
    · intro a uq K hS hd hK
      have s7 := (waits_on hd 0 (by kernel_rfl)).at (d := 7) rfl rfl rfl
      have s8 := (waits_on hd 1 (by kernel_rfl)).at (d := 8) rfl rfl rfl
      rw [if_pos (want_free rfl)]
      go_simp
      exact hK _ _ (Below.refl _ _) (vok rfl) (facts_cons (fun h => absurd h (by decide)) facts_nil)
    · intro a uq K hS hd hK
      have s2 := hS.at 2 (by kernel_rfl) rfl
      rw [if_pos (want_free rfl)]
      go_simp
      exact hK _ _ (Below.refl _ _) (vok rfl) (facts_cons (fun h => absurd h (by decide)) facts_nil)
    · intro a uq K hS hd hK
      have s10 := (waits_on hd 3 (by kernel_rfl)).at (d := 10) rfl rfl rfl
      rw [if_pos (want_free rfl)]
      go_simp
      exact hK _ _ (below_one _ _) (vfree rfl) (facts_cons (fun _ => ⟨_, hS.put_at (by kernel_rfl) _, Blk.new _ _ _⟩) facts_nil)
    · intro a uq K hS hd hK
      obtain ⟨b11, s11, r11⟩ := (waits_on hd 4 (by kernel_rfl)).2 _ (List.mem_cons_self ..) rfl
      rw [if_pos (want_free rfl)]
      have kc := hk (g uq) b11 1 (r11.cell 0)
      go_simp
      exact hK _ _ (Below.refl _ _) (vok rfl) (facts_cons (fun h => absurd h (by decide)) facts_nil)
    · intro a uq K hS hd hK
      have s9 := (waits_on hd 2 (by kernel_rfl)).at (d := 9) rfl rfl rfl
      have s12 := (waits_on hd 5 (by kernel_rfl)).at (d := 12) rfl rfl rfl
      rw [if_pos (want_free rfl)]
      go_simp
      exact hK _ _ (Below.refl _ _) (vok rfl) (facts_cons (fun h => absurd h (by decide)) facts_nil)
    · intro a uq K hS hd hK
      have s0 := hS.at 0 (by kernel_rfl) rfl
      rw [if_pos (want_free rfl)]
      go_simp
      exact hK _ _ (Below.refl _ _) (vok rfl) (facts_cons (fun h => absurd h (by decide)) facts_nil)
    · intro a uq K hS hd hK
      have s1 := hS.at 1 (by kernel_rfl) rfl
      rw [if_pos (want_free rfl)]
      go_simp
      exact hK _ _ (Below.refl _ _) (vok rfl) (facts_cons (fun h => absurd h (by decide)) facts_nil)
    · intro a uq K hS hd hK
      have s15 := (waits_on hd 8 (by kernel_rfl)).at (d := 15) rfl rfl rfl
      rw [if_pos (want_free rfl)]
      go_simp
      exact hK _ _ (Below.refl _ _) (vok rfl) (facts_cons (fun h => absurd h (by decide)) facts_nil)
    · intro a uq K hS hd hK
      have s14 := (waits_on hd 7 (by kernel_rfl)).at (d := 14) rfl rfl rfl
      have s16 := (waits_on hd 9 (by kernel_rfl)).at (d := 16) rfl rfl rfl
      rw [if_pos (want_free rfl)]
      go_simp
      exact hK _ _ (Below.refl _ _) (vok rfl) (facts_cons (fun h => absurd h (by decide)) facts_nil)
    · intro a uq K hS hd hK
      have s13 := (waits_on hd 6 (by kernel_rfl)).at (d := 13) rfl rfl rfl
      have s17 := (waits_on hd 10 (by kernel_rfl)).at (d := 17) rfl rfl rfl
      rw [if_pos (want_free rfl)]
      go_simp
      exact hK _ _ (Below.refl _ _) (vok rfl) (facts_cons (fun h => absurd h (by decide)) facts_nil)
    · intro a uq K hS hd hK
      have s18 := (waits_on hd 11 (by kernel_rfl)).at (d := 18) rfl rfl rfl
      rw [if_pos (want_free rfl)]
      go_simp
      exact hK _ _ (Below.refl _ _) (vok rfl) (facts_cons (fun h => absurd h (by decide)) facts_nil)
  case hfin =>
    intro a uq hS hk
    have s7 := (hk 0 (by decide)).at (d := 7) rfl rfl rfl
    have s8 := (hk 1 (by decide)).at (d := 8) rfl rfl rfl
    have s9 := (hk 2 (by decide)).at (d := 9) rfl rfl rfl
    have s10 := (hk 3 (by decide)).at (d := 10) rfl rfl rfl
    obtain ⟨b11, s11, r11⟩ := (hk 4 (by decide)).2 _ (List.mem_cons_self ..) rfl
    have s12 := (hk 5 (by decide)).at (d := 12) rfl rfl rfl
    have s13 := (hk 6 (by decide)).at (d := 13) rfl rfl rfl
    have s14 := (hk 7 (by decide)).at (d := 14) rfl rfl rfl
    have s15 := (hk 8 (by decide)).at (d := 15) rfl rfl rfl
    have s16 := (hk 9 (by decide)).at (d := 16) rfl rfl rfl
    have s17 := (hk 10 (by decide)).at (d := 17) rfl rfl rfl
    have s18 := (hk 11 (by decide)).at (d := 18) rfl rfl rfl
    have s6 := (hk 12 (by decide)).at (d := 6) rfl rfl rfl
    have hlit := hS.lit _ (by kernel_rfl) (lits_cons s7 (lits_cons s8 (lits_cons s9 (lits_cons s10 (lits_cons s11 (lits_cons s12 (lits_cons s13 (lits_cons s14 (lits_cons s15 (lits_cons s16 (lits_cons s17 (lits_cons s18 (lits_cons s6 lits_nil)))))))))))))
    rw [hlit]
    clear hlit hk hS s7 s8 s9 s10 s11 s12 s13 s14 s15 s16 s17 s18 s6
    simp only [litT, List.setIfInBounds_toArray, List.set_cons_succ, List.set_cons_zero]
    go_wp2_with fail
    go_ret
    exact ⟨ret_str' HE.out, hgu uq⟩
set_option maxHeartbeats 2000000 in
theorem read_any (s p : List UInt8) (e0 : Int) (hs : s.length ≤ 1099511627776) (w : World) : Calls Tryz.prog 21 #[.string (bs s), .string (bs p), .int .i64 e0] w fun e w' => e = .returned (.bool (readP s == p && readE s == e0)) ∧ Below w.heap.size w w' := by
  have CR := Read_any s hs w
  cases h1 : readP s == p
  · have h2 : ((bs (readP s)).toList == (bs p).toList) = false := by rw [bs_toList, bs_toList]; exact h1
    clear h1
    go_enter Tryz.func21, Tryz.ntmps21
    go_wp2_with fail
    refine CR.mono ?_
    rintro e w' ⟨rfl, hb⟩
    have HB := hide hb
    clear hb CR
    obtain ⟨E, hE⟩ : ∃ E, readE s = E := ⟨_, rfl⟩
    have HE := hide hE
    rw [hE]
    clear hE
    generalize bs (readP s) = R at *
    go_wp2_with fail
    go_ret
    exact ⟨ret_bool (by simp), HB.out⟩
  · have h2 : ((bs (readP s)).toList == (bs p).toList) = true := by rw [bs_toList, bs_toList]; exact h1
    clear h1
    go_enter Tryz.func21, Tryz.ntmps21
    go_wp2_with fail
    refine CR.mono ?_
    rintro e w' ⟨rfl, hb⟩
    have HB := hide hb
    clear hb CR
    obtain ⟨E, hE⟩ : ∃ E, readE s = E := ⟨_, rfl⟩
    have HE := hide hE
    rw [hE]
    clear hE
    generalize bs (readP s) = R at *
    go_wp2_with fail
    go_ret
    exact ⟨ret_bool (by rw [HE.out]; simp), HB.out⟩
end Go.Proofs.YtldicibhfmnjnaaGreatDoor
