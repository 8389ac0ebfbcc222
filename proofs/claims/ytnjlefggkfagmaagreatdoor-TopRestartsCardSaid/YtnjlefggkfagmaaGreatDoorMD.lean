/- Several texts as one, in build order. -/
import Derived.Test.YtnjlefggkfagmaaGreatDoorMC
import Derived.Test.YtnjlefggkfagmaaGreatDoorMB
import Derived.BigQuiet
import Derived.Recover
import Derived.Defers
/- Walks of the journal: count. -/
set_option linter.unusedVariables false
set_option linter.unusedSimpArgs false
namespace Go.Proofs.YtnjlefggkfagmaaGreatDoor
open Go.RowKit

set_option maxRecDepth 100000 in
set_option maxHeartbeats 2000000 in
theorem jcount_any (p : Nat) (hp : p ≤ 1000000000) (s : List UInt8) (hs : s.length = 64) (room : Nat) (hr : room ≤ 1000000000) (w : World) (hg : Glob w) :
    Calls Tryz.prog 63 #[.int .i64 (p : Int), .string (bs s), .int .i64 (room : Int)] w fun e w' => e = .returned (.int .i64 (countV p s room)) ∧ Below w.heap.size w w' := by
  have HG := hide hg
  have hsz : (bs s).size = 64 := by rw [bs_size, hs]
  have CZ := zero_any w
  clear hg
  by_cases hz : s = zeroV
  · have e1 : ((bs s).toList == (bs zeroV).toList) = true := by rw [hz]; simp
    have HV : Hid (countV p s room = 0) := by show _ = _; rw [hz]; exact count_zero p room
    clear hz
    generalize zeroV = Z at *
    go_enter Tryz.func63, Tryz.ntmps63
    go_wp2_with fail
    refine CZ.mono ?_
    rintro e w2 ⟨rfl, hb⟩
    go_wp2_with fail
    go_ret
    exact ⟨ret_int (by rw [HV.out]), hb⟩
  · have e1 : ((bs s).toList == (bs zeroV).toList) = false := by rw [bs_toList, bs_toList, beq_eq_false_iff_ne]; exact hz
    have HV : Hid (countV p s room = countM p s room (Lib.atoiAll ((s.drop 16).take 8))) := by show _ = _; unfold countV; rw [if_neg hz]
    have CA := fun w' (hb : Below w.heap.size w w') => Atoi_any ((s.drop 16).take 8) (by rw [List.length_take]; omega) w' (HG.out.to hb)
    have hcut : (bs s).extract 16 24 = bs ((s.drop 16).take 8) := bs_cut s 16 24
    obtain ⟨N8, hN⟩ : ∃ N8, (s.drop 16).take 8 = N8 := ⟨_, rfl⟩
    rw [hN] at CA hcut HV
    clear hz hN
    generalize zeroV = Z at *
    go_enter Tryz.func63, Tryz.ntmps63
    go_wp2_with fail
    refine CZ.mono ?_
    rintro e w2 ⟨rfl, hb⟩
    have HB2 := hide hb
    have CA := CA _ hb
    clear hb CZ
    go_wp2_with fail
    refine CA.mono ?_
    rintro e w3 ⟨hv, hb⟩
    have HB3 := hide (below_to HB2.out (Nat.le_refl _) hb)
    clear hb CA
    rcases hv with ⟨v, hv, rfl⟩ | ⟨hv, n, T, q, rfl⟩
    · rw [hv] at HV
      unfold countM at HV
      simp only at HV
      clear hv
      by_cases h0 : v < 0
      · rw [if_pos h0] at HV
        have e2 : decide (v < 0) = true := decide_eq_true h0
        go_wp2_with fail
        go_ret
        exact ⟨ret_int (by rw [HV.out]), HB3.out⟩
      · rw [if_neg h0] at HV
        obtain ⟨n, rfl⟩ : ∃ n : Nat, v = n := ⟨v.toNat, by omega⟩
        have e2 : decide ((n : Int) < 0) = false := decide_eq_false h0
        by_cases h1 : (room : Int) < (n : Int)
        · rw [if_pos h1] at HV
          have e3 : decide ((room : Int) < (n : Int)) = true := decide_eq_true h1
          have e4 : decide (room < n) = true := decide_eq_true (by omega)
          go_wp2_with fail
          go_ret
          exact ⟨ret_int (by rw [HV.out]), HB3.out⟩
        · rw [if_neg h1, Int.toNat_natCast] at HV
          have e3 : decide ((room : Int) < (n : Int)) = false := decide_eq_false h1
          have e4 : decide (room < n) = false := decide_eq_false (by omega)
          have CH := jhead_any p n hp (by omega) w3 (HG.out.to HB3.out)
          by_cases h2 : headV p n = s
          · rw [if_pos h2] at HV
            have e5 : ((bs (headV p n)).toList == (bs s).toList) = true := by rw [h2]; simp
            have e5' : (!((bs (headV p n)).toList == (bs s).toList)) = false := by rw [e5]; rfl
            clear h2
            generalize headV p n = H at *
            go_wp2_with ((with_reducible refine CH.mono ?_); rintro e w4 ⟨rfl, hb4⟩)
            go_ret
            exact ⟨ret_int (by rw [HV.out]), below_to HB3.out (Nat.le_refl _) (by assumption)⟩
          · rw [if_neg h2] at HV
            have e5 : ((bs (headV p n)).toList == (bs s).toList) = false := by rw [bs_toList, bs_toList, beq_eq_false_iff_ne]; exact h2
            have e5' : (!((bs (headV p n)).toList == (bs s).toList)) = true := by rw [e5]; rfl
            clear h2
            generalize headV p n = H at *
            go_wp2_with ((with_reducible refine CH.mono ?_); rintro e w4 ⟨rfl, hb4⟩)
            go_ret
            exact ⟨ret_int (by rw [HV.out]), below_to HB3.out (Nat.le_refl _) (by assumption)⟩
    · have HV1 : Hid (countV p s room = -1) := by
        show _ = _
        rw [HV.out]
        cases h : Lib.atoiAll N8 with
        | ok n => exact absurd h (hv n)
        | _ => rfl
      clear hv HV
      go_wp2_with fail
      go_ret
      exact ⟨ret_int (by rw [HV1.out]), HB3.out⟩
end Go.Proofs.YtnjlefggkfagmaaGreatDoor

/- The plain side of the journal: pieces of a text. No program in sight. -/
set_option linter.unusedVariables false
set_option linter.unusedSimpArgs false
namespace Go.Proofs.YtnjlefggkfagmaaGreatDoor
open Go

def splitF : Nat → List UInt8 → List (List UInt8)
  | 0, _ => []
  | f + 1, t => if t = [] then [] else t.take 46 :: splitF f (t.drop 46)
def splitV (t : List UInt8) : List (List UInt8) := splitF t.length t
theorem splitF_more : ∀ (f g : Nat) (t : List UInt8), t.length ≤ f → t.length ≤ g → splitF f t = splitF g t
  | 0, 0, t, _, _ => rfl
  | 0, g + 1, t, hf, _ => by
    obtain rfl : t = [] := List.eq_nil_of_length_eq_zero (by omega)
    rfl
  | f + 1, 0, t, _, hg => by
    obtain rfl : t = [] := List.eq_nil_of_length_eq_zero (by omega)
    rfl
  | f + 1, g + 1, t, hf, hg => by
    unfold splitF
    split
    · rfl
    · rename_i h
      have : 0 < t.length := List.length_pos_iff.2 h
      rw [splitF_more f g (t.drop 46) (by rw [List.length_drop]; omega) (by rw [List.length_drop]; omega)]
theorem splitJ_nil : splitV [] = [] := rfl
theorem splitJ_cons {t : List UInt8} (h : t ≠ []) : splitV t = t.take 46 :: splitV (t.drop 46) := by
  have h0 : 0 < t.length := List.length_pos_iff.2 h
  obtain ⟨n, hn⟩ : ∃ n, t.length = n + 1 := ⟨t.length - 1, by omega⟩
  unfold splitV
  rw [hn]
  show (if t = [] then [] else t.take 46 :: splitF n (t.drop 46)) = _
  rw [if_neg h, splitF_more n (t.drop 46).length (t.drop 46) (by rw [List.length_drop]; omega) (Nat.le_refl _)]
theorem splitJ_flat : ∀ (n : Nat) (t : List UInt8), t.length ≤ n → (splitV t).flatten = t
  | 0, t, h => by
    obtain rfl : t = [] := List.eq_nil_of_length_eq_zero (by omega)
    rfl
  | n + 1, t, h => by
    by_cases h0 : t = []
    · subst h0; rfl
    · rw [splitJ_cons h0, List.flatten_cons, splitJ_flat n (t.drop 46) (by have := List.length_pos_iff.2 h0; rw [List.length_drop]; omega), List.take_append_drop]
theorem splitJ_len : ∀ (n : Nat) (t : List UInt8), t.length ≤ n → ∀ p ∈ splitV t, 1 ≤ p.length ∧ p.length ≤ 46
  | 0, t, h, p, hp => by
    obtain rfl : t = [] := List.eq_nil_of_length_eq_zero (by omega)
    cases hp
  | n + 1, t, h, p, hp => by
    by_cases h0 : t = []
    · subst h0; cases hp
    · have h1 := List.length_pos_iff.2 h0
      rw [splitJ_cons h0] at hp
      rcases List.mem_cons.1 hp with rfl | hp
      · rw [List.length_take]; omega
      · exact splitJ_len n (t.drop 46) (by rw [List.length_drop]; omega) p hp
theorem splitJ_num : ∀ (n : Nat) (t : List UInt8), t.length ≤ n → (splitV t).length * 46 ≤ t.length + 45
  | 0, t, h => by
    obtain rfl : t = [] := List.eq_nil_of_length_eq_zero (by omega)
    decide
  | n + 1, t, h => by
    by_cases h0 : t = []
    · subst h0; decide
    · have h1 := List.length_pos_iff.2 h0
      have ih := splitJ_num n (t.drop 46) (by rw [List.length_drop]; omega)
      rw [List.length_drop] at ih
      rw [splitJ_cons h0, List.length_cons]
      by_cases h2 : t.length ≤ 46
      · rw [List.drop_of_length_le h2, splitJ_nil]; simp; omega
      · omega
end Go.Proofs.YtnjlefggkfagmaaGreatDoor

/- A client: Accept, pages of another log. -/
set_option linter.unusedVariables false
set_option linter.unusedSimpArgs false
namespace Go.Proofs.YtnjlefggkfagmaaGreatDoor
open Go.RowKit Go.Shelf
attribute [local go_sem] Oper.semAt_some

set_option maxRecDepth 100000 in
set_option maxHeartbeats 400000 in
theorem Accept_root (b : Nat) (root : List UInt8) (size : Int) (its : List (List UInt8)) (v : Value) (p : Pg) (hp : p.fit) (hf : formedB p = true) (hh : ¬ p.root = root) (vi vp : Value) (w : World) (hcl : CliAt b root size its v w) (hvi : TextsAt w vi p.items) (hvp : PathsAt w vp p.paths) :
    Calls Tryz.prog 11 #[cliP b, .agg (p.cs vi vp)] w (AcceptR b root size 17 its v w) := by
  have hq := fun q hq => (⟨hp.nq q hq, hp.lq q hq⟩ : q.length ≤ 200000 ∧ ∀ x ∈ q, x.length ≤ 100000)
  have CF := fun w' (hb : Below w.heap.size w w') => formed_any p hp.lr hp.li hq vi vp w' (hvi.to hb) (hvp.to hb)
  rw [hf] at CF
  obtain ⟨Ai, ci, rfl, hci⟩ := hvi.slice
  obtain ⟨Ap, cp, rfl, hcp⟩ := hvp.slice
  obtain ⟨⟨hfr, hsz, _, hn50, hpl⟩, _⟩ := formed_spec hf
  have HC := hide hcl
  have HVI := hide hvi
  have HVP := hide hvp
  clear hvi hvp hcl hq
  unfold Pg.cs at CF ⊢
  unfold cliP
  have hb0 : Below w.heap.size w (((w.alloc (.cells #[.pointer (some ⟨b, 0, none⟩)] 30)).alloc (.cells #[.int .i64 p.fr, .int .i64 p.size, .string (bs p.root), .slice Ai p.items.length ci, .slice Ap p.paths.length cp] 38)).alloc (.cells #[.int .i64 0] 39)) := (((Below.refl _ w).alloc (Nat.le_refl _) _).alloc (by simp) _).alloc (by simp; omega) _
  have he := Blk.new ((w.alloc (.cells #[.pointer (some ⟨b, 0, none⟩)] 30)).alloc (.cells #[.int .i64 p.fr, .int .i64 p.size, .string (bs p.root), .slice Ai p.items.length ci, .slice Ap p.paths.length cp] 38)) 39 #[.int .i64 0]
  rw [World.size_alloc, World.size_alloc] at he
  have hb1 := (Blk.new (w.alloc (.cells #[.pointer (some ⟨b, 0, none⟩)] 30)) 38 #[.int .i64 p.fr, .int .i64 p.size, .string (bs p.root), .slice Ai p.items.length ci, .slice Ap p.paths.length cp]).alloc (.cells #[.int .i64 0] 39)
  rw [World.size_alloc] at hb1
  have hb2 := ((Blk.new w 30 #[.pointer (some ⟨b, 0, none⟩)]).alloc (.cells #[.int .i64 p.fr, .int .i64 p.size, .string (bs p.root), .slice Ai p.items.length ci, .slice Ap p.paths.length cp] 38)).alloc (.cells #[.int .i64 0] 39)
  have HB0 := hide hb0
  have HE := hide he
  have HP1 := hide hb1
  have HP0 := hide hb2
  have HPL := hide hpl
  clear hb0 he hb1 hb2 hpl
  have e1 : ((bs p.root).toList == (bs root).toList) = false := by rw [beq_eq_false_iff_ne, bs_toList, bs_toList]; exact hh
  clear hh hf
  go_enter Tryz.func11, Tryz.ntmps11
  go_wp2_with fail
  refine (CF _ HB0.out).mono ?_
  rintro e w2 ⟨rfl, hb2⟩
  have HB2 := hide hb2
  have HEw := hide (HE.out.to hb2)
  have HP1w := hide (HP1.out.to hb2)
  have HP0w := hide (HP0.out.to hb2)
  have HBw := hide (below_to HB0.out (Nat.le_refl _) hb2)
  clear hb2 CF
  go_wp2_with fail
  have HC2 := hide (HC.out.to HBw.out)
  obtain ⟨Av, cv, rfl⟩ := own_sl4 HC.out.own
  obtain ⟨U, hU, g, u0, rfl, hgu, hi⟩ := cls w2
  have k0 := fun u => ((HP0w.out.to (hgu u)).cell 0).trans (show _ = some (Value.pointer (some ⟨b, 0, none⟩)) from rfl)
  have p0 := fun u => ((HP1w.out.to (hgu u)).cell 0).trans (show _ = some (Value.int .i64 p.fr) from rfl)
  have p1 := fun u => ((HP1w.out.to (hgu u)).cell 1).trans (show _ = some (Value.int .i64 p.size) from rfl)
  have p2 := fun u => ((HP1w.out.to (hgu u)).cell 2).trans (show _ = some (Value.string (bs p.root)) from rfl)
  have p3 := fun u => ((HP1w.out.to (hgu u)).cell 3).trans (show _ = some (Value.slice Ai p.items.length ci) from rfl)
  have z0 := fun u => ((HC2.out.blk.to (hgu u)).cell 0).trans (show _ = some (Value.string (bs root)) from rfl)
  have z1 := fun u => ((HC2.out.blk.to (hgu u)).cell 1).trans (show _ = some (Value.int .i64 size) from rfl)
  have z2 := fun u => ((HC2.out.blk.to (hgu u)).cell 2).trans (show _ = some (Value.slice Av its.length cv) from rfl)
  apply wp_region_looseG g (V := [some _, some _, some _, some _, some _, some _, some _, some _, some _, some _, some _, some _, some _, some _, some _, some _, some _, some _, some _, some _, some _, some _, some _, some _, some _, some _, some _]) (Fs := []) (Rel := fun _ w w' => Below w.heap.size w w')
  case hm => kernel_rfl
  case hB => kernel_rfl
  case hCw => exact hi _ (hgu _).drew
  case hC =>
    rintro i uq w' hr
    exact hi _ (below_to (hgu uq) (Nat.le_refl _) hr)
  case hst =>
    exact keeps_nil
  case hop =>
    refine ⟨?_, ?_, ?_, ?_, ?_, ?_, ?_, ?_, ?_, ?_, ?_, ?_, ?_, ?_, ?_, ?_, ?_, ?_, ?_, ?_, ?_, ?_, ?_, ?_, ?_, ?_, ?_, trivial⟩
    · intro a uq K hS hd hK
      have s3 := hS.at 3 (by kernel_rfl) rfl
      rw [if_pos (want_free rfl)]
      go_simp
      exact hK _ _ (Below.refl _ _) (vok rfl) facts_nil
    · intro a uq K hS hd hK
      have s14 := (waits_on hd 0 (by kernel_rfl)).at (d := 14) rfl rfl rfl
      rw [if_pos (want_free rfl)]
      have c := p2 uq
      go_simp
      exact hK _ _ (Below.refl _ _) (vok rfl) facts_nil
    · intro a uq K hS hd hK
      have s2 := hS.at 2 (by kernel_rfl) rfl
      rw [if_pos (want_free rfl)]
      have c := k0 uq
      go_simp
      exact hK _ _ (Below.refl _ _) (vok rfl) facts_nil
    · intro a uq K hS hd hK
      have s16 := (waits_on hd 2 (by kernel_rfl)).at (d := 16) rfl rfl rfl
      rw [if_pos (want_free rfl)]
      go_simp
      exact hK _ _ (Below.refl _ _) (vok rfl) facts_nil
    · intro a uq K hS hd hK
      have s17 := (waits_on hd 3 (by kernel_rfl)).at (d := 17) rfl rfl rfl
      rw [if_pos (want_free rfl)]
      go_simp
      exact hK _ _ (Below.refl _ _) (vok rfl) facts_nil
    · intro a uq K hS hd hK
      have s18 := (waits_on hd 4 (by kernel_rfl)).at (d := 18) rfl rfl rfl
      rw [if_pos (want_free rfl)]
      have c := z0 uq
      go_simp
      exact hK _ _ (Below.refl _ _) (vok rfl) facts_nil
    · intro a uq K hS hd hK
      have s15 := (waits_on hd 1 (by kernel_rfl)).at (d := 15) rfl rfl rfl
      have s19 := (waits_on hd 5 (by kernel_rfl)).at (d := 19) rfl rfl rfl
      rw [if_pos (want_free rfl)]
      go_simp
      exact hK _ _ (Below.refl _ _) (vok rfl) facts_nil
    · intro a uq K hS hd hK
      have s20 := (waits_on hd 6 (by kernel_rfl)).at (d := 20) rfl rfl rfl
      rw [if_pos (want_free rfl)]
      go_simp
      exact hK _ _ (Below.refl _ _) (vok rfl) facts_nil
    · intro a uq K hS hd hK
      have s21 := (waits_on hd 7 (by kernel_rfl)).at (d := 21) rfl rfl rfl
      rw [if_neg (want_no rfl rfl rfl s21 rfl)]
      exact hK _ _ (Below.refl _ _) (vok rfl) facts_nil
    · intro a uq K hS hd hK
      have s21 := (waits_on hd 7 (by kernel_rfl)).at (d := 21) rfl rfl rfl
      rw [if_neg (want_no rfl rfl rfl s21 rfl)]
      exact hK _ _ (Below.refl _ _) (vok rfl) facts_nil
    · intro a uq K hS hd hK
      have s21 := (waits_on hd 7 (by kernel_rfl)).at (d := 21) rfl rfl rfl
      rw [if_neg (want_no rfl rfl rfl s21 rfl)]
      exact hK _ _ (Below.refl _ _) (vok rfl) facts_nil
    · intro a uq K hS hd hK
      have s21 := (waits_on hd 7 (by kernel_rfl)).at (d := 21) rfl rfl rfl
      rw [if_neg (want_no rfl rfl rfl s21 rfl)]
      exact hK _ _ (Below.refl _ _) (vok rfl) facts_nil
    · intro a uq K hS hd hK
      have s21 := (waits_on hd 7 (by kernel_rfl)).at (d := 21) rfl rfl rfl
      rw [if_neg (want_no rfl rfl rfl s21 rfl)]
      exact hK _ _ (Below.refl _ _) (vok rfl) facts_nil
    · intro a uq K hS hd hK
      have s21 := (waits_on hd 7 (by kernel_rfl)).at (d := 21) rfl rfl rfl
      rw [if_neg (want_no rfl rfl rfl s21 rfl)]
      exact hK _ _ (Below.refl _ _) (vok rfl) facts_nil
    · intro a uq K hS hd hK
      have s21 := (waits_on hd 7 (by kernel_rfl)).at (d := 21) rfl rfl rfl
      rw [if_neg (want_no rfl rfl rfl s21 rfl)]
      exact hK _ _ (Below.refl _ _) (vok rfl) facts_nil
    · intro a uq K hS hd hK
      have s21 := (waits_on hd 7 (by kernel_rfl)).at (d := 21) rfl rfl rfl
      have s28 := (waits_on hd 14 (by kernel_rfl)).at (d := 28) rfl rfl rfl
      rw [if_pos (want_free rfl)]
      go_simp
      exact hK _ _ (Below.refl _ _) (vok rfl) facts_nil
    · intro a uq K hS hd hK
      have s29 := (waits_on hd 15 (by kernel_rfl)).at (d := 29) rfl rfl rfl
      rw [if_pos (want_free rfl)]
      go_simp
      exact hK _ _ (Below.refl _ _) (vok rfl) facts_nil
    · intro a uq K hS hd hK
      have s30 := (waits_on hd 16 (by kernel_rfl)).at (d := 30) rfl rfl rfl
      rw [if_neg (want_no rfl rfl rfl s30 rfl)]
      exact hK _ _ (Below.refl _ _) (vok rfl) facts_nil
    · intro a uq K hS hd hK
      have s30 := (waits_on hd 16 (by kernel_rfl)).at (d := 30) rfl rfl rfl
      rw [if_neg (want_no rfl rfl rfl s30 rfl)]
      exact hK _ _ (Below.refl _ _) (vok rfl) facts_nil
    · intro a uq K hS hd hK
      have s30 := (waits_on hd 16 (by kernel_rfl)).at (d := 30) rfl rfl rfl
      rw [if_neg (want_no rfl rfl rfl s30 rfl)]
      exact hK _ _ (Below.refl _ _) (vok rfl) facts_nil
    · intro a uq K hS hd hK
      have s30 := (waits_on hd 16 (by kernel_rfl)).at (d := 30) rfl rfl rfl
      rw [if_neg (want_no rfl rfl rfl s30 rfl)]
      exact hK _ _ (Below.refl _ _) (vok rfl) facts_nil
    · intro a uq K hS hd hK
      have s30 := (waits_on hd 16 (by kernel_rfl)).at (d := 30) rfl rfl rfl
      rw [if_neg (want_no rfl rfl rfl s30 rfl)]
      exact hK _ _ (Below.refl _ _) (vok rfl) facts_nil
    · intro a uq K hS hd hK
      have s30 := (waits_on hd 16 (by kernel_rfl)).at (d := 30) rfl rfl rfl
      rw [if_neg (want_no rfl rfl rfl s30 rfl)]
      exact hK _ _ (Below.refl _ _) (vok rfl) facts_nil
    · intro a uq K hS hd hK
      have s30 := (waits_on hd 16 (by kernel_rfl)).at (d := 30) rfl rfl rfl
      rw [if_neg (want_no rfl rfl rfl s30 rfl)]
      exact hK _ _ (Below.refl _ _) (vok rfl) facts_nil
    · intro a uq K hS hd hK
      have s30 := (waits_on hd 16 (by kernel_rfl)).at (d := 30) rfl rfl rfl
      rw [if_neg (want_no rfl rfl rfl s30 rfl)]
      exact hK _ _ (Below.refl _ _) (vok rfl) facts_nil
    · intro a uq K hS hd hK
      have s30 := (waits_on hd 16 (by kernel_rfl)).at (d := 30) rfl rfl rfl
      rw [if_neg (want_no rfl rfl rfl s30 rfl)]
      exact hK _ _ (Below.refl _ _) (vok rfl) facts_nil
    · intro a uq K hS hd hK
      have s30 := (waits_on hd 16 (by kernel_rfl)).at (d := 30) rfl rfl rfl
      have s39 := (waits_on hd 25 (by kernel_rfl)).at (d := 39) rfl rfl rfl
      rw [if_pos (want_free rfl)]
      go_simp
      exact hK _ _ (Below.refl _ _) (vok rfl) facts_nil
  case hfin =>
    intro a uq hS hk
    have s14 := (hk 0 (by decide)).at (d := 14) rfl rfl rfl
    have s15 := (hk 1 (by decide)).at (d := 15) rfl rfl rfl
    have s16 := (hk 2 (by decide)).at (d := 16) rfl rfl rfl
    have s17 := (hk 3 (by decide)).at (d := 17) rfl rfl rfl
    have s18 := (hk 4 (by decide)).at (d := 18) rfl rfl rfl
    have s19 := (hk 5 (by decide)).at (d := 19) rfl rfl rfl
    have s20 := (hk 6 (by decide)).at (d := 20) rfl rfl rfl
    have s21 := (hk 7 (by decide)).at (d := 21) rfl rfl rfl
    have s22 := (hk 8 (by decide)).at (d := 22) rfl rfl rfl
    have s23 := (hk 9 (by decide)).at (d := 23) rfl rfl rfl
    have s24 := (hk 10 (by decide)).at (d := 24) rfl rfl rfl
    have s25 := (hk 11 (by decide)).at (d := 25) rfl rfl rfl
    have s26 := (hk 12 (by decide)).at (d := 26) rfl rfl rfl
    have s27 := (hk 13 (by decide)).at (d := 27) rfl rfl rfl
    have s28 := (hk 14 (by decide)).at (d := 28) rfl rfl rfl
    have s29 := (hk 15 (by decide)).at (d := 29) rfl rfl rfl
    have s30 := (hk 16 (by decide)).at (d := 30) rfl rfl rfl
    have s31 := (hk 17 (by decide)).at (d := 31) rfl rfl rfl
    have s32 := (hk 18 (by decide)).at (d := 32) rfl rfl rfl
    have s33 := (hk 19 (by decide)).at (d := 33) rfl rfl rfl
    have s34 := (hk 20 (by decide)).at (d := 34) rfl rfl rfl
    have s35 := (hk 21 (by decide)).at (d := 35) rfl rfl rfl
    have s36 := (hk 22 (by decide)).at (d := 36) rfl rfl rfl
    have s37 := (hk 23 (by decide)).at (d := 37) rfl rfl rfl
    have s38 := (hk 24 (by decide)).at (d := 38) rfl rfl rfl
    have s39 := (hk 25 (by decide)).at (d := 39) rfl rfl rfl
    have s40 := (hk 26 (by decide)).at (d := 40) rfl rfl rfl
    have hlit := hS.lit _ (by kernel_rfl) (lits_cons s14 (lits_cons s15 (lits_cons s16 (lits_cons s17 (lits_cons s18 (lits_cons s19 (lits_cons s20 (lits_cons s21 (lits_cons s22 (lits_cons s23 (lits_cons s24 (lits_cons s25 (lits_cons s26 (lits_cons s27 (lits_cons s28 (lits_cons s29 (lits_cons s30 (lits_cons s31 (lits_cons s32 (lits_cons s33 (lits_cons s34 (lits_cons s35 (lits_cons s36 (lits_cons s37 (lits_cons s38 (lits_cons s39 (lits_cons s40 lits_nil)))))))))))))))))))))))))))
    rw [hlit]
    clear hlit hk hS s14 s15 s16 s17 s18 s19 s20 s21 s22 s23 s24 s25 s26 s27 s28 s29 s30 s31 s32 s33 s34 s35 s36 s37 s38 s39 s40
    have HEu := hide (HEw.out.to (hgu uq))
    have HBu := hide (below_to HBw.out (Nat.le_refl _) (hgu uq))
    have y0 := (HEu.out.cell 0).trans (show _ = some (Value.int .i64 0) from rfl)
    have yf := HEu.out.frozen 0
    simp only [litT, List.setIfInBounds_toArray, List.set_cons_succ, List.set_cons_zero]
    clear k0 p0 p1 p2 p3 z0 z1 z2
    go_wp2_with fail
    refine bodyPost_ret (results_errno rfl _ _ (w.heap.size + 1 + 1) _ rfl (HEu.out.set_ 0 (.int .i64 17))) rfl (accept_same HC.out ?_)
    exact HBu.out.setCell (p := ⟨w.heap.size + 1 + 1, 0, none⟩) (by show _ ≤ w.heap.size + 1 + 1; omega) _
set_option maxRecDepth 100000 in
set_option maxHeartbeats 400000 in
theorem Accept_size (b : Nat) (root : List UInt8) (size : Int) (its : List (List UInt8)) (v : Value) (p : Pg) (hp : p.fit) (hf : formedB p = true) (hh : p.root = root ∧ ¬ p.size = size) (vi vp : Value) (w : World) (hcl : CliAt b root size its v w) (hvi : TextsAt w vi p.items) (hvp : PathsAt w vp p.paths) :
    Calls Tryz.prog 11 #[cliP b, .agg (p.cs vi vp)] w (AcceptR b root size 17 its v w) := by
  have hq := fun q hq => (⟨hp.nq q hq, hp.lq q hq⟩ : q.length ≤ 200000 ∧ ∀ x ∈ q, x.length ≤ 100000)
  have CF := fun w' (hb : Below w.heap.size w w') => formed_any p hp.lr hp.li hq vi vp w' (hvi.to hb) (hvp.to hb)
  rw [hf] at CF
  obtain ⟨Ai, ci, rfl, hci⟩ := hvi.slice
  obtain ⟨Ap, cp, rfl, hcp⟩ := hvp.slice
  obtain ⟨⟨hfr, hsz, _, hn50, hpl⟩, _⟩ := formed_spec hf
  have HC := hide hcl
  have HVI := hide hvi
  have HVP := hide hvp
  clear hvi hvp hcl hq
  unfold Pg.cs at CF ⊢
  unfold cliP
  have hb0 : Below w.heap.size w (((w.alloc (.cells #[.pointer (some ⟨b, 0, none⟩)] 30)).alloc (.cells #[.int .i64 p.fr, .int .i64 p.size, .string (bs p.root), .slice Ai p.items.length ci, .slice Ap p.paths.length cp] 38)).alloc (.cells #[.int .i64 0] 39)) := (((Below.refl _ w).alloc (Nat.le_refl _) _).alloc (by simp) _).alloc (by simp; omega) _
  have he := Blk.new ((w.alloc (.cells #[.pointer (some ⟨b, 0, none⟩)] 30)).alloc (.cells #[.int .i64 p.fr, .int .i64 p.size, .string (bs p.root), .slice Ai p.items.length ci, .slice Ap p.paths.length cp] 38)) 39 #[.int .i64 0]
  rw [World.size_alloc, World.size_alloc] at he
  have hb1 := (Blk.new (w.alloc (.cells #[.pointer (some ⟨b, 0, none⟩)] 30)) 38 #[.int .i64 p.fr, .int .i64 p.size, .string (bs p.root), .slice Ai p.items.length ci, .slice Ap p.paths.length cp]).alloc (.cells #[.int .i64 0] 39)
  rw [World.size_alloc] at hb1
  have hb2 := ((Blk.new w 30 #[.pointer (some ⟨b, 0, none⟩)]).alloc (.cells #[.int .i64 p.fr, .int .i64 p.size, .string (bs p.root), .slice Ai p.items.length ci, .slice Ap p.paths.length cp] 38)).alloc (.cells #[.int .i64 0] 39)
  have HB0 := hide hb0
  have HE := hide he
  have HP1 := hide hb1
  have HP0 := hide hb2
  have HPL := hide hpl
  clear hb0 he hb1 hb2 hpl
  have e1 : ((bs p.root).toList == (bs root).toList) = true := by rw [beq_iff_eq, bs_toList, bs_toList]; exact hh.1
  have e2 : (p.size == size) = false := by rw [beq_eq_false_iff_ne]; exact hh.2
  have e3 : (p.size != size) = true := by rw [bne_iff_ne]; exact hh.2
  clear hh hf
  go_enter Tryz.func11, Tryz.ntmps11
  go_wp2_with fail
  refine (CF _ HB0.out).mono ?_
  rintro e w2 ⟨rfl, hb2⟩
  have HB2 := hide hb2
  have HEw := hide (HE.out.to hb2)
  have HP1w := hide (HP1.out.to hb2)
  have HP0w := hide (HP0.out.to hb2)
  have HBw := hide (below_to HB0.out (Nat.le_refl _) hb2)
  clear hb2 CF
  go_wp2_with fail
  have HC2 := hide (HC.out.to HBw.out)
  obtain ⟨Av, cv, rfl⟩ := own_sl4 HC.out.own
  obtain ⟨U, hU, g, u0, rfl, hgu, hi⟩ := cls w2
  have k0 := fun u => ((HP0w.out.to (hgu u)).cell 0).trans (show _ = some (Value.pointer (some ⟨b, 0, none⟩)) from rfl)
  have p0 := fun u => ((HP1w.out.to (hgu u)).cell 0).trans (show _ = some (Value.int .i64 p.fr) from rfl)
  have p1 := fun u => ((HP1w.out.to (hgu u)).cell 1).trans (show _ = some (Value.int .i64 p.size) from rfl)
  have p2 := fun u => ((HP1w.out.to (hgu u)).cell 2).trans (show _ = some (Value.string (bs p.root)) from rfl)
  have p3 := fun u => ((HP1w.out.to (hgu u)).cell 3).trans (show _ = some (Value.slice Ai p.items.length ci) from rfl)
  have z0 := fun u => ((HC2.out.blk.to (hgu u)).cell 0).trans (show _ = some (Value.string (bs root)) from rfl)
  have z1 := fun u => ((HC2.out.blk.to (hgu u)).cell 1).trans (show _ = some (Value.int .i64 size) from rfl)
  have z2 := fun u => ((HC2.out.blk.to (hgu u)).cell 2).trans (show _ = some (Value.slice Av its.length cv) from rfl)
  apply wp_region_looseG g (V := [some _, some _, some _, some _, some _, some _, some _, some _, some _, some _, some _, some _, some _, some _, some _, some _, some _, some _, some _, some _, some _, some _, some _, some _, some _, some _, some _]) (Fs := []) (Rel := fun _ w w' => Below w.heap.size w w')
  case hm => kernel_rfl
  case hB => kernel_rfl
  case hCw => exact hi _ (hgu _).drew
  case hC =>
    rintro i uq w' hr
    exact hi _ (below_to (hgu uq) (Nat.le_refl _) hr)
  case hst =>
    exact keeps_nil
  case hop =>
    refine ⟨?_, ?_, ?_, ?_, ?_, ?_, ?_, ?_, ?_, ?_, ?_, ?_, ?_, ?_, ?_, ?_, ?_, ?_, ?_, ?_, ?_, ?_, ?_, ?_, ?_, ?_, ?_, trivial⟩
    · intro a uq K hS hd hK
      have s3 := hS.at 3 (by kernel_rfl) rfl
      rw [if_pos (want_free rfl)]
      go_simp
      exact hK _ _ (Below.refl _ _) (vok rfl) facts_nil
    · intro a uq K hS hd hK
      have s14 := (waits_on hd 0 (by kernel_rfl)).at (d := 14) rfl rfl rfl
      rw [if_pos (want_free rfl)]
      have c := p2 uq
      go_simp
      exact hK _ _ (Below.refl _ _) (vok rfl) facts_nil
    · intro a uq K hS hd hK
      have s2 := hS.at 2 (by kernel_rfl) rfl
      rw [if_pos (want_free rfl)]
      have c := k0 uq
      go_simp
      exact hK _ _ (Below.refl _ _) (vok rfl) facts_nil
    · intro a uq K hS hd hK
      have s16 := (waits_on hd 2 (by kernel_rfl)).at (d := 16) rfl rfl rfl
      rw [if_pos (want_free rfl)]
      go_simp
      exact hK _ _ (Below.refl _ _) (vok rfl) facts_nil
    · intro a uq K hS hd hK
      have s17 := (waits_on hd 3 (by kernel_rfl)).at (d := 17) rfl rfl rfl
      rw [if_pos (want_free rfl)]
      go_simp
      exact hK _ _ (Below.refl _ _) (vok rfl) facts_nil
    · intro a uq K hS hd hK
      have s18 := (waits_on hd 4 (by kernel_rfl)).at (d := 18) rfl rfl rfl
      rw [if_pos (want_free rfl)]
      have c := z0 uq
      go_simp
      exact hK _ _ (Below.refl _ _) (vok rfl) facts_nil
    · intro a uq K hS hd hK
      have s15 := (waits_on hd 1 (by kernel_rfl)).at (d := 15) rfl rfl rfl
      have s19 := (waits_on hd 5 (by kernel_rfl)).at (d := 19) rfl rfl rfl
      rw [if_pos (want_free rfl)]
      go_simp
      exact hK _ _ (Below.refl _ _) (vok rfl) facts_nil
    · intro a uq K hS hd hK
      have s20 := (waits_on hd 6 (by kernel_rfl)).at (d := 20) rfl rfl rfl
      rw [if_pos (want_free rfl)]
      go_simp
      exact hK _ _ (Below.refl _ _) (vok rfl) facts_nil
    · intro a uq K hS hd hK
      have s21 := (waits_on hd 7 (by kernel_rfl)).at (d := 21) rfl rfl rfl
      have s3 := hS.at 3 (by kernel_rfl) rfl
      rw [if_pos (want_yes rfl rfl rfl s21)]
      go_simp
      exact hK _ _ (Below.refl _ _) (vok rfl) facts_nil
    · intro a uq K hS hd hK
      have s21 := (waits_on hd 7 (by kernel_rfl)).at (d := 21) rfl rfl rfl
      have s22 := (waits_on hd 8 (by kernel_rfl)).at (d := 22) rfl rfl rfl
      rw [if_pos (want_yes rfl rfl rfl s21)]
      have c := p1 uq
      go_simp
      exact hK _ _ (Below.refl _ _) (vok rfl) facts_nil
    · intro a uq K hS hd hK
      have s21 := (waits_on hd 7 (by kernel_rfl)).at (d := 21) rfl rfl rfl
      have s2 := hS.at 2 (by kernel_rfl) rfl
      rw [if_pos (want_yes rfl rfl rfl s21)]
      have c := k0 uq
      go_simp
      exact hK _ _ (Below.refl _ _) (vok rfl) facts_nil
    · intro a uq K hS hd hK
      have s21 := (waits_on hd 7 (by kernel_rfl)).at (d := 21) rfl rfl rfl
      have s24 := (waits_on hd 10 (by kernel_rfl)).at (d := 24) rfl rfl rfl
      rw [if_pos (want_yes rfl rfl rfl s21)]
      go_simp
      exact hK _ _ (Below.refl _ _) (vok rfl) facts_nil
    · intro a uq K hS hd hK
      have s21 := (waits_on hd 7 (by kernel_rfl)).at (d := 21) rfl rfl rfl
      have s25 := (waits_on hd 11 (by kernel_rfl)).at (d := 25) rfl rfl rfl
      rw [if_pos (want_yes rfl rfl rfl s21)]
      go_simp
      exact hK _ _ (Below.refl _ _) (vok rfl) facts_nil
    · intro a uq K hS hd hK
      have s21 := (waits_on hd 7 (by kernel_rfl)).at (d := 21) rfl rfl rfl
      have s26 := (waits_on hd 12 (by kernel_rfl)).at (d := 26) rfl rfl rfl
      rw [if_pos (want_yes rfl rfl rfl s21)]
      have c := z1 uq
      go_simp
      exact hK _ _ (Below.refl _ _) (vok rfl) facts_nil
    · intro a uq K hS hd hK
      have s21 := (waits_on hd 7 (by kernel_rfl)).at (d := 21) rfl rfl rfl
      have s23 := (waits_on hd 9 (by kernel_rfl)).at (d := 23) rfl rfl rfl
      have s27 := (waits_on hd 13 (by kernel_rfl)).at (d := 27) rfl rfl rfl
      rw [if_pos (want_yes rfl rfl rfl s21)]
      go_simp
      exact hK _ _ (Below.refl _ _) (vok rfl) facts_nil
    · intro a uq K hS hd hK
      have s21 := (waits_on hd 7 (by kernel_rfl)).at (d := 21) rfl rfl rfl
      have s28 := (waits_on hd 14 (by kernel_rfl)).at (d := 28) rfl rfl rfl
      rw [if_pos (want_free rfl)]
      go_simp
      exact hK _ _ (Below.refl _ _) (vok rfl) facts_nil
    · intro a uq K hS hd hK
      have s29 := (waits_on hd 15 (by kernel_rfl)).at (d := 29) rfl rfl rfl
      rw [if_pos (want_free rfl)]
      go_simp
      exact hK _ _ (Below.refl _ _) (vok rfl) facts_nil
    · intro a uq K hS hd hK
      have s30 := (waits_on hd 16 (by kernel_rfl)).at (d := 30) rfl rfl rfl
      rw [if_neg (want_no rfl rfl rfl s30 rfl)]
      exact hK _ _ (Below.refl _ _) (vok rfl) facts_nil
    · intro a uq K hS hd hK
      have s30 := (waits_on hd 16 (by kernel_rfl)).at (d := 30) rfl rfl rfl
      rw [if_neg (want_no rfl rfl rfl s30 rfl)]
      exact hK _ _ (Below.refl _ _) (vok rfl) facts_nil
    · intro a uq K hS hd hK
      have s30 := (waits_on hd 16 (by kernel_rfl)).at (d := 30) rfl rfl rfl
      rw [if_neg (want_no rfl rfl rfl s30 rfl)]
      exact hK _ _ (Below.refl _ _) (vok rfl) facts_nil
    · intro a uq K hS hd hK
      have s30 := (waits_on hd 16 (by kernel_rfl)).at (d := 30) rfl rfl rfl
      rw [if_neg (want_no rfl rfl rfl s30 rfl)]
      exact hK _ _ (Below.refl _ _) (vok rfl) facts_nil
    · intro a uq K hS hd hK
      have s30 := (waits_on hd 16 (by kernel_rfl)).at (d := 30) rfl rfl rfl
      rw [if_neg (want_no rfl rfl rfl s30 rfl)]
      exact hK _ _ (Below.refl _ _) (vok rfl) facts_nil
    · intro a uq K hS hd hK
      have s30 := (waits_on hd 16 (by kernel_rfl)).at (d := 30) rfl rfl rfl
      rw [if_neg (want_no rfl rfl rfl s30 rfl)]
      exact hK _ _ (Below.refl _ _) (vok rfl) facts_nil
    · intro a uq K hS hd hK
      have s30 := (waits_on hd 16 (by kernel_rfl)).at (d := 30) rfl rfl rfl
      rw [if_neg (want_no rfl rfl rfl s30 rfl)]
      exact hK _ _ (Below.refl _ _) (vok rfl) facts_nil
    · intro a uq K hS hd hK
      have s30 := (waits_on hd 16 (by kernel_rfl)).at (d := 30) rfl rfl rfl
      rw [if_neg (want_no rfl rfl rfl s30 rfl)]
      exact hK _ _ (Below.refl _ _) (vok rfl) facts_nil
    · intro a uq K hS hd hK
      have s30 := (waits_on hd 16 (by kernel_rfl)).at (d := 30) rfl rfl rfl
      rw [if_neg (want_no rfl rfl rfl s30 rfl)]
      exact hK _ _ (Below.refl _ _) (vok rfl) facts_nil
    · intro a uq K hS hd hK
      have s30 := (waits_on hd 16 (by kernel_rfl)).at (d := 30) rfl rfl rfl
      have s39 := (waits_on hd 25 (by kernel_rfl)).at (d := 39) rfl rfl rfl
      rw [if_pos (want_free rfl)]
      go_simp
      exact hK _ _ (Below.refl _ _) (vok rfl) facts_nil
  case hfin =>
    intro a uq hS hk
    have s14 := (hk 0 (by decide)).at (d := 14) rfl rfl rfl
    have s15 := (hk 1 (by decide)).at (d := 15) rfl rfl rfl
    have s16 := (hk 2 (by decide)).at (d := 16) rfl rfl rfl
    have s17 := (hk 3 (by decide)).at (d := 17) rfl rfl rfl
    have s18 := (hk 4 (by decide)).at (d := 18) rfl rfl rfl
    have s19 := (hk 5 (by decide)).at (d := 19) rfl rfl rfl
    have s20 := (hk 6 (by decide)).at (d := 20) rfl rfl rfl
    have s21 := (hk 7 (by decide)).at (d := 21) rfl rfl rfl
    have s22 := (hk 8 (by decide)).at (d := 22) rfl rfl rfl
    have s23 := (hk 9 (by decide)).at (d := 23) rfl rfl rfl
    have s24 := (hk 10 (by decide)).at (d := 24) rfl rfl rfl
    have s25 := (hk 11 (by decide)).at (d := 25) rfl rfl rfl
    have s26 := (hk 12 (by decide)).at (d := 26) rfl rfl rfl
    have s27 := (hk 13 (by decide)).at (d := 27) rfl rfl rfl
    have s28 := (hk 14 (by decide)).at (d := 28) rfl rfl rfl
    have s29 := (hk 15 (by decide)).at (d := 29) rfl rfl rfl
    have s30 := (hk 16 (by decide)).at (d := 30) rfl rfl rfl
    have s31 := (hk 17 (by decide)).at (d := 31) rfl rfl rfl
    have s32 := (hk 18 (by decide)).at (d := 32) rfl rfl rfl
    have s33 := (hk 19 (by decide)).at (d := 33) rfl rfl rfl
    have s34 := (hk 20 (by decide)).at (d := 34) rfl rfl rfl
    have s35 := (hk 21 (by decide)).at (d := 35) rfl rfl rfl
    have s36 := (hk 22 (by decide)).at (d := 36) rfl rfl rfl
    have s37 := (hk 23 (by decide)).at (d := 37) rfl rfl rfl
    have s38 := (hk 24 (by decide)).at (d := 38) rfl rfl rfl
    have s39 := (hk 25 (by decide)).at (d := 39) rfl rfl rfl
    have s40 := (hk 26 (by decide)).at (d := 40) rfl rfl rfl
    have hlit := hS.lit _ (by kernel_rfl) (lits_cons s14 (lits_cons s15 (lits_cons s16 (lits_cons s17 (lits_cons s18 (lits_cons s19 (lits_cons s20 (lits_cons s21 (lits_cons s22 (lits_cons s23 (lits_cons s24 (lits_cons s25 (lits_cons s26 (lits_cons s27 (lits_cons s28 (lits_cons s29 (lits_cons s30 (lits_cons s31 (lits_cons s32 (lits_cons s33 (lits_cons s34 (lits_cons s35 (lits_cons s36 (lits_cons s37 (lits_cons s38 (lits_cons s39 (lits_cons s40 lits_nil)))))))))))))))))))))))))))
    rw [hlit]
    clear hlit hk hS s14 s15 s16 s17 s18 s19 s20 s21 s22 s23 s24 s25 s26 s27 s28 s29 s30 s31 s32 s33 s34 s35 s36 s37 s38 s39 s40
    have HEu := hide (HEw.out.to (hgu uq))
    have HBu := hide (below_to HBw.out (Nat.le_refl _) (hgu uq))
    have y0 := (HEu.out.cell 0).trans (show _ = some (Value.int .i64 0) from rfl)
    have yf := HEu.out.frozen 0
    simp only [litT, List.setIfInBounds_toArray, List.set_cons_succ, List.set_cons_zero]
    clear k0 p0 p1 p2 p3 z0 z1 z2
    go_wp2_with fail
    refine bodyPost_ret (results_errno rfl _ _ (w.heap.size + 1 + 1) _ rfl (HEu.out.set_ 0 (.int .i64 17))) rfl (accept_same HC.out ?_)
    exact HBu.out.setCell (p := ⟨w.heap.size + 1 + 1, 0, none⟩) (by show _ ≤ w.heap.size + 1 + 1; omega) _
set_option maxRecDepth 100000 in
set_option maxHeartbeats 400000 in
theorem Accept_far (b : Nat) (root : List UInt8) (size : Int) (its : List (List UInt8)) (v : Value) (p : Pg) (hp : p.fit) (hf : formedB p = true) (hh : p.root = root ∧ p.size = size ∧ ¬ p.fr ≤ p.size - p.items.length) (vi vp : Value) (w : World) (hcl : CliAt b root size its v w) (hvi : TextsAt w vi p.items) (hvp : PathsAt w vp p.paths) :
    Calls Tryz.prog 11 #[cliP b, .agg (p.cs vi vp)] w (AcceptR b root size 17 its v w) := by
  have hq := fun q hq => (⟨hp.nq q hq, hp.lq q hq⟩ : q.length ≤ 200000 ∧ ∀ x ∈ q, x.length ≤ 100000)
  have CF := fun w' (hb : Below w.heap.size w w') => formed_any p hp.lr hp.li hq vi vp w' (hvi.to hb) (hvp.to hb)
  rw [hf] at CF
  obtain ⟨Ai, ci, rfl, hci⟩ := hvi.slice
  obtain ⟨Ap, cp, rfl, hcp⟩ := hvp.slice
  obtain ⟨⟨hfr, hsz, _, hn50, hpl⟩, _⟩ := formed_spec hf
  have HC := hide hcl
  have HVI := hide hvi
  have HVP := hide hvp
  clear hvi hvp hcl hq
  unfold Pg.cs at CF ⊢
  unfold cliP
  have hb0 : Below w.heap.size w (((w.alloc (.cells #[.pointer (some ⟨b, 0, none⟩)] 30)).alloc (.cells #[.int .i64 p.fr, .int .i64 p.size, .string (bs p.root), .slice Ai p.items.length ci, .slice Ap p.paths.length cp] 38)).alloc (.cells #[.int .i64 0] 39)) := (((Below.refl _ w).alloc (Nat.le_refl _) _).alloc (by simp) _).alloc (by simp; omega) _
  have he := Blk.new ((w.alloc (.cells #[.pointer (some ⟨b, 0, none⟩)] 30)).alloc (.cells #[.int .i64 p.fr, .int .i64 p.size, .string (bs p.root), .slice Ai p.items.length ci, .slice Ap p.paths.length cp] 38)) 39 #[.int .i64 0]
  rw [World.size_alloc, World.size_alloc] at he
  have hb1 := (Blk.new (w.alloc (.cells #[.pointer (some ⟨b, 0, none⟩)] 30)) 38 #[.int .i64 p.fr, .int .i64 p.size, .string (bs p.root), .slice Ai p.items.length ci, .slice Ap p.paths.length cp]).alloc (.cells #[.int .i64 0] 39)
  rw [World.size_alloc] at hb1
  have hb2 := ((Blk.new w 30 #[.pointer (some ⟨b, 0, none⟩)]).alloc (.cells #[.int .i64 p.fr, .int .i64 p.size, .string (bs p.root), .slice Ai p.items.length ci, .slice Ap p.paths.length cp] 38)).alloc (.cells #[.int .i64 0] 39)
  have HB0 := hide hb0
  have HE := hide he
  have HP1 := hide hb1
  have HP0 := hide hb2
  have HPL := hide hpl
  clear hb0 he hb1 hb2 hpl
  have e1 : ((bs p.root).toList == (bs root).toList) = true := by rw [beq_iff_eq, bs_toList, bs_toList]; exact hh.1
  have e2 : (p.size == size) = true := by rw [beq_iff_eq]; exact hh.2.1
  have e3 : (p.size != size) = false := by rw [bne, e2]; rfl
  have ew : IntKind.i64.wrap (p.size - (p.items.length : Int)) = p.size - (p.items.length : Int) := w64 (by omega) (by omega)
  have e4 : decide (p.size - (p.items.length : Int) < p.fr) = true := decide_eq_true (by have := hh.2.2; omega)
  clear hh hf
  go_enter Tryz.func11, Tryz.ntmps11
  go_wp2_with fail
  refine (CF _ HB0.out).mono ?_
  rintro e w2 ⟨rfl, hb2⟩
  have HB2 := hide hb2
  have HEw := hide (HE.out.to hb2)
  have HP1w := hide (HP1.out.to hb2)
  have HP0w := hide (HP0.out.to hb2)
  have HBw := hide (below_to HB0.out (Nat.le_refl _) hb2)
  clear hb2 CF
  go_wp2_with fail
  have HC2 := hide (HC.out.to HBw.out)
  obtain ⟨Av, cv, rfl⟩ := own_sl4 HC.out.own
  obtain ⟨U, hU, g, u0, rfl, hgu, hi⟩ := cls w2
  have k0 := fun u => ((HP0w.out.to (hgu u)).cell 0).trans (show _ = some (Value.pointer (some ⟨b, 0, none⟩)) from rfl)
  have p0 := fun u => ((HP1w.out.to (hgu u)).cell 0).trans (show _ = some (Value.int .i64 p.fr) from rfl)
  have p1 := fun u => ((HP1w.out.to (hgu u)).cell 1).trans (show _ = some (Value.int .i64 p.size) from rfl)
  have p2 := fun u => ((HP1w.out.to (hgu u)).cell 2).trans (show _ = some (Value.string (bs p.root)) from rfl)
  have p3 := fun u => ((HP1w.out.to (hgu u)).cell 3).trans (show _ = some (Value.slice Ai p.items.length ci) from rfl)
  have z0 := fun u => ((HC2.out.blk.to (hgu u)).cell 0).trans (show _ = some (Value.string (bs root)) from rfl)
  have z1 := fun u => ((HC2.out.blk.to (hgu u)).cell 1).trans (show _ = some (Value.int .i64 size) from rfl)
  have z2 := fun u => ((HC2.out.blk.to (hgu u)).cell 2).trans (show _ = some (Value.slice Av its.length cv) from rfl)
  apply wp_region_looseG g (V := [some _, some _, some _, some _, some _, some _, some _, some _, some _, some _, some _, some _, some _, some _, some _, some _, some _, some _, some _, some _, some _, some _, some _, some _, some _, some _, some _]) (Fs := []) (Rel := fun _ w w' => Below w.heap.size w w')
  case hm => kernel_rfl
  case hB => kernel_rfl
  case hCw => exact hi _ (hgu _).drew
  case hC =>
    rintro i uq w' hr
    exact hi _ (below_to (hgu uq) (Nat.le_refl _) hr)
  case hst =>
    exact keeps_nil
  case hop =>
    refine ⟨?_, ?_, ?_, ?_, ?_, ?_, ?_, ?_, ?_, ?_, ?_, ?_, ?_, ?_, ?_, ?_, ?_, ?_, ?_, ?_, ?_, ?_, ?_, ?_, ?_, ?_, ?_, trivial⟩
    · intro a uq K hS hd hK
      have s3 := hS.at 3 (by kernel_rfl) rfl
      rw [if_pos (want_free rfl)]
      go_simp
      exact hK _ _ (Below.refl _ _) (vok rfl) facts_nil
    · intro a uq K hS hd hK
      have s14 := (waits_on hd 0 (by kernel_rfl)).at (d := 14) rfl rfl rfl
      rw [if_pos (want_free rfl)]
      have c := p2 uq
      go_simp
      exact hK _ _ (Below.refl _ _) (vok rfl) facts_nil
    · intro a uq K hS hd hK
      have s2 := hS.at 2 (by kernel_rfl) rfl
      rw [if_pos (want_free rfl)]
      have c := k0 uq
      go_simp
      exact hK _ _ (Below.refl _ _) (vok rfl) facts_nil
    · intro a uq K hS hd hK
      have s16 := (waits_on hd 2 (by kernel_rfl)).at (d := 16) rfl rfl rfl
      rw [if_pos (want_free rfl)]
      go_simp
      exact hK _ _ (Below.refl _ _) (vok rfl) facts_nil
    · intro a uq K hS hd hK
      have s17 := (waits_on hd 3 (by kernel_rfl)).at (d := 17) rfl rfl rfl
      rw [if_pos (want_free rfl)]
      go_simp
      exact hK _ _ (Below.refl _ _) (vok rfl) facts_nil
    · intro a uq K hS hd hK
      have s18 := (waits_on hd 4 (by kernel_rfl)).at (d := 18) rfl rfl rfl
      rw [if_pos (want_free rfl)]
      have c := z0 uq
      go_simp
      exact hK _ _ (Below.refl _ _) (vok rfl) facts_nil
    · intro a uq K hS hd hK
      have s15 := (waits_on hd 1 (by kernel_rfl)).at (d := 15) rfl rfl rfl
      have s19 := (waits_on hd 5 (by kernel_rfl)).at (d := 19) rfl rfl rfl
      rw [if_pos (want_free rfl)]
      go_simp
      exact hK _ _ (Below.refl _ _) (vok rfl) facts_nil
    · intro a uq K hS hd hK
      have s20 := (waits_on hd 6 (by kernel_rfl)).at (d := 20) rfl rfl rfl
      rw [if_pos (want_free rfl)]
      go_simp
      exact hK _ _ (Below.refl _ _) (vok rfl) facts_nil
    · intro a uq K hS hd hK
      have s21 := (waits_on hd 7 (by kernel_rfl)).at (d := 21) rfl rfl rfl
      have s3 := hS.at 3 (by kernel_rfl) rfl
      rw [if_pos (want_yes rfl rfl rfl s21)]
      go_simp
      exact hK _ _ (Below.refl _ _) (vok rfl) facts_nil
    · intro a uq K hS hd hK
      have s21 := (waits_on hd 7 (by kernel_rfl)).at (d := 21) rfl rfl rfl
      have s22 := (waits_on hd 8 (by kernel_rfl)).at (d := 22) rfl rfl rfl
      rw [if_pos (want_yes rfl rfl rfl s21)]
      have c := p1 uq
      go_simp
      exact hK _ _ (Below.refl _ _) (vok rfl) facts_nil
    · intro a uq K hS hd hK
      have s21 := (waits_on hd 7 (by kernel_rfl)).at (d := 21) rfl rfl rfl
      have s2 := hS.at 2 (by kernel_rfl) rfl
      rw [if_pos (want_yes rfl rfl rfl s21)]
      have c := k0 uq
      go_simp
      exact hK _ _ (Below.refl _ _) (vok rfl) facts_nil
    · intro a uq K hS hd hK
      have s21 := (waits_on hd 7 (by kernel_rfl)).at (d := 21) rfl rfl rfl
      have s24 := (waits_on hd 10 (by kernel_rfl)).at (d := 24) rfl rfl rfl
      rw [if_pos (want_yes rfl rfl rfl s21)]
      go_simp
      exact hK _ _ (Below.refl _ _) (vok rfl) facts_nil
    · intro a uq K hS hd hK
      have s21 := (waits_on hd 7 (by kernel_rfl)).at (d := 21) rfl rfl rfl
      have s25 := (waits_on hd 11 (by kernel_rfl)).at (d := 25) rfl rfl rfl
      rw [if_pos (want_yes rfl rfl rfl s21)]
      go_simp
      exact hK _ _ (Below.refl _ _) (vok rfl) facts_nil
    · intro a uq K hS hd hK
      have s21 := (waits_on hd 7 (by kernel_rfl)).at (d := 21) rfl rfl rfl
      have s26 := (waits_on hd 12 (by kernel_rfl)).at (d := 26) rfl rfl rfl
      rw [if_pos (want_yes rfl rfl rfl s21)]
      have c := z1 uq
      go_simp
      exact hK _ _ (Below.refl _ _) (vok rfl) facts_nil
    · intro a uq K hS hd hK
      have s21 := (waits_on hd 7 (by kernel_rfl)).at (d := 21) rfl rfl rfl
      have s23 := (waits_on hd 9 (by kernel_rfl)).at (d := 23) rfl rfl rfl
      have s27 := (waits_on hd 13 (by kernel_rfl)).at (d := 27) rfl rfl rfl
      rw [if_pos (want_yes rfl rfl rfl s21)]
      go_simp
      exact hK _ _ (Below.refl _ _) (vok rfl) facts_nil
    · intro a uq K hS hd hK
      have s21 := (waits_on hd 7 (by kernel_rfl)).at (d := 21) rfl rfl rfl
      have s28 := (waits_on hd 14 (by kernel_rfl)).at (d := 28) rfl rfl rfl
      rw [if_pos (want_free rfl)]
      go_simp
      exact hK _ _ (Below.refl _ _) (vok rfl) facts_nil
    · intro a uq K hS hd hK
      have s29 := (waits_on hd 15 (by kernel_rfl)).at (d := 29) rfl rfl rfl
      rw [if_pos (want_free rfl)]
      go_simp
      exact hK _ _ (Below.refl _ _) (vok rfl) facts_nil
    · intro a uq K hS hd hK
      have s30 := (waits_on hd 16 (by kernel_rfl)).at (d := 30) rfl rfl rfl
      have s3 := hS.at 3 (by kernel_rfl) rfl
      rw [if_pos (want_yes rfl rfl rfl s30)]
      go_simp
      exact hK _ _ (Below.refl _ _) (vok rfl) facts_nil
    · intro a uq K hS hd hK
      have s30 := (waits_on hd 16 (by kernel_rfl)).at (d := 30) rfl rfl rfl
      have s31 := (waits_on hd 17 (by kernel_rfl)).at (d := 31) rfl rfl rfl
      rw [if_pos (want_yes rfl rfl rfl s30)]
      have c := p0 uq
      go_simp
      exact hK _ _ (Below.refl _ _) (vok rfl) facts_nil
    · intro a uq K hS hd hK
      have s30 := (waits_on hd 16 (by kernel_rfl)).at (d := 30) rfl rfl rfl
      have s3 := hS.at 3 (by kernel_rfl) rfl
      rw [if_pos (want_yes rfl rfl rfl s30)]
      go_simp
      exact hK _ _ (Below.refl _ _) (vok rfl) facts_nil
    · intro a uq K hS hd hK
      have s30 := (waits_on hd 16 (by kernel_rfl)).at (d := 30) rfl rfl rfl
      have s33 := (waits_on hd 19 (by kernel_rfl)).at (d := 33) rfl rfl rfl
      rw [if_pos (want_yes rfl rfl rfl s30)]
      have c := p1 uq
      go_simp
      exact hK _ _ (Below.refl _ _) (vok rfl) facts_nil
    · intro a uq K hS hd hK
      have s30 := (waits_on hd 16 (by kernel_rfl)).at (d := 30) rfl rfl rfl
      have s3 := hS.at 3 (by kernel_rfl) rfl
      rw [if_pos (want_yes rfl rfl rfl s30)]
      go_simp
      exact hK _ _ (Below.refl _ _) (vok rfl) facts_nil
    · intro a uq K hS hd hK
      have s30 := (waits_on hd 16 (by kernel_rfl)).at (d := 30) rfl rfl rfl
      have s35 := (waits_on hd 21 (by kernel_rfl)).at (d := 35) rfl rfl rfl
      rw [if_pos (want_yes rfl rfl rfl s30)]
      have c := p3 uq
      go_simp
      exact hK _ _ (Below.refl _ _) (vok rfl) facts_nil
    · intro a uq K hS hd hK
      have s30 := (waits_on hd 16 (by kernel_rfl)).at (d := 30) rfl rfl rfl
      have s36 := (waits_on hd 22 (by kernel_rfl)).at (d := 36) rfl rfl rfl
      rw [if_pos (want_yes rfl rfl rfl s30)]
      go_simp
      exact hK _ _ (Below.refl _ _) (vok rfl) facts_nil
    · intro a uq K hS hd hK
      have s30 := (waits_on hd 16 (by kernel_rfl)).at (d := 30) rfl rfl rfl
      have s34 := (waits_on hd 20 (by kernel_rfl)).at (d := 34) rfl rfl rfl
      have s37 := (waits_on hd 23 (by kernel_rfl)).at (d := 37) rfl rfl rfl
      rw [if_pos (want_yes rfl rfl rfl s30)]
      go_simp
      exact hK _ _ (Below.refl _ _) (vok rfl) facts_nil
    · intro a uq K hS hd hK
      have s30 := (waits_on hd 16 (by kernel_rfl)).at (d := 30) rfl rfl rfl
      have s32 := (waits_on hd 18 (by kernel_rfl)).at (d := 32) rfl rfl rfl
      have s38 := (waits_on hd 24 (by kernel_rfl)).at (d := 38) rfl rfl rfl
      rw [if_pos (want_yes rfl rfl rfl s30)]
      go_simp
      exact hK _ _ (Below.refl _ _) (vok rfl) facts_nil
    · intro a uq K hS hd hK
      have s30 := (waits_on hd 16 (by kernel_rfl)).at (d := 30) rfl rfl rfl
      have s39 := (waits_on hd 25 (by kernel_rfl)).at (d := 39) rfl rfl rfl
      rw [if_pos (want_free rfl)]
      go_simp
      exact hK _ _ (Below.refl _ _) (vok rfl) facts_nil
  case hfin =>
    intro a uq hS hk
    have s14 := (hk 0 (by decide)).at (d := 14) rfl rfl rfl
    have s15 := (hk 1 (by decide)).at (d := 15) rfl rfl rfl
    have s16 := (hk 2 (by decide)).at (d := 16) rfl rfl rfl
    have s17 := (hk 3 (by decide)).at (d := 17) rfl rfl rfl
    have s18 := (hk 4 (by decide)).at (d := 18) rfl rfl rfl
    have s19 := (hk 5 (by decide)).at (d := 19) rfl rfl rfl
    have s20 := (hk 6 (by decide)).at (d := 20) rfl rfl rfl
    have s21 := (hk 7 (by decide)).at (d := 21) rfl rfl rfl
    have s22 := (hk 8 (by decide)).at (d := 22) rfl rfl rfl
    have s23 := (hk 9 (by decide)).at (d := 23) rfl rfl rfl
    have s24 := (hk 10 (by decide)).at (d := 24) rfl rfl rfl
    have s25 := (hk 11 (by decide)).at (d := 25) rfl rfl rfl
    have s26 := (hk 12 (by decide)).at (d := 26) rfl rfl rfl
    have s27 := (hk 13 (by decide)).at (d := 27) rfl rfl rfl
    have s28 := (hk 14 (by decide)).at (d := 28) rfl rfl rfl
    have s29 := (hk 15 (by decide)).at (d := 29) rfl rfl rfl
    have s30 := (hk 16 (by decide)).at (d := 30) rfl rfl rfl
    have s31 := (hk 17 (by decide)).at (d := 31) rfl rfl rfl
    have s32 := (hk 18 (by decide)).at (d := 32) rfl rfl rfl
    have s33 := (hk 19 (by decide)).at (d := 33) rfl rfl rfl
    have s34 := (hk 20 (by decide)).at (d := 34) rfl rfl rfl
    have s35 := (hk 21 (by decide)).at (d := 35) rfl rfl rfl
    have s36 := (hk 22 (by decide)).at (d := 36) rfl rfl rfl
    have s37 := (hk 23 (by decide)).at (d := 37) rfl rfl rfl
    have s38 := (hk 24 (by decide)).at (d := 38) rfl rfl rfl
    have s39 := (hk 25 (by decide)).at (d := 39) rfl rfl rfl
    have s40 := (hk 26 (by decide)).at (d := 40) rfl rfl rfl
    have hlit := hS.lit _ (by kernel_rfl) (lits_cons s14 (lits_cons s15 (lits_cons s16 (lits_cons s17 (lits_cons s18 (lits_cons s19 (lits_cons s20 (lits_cons s21 (lits_cons s22 (lits_cons s23 (lits_cons s24 (lits_cons s25 (lits_cons s26 (lits_cons s27 (lits_cons s28 (lits_cons s29 (lits_cons s30 (lits_cons s31 (lits_cons s32 (lits_cons s33 (lits_cons s34 (lits_cons s35 (lits_cons s36 (lits_cons s37 (lits_cons s38 (lits_cons s39 (lits_cons s40 lits_nil)))))))))))))))))))))))))))
    rw [hlit]
    clear hlit hk hS s14 s15 s16 s17 s18 s19 s20 s21 s22 s23 s24 s25 s26 s27 s28 s29 s30 s31 s32 s33 s34 s35 s36 s37 s38 s39 s40
    have HEu := hide (HEw.out.to (hgu uq))
    have HBu := hide (below_to HBw.out (Nat.le_refl _) (hgu uq))
    have y0 := (HEu.out.cell 0).trans (show _ = some (Value.int .i64 0) from rfl)
    have yf := HEu.out.frozen 0
    simp only [litT, List.setIfInBounds_toArray, List.set_cons_succ, List.set_cons_zero]
    clear k0 p0 p1 p2 p3 z0 z1 z2
    go_wp2_with fail
    refine bodyPost_ret (results_errno rfl _ _ (w.heap.size + 1 + 1) _ rfl (HEu.out.set_ 0 (.int .i64 17))) rfl (accept_same HC.out ?_)
    exact HBu.out.setCell (p := ⟨w.heap.size + 1 + 1, 0, none⟩) (by show _ ≤ w.heap.size + 1 + 1; omega) _
end Go.Proofs.YtnjlefggkfagmaaGreatDoor

/- A client: Accept, a page of the same log. -/
set_option linter.unusedVariables false
set_option linter.unusedSimpArgs false
namespace Go.Proofs.YtnjlefggkfagmaaGreatDoor
open Go.RowKit Go.Shelf
attribute [local go_sem] Oper.semAt_some

def AcceptR0 (b : Nat) (root : List UInt8) (size : Int) (p : Pg) (its : List (List UInt8)) (v : Value) (w : World) (k : Int) (e : Ending) (w' : World) : Prop :=
  e = .returned (.int .i64 k) ∧ ((((List.finRange p.items.length).all (p.checkAt root size) = false ∧ k = 17) ∨ ((List.finRange p.items.length).all (p.checkAt root size) = true ∧ (its.length : Int) < p.fr ∧ k = 13)) ∧ AcceptR b root size k its v w e w' ∨
    ((List.finRange p.items.length).all (p.checkAt root size) = true ∧ p.fr ≤ (its.length : Int) ∧ k = 0) ∧ AcceptR b root size k (its ++ p.items.drop (its.length - p.fr.toNat)) v w e w')
theorem CliAt.own_ {b : Nat} {root : List UInt8} {size : Int} {its : List (List UInt8)} {v : Value} {W W' : World} {row : Option Nat} (h : CliAt b root size its v W) (hg : W.grownBy W' row) (hr : ∀ r, row = some r → ∃ o : Obj, W.heap[r]? = some o ∧ o.isCells = false) : CliAt b root size its v W' := by
  refine ⟨h.blk.own hg hr, h.own.1, ?_⟩
  rcases h.own.2 with hn | ⟨g, cap, cur, rfl, hb, hgg, rest⟩
  · exact .inl hn
  · refine .inr ⟨g, cap, cur, rfl, hb, ?_, rest⟩
    rw [hg.block g (Array.getElem?_eq_some_iff.1 hgg).1 (fun e => by obtain ⟨o, ho, hc⟩ := hr g e.symm; rw [hgg] at ho; cases ho; cases hc)]
    exact hgg

set_option maxRecDepth 100000 in
set_option maxHeartbeats 4000000 in
theorem Accept_main (b : Nat) (root : List UInt8) (size : Int) (its : List (List UInt8)) (hil : its.length ≤ 1000000) (v : Value) (p : Pg) (hp : p.fit) (hf : formedB p = true) (hh : p.root = root ∧ p.size = size ∧ p.fr ≤ p.size - p.items.length) (vi vp : Value) (w : World) (hg : Glob w) (hcl : CliAt b root size its v w) (hvi : TextsAt w vi p.items) (hvp : PathsAt w vp p.paths) (hvb0 : p.items ≠ [] → vi.ownBlock ≠ some b) (hvr0 : ∀ g, v.ownBlock = some g → p.items ≠ [] → vi.ownBlock ≠ some g) :
    Calls Tryz.prog 11 #[cliP b, .agg (p.cs vi vp)] w fun e w' => ∃ k : Int, AcceptR0 b root size p its v w k e w' := by
  have hq := fun q hq => (⟨hp.nq q hq, hp.lq q hq⟩ : q.length ≤ 200000 ∧ ∀ x ∈ q, x.length ≤ 100000)
  have CF := fun w' (hb : Below w.heap.size w w') => formed_any p hp.lr hp.li hq vi vp w' (hvi.to hb) (hvp.to hb)
  rw [hf] at CF
  have HG := hide hg
  obtain ⟨Ai, ci, rfl, hci⟩ := hvi.slice
  obtain ⟨Ap, cp, rfl, hcp⟩ := hvp.slice
  obtain ⟨⟨hfr, hsz, _, hn50, hpl⟩, _⟩ := formed_spec hf
  have HC := hide hcl
  have HVI := hide hvi
  have HVP := hide hvp
  clear hvi hvp hcl hq
  have CT := fun w' : World => items_any p (.slice Ai p.items.length ci) (.slice Ap p.paths.length cp) w'
  unfold Pg.cs at CF CT ⊢
  unfold cliP
  have hb0 : Below w.heap.size w (((w.alloc (.cells #[.pointer (some ⟨b, 0, none⟩)] 30)).alloc (.cells #[.int .i64 p.fr, .int .i64 p.size, .string (bs p.root), .slice Ai p.items.length ci, .slice Ap p.paths.length cp] 38)).alloc (.cells #[.int .i64 0] 39)) := (((Below.refl _ w).alloc (Nat.le_refl _) _).alloc (by simp) _).alloc (by simp; omega) _
  have he := Blk.new ((w.alloc (.cells #[.pointer (some ⟨b, 0, none⟩)] 30)).alloc (.cells #[.int .i64 p.fr, .int .i64 p.size, .string (bs p.root), .slice Ai p.items.length ci, .slice Ap p.paths.length cp] 38)) 39 #[.int .i64 0]
  rw [World.size_alloc, World.size_alloc] at he
  have hb1 := (Blk.new (w.alloc (.cells #[.pointer (some ⟨b, 0, none⟩)] 30)) 38 #[.int .i64 p.fr, .int .i64 p.size, .string (bs p.root), .slice Ai p.items.length ci, .slice Ap p.paths.length cp]).alloc (.cells #[.int .i64 0] 39)
  rw [World.size_alloc] at hb1
  have hb2 := ((Blk.new w 30 #[.pointer (some ⟨b, 0, none⟩)]).alloc (.cells #[.int .i64 p.fr, .int .i64 p.size, .string (bs p.root), .slice Ai p.items.length ci, .slice Ap p.paths.length cp] 38)).alloc (.cells #[.int .i64 0] 39)
  have HB0 := hide hb0
  have HE := hide he
  have HP1 := hide hb1
  have HP0 := hide hb2
  have HPL := hide hpl
  clear hb0 he hb1 hb2 hpl
  have e1 : ((bs p.root).toList == (bs root).toList) = true := by rw [beq_iff_eq, bs_toList, bs_toList]; exact hh.1
  have e2 : (p.size == size) = true := by rw [beq_iff_eq]; exact hh.2.1
  have e3 : (p.size != size) = false := by rw [bne, e2]; rfl
  have ew : IntKind.i64.wrap (p.size - (p.items.length : Int)) = p.size - (p.items.length : Int) := w64 (by omega) (by omega)
  have e4 : decide (p.size - (p.items.length : Int) < p.fr) = false := decide_eq_false (by have := hh.2.2; omega)
  have HRS : Hid (p.root = root ∧ p.size = size) := ⟨hh.1, hh.2.1⟩
  clear hh hf hg
  obtain ⟨n, h1⟩ : ∃ n : Nat, 5 ≤ n := ⟨5, Nat.le_refl _⟩
  refine (callsIn_wide (n := n)).1 ?_
  refine callsIn_of_wp_marks Tryz.func11 rfl trivial ?_ rfl
  simp only [Tryz.ntmps11, List.size_toArray, List.length_cons, List.length_nil, Nat.reduceAdd, Nat.reduceSub, Array.replicate_succ, Array.replicate_zero, List.push_toArray, List.append_toArray, List.nil_append, List.cons_append]
  gi_wp2_with (refine ⟨trivial, fun _ => (by omega), ?_⟩; gi_at_call 30; refine (callsIn_wide.2 (CF _ HB0.out)).mono ?_; rintro e w2 ⟨rfl, hb2⟩; have HEw := hide (HE.out.to hb2); have HP1w := hide (HP1.out.to hb2); have HP0w := hide (HP0.out.to hb2); have HBw := hide (below_to HB0.out (Nat.le_refl _) hb2); clear hb2)
  have HC2 := hide (HC.out.to HBw.out)
  obtain ⟨Av, cv, rfl⟩ := own_sl4 HC.out.own
  obtain ⟨U, hU, g, u0, rfl, hgu, hi⟩ := cls w2
  have k0 := fun u => ((HP0w.out.to (hgu u)).cell 0).trans (show _ = some (Value.pointer (some ⟨b, 0, none⟩)) from rfl)
  have p0 := fun u => ((HP1w.out.to (hgu u)).cell 0).trans (show _ = some (Value.int .i64 p.fr) from rfl)
  have p1 := fun u => ((HP1w.out.to (hgu u)).cell 1).trans (show _ = some (Value.int .i64 p.size) from rfl)
  have p2 := fun u => ((HP1w.out.to (hgu u)).cell 2).trans (show _ = some (Value.string (bs p.root)) from rfl)
  have p3 := fun u => ((HP1w.out.to (hgu u)).cell 3).trans (show _ = some (Value.slice Ai p.items.length ci) from rfl)
  have z0 := fun u => ((HC2.out.blk.to (hgu u)).cell 0).trans (show _ = some (Value.string (bs root)) from rfl)
  have z1 := fun u => ((HC2.out.blk.to (hgu u)).cell 1).trans (show _ = some (Value.int .i64 size) from rfl)
  have z2 := fun u => ((HC2.out.blk.to (hgu u)).cell 2).trans (show _ = some (Value.slice Av its.length cv) from rfl)
  refine wpIn_region_ofW (by kernel_rfl) (by kernel_rfl) (fun ⟨a, w, h⟩ => by obtain ⟨_, h2, _⟩ := h; cases h2) ?_
  apply wpAny_looseG g (V := [some _, some _, some _, some _, some _, some _, some _, some _, some _, some _, some _, some _, some _, some _, some _, some _, some _, some _, some _, some _, some _, some _, some _, some _, some _, some _, some _]) (Fs := []) (Rel := fun _ w w' => Below w.heap.size w w')
  case hB => kernel_rfl
  case hCw => exact hi _ (hgu _).drew
  case hC =>
    rintro i uq w' hr
    exact hi _ (below_to (hgu uq) (Nat.le_refl _) hr)
  case hst =>
    exact keeps_nil
  case hop =>
    refine ⟨?_, ?_, ?_, ?_, ?_, ?_, ?_, ?_, ?_, ?_, ?_, ?_, ?_, ?_, ?_, ?_, ?_, ?_, ?_, ?_, ?_, ?_, ?_, ?_, ?_, ?_, ?_, trivial⟩
    · intro a uq K hS hd hK
      have s3 := hS.at 3 (by kernel_rfl) rfl
      rw [if_pos (want_free rfl)]
      go_simp
      exact hK _ _ (Below.refl _ _) (vok rfl) facts_nil
    · intro a uq K hS hd hK
      have s14 := (waits_on hd 0 (by kernel_rfl)).at (d := 14) rfl rfl rfl
      rw [if_pos (want_free rfl)]
      have c := p2 uq
      go_simp
      exact hK _ _ (Below.refl _ _) (vok rfl) facts_nil
    · intro a uq K hS hd hK
      have s2 := hS.at 2 (by kernel_rfl) rfl
      rw [if_pos (want_free rfl)]
      have c := k0 uq
      go_simp
      exact hK _ _ (Below.refl _ _) (vok rfl) facts_nil
    · intro a uq K hS hd hK
      have s16 := (waits_on hd 2 (by kernel_rfl)).at (d := 16) rfl rfl rfl
      rw [if_pos (want_free rfl)]
      go_simp
      exact hK _ _ (Below.refl _ _) (vok rfl) facts_nil
    · intro a uq K hS hd hK
      have s17 := (waits_on hd 3 (by kernel_rfl)).at (d := 17) rfl rfl rfl
      rw [if_pos (want_free rfl)]
      go_simp
      exact hK _ _ (Below.refl _ _) (vok rfl) facts_nil
    · intro a uq K hS hd hK
      have s18 := (waits_on hd 4 (by kernel_rfl)).at (d := 18) rfl rfl rfl
      rw [if_pos (want_free rfl)]
      have c := z0 uq
      go_simp
      exact hK _ _ (Below.refl _ _) (vok rfl) facts_nil
    · intro a uq K hS hd hK
      have s15 := (waits_on hd 1 (by kernel_rfl)).at (d := 15) rfl rfl rfl
      have s19 := (waits_on hd 5 (by kernel_rfl)).at (d := 19) rfl rfl rfl
      rw [if_pos (want_free rfl)]
      go_simp
      exact hK _ _ (Below.refl _ _) (vok rfl) facts_nil
    · intro a uq K hS hd hK
      have s20 := (waits_on hd 6 (by kernel_rfl)).at (d := 20) rfl rfl rfl
      rw [if_pos (want_free rfl)]
      go_simp
      exact hK _ _ (Below.refl _ _) (vok rfl) facts_nil
    · intro a uq K hS hd hK
      have s21 := (waits_on hd 7 (by kernel_rfl)).at (d := 21) rfl rfl rfl
      have s3 := hS.at 3 (by kernel_rfl) rfl
      rw [if_pos (want_yes rfl rfl rfl s21)]
      go_simp
      exact hK _ _ (Below.refl _ _) (vok rfl) facts_nil
    · intro a uq K hS hd hK
      have s21 := (waits_on hd 7 (by kernel_rfl)).at (d := 21) rfl rfl rfl
      have s22 := (waits_on hd 8 (by kernel_rfl)).at (d := 22) rfl rfl rfl
      rw [if_pos (want_yes rfl rfl rfl s21)]
      have c := p1 uq
      go_simp
      exact hK _ _ (Below.refl _ _) (vok rfl) facts_nil
    · intro a uq K hS hd hK
      have s21 := (waits_on hd 7 (by kernel_rfl)).at (d := 21) rfl rfl rfl
      have s2 := hS.at 2 (by kernel_rfl) rfl
      rw [if_pos (want_yes rfl rfl rfl s21)]
      have c := k0 uq
      go_simp
      exact hK _ _ (Below.refl _ _) (vok rfl) facts_nil
    · intro a uq K hS hd hK
      have s21 := (waits_on hd 7 (by kernel_rfl)).at (d := 21) rfl rfl rfl
      have s24 := (waits_on hd 10 (by kernel_rfl)).at (d := 24) rfl rfl rfl
      rw [if_pos (want_yes rfl rfl rfl s21)]
      go_simp
      exact hK _ _ (Below.refl _ _) (vok rfl) facts_nil
    · intro a uq K hS hd hK
      have s21 := (waits_on hd 7 (by kernel_rfl)).at (d := 21) rfl rfl rfl
      have s25 := (waits_on hd 11 (by kernel_rfl)).at (d := 25) rfl rfl rfl
      rw [if_pos (want_yes rfl rfl rfl s21)]
      go_simp
      exact hK _ _ (Below.refl _ _) (vok rfl) facts_nil
    · intro a uq K hS hd hK
      have s21 := (waits_on hd 7 (by kernel_rfl)).at (d := 21) rfl rfl rfl
      have s26 := (waits_on hd 12 (by kernel_rfl)).at (d := 26) rfl rfl rfl
      rw [if_pos (want_yes rfl rfl rfl s21)]
      have c := z1 uq
      go_simp
      exact hK _ _ (Below.refl _ _) (vok rfl) facts_nil
    · intro a uq K hS hd hK
      have s21 := (waits_on hd 7 (by kernel_rfl)).at (d := 21) rfl rfl rfl
      have s23 := (waits_on hd 9 (by kernel_rfl)).at (d := 23) rfl rfl rfl
      have s27 := (waits_on hd 13 (by kernel_rfl)).at (d := 27) rfl rfl rfl
      rw [if_pos (want_yes rfl rfl rfl s21)]
      go_simp
      exact hK _ _ (Below.refl _ _) (vok rfl) facts_nil
    · intro a uq K hS hd hK
      have s21 := (waits_on hd 7 (by kernel_rfl)).at (d := 21) rfl rfl rfl
      have s28 := (waits_on hd 14 (by kernel_rfl)).at (d := 28) rfl rfl rfl
      rw [if_pos (want_free rfl)]
      go_simp
      exact hK _ _ (Below.refl _ _) (vok rfl) facts_nil
    · intro a uq K hS hd hK
      have s29 := (waits_on hd 15 (by kernel_rfl)).at (d := 29) rfl rfl rfl
      rw [if_pos (want_free rfl)]
      go_simp
      exact hK _ _ (Below.refl _ _) (vok rfl) facts_nil
    · intro a uq K hS hd hK
      have s30 := (waits_on hd 16 (by kernel_rfl)).at (d := 30) rfl rfl rfl
      have s3 := hS.at 3 (by kernel_rfl) rfl
      rw [if_pos (want_yes rfl rfl rfl s30)]
      go_simp
      exact hK _ _ (Below.refl _ _) (vok rfl) facts_nil
    · intro a uq K hS hd hK
      have s30 := (waits_on hd 16 (by kernel_rfl)).at (d := 30) rfl rfl rfl
      have s31 := (waits_on hd 17 (by kernel_rfl)).at (d := 31) rfl rfl rfl
      rw [if_pos (want_yes rfl rfl rfl s30)]
      have c := p0 uq
      go_simp
      exact hK _ _ (Below.refl _ _) (vok rfl) facts_nil
    · intro a uq K hS hd hK
      have s30 := (waits_on hd 16 (by kernel_rfl)).at (d := 30) rfl rfl rfl
      have s3 := hS.at 3 (by kernel_rfl) rfl
      rw [if_pos (want_yes rfl rfl rfl s30)]
      go_simp
      exact hK _ _ (Below.refl _ _) (vok rfl) facts_nil
    · intro a uq K hS hd hK
      have s30 := (waits_on hd 16 (by kernel_rfl)).at (d := 30) rfl rfl rfl
      have s33 := (waits_on hd 19 (by kernel_rfl)).at (d := 33) rfl rfl rfl
      rw [if_pos (want_yes rfl rfl rfl s30)]
      have c := p1 uq
      go_simp
      exact hK _ _ (Below.refl _ _) (vok rfl) facts_nil
    · intro a uq K hS hd hK
      have s30 := (waits_on hd 16 (by kernel_rfl)).at (d := 30) rfl rfl rfl
      have s3 := hS.at 3 (by kernel_rfl) rfl
      rw [if_pos (want_yes rfl rfl rfl s30)]
      go_simp
      exact hK _ _ (Below.refl _ _) (vok rfl) facts_nil
    · intro a uq K hS hd hK
      have s30 := (waits_on hd 16 (by kernel_rfl)).at (d := 30) rfl rfl rfl
      have s35 := (waits_on hd 21 (by kernel_rfl)).at (d := 35) rfl rfl rfl
      rw [if_pos (want_yes rfl rfl rfl s30)]
      have c := p3 uq
      go_simp
      exact hK _ _ (Below.refl _ _) (vok rfl) facts_nil
    · intro a uq K hS hd hK
      have s30 := (waits_on hd 16 (by kernel_rfl)).at (d := 30) rfl rfl rfl
      have s36 := (waits_on hd 22 (by kernel_rfl)).at (d := 36) rfl rfl rfl
      rw [if_pos (want_yes rfl rfl rfl s30)]
      go_simp
      exact hK _ _ (Below.refl _ _) (vok rfl) facts_nil
    · intro a uq K hS hd hK
      have s30 := (waits_on hd 16 (by kernel_rfl)).at (d := 30) rfl rfl rfl
      have s34 := (waits_on hd 20 (by kernel_rfl)).at (d := 34) rfl rfl rfl
      have s37 := (waits_on hd 23 (by kernel_rfl)).at (d := 37) rfl rfl rfl
      rw [if_pos (want_yes rfl rfl rfl s30)]
      go_simp
      exact hK _ _ (Below.refl _ _) (vok rfl) facts_nil
    · intro a uq K hS hd hK
      have s30 := (waits_on hd 16 (by kernel_rfl)).at (d := 30) rfl rfl rfl
      have s32 := (waits_on hd 18 (by kernel_rfl)).at (d := 32) rfl rfl rfl
      have s38 := (waits_on hd 24 (by kernel_rfl)).at (d := 38) rfl rfl rfl
      rw [if_pos (want_yes rfl rfl rfl s30)]
      go_simp
      exact hK _ _ (Below.refl _ _) (vok rfl) facts_nil
    · intro a uq K hS hd hK
      have s30 := (waits_on hd 16 (by kernel_rfl)).at (d := 30) rfl rfl rfl
      have s39 := (waits_on hd 25 (by kernel_rfl)).at (d := 39) rfl rfl rfl
      rw [if_pos (want_free rfl)]
      go_simp
      exact hK _ _ (Below.refl _ _) (vok rfl) facts_nil
  case hfin =>
    intro a uq hS hk
    have s14 := (hk 0 (by decide)).at (d := 14) rfl rfl rfl
    have s15 := (hk 1 (by decide)).at (d := 15) rfl rfl rfl
    have s16 := (hk 2 (by decide)).at (d := 16) rfl rfl rfl
    have s17 := (hk 3 (by decide)).at (d := 17) rfl rfl rfl
    have s18 := (hk 4 (by decide)).at (d := 18) rfl rfl rfl
    have s19 := (hk 5 (by decide)).at (d := 19) rfl rfl rfl
    have s20 := (hk 6 (by decide)).at (d := 20) rfl rfl rfl
    have s21 := (hk 7 (by decide)).at (d := 21) rfl rfl rfl
    have s22 := (hk 8 (by decide)).at (d := 22) rfl rfl rfl
    have s23 := (hk 9 (by decide)).at (d := 23) rfl rfl rfl
    have s24 := (hk 10 (by decide)).at (d := 24) rfl rfl rfl
    have s25 := (hk 11 (by decide)).at (d := 25) rfl rfl rfl
    have s26 := (hk 12 (by decide)).at (d := 26) rfl rfl rfl
    have s27 := (hk 13 (by decide)).at (d := 27) rfl rfl rfl
    have s28 := (hk 14 (by decide)).at (d := 28) rfl rfl rfl
    have s29 := (hk 15 (by decide)).at (d := 29) rfl rfl rfl
    have s30 := (hk 16 (by decide)).at (d := 30) rfl rfl rfl
    have s31 := (hk 17 (by decide)).at (d := 31) rfl rfl rfl
    have s32 := (hk 18 (by decide)).at (d := 32) rfl rfl rfl
    have s33 := (hk 19 (by decide)).at (d := 33) rfl rfl rfl
    have s34 := (hk 20 (by decide)).at (d := 34) rfl rfl rfl
    have s35 := (hk 21 (by decide)).at (d := 35) rfl rfl rfl
    have s36 := (hk 22 (by decide)).at (d := 36) rfl rfl rfl
    have s37 := (hk 23 (by decide)).at (d := 37) rfl rfl rfl
    have s38 := (hk 24 (by decide)).at (d := 38) rfl rfl rfl
    have s39 := (hk 25 (by decide)).at (d := 39) rfl rfl rfl
    have s40 := (hk 26 (by decide)).at (d := 40) rfl rfl rfl
    have hlit := hS.lit _ (by kernel_rfl) (lits_cons s14 (lits_cons s15 (lits_cons s16 (lits_cons s17 (lits_cons s18 (lits_cons s19 (lits_cons s20 (lits_cons s21 (lits_cons s22 (lits_cons s23 (lits_cons s24 (lits_cons s25 (lits_cons s26 (lits_cons s27 (lits_cons s28 (lits_cons s29 (lits_cons s30 (lits_cons s31 (lits_cons s32 (lits_cons s33 (lits_cons s34 (lits_cons s35 (lits_cons s36 (lits_cons s37 (lits_cons s38 (lits_cons s39 (lits_cons s40 lits_nil)))))))))))))))))))))))))))
    rw [hlit]
    clear hlit hk hS s14 s15 s16 s17 s18 s19 s20 s21 s22 s23 s24 s25 s26 s27 s28 s29 s30 s31 s32 s33 s34 s35 s36 s37 s38 s39 s40
    have HEu := hide (HEw.out.to (hgu uq))
    have HBu := hide (below_to HBw.out (Nat.le_refl _) (hgu uq))
    have HP0u := hide (HP0w.out.to (hgu uq))
    have HP1u := hide (HP1w.out.to (hgu uq))
    have HCu := hide (HC2.out.to (hgu uq))
    simp only [litT, List.setIfInBounds_toArray, List.set_cons_succ, List.set_cons_zero]
    clear k0 p0 p1 p2 p3 z0 z1 z2 HEw HBw HP0w HP1w HC2
    revert HEu HBu HP0u HP1u HCu
    generalize g uq = w3
    intro HEu HBu HP0u HP1u HCu
    clear hgu hi g u0
    have p0 := (HP1u.out.cell 0).trans (show _ = some (Value.int .i64 p.fr) from rfl)
    have p1 := (HP1u.out.cell 1).trans (show _ = some (Value.int .i64 p.size) from rfl)
    have p2 := (HP1u.out.cell 2).trans (show _ = some (Value.string (bs p.root)) from rfl)
    have p3 := (HP1u.out.cell 3).trans (show _ = some (Value.slice Ai p.items.length ci) from rfl)
    have p4 := (HP1u.out.cell 4).trans (show _ = some (Value.slice Ap p.paths.length cp) from rfl)
    gi_wp2_with (refine ⟨trivial, fun _ => (by omega), ?_⟩; gi_at_call 31; refine (callsIn_wide.2 (CT _)).mono ?_; rintro e w4 ⟨rfl, rfl⟩)
    have hvo : ∀ g, (Value.ownBlock (.slice Av its.length cv)) = some g → g < w.heap.size := fun g e => (CliAt.lt HC.out g e).2
    have hbw : b < w.heap.size := HC.out.blk.lt
    have HX2 := hide (Blk.new w3 38 #[.int .i64 p.fr, .int .i64 p.size, .string (bs p.root), .slice Ai p.items.length ci, .slice Ap p.paths.length cp])
    have HB2 := hide (HBu.out.alloc HBu.out.size (.cells #[.int .i64 p.fr, .int .i64 p.size, .string (bs p.root), .slice Ai p.items.length ci, .slice Ap p.paths.length cp] 38))
    have HC3 := hide (HCu.out.to (below_one w3 (.cells #[.int .i64 p.fr, .int .i64 p.size, .string (bs p.root), .slice Ai p.items.length ci, .slice Ap p.paths.length cp] 38)))
    have HE3 := hide (HEu.out.alloc (.cells #[.int .i64 p.fr, .int .i64 p.size, .string (bs p.root), .slice Ai p.items.length ci, .slice Ap p.paths.length cp] 38))
    have HP03 := hide (HP0u.out.alloc (.cells #[.int .i64 p.fr, .int .i64 p.size, .string (bs p.root), .slice Ai p.items.length ci, .slice Ap p.paths.length cp] 38))
    have HP13 := hide (HP1u.out.alloc (.cells #[.int .i64 p.fr, .int .i64 p.size, .string (bs p.root), .slice Ai p.items.length ci, .slice Ap p.paths.length cp] 38))
    have hsz2 : (w3.alloc (.cells #[.int .i64 p.fr, .int .i64 p.size, .string (bs p.root), .slice Ai p.items.length ci, .slice Ap p.paths.length cp] 38)).heap.size = w3.heap.size + 1 := by simp
    have hsw : w.heap.size + 2 < w3.heap.size := HEu.out.lt
    obtain ⟨W0, hW0⟩ : ∃ W0, w3.alloc (.cells #[.int .i64 p.fr, .int .i64 p.size, .string (bs p.root), .slice Ai p.items.length ci, .slice Ap p.paths.length cp] 38) = W0 := ⟨_, rfl⟩
    rw [hW0] at HX2 HB2 HC3 HE3 HP03 HP13 hsz2 ⊢
    clear hW0 HEu HBu HP0u HP1u HCu p0 p1 p2 p3 p4 CT CF
    refine wpIn_rangeFunc_ownH (F := Fence.wide) rfl (by omega) (gf := 74) (lb := #[.pointer (some ⟨w3.heap.size, 0, none⟩)]) rfl trivial (enters_fn Tryz.func74 (by kernel_rfl) rfl)
      (items_stops (n - 1) (by omega) w3.heap.size p (by omega) HPL.out hfr _ _ w HVI.out HVP.out W0 HB2.out HX2.out) KpX.t (KpX.b (by omega) (by omega)) (Below.refl _ _) (fun _ => rfl)
      (fun pre W => (CliAt b root size its (.slice Av its.length cv) W ∧ Blk W (w.heap.size + 1 + 1) 39 #[.int .i64 0] ∧ Blk W w.heap.size 30 #[.pointer (some ⟨b, 0, none⟩)] ∧ Blk W (w.heap.size + 1) 38 #[.int .i64 p.fr, .int .i64 p.size, .string (bs p.root), .slice Ai p.items.length ci, .slice Ap p.paths.length cp] ∧ w3.heap.size < W.heap.size ∧ pre.all (p.checkAt root size) = true) ∧ Below w.heap.size w W)
      (fun c pre W => (c = .ret ∧ (∃ k, p.checkAt root size k = false) ∧ CliAt b root size its (.slice Av its.length cv) W ∧ Blk W (w.heap.size + 1 + 1) 39 #[.int .i64 17]) ∧ Below w.heap.size w W)
      (OwnFrom.and (fun s A B row hs hg hr => ⟨hs.1.own_ hg (fun r e => (hr r e).2), hs.2.1.own hg (fun r e => (hr r e).2), hs.2.2.1.own hg (fun r e => (hr r e).2), hs.2.2.2.1.own hg (fun r e => (hr r e).2), Nat.lt_of_lt_of_le hs.2.2.2.2.1 hg.size, hs.2.2.2.2.2⟩) (ownFrom_below (Nat.le_refl _) (by omega)))
      (fun c => OwnFrom.and (fun s A B row hs hg hr => ⟨hs.1, hs.2.1, hs.2.2.1.own_ hg (fun r e => (hr r e).2), hs.2.2.2.own hg (fun r e => (hr r e).2)⟩) (ownFrom_below (Nat.le_refl _) (by omega)))
      ⟨⟨HC3.out, HE3.out, HP03.out, HP13.out, by omega, rfl⟩, HB2.out⟩
      (fun x a' W => ∃ Bx, w3.heap.size < Bx ∧ Blk W Bx 74 (itC p w (.slice Ap p.paths.length cp) x) ∧ a' = { tmps := #[Value.pointer (some ⟨b, 0, none⟩), Value.agg #[Value.int IntKind.i64 p.fr, Value.int IntKind.i64 p.size, Value.string (bs p.root), Value.slice Ai p.items.length ci, Value.slice Ap p.paths.length cp], Value.pointer (some ⟨w.heap.size, 0, none⟩), Value.pointer (some ⟨w.heap.size + 1, 0, none⟩), Value.pointer (some ⟨w.heap.size + 1 + 1, 0, none⟩), .pointer (some ⟨Bx, 0, none⟩), undef, Value.pointer (some ⟨b, 0, none⟩), Value.bool false, Value.bool false, Value.agg #[Value.int IntKind.i64 p.fr, Value.int IntKind.i64 p.size, Value.string (bs p.root), Value.slice Ai p.items.length ci, Value.slice Ap p.paths.length cp], Value.bool true, Value.bool false, Value.bool false, Value.pointer (some ⟨w.heap.size + 1, 2, none⟩), Value.string (bs p.root), Value.pointer (some ⟨b, 0, none⟩), Value.pointer (some ⟨b, 0, none⟩), Value.pointer (some ⟨b, 0, none⟩), Value.string (bs root), Value.bool false, Value.bool false, Value.pointer (some ⟨w.heap.size + 1, 1, none⟩), Value.int IntKind.i64 p.size, Value.pointer (some ⟨b, 0, none⟩), Value.pointer (some ⟨b, 0, none⟩), Value.pointer (some ⟨b, 1, none⟩), Value.int IntKind.i64 size, Value.bool false, Value.bool false, Value.bool false, Value.pointer (some ⟨w.heap.size + 1, 0, none⟩), Value.int IntKind.i64 p.fr, Value.pointer (some ⟨w.heap.size + 1, 1, none⟩), Value.int IntKind.i64 p.size, Value.pointer (some ⟨w.heap.size + 1, 3, none⟩), Value.slice Ai p.items.length ci, Value.int IntKind.i64 (p.items.length : Int), Value.int IntKind.i64 (p.size - (p.items.length : Int)), Value.bool false, Value.bool false, Value.agg #[Value.int IntKind.i64 p.fr, Value.int IntKind.i64 p.size, Value.string (bs p.root), Value.slice Ai p.items.length ci, Value.slice Ap p.paths.length cp], Value.func (.func 74) #[] #[Value.pointer (some ⟨w3.heap.size, 0, none⟩)], .agg (itC p w (.slice Ap p.paths.length cp) x), undef, undef, undef, undef, undef, undef, undef, undef, undef, undef, undef, undef, undef, undef, undef, undef, undef, undef, undef, undef, undef, undef, undef, undef, undef, undef, undef, undef, undef, undef, undef, undef, undef, undef, undef, undef, undef, undef, undef, undef, undef, undef, undef, undef, undef, undef, undef, undef, undef, undef, undef, undef, undef, undef, undef, undef], defers := [] })
      (fun x a' s A B row hs hg hr => by obtain ⟨Bx, q1, q2, q3⟩ := hs; exact ⟨Bx, q1, q2.own hg (fun r e => (hr r e).2), q3⟩) ?assign ?body ?done ?stop
    case assign =>
      rintro l pre ⟨k, hk⟩ W K ⟨⟨hcW, heW, h0W, h1W, hsW, hpre⟩, hBW⟩ hK
      have HCW := hide hcW
      have HEW := hide heW
      have H0W := hide h0W
      have H1W := hide h1W
      have HBl := hide hBW
      clear hcW heW h0W h1W hBW
      obtain ⟨x, hx⟩ : ∃ x, p.items[k] = x := ⟨_, rfl⟩
      obtain ⟨q, hq⟩ : ∃ q, p.paths[k]? = some q := ⟨_, List.getElem?_eq_getElem (by have := HPL.out; omega)⟩
      obtain ⟨Aq, cq, hv, hcq⟩ := (HVP.out.vps hq).1.slice
      unfold Pg.enc
      rw [show p.items[(⟨k, hk⟩ : Fin p.items.length)] = x from hx]
      unfold itC at hK
      rw [show p.items[(⟨k, hk⟩ : Fin p.items.length)] = x from hx] at hK
      simp only [hv] at hK ⊢
      have hK2 := hide hK
      clear hK
      gi_wp2
      exact hK2.out _ _ ((KeepsOthers.alloc _ _).from _) (KpX.of ((Below.refl W.heap.size W).alloc (Nat.le_refl _) _) HBl.out.size hsW) ⟨⟨HCW.out.to (below_one _ _), HEW.out.alloc _, H0W.out.alloc _, H1W.out.alloc _, by simp; omega, hpre⟩, HBl.out.alloc HBl.out.size _⟩ ⟨W.heap.size, hsW, Blk.new _ _ _, rfl⟩
    case body =>
      rintro l pre ⟨k, hk⟩ a' W hlw ⟨r, hlr⟩ ⟨⟨hcW, heW, h0W, h1W, hsW, hpre⟩, hBW⟩ ⟨Bx, hBx, hbI, rfl⟩ hlen
      have HCL := hide hcW
      have HER := hide heW
      have HK0 := hide h0W
      have HK1 := hide h1W
      have HBl := hide hBW
      have HIt := hide hbI
      clear hcW heW h0W h1W hBW hbI hlr
      obtain ⟨x, hx⟩ : ∃ x, p.items[k] = x := ⟨_, rfl⟩
      obtain ⟨q, hq⟩ : ∃ q, p.paths[k]? = some q := ⟨_, List.getElem?_eq_getElem (by have := HPL.out; omega)⟩
      have hxl := hp.li x (hx ▸ List.getElem_mem _)
      have hql := hp.nq q (List.mem_of_getElem? hq)
      have HQX := hide (hp.lq q (List.mem_of_getElem? hq))
      have HT := hide ((HVP.out.vps hq).1.to HBl.out)
      obtain ⟨Aq, cq, hv, hcq⟩ := (HVP.out.vps hq).1.slice
      rw [hv] at HT
      have HEk0 : Hid (p.checkAt root size ⟨k, hk⟩ = checkV root size (p.fr + (k : Int)) (leafD x) q) := by
        show _ = _
        unfold Pg.checkAt
        rw [show p.items[(⟨k, hk⟩ : Fin p.items.length)] = x from hx, show p.paths.getD ((⟨k, hk⟩ : Fin p.items.length) : Nat) [] = q by simp [hq]]
      have HIt2 : Hid (Blk W Bx 74 #[.int .i64 (p.fr + (k : Nat)), .string (bs x), .slice Aq q.length cq]) := by
        have := HIt.out
        unfold itC at this
        rw [show p.items[(⟨k, hk⟩ : Fin p.items.length)] = x from hx] at this
        simp only [hv] at this
        exact this
      unfold itC
      rw [show p.items[(⟨k, hk⟩ : Fin p.items.length)] = x from hx]
      simp only [hv]
      have CLf := fun (W' : World) (hg' : Glob W') => Leaf_any x (by omega) W' hg'
      have hll : (leafD x).length ≤ 100000000000 := by rw [isD_len (leaf_isD x)]; decide
      have CK := fun (W' : World) (ht : TextsAt W' (.slice Aq q.length cq) q) (hg' : Glob W') => Check_any root size (p.fr + (k : Int)) (leafD x) q hll (by omega) (fun y hy => by have := HQX.out y hy; omega) (.slice Aq q.length cq) W' ht hg'
      have HG2 : Hid (Glob W) := HG.out.belowB HBl.out HG.out.top
      clear HIt hv hll
      generalize hcv : checkV root size (p.fr + (k : Int)) (leafD x) q = B at *
      have HEk : Hid (p.checkAt root size ⟨k, hk⟩ = B) := HEk0.out
      clear hcv HEk0
      generalize leafD x = LX at *
      obtain ⟨U, hU, g, u0, rfl, hgu, hi⟩ := cls W
      have k0 := fun u => ((HK0.out.to (hgu u)).cell 0).trans (show _ = some (Value.pointer (some ⟨b, 0, none⟩)) from rfl)
      have z0 := fun u => ((HCL.out.blk.to (hgu u)).cell 0).trans (show _ = some (Value.string (bs root)) from rfl)
      have z1 := fun u => ((HCL.out.blk.to (hgu u)).cell 1).trans (show _ = some (Value.int .i64 size) from rfl)
      have z2 := fun u => ((HCL.out.blk.to (hgu u)).cell 2).trans (show _ = some (Value.slice Av its.length cv) from rfl)
      have i0 := fun u => ((HIt2.out.to (hgu u)).cell 0).trans (show _ = some (Value.int .i64 (p.fr + (k : Nat))) from rfl)
      have i1 := fun u => ((HIt2.out.to (hgu u)).cell 1).trans (show _ = some (Value.string (bs x)) from rfl)
      have i2 := fun u => ((HIt2.out.to (hgu u)).cell 2).trans (show _ = some (Value.slice Aq q.length cq) from rfl)
      have HGg := fun u => HG2.out.to (hgu u)
      have HTg := fun u => HT.out.to (hgu u)
      gi_wp2
      refine wpIn_region_of (by kernel_rfl) (by kernel_rfl) (fun ⟨a, w, h⟩ => h) ?_
      apply wpAny_looseG g (V := [some _, some _, some _, some _, some _, some _, some _, some _, some _, some _, some _, some _, some _, some _, some _, some _, some _]) (Fs := []) (Rel := fun _ w w' => Below w.heap.size w w')
      case hB => kernel_rfl
      case hCw => exact hi _ (hgu _).drew
      case hC =>
        rintro i uq w' hr
        exact hi _ (below_to (hgu uq) (Nat.le_refl _) hr)
      case hst =>
        exact keeps_nil
      case hop =>
        refine ⟨?_, ?_, ?_, ?_, ?_, ?_, ?_, ?_, ?_, ?_, ?_, ?_, ?_, ?_, ?_, ?_, ?_, trivial⟩
        · intro a uq K hS hd hK
          have s2 := hS.at 2 (by kernel_rfl) rfl
          rw [if_pos (want_free rfl)]
          have c := k0 uq
          go_simp
          exact hK _ _ (Below.refl _ _) (vok rfl) facts_nil
        · intro a uq K hS hd hK
          have s44 := (waits_on hd 0 (by kernel_rfl)).at (d := 44) rfl rfl rfl
          rw [if_pos (want_free rfl)]
          go_simp
          exact hK _ _ (Below.refl _ _) (vok rfl) facts_nil
        · intro a uq K hS hd hK
          have s45 := (waits_on hd 1 (by kernel_rfl)).at (d := 45) rfl rfl rfl
          rw [if_pos (want_free rfl)]
          go_simp
          exact hK _ _ (Below.refl _ _) (vok rfl) facts_nil
        · intro a uq K hS hd hK
          have s46 := (waits_on hd 2 (by kernel_rfl)).at (d := 46) rfl rfl rfl
          rw [if_pos (want_free rfl)]
          have c := z0 uq
          go_simp
          exact hK _ _ (Below.refl _ _) (vok rfl) facts_nil
        · intro a uq K hS hd hK
          have s2 := hS.at 2 (by kernel_rfl) rfl
          rw [if_pos (want_free rfl)]
          have c := k0 uq
          go_simp
          exact hK _ _ (Below.refl _ _) (vok rfl) facts_nil
        · intro a uq K hS hd hK
          have s48 := (waits_on hd 4 (by kernel_rfl)).at (d := 48) rfl rfl rfl
          rw [if_pos (want_free rfl)]
          go_simp
          exact hK _ _ (Below.refl _ _) (vok rfl) facts_nil
        · intro a uq K hS hd hK
          have s49 := (waits_on hd 5 (by kernel_rfl)).at (d := 49) rfl rfl rfl
          rw [if_pos (want_free rfl)]
          go_simp
          exact hK _ _ (Below.refl _ _) (vok rfl) facts_nil
        · intro a uq K hS hd hK
          have s50 := (waits_on hd 6 (by kernel_rfl)).at (d := 50) rfl rfl rfl
          rw [if_pos (want_free rfl)]
          have c := z1 uq
          go_simp
          exact hK _ _ (Below.refl _ _) (vok rfl) facts_nil
        · intro a uq K hS hd hK
          have s5 := hS.at 5 (by kernel_rfl) rfl
          rw [if_pos (want_free rfl)]
          go_simp
          exact hK _ _ (Below.refl _ _) (vok rfl) facts_nil
        · intro a uq K hS hd hK
          have s52 := (waits_on hd 8 (by kernel_rfl)).at (d := 52) rfl rfl rfl
          rw [if_pos (want_free rfl)]
          have c := i0 uq
          go_simp
          exact hK _ _ (Below.refl _ _) (vok rfl) facts_nil
        · intro a uq K hS hd hK
          have s5 := hS.at 5 (by kernel_rfl) rfl
          rw [if_pos (want_free rfl)]
          go_simp
          exact hK _ _ (Below.refl _ _) (vok rfl) facts_nil
        · intro a uq K hS hd hK
          have s54 := (waits_on hd 10 (by kernel_rfl)).at (d := 54) rfl rfl rfl
          rw [if_pos (want_free rfl)]
          have c := i1 uq
          go_simp
          exact hK _ _ (Below.refl _ _) (vok rfl) facts_nil
        · intro a uq K hS hd hK
          have s55 := (waits_on hd 11 (by kernel_rfl)).at (d := 55) rfl rfl rfl
          rw [if_pos (want_free rfl)]
          go_simp
          with_reducible refine (CLf (g uq) (HGg uq)).mono ?_
          rintro e w' ⟨rfl, hb⟩
          exact hK _ _ hb (vok rfl) facts_nil
        · intro a uq K hS hd hK
          have s5 := hS.at 5 (by kernel_rfl) rfl
          rw [if_pos (want_free rfl)]
          go_simp
          exact hK _ _ (Below.refl _ _) (vok rfl) facts_nil
        · intro a uq K hS hd hK
          have s57 := (waits_on hd 13 (by kernel_rfl)).at (d := 57) rfl rfl rfl
          rw [if_pos (want_free rfl)]
          have c := i2 uq
          go_simp
          exact hK _ _ (Below.refl _ _) (vok rfl) facts_nil
        · intro a uq K hS hd hK
          have s47 := (waits_on hd 3 (by kernel_rfl)).at (d := 47) rfl rfl rfl
          have s51 := (waits_on hd 7 (by kernel_rfl)).at (d := 51) rfl rfl rfl
          have s53 := (waits_on hd 9 (by kernel_rfl)).at (d := 53) rfl rfl rfl
          have s56 := (waits_on hd 12 (by kernel_rfl)).at (d := 56) rfl rfl rfl
          have s58 := (waits_on hd 14 (by kernel_rfl)).at (d := 58) rfl rfl rfl
          rw [if_pos (want_free rfl)]
          go_simp
          with_reducible refine (CK (g uq) (HTg uq) (HGg uq)).mono ?_
          rintro e w' ⟨rfl, hb⟩
          exact hK _ _ hb (vok rfl) facts_nil
        · intro a uq K hS hd hK
          have s59 := (waits_on hd 15 (by kernel_rfl)).at (d := 59) rfl rfl rfl
          rw [if_pos (want_free rfl)]
          go_simp
          exact hK _ _ (Below.refl _ _) (vok rfl) facts_nil
      case hfin =>
        intro a uq hS hk
        have s44 := (hk 0 (by decide)).at (d := 44) rfl rfl rfl
        have s45 := (hk 1 (by decide)).at (d := 45) rfl rfl rfl
        have s46 := (hk 2 (by decide)).at (d := 46) rfl rfl rfl
        have s47 := (hk 3 (by decide)).at (d := 47) rfl rfl rfl
        have s48 := (hk 4 (by decide)).at (d := 48) rfl rfl rfl
        have s49 := (hk 5 (by decide)).at (d := 49) rfl rfl rfl
        have s50 := (hk 6 (by decide)).at (d := 50) rfl rfl rfl
        have s51 := (hk 7 (by decide)).at (d := 51) rfl rfl rfl
        have s52 := (hk 8 (by decide)).at (d := 52) rfl rfl rfl
        have s53 := (hk 9 (by decide)).at (d := 53) rfl rfl rfl
        have s54 := (hk 10 (by decide)).at (d := 54) rfl rfl rfl
        have s55 := (hk 11 (by decide)).at (d := 55) rfl rfl rfl
        have s56 := (hk 12 (by decide)).at (d := 56) rfl rfl rfl
        have s57 := (hk 13 (by decide)).at (d := 57) rfl rfl rfl
        have s58 := (hk 14 (by decide)).at (d := 58) rfl rfl rfl
        have s59 := (hk 15 (by decide)).at (d := 59) rfl rfl rfl
        have s60 := (hk 16 (by decide)).at (d := 60) rfl rfl rfl
        have hlit := hS.lit _ (by kernel_rfl) (lits_cons s44 (lits_cons s45 (lits_cons s46 (lits_cons s47 (lits_cons s48 (lits_cons s49 (lits_cons s50 (lits_cons s51 (lits_cons s52 (lits_cons s53 (lits_cons s54 (lits_cons s55 (lits_cons s56 (lits_cons s57 (lits_cons s58 (lits_cons s59 (lits_cons s60 lits_nil)))))))))))))))))
        rw [hlit]
        clear hlit hk hS s44 s45 s46 s47 s48 s49 s50 s51 s52 s53 s54 s55 s56 s57 s58 s59 s60
        have HCq := hide (HCL.out.to (hgu uq))
        have HEq := hide (HER.out.to (hgu uq))
        have HK0q := hide (HK0.out.to (hgu uq))
        have HK1q := hide (HK1.out.to (hgu uq))
        have HBq := hide (below_to HBl.out (Nat.le_refl _) (hgu uq))
        have hsq : w3.heap.size < (g uq).heap.size := Nat.lt_of_lt_of_le hsW (hgu uq).size
        have HKFq : Hid (KeepsFrom W0.heap.size (g u0) (g uq)) := keepsFrom_of (hgu uq)
        have HKq : Hid (KpX w.heap.size w3.heap.size (g u0) (g uq)) := KpX.of (hgu uq) HBl.out.size hsW
        have y0 := (HEq.out.cell 0).trans (show _ = some (Value.int .i64 0) from rfl)
        have yf := HEq.out.frozen 0
        simp only [litT, List.setIfInBounds_toArray, List.set_cons_succ, List.set_cons_zero]
        clear k0 z0 z1 z2 i0 i1 i2 CK CLf HGg HTg
        cases B
        · gi_wp2
          exact ⟨HKFq.out.trans ((KeepsOthers.setCell _ _ _).from _), ⟨rfl, ⟨⟨k, hk⟩, HEk.out⟩, ⟨HCq.out.blk.far (p := ⟨w.heap.size + 1 + 1, 0, none⟩) (by show b ≠ w.heap.size + 1 + 1; omega) _, ownsRow_set HCq.out.own (fun e => by have := hvo _ e; omega)⟩, HEq.out.set_ 0 _⟩, HBq.out.setCell (p := ⟨w.heap.size + 1 + 1, 0, none⟩) (by show _ ≤ w.heap.size + 1 + 1; omega) _⟩
        · gi_wp2
          exact ⟨HKFq.out, HKq.out, ⟨HCq.out, HEq.out, HK0q.out, HK1q.out, hsq, by rw [List.all_append, hpre, List.all_cons, HEk.out]; rfl⟩, HBq.out⟩
    case done =>
      rintro D ys W hD rfl ⟨⟨hcW, heW, h0W, h1W, hsW, hall⟩, hBW⟩ hK
      have HCL := hide hcW
      have HER := hide heW
      have HK0 := hide h0W
      have HK1 := hide h1W
      have HBl := hide hBW
      have HK := hide hK
      clear hcW heW h0W h1W hBW hK hsW
      obtain ⟨U, hU, g, u0, rfl, hgu, hi⟩ := cls W
      have k0 := fun u => ((HK0.out.to (hgu u)).cell 0).trans (show _ = some (Value.pointer (some ⟨b, 0, none⟩)) from rfl)
      have p0 := fun u => ((HK1.out.to (hgu u)).cell 0).trans (show _ = some (Value.int .i64 p.fr) from rfl)
      have p3 := fun u => ((HK1.out.to (hgu u)).cell 3).trans (show _ = some (Value.slice Ai p.items.length ci) from rfl)
      have z0 := fun u => ((HCL.out.blk.to (hgu u)).cell 0).trans (show _ = some (Value.string (bs root)) from rfl)
      have z1 := fun u => ((HCL.out.blk.to (hgu u)).cell 1).trans (show _ = some (Value.int .i64 size) from rfl)
      have z2 := fun u => ((HCL.out.blk.to (hgu u)).cell 2).trans (show _ = some (Value.slice Av its.length cv) from rfl)
      gi_wp2
      refine wpIn_region_ofW (by kernel_rfl) (by kernel_rfl) (fun ⟨a, w, h⟩ => by obtain ⟨_, h2, _⟩ := h; cases h2) ?_
      apply wpAny_looseG g (V := [some _, some _, some _, some _, some _, some _, some _, some _]) (Fs := []) (Rel := fun _ w w' => Below w.heap.size w w')
      case hB => kernel_rfl
      case hCw => exact hi _ (hgu _).drew
      case hC =>
        rintro i uq w' hr
        exact hi _ (below_to (hgu uq) (Nat.le_refl _) hr)
      case hst =>
        exact keeps_nil
      case hop =>
        refine ⟨?_, ?_, ?_, ?_, ?_, ?_, ?_, ?_, trivial⟩
        · intro a uq K hS hd hK
          have s3 := hS.at 3 (by kernel_rfl) rfl
          rw [if_pos (want_free rfl)]
          go_simp
          exact hK _ _ (Below.refl _ _) (vok rfl) facts_nil
        · intro a uq K hS hd hK
          have s61 := (waits_on hd 0 (by kernel_rfl)).at (d := 61) rfl rfl rfl
          rw [if_pos (want_free rfl)]
          have c := p0 uq
          go_simp
          exact hK _ _ (Below.refl _ _) (vok rfl) facts_nil
        · intro a uq K hS hd hK
          have s2 := hS.at 2 (by kernel_rfl) rfl
          rw [if_pos (want_free rfl)]
          have c := k0 uq
          go_simp
          exact hK _ _ (Below.refl _ _) (vok rfl) facts_nil
        · intro a uq K hS hd hK
          have s63 := (waits_on hd 2 (by kernel_rfl)).at (d := 63) rfl rfl rfl
          rw [if_pos (want_free rfl)]
          go_simp
          exact hK _ _ (Below.refl _ _) (vok rfl) facts_nil
        · intro a uq K hS hd hK
          have s64 := (waits_on hd 3 (by kernel_rfl)).at (d := 64) rfl rfl rfl
          rw [if_pos (want_free rfl)]
          go_simp
          exact hK _ _ (Below.refl _ _) (vok rfl) facts_nil
        · intro a uq K hS hd hK
          have s65 := (waits_on hd 4 (by kernel_rfl)).at (d := 65) rfl rfl rfl
          rw [if_pos (want_free rfl)]
          have c := z2 uq
          go_simp
          exact hK _ _ (Below.refl _ _) (vok rfl) facts_nil
        · intro a uq K hS hd hK
          have s66 := (waits_on hd 5 (by kernel_rfl)).at (d := 66) rfl rfl rfl
          rw [if_pos (want_free rfl)]
          go_simp
          exact hK _ _ (Below.refl _ _) (vok rfl) facts_nil
        · intro a uq K hS hd hK
          have s62 := (waits_on hd 1 (by kernel_rfl)).at (d := 62) rfl rfl rfl
          have s67 := (waits_on hd 6 (by kernel_rfl)).at (d := 67) rfl rfl rfl
          rw [if_pos (want_free rfl)]
          go_simp
          exact hK _ _ (Below.refl _ _) (vok rfl) facts_nil
      case hfin =>
        intro a uq hS hk
        have s61 := (hk 0 (by decide)).at (d := 61) rfl rfl rfl
        have s62 := (hk 1 (by decide)).at (d := 62) rfl rfl rfl
        have s63 := (hk 2 (by decide)).at (d := 63) rfl rfl rfl
        have s64 := (hk 3 (by decide)).at (d := 64) rfl rfl rfl
        have s65 := (hk 4 (by decide)).at (d := 65) rfl rfl rfl
        have s66 := (hk 5 (by decide)).at (d := 66) rfl rfl rfl
        have s67 := (hk 6 (by decide)).at (d := 67) rfl rfl rfl
        have s68 := (hk 7 (by decide)).at (d := 68) rfl rfl rfl
        have hlit := hS.lit _ (by kernel_rfl) (lits_cons s61 (lits_cons s62 (lits_cons s63 (lits_cons s64 (lits_cons s65 (lits_cons s66 (lits_cons s67 (lits_cons s68 lits_nil))))))))
        rw [hlit]
        clear hlit hk hS s61 s62 s63 s64 s65 s66 s67 s68
        have HCq := hide (HCL.out.to (hgu uq))
        have HEq := hide (HER.out.to (hgu uq))
        have HK0q := hide (HK0.out.to (hgu uq))
        have HK1q := hide (HK1.out.to (hgu uq))
        have HBq := hide (below_to HBl.out (Nat.le_refl _) (hgu uq))
        have HKq : Hid ((g uq).heap[D]? = some (.deferred (some []))) := ((hgu uq).block D (Array.getElem?_eq_some_iff.1 HK.out).1).trans HK.out
        simp only [litT, List.setIfInBounds_toArray, List.set_cons_succ, List.set_cons_zero]
        clear k0 p0 p3 z0 z1 z2 HCL HER HK0 HK1 HBl HK
        revert HCq HEq HK0q HK1q HBq HKq
        generalize g uq = w9
        intro HCL HER HK0 HK1 HBl HK
        clear hgu hi g u0
        by_cases hlo : (its.length : Int) < p.fr
        · have e9 : decide ((its.length : Int) < p.fr) = true := decide_eq_true hlo
          have y0 := (HER.out.cell 0).trans (show _ = some (Value.int .i64 0) from rfl)
          have yf := HER.out.frozen 0
        
          gi_wp2
          have HKs : (w9.setCell ⟨w.heap.size + 1 + 1, 0, none⟩ (.int .i64 13)).heap[D]? = some (.deferred (some [])) := (KeepsOthers.setCell w9 ⟨w.heap.size + 1 + 1, 0, none⟩ (.int .i64 13)).same D _ HK.out rfl
          have hbs := HBl.out.setCell (p := ⟨w.heap.size + 1 + 1, 0, none⟩) (by show _ ≤ w.heap.size + 1 + 1; omega) (.int .i64 13)
          refine ⟨by simp, .inl ⟨_, _, rfl, run_takeDeferred HKs, ?_⟩⟩
          refine ⟨_, results_errno rfl _ _ (w.heap.size + 1 + 1) _ rfl ((HER.out.set_ 0 (.int .i64 13)).own (grownBy_putObj' _ D (.deferred none)) (fun r e => by cases e; exact ⟨_, HKs, rfl⟩)), 13, rfl, (.inl ⟨.inr ⟨hall, of_decide_eq_true e9, rfl⟩, accept_same HC.out (hbs.trans (belowK_b (w := w) (Nat.le_refl _) _ D _ _ (by omega) HKs rfl rfl))⟩)⟩
        · have e9 : decide ((its.length : Int) < p.fr) = false := decide_eq_false hlo
          have ew9 : IntKind.i64.wrap ((its.length : Int) - p.fr) = (its.length : Int) - p.fr := w64 (by omega) (by omega)
          obtain ⟨U, hU, g, u0, rfl, hgu, hi⟩ := cls w9
          have k0 := fun u => ((HK0.out.to (hgu u)).cell 0).trans (show _ = some (Value.pointer (some ⟨b, 0, none⟩)) from rfl)
          have p0 := fun u => ((HK1.out.to (hgu u)).cell 0).trans (show _ = some (Value.int .i64 p.fr) from rfl)
          have p3 := fun u => ((HK1.out.to (hgu u)).cell 3).trans (show _ = some (Value.slice Ai p.items.length ci) from rfl)
          have z0 := fun u => ((HCL.out.blk.to (hgu u)).cell 0).trans (show _ = some (Value.string (bs root)) from rfl)
          have z1 := fun u => ((HCL.out.blk.to (hgu u)).cell 1).trans (show _ = some (Value.int .i64 size) from rfl)
          have z2 := fun u => ((HCL.out.blk.to (hgu u)).cell 2).trans (show _ = some (Value.slice Av its.length cv) from rfl)
          gi_wp2
          refine wpIn_region_ofW (by kernel_rfl) (by kernel_rfl) (fun ⟨a, w, h⟩ => by obtain ⟨_, h2, _⟩ := h; cases h2) ?_
          apply wpAny_looseG g (V := [some _, some _, some _, some _, some _, some _, some _, some _, some _]) (Fs := []) (Rel := fun _ w w' => Below w.heap.size w w')
          case hB => kernel_rfl
          case hCw => exact hi _ (hgu _).drew
          case hC =>
            rintro i uq w' hr
            exact hi _ (below_to (hgu uq) (Nat.le_refl _) hr)
          case hst =>
            exact keeps_nil
          case hop =>
            refine ⟨?_, ?_, ?_, ?_, ?_, ?_, ?_, ?_, ?_, trivial⟩
            · intro a uq K hS hd hK
              have s2 := hS.at 2 (by kernel_rfl) rfl
              rw [if_pos (want_free rfl)]
              have c := k0 uq
              go_simp
              exact hK _ _ (Below.refl _ _) (vok rfl) facts_nil
            · intro a uq K hS hd hK
              have s69 := (waits_on hd 0 (by kernel_rfl)).at (d := 69) rfl rfl rfl
              rw [if_pos (want_free rfl)]
              go_simp
              exact hK _ _ (Below.refl _ _) (vok rfl) facts_nil
            · intro a uq K hS hd hK
              have s70 := (waits_on hd 1 (by kernel_rfl)).at (d := 70) rfl rfl rfl
              rw [if_pos (want_free rfl)]
              go_simp
              exact hK _ _ (Below.refl _ _) (vok rfl) facts_nil
            · intro a uq K hS hd hK
              have s71 := (waits_on hd 2 (by kernel_rfl)).at (d := 71) rfl rfl rfl
              rw [if_pos (want_free rfl)]
              have c := z2 uq
              go_simp
              exact hK _ _ (Below.refl _ _) (vok rfl) facts_nil
            · intro a uq K hS hd hK
              have s72 := (waits_on hd 3 (by kernel_rfl)).at (d := 72) rfl rfl rfl
              rw [if_pos (want_free rfl)]
              go_simp
              exact hK _ _ (Below.refl _ _) (vok rfl) facts_nil
            · intro a uq K hS hd hK
              have s3 := hS.at 3 (by kernel_rfl) rfl
              rw [if_pos (want_free rfl)]
              go_simp
              exact hK _ _ (Below.refl _ _) (vok rfl) facts_nil
            · intro a uq K hS hd hK
              have s74 := (waits_on hd 5 (by kernel_rfl)).at (d := 74) rfl rfl rfl
              rw [if_pos (want_free rfl)]
              have c := p0 uq
              go_simp
              exact hK _ _ (Below.refl _ _) (vok rfl) facts_nil
            · intro a uq K hS hd hK
              have s73 := (waits_on hd 4 (by kernel_rfl)).at (d := 73) rfl rfl rfl
              have s75 := (waits_on hd 6 (by kernel_rfl)).at (d := 75) rfl rfl rfl
              rw [if_pos (want_free rfl)]
              go_simp
              exact hK _ _ (Below.refl _ _) (vok rfl) facts_nil
            · intro a uq K hS hd hK
              have s76 := (waits_on hd 7 (by kernel_rfl)).at (d := 76) rfl rfl rfl
              rw [if_pos (want_free rfl)]
              go_simp
              exact hK _ _ (Below.refl _ _) (vok rfl) facts_nil
          case hfin =>
            intro a uq hS hk
            have s69 := (hk 0 (by decide)).at (d := 69) rfl rfl rfl
            have s70 := (hk 1 (by decide)).at (d := 70) rfl rfl rfl
            have s71 := (hk 2 (by decide)).at (d := 71) rfl rfl rfl
            have s72 := (hk 3 (by decide)).at (d := 72) rfl rfl rfl
            have s73 := (hk 4 (by decide)).at (d := 73) rfl rfl rfl
            have s74 := (hk 5 (by decide)).at (d := 74) rfl rfl rfl
            have s75 := (hk 6 (by decide)).at (d := 75) rfl rfl rfl
            have s76 := (hk 7 (by decide)).at (d := 76) rfl rfl rfl
            have s6 := (hk 8 (by decide)).at (d := 6) rfl rfl rfl
            have hlit := hS.lit _ (by kernel_rfl) (lits_cons s69 (lits_cons s70 (lits_cons s71 (lits_cons s72 (lits_cons s73 (lits_cons s74 (lits_cons s75 (lits_cons s76 (lits_cons s6 lits_nil)))))))))
            rw [hlit]
            clear hlit hk hS s69 s70 s71 s72 s73 s74 s75 s76 s6
            have HCq := hide (HCL.out.to (hgu uq))
            have HEq := hide (HER.out.to (hgu uq))
            have HK0q := hide (HK0.out.to (hgu uq))
            have HK1q := hide (HK1.out.to (hgu uq))
            have HBq := hide (below_to HBl.out (Nat.le_refl _) (hgu uq))
            have HKq : Hid ((g uq).heap[D]? = some (.deferred (some []))) := ((hgu uq).block D (Array.getElem?_eq_some_iff.1 HK.out).1).trans HK.out
            simp only [litT, List.setIfInBounds_toArray, List.set_cons_succ, List.set_cons_zero]
            clear k0 p0 p3 z0 z1 z2 HCL HER HK0 HK1 HBl HK
            revert HCq HEq HK0q HK1q HBq HKq
            generalize g uq = w11
            intro HCL HER HK0 HK1 HBl HK
            clear hgu hi g u0
            obtain ⟨kk, hkk⟩ : ∃ kk : Nat, (its.length : Int) - p.fr = (kk : Int) := ⟨its.length - p.fr.toNat, by omega⟩
            rw [hkk]
            have hkn : its.length - p.fr.toNat = kk := by omega
            have y0 := (HER.out.cell 0).trans (show _ = some (Value.int .i64 0) from rfl)
            have yf := HER.out.frozen 0
            have p3 := (HK1.out.cell 3).trans (show _ = some (Value.slice Ai p.items.length ci) from rfl)
            have HKN : Hid (its.length - p.fr.toNat = kk) := hkn
            have hple : p.fr ≤ (its.length : Int) := by omega
            clear ew9 hkn e9 hlo hkk
            by_cases hlt : kk < p.items.length
            · have e12 : decide ((kk : Int) < (p.items.length : Int)) = true := decide_eq_true (by omega)
              gi_wp2
              have hrl : rowOr (.slice Av its.length cv) b < w.heap.size := by
                unfold rowOr
                cases e : (Value.ownBlock (.slice Av its.length cv)) with
                | none => exact hbw
                | some g => exact hvo g e
              have hvi := HVI.out
              obtain ⟨x0, hx0⟩ : ∃ x, p.items[0]? = some x := ⟨_, List.getElem?_eq_getElem (by omega)⟩
              obtain ⟨ai, rfl, _⟩ := hvi.at_ hx0
              have hne0 : p.items ≠ [] := fun e => by rw [e] at hx0; cases hx0
              have hvb := hvb0 hne0
              have hvr := fun g e => hvr0 g e hne0
              clear hx0
              have hk0 : ∀ W, Two b (rowOr (.slice Av its.length cv) b) w11 W → W.cell? ⟨w.heap.size, 0, none⟩ = some (.pointer (some ⟨b, 0, none⟩)) := fun W hW => ((Two.blk HK0.out hW (by omega) (by omega)).cell 0).trans rfl
              have hk3 : ∀ W, Two b (rowOr (.slice Av its.length cv) b) w11 W → W.cell? ⟨w.heap.size + 1, 3, none⟩ = some (.slice (some ai) p.items.length ci) := fun W hW => ((Two.blk HK1.out hW (by omega) (by omega)).cell 3).trans rfl
              have hks : ∀ W, Two b (rowOr (.slice Av its.length cv) b) w11 W → TextsAt W (.slice (some ai) p.items.length ci) p.items := fun W hW => (HVI.out.to HBl.out).two hW hvb (fun e => by
                unfold rowOr at e
                cases e2 : (Value.ownBlock (.slice Av its.length cv)) with
                | none => rw [e2] at e; exact hvb e
                | some g => rw [e2] at e; exact hvr g e2 e)
              have hkl : kk ≤ p.items.length := by omega
              have hnk : ¬ p.items.length = kk := by omega
              have hoN : ∀ k, k ≤ b → some k ≠ (Value.ownBlock (.slice Av its.length cv)) := fun k hk e => by have := (CliAt.lt HC.out k e.symm).1; omega
              obtain ⟨i0, hi0, hz0, hz1, hz2⟩ := info_parts info_str
              refine wpIn_region_ofW (by kernel_rfl) (by kernel_rfl) (fun ⟨a, w, h⟩ => by obtain ⟨_, h2, _⟩ := h; cases h2) ?_
              apply wpAny_lo2 (C := fun W => Two b (rowOr (.slice Av its.length cv) b) w11 W) (V := [some _, some _, some _, some _, some _, some _, some _, some _, some _, some _, some _, some _, some _, some _, some _, none, some _, some _, none]) (Fs := [(15, fun a W => ∃ v', a.tmps[97]? = some v' ∧ World.ownsRow W (b + 1) 9 1 v' (its.length + (p.items.length - kk)) (flatS its ++ flatS (p.items.drop kk)) ∧ (v'.ownBlock = Value.ownBlock (.slice Av its.length cv) ∨ ∃ g, v'.ownBlock = some g ∧ w11.heap.size ≤ g)), (18, fun a W => ∃ v', a.tmps[97]? = some v' ∧ Blk W b 69 #[.string (bs root), .int .i64 size, v'])]) (Ns := [(4, fun (_ : Act) W => Blk W b 69 #[.string (bs root), .int .i64 size, (.slice Av its.length cv)]), (15, fun (_ : Act) W => World.ownsRow W (b + 1) 9 1 (.slice Av its.length cv) its.length (flatS its) ∧ w11.heap.size ≤ W.heap.size), (18, fun (_ : Act) W => Blk W b 69 #[.string (bs root), .int .i64 size, (.slice Av its.length cv)])]) (Rel := fun i x x' => if i = 15 then (fun x x' => World.grownBy x x' (Value.ownBlock (.slice Av its.length cv))) x x' else if i = 18 then (fun x x' => ∃ u, x' = World.setCell x ⟨b, 2, none⟩ u) x x' else Below x.heap.size x x')
              case hB => kernel_rfl
              case hCw => exact ((Two.refl b (rowOr (.slice Av its.length cv) b) w11).drewN 1)
              case hC =>
                intro i w_ w' hw hr
                by_cases e15 : i = 15
                · subst e15
                  have hr' : (fun x x' => World.grownBy x x' (Value.ownBlock (.slice Av its.length cv))) w_ w' := hr
                  exact Two.trans hw (Two.grown hr')
                by_cases e18 : i = 18
                · subst e18
                  have hr' : (fun x x' => ∃ u, x' = World.setCell x ⟨b, 2, none⟩ u) w_ w' := hr
                  obtain ⟨u, rfl⟩ := hr'
                  exact Two.set1 hw _ u
                have hr' : Below w_.heap.size w_ w' := by simpa [e15, e18] using hr
                exact Two.to hw hr'
              case hst =>
                refine keeps_cons (fun i a a' w_ w' hne hwt hs hr h => by
                  by_cases e15 : i = 15
                  · exact absurd e15 hne
                  by_cases e18 : i = 18
                  · subst e18
                    have hr' : (fun x x' => ∃ u, x' = World.setCell x ⟨b, 2, none⟩ u) w_ w' := hr
                    obtain ⟨c, h1, h2, h3⟩ := h
                    obtain ⟨u, rfl⟩ := hr'
                    exact ⟨c, (hs 97 (by kernel_rfl)).trans h1, ownsRow_set h2 (fun e => by have := (World.ownsRow.lt h2 _ e).1; omega), h3⟩
                  have hr' : Below w_.heap.size w_ w' := by simpa [e15, e18] using hr
                  obtain ⟨c, h1, h2, h3⟩ := h
                  exact ⟨c, (hs 97 (by kernel_rfl)).trans h1, ownsRow_to h2 hr', h3⟩) ?_
                refine keeps_cons (fun i a a' w_ w' hne hwt hs hr h => by
                  by_cases e15 : i = 15
                  · subst e15
                    exact absurd (hwt.symm.trans (show Region.waitsFor .any _ 18 15 = true by kernel_rfl)) (by decide)
                  by_cases e18 : i = 18
                  · exact absurd e18 hne
                  have hr' : Below w_.heap.size w_ w' := by simpa [e15, e18] using hr
                  obtain ⟨c, h1, h2⟩ := h
                  exact ⟨c, (hs 97 (by kernel_rfl)).trans h1, h2.to hr'⟩) ?_
                exact keeps_nil
              case hN0 => exact pre0_cons (HCL.out.blk) (pre0_cons (⟨HCL.out.own, Nat.le_refl _⟩) (pre0_cons (HCL.out.blk) (pre0_nil)))
              case hNst =>
                refine prek_cons (fun i a a' w_ w' hne hwt hr h hp => by
                  by_cases e15 : i = 15
                  · subst e15
                    exact absurd (hwt.symm.trans (show waitsT .any _ _ 15 4 = true by kernel_rfl)) (by decide)
                  by_cases e18 : i = 18
                  · subst e18
                    exact absurd (hwt.symm.trans (show waitsT .any _ _ 18 4 = true by kernel_rfl)) (by decide)
                  have hr' : Below w_.heap.size w_ w' := by simpa [e15, e18] using hr
                  exact h.to hr') ?_
                refine prek_cons (fun i a a' w_ w' hne hwt hr h hp => by
                  by_cases e15 : i = 15
                  · exact absurd e15 hne
                  by_cases e18 : i = 18
                  · subst e18
                    exact absurd (hwt.symm.trans (show waitsT .any _ _ 18 15 = true by kernel_rfl)) (by decide)
                  have hr' : Below w_.heap.size w_ w' := by simpa [e15, e18] using hr
                  exact ⟨ownsRow_to h.1 hr', Nat.le_trans h.2 hr'.size⟩) ?_
                refine prek_cons (fun i a a' w_ w' hne hwt hr h hp => by
                  by_cases e15 : i = 15
                  · subst e15
                    have hr' : (fun x x' => World.grownBy x x' (Value.ownBlock (.slice Av its.length cv))) w_ w' := hr
                    exact (hr'.block b h.lt (hoN b (Nat.le_refl _))).trans h
                  by_cases e18 : i = 18
                  · exact absurd e18 hne
                  have hr' : Below w_.heap.size w_ w' := by simpa [e15, e18] using hr
                  exact h.to hr') ?_
                exact prek_nil
              case hop =>
                refine ⟨?_, ?_, ?_, ?_, ?_, ?_, ?_, ?_, ?_, ?_, ?_, ?_, ?_, ?_, ?_, ?_, ?_, ?_, ?_, trivial⟩
                · intro a w_ K hw hS hd hN hK
                  have s2 := hS.at 2 (by kernel_rfl) rfl
                  rw [if_pos (want_free rfl)]
                  have c := hk0 w_ hw
                  go_simp
                  exact hK _ _ (Below.refl _ _) (vok rfl) (facts_cons (fun h => absurd h (by decide)) (facts_cons (fun h => absurd h (by decide)) facts_nil))
                · intro a w_ K hw hS hd hN hK
                  have s2 := hS.at 2 (by kernel_rfl) rfl
                  rw [if_pos (want_free rfl)]
                  have c := hk0 w_ hw
                  go_simp
                  exact hK _ _ (Below.refl _ _) (vok rfl) (facts_cons (fun h => absurd h (by decide)) (facts_cons (fun h => absurd h (by decide)) facts_nil))
                · intro a w_ K hw hS hd hN hK
                  have s83 := (waits_on hd 1 (by kernel_rfl)).at (d := 83) rfl rfl rfl
                  rw [if_pos (want_free rfl)]
                  go_simp
                  exact hK _ _ (Below.refl _ _) (vok rfl) (facts_cons (fun h => absurd h (by decide)) (facts_cons (fun h => absurd h (by decide)) facts_nil))
                · intro a w_ K hw hS hd hN hK
                  have s84 := (waits_on hd 2 (by kernel_rfl)).at (d := 84) rfl rfl rfl
                  rw [if_pos (want_free rfl)]
                  go_simp
                  exact hK _ _ (Below.refl _ _) (vok rfl) (facts_cons (fun h => absurd h (by decide)) (facts_cons (fun h => absurd h (by decide)) facts_nil))
                · intro a w_ K hw hS hd hN hK
                  have s85 := (waits_on hd 3 (by kernel_rfl)).at (d := 85) rfl rfl rfl
                  have hBp := hN _ (List.mem_cons_self ..) rfl
                  rw [if_pos (want_free rfl)]
                  have c := (hBp.cell 2).trans (show _ = some (Value.slice Av its.length cv) from rfl)
                  go_simp
                  exact hK _ _ (Below.refl _ _) (vok rfl) (facts_cons (fun h => absurd h (by decide)) (facts_cons (fun h => absurd h (by decide)) facts_nil))
                · intro a w_ K hw hS hd hN hK
                  have s3 := hS.at 3 (by kernel_rfl) rfl
                  rw [if_pos (want_free rfl)]
                  go_simp
                  exact hK _ _ (Below.refl _ _) (vok rfl) (facts_cons (fun h => absurd h (by decide)) (facts_cons (fun h => absurd h (by decide)) facts_nil))
                · intro a w_ K hw hS hd hN hK
                  have s87 := (waits_on hd 5 (by kernel_rfl)).at (d := 87) rfl rfl rfl
                  rw [if_pos (want_free rfl)]
                  have c := hk3 w_ hw
                  go_simp
                  exact hK _ _ (Below.refl _ _) (vok rfl) (facts_cons (fun h => absurd h (by decide)) (facts_cons (fun h => absurd h (by decide)) facts_nil))
                · intro a w_ K hw hS hd hN hK
                  have s6 := hS.at 6 (by kernel_rfl) rfl
                  rw [if_pos (want_free rfl)]
                  go_simp
                  exact hK _ _ (Below.refl _ _) (vok rfl) (facts_cons (fun h => absurd h (by decide)) (facts_cons (fun h => absurd h (by decide)) facts_nil))
                · intro a w_ K hw hS hd hN hK
                  have s3 := hS.at 3 (by kernel_rfl) rfl
                  rw [if_pos (want_free rfl)]
                  go_simp
                  exact hK _ _ (Below.refl _ _) (vok rfl) (facts_cons (fun h => absurd h (by decide)) (facts_cons (fun h => absurd h (by decide)) facts_nil))
                · intro a w_ K hw hS hd hN hK
                  have s90 := (waits_on hd 8 (by kernel_rfl)).at (d := 90) rfl rfl rfl
                  rw [if_pos (want_free rfl)]
                  have c := hk3 w_ hw
                  go_simp
                  exact hK _ _ (Below.refl _ _) (vok rfl) (facts_cons (fun h => absurd h (by decide)) (facts_cons (fun h => absurd h (by decide)) facts_nil))
                · intro a w_ K hw hS hd hN hK
                  have s91 := (waits_on hd 9 (by kernel_rfl)).at (d := 91) rfl rfl rfl
                  rw [if_pos (want_free rfl)]
                  go_simp
                  exact hK _ _ (Below.refl _ _) (vok rfl) (facts_cons (fun h => absurd h (by decide)) (facts_cons (fun h => absurd h (by decide)) facts_nil))
                · intro a w_ K hw hS hd hN hK
                  have s3 := hS.at 3 (by kernel_rfl) rfl
                  rw [if_pos (want_free rfl)]
                  go_simp
                  exact hK _ _ (Below.refl _ _) (vok rfl) (facts_cons (fun h => absurd h (by decide)) (facts_cons (fun h => absurd h (by decide)) facts_nil))
                · intro a w_ K hw hS hd hN hK
                  have s93 := (waits_on hd 11 (by kernel_rfl)).at (d := 93) rfl rfl rfl
                  rw [if_pos (want_free rfl)]
                  have c := hk3 w_ hw
                  go_simp
                  exact hK _ _ (Below.refl _ _) (vok rfl) (facts_cons (fun h => absurd h (by decide)) (facts_cons (fun h => absurd h (by decide)) facts_nil))
                · intro a w_ K hw hS hd hN hK
                  have s94 := (waits_on hd 12 (by kernel_rfl)).at (d := 94) rfl rfl rfl
                  rw [if_pos (want_free rfl)]
                  go_simp
                  exact hK _ _ (Below.refl _ _) (vok rfl) (facts_cons (fun h => absurd h (by decide)) (facts_cons (fun h => absurd h (by decide)) facts_nil))
                · intro a w_ K hw hS hd hN hK
                  have s88 := (waits_on hd 6 (by kernel_rfl)).at (d := 88) rfl rfl rfl
                  have s89 := (waits_on hd 7 (by kernel_rfl)).at (d := 89) rfl rfl rfl
                  have s92 := (waits_on hd 10 (by kernel_rfl)).at (d := 92) rfl rfl rfl
                  have s95 := (waits_on hd 13 (by kernel_rfl)).at (d := 95) rfl rfl rfl
                  rw [if_pos (want_free rfl)]
                  go_simp
                  exact hK _ _ (Below.refl _ _) (vok rfl) (facts_cons (fun h => absurd h (by decide)) (facts_cons (fun h => absurd h (by decide)) facts_nil))
                · intro a w_ K hw hS hd hN hK
                  have s86 := (waits_on hd 4 (by kernel_rfl)).at (d := 86) rfl rfl rfl
                  have s96 := (waits_on hd 14 (by kernel_rfl)).at (d := 96) rfl rfl rfl
                  obtain ⟨hOwn, hSz⟩ := hN _ (List.mem_cons_of_mem _ (List.mem_cons_self ..)) rfl
                  rw [if_pos (want_free rfl)]
                  have hdk := (hks w_ hw).drop (k := kk) hkl (p.items.length - kk) (by omega)
                  refine wp_append_keep w_ (.tmp 86) (.tmp 96) 22 rfl (b + 1) 9 i0 _ 1 16 Tryz.underlying22 hi0 hz0 hz1 hz2 rfl (by decide) (.slice Av its.length cv) its.length _ (eval_at s86) hOwn (ai.add kk) (p.items.length - kk) (p.items.length - kk) (flatS (p.items.drop kk)) (eval_at s96) (by rw [flatS_len, List.length_drop, Nat.mul_one]) (TextsAt.cells hdk) (by
                    intro u hu
                    obtain ⟨x, _, rfl⟩ := List.mem_map.1 hu
                    rfl) (by unfold maxLen; omega) (by omega) (by have := HCL.out.blk.lt; omega) ?_
                  intro v' w' h2 h3 h4 h5
                  exact hK v' w' h3 (vfree rfl) (facts_cons (fun _ => ⟨v', hS.put_at (by kernel_rfl) _, h2, h5.imp id fun ⟨g, e, hg⟩ => ⟨g, e, Nat.le_trans hSz hg⟩⟩) (facts_cons (fun h => absurd h (by decide)) facts_nil))
                · intro a w_ K hw hS hd hN hK
                  have s82 := (waits_on hd 0 (by kernel_rfl)).at (d := 82) rfl rfl rfl
                  rw [if_pos (want_free rfl)]
                  go_simp
                  exact hK _ _ (Below.refl _ _) (vok rfl) (facts_cons (fun h => absurd h (by decide)) (facts_cons (fun h => absurd h (by decide)) facts_nil))
                · intro a w_ K hw hS hd hN hK
                  have s98 := (waits_on hd 16 (by kernel_rfl)).at (d := 98) rfl rfl rfl
                  rw [if_pos (want_free rfl)]
                  go_simp
                  exact hK _ _ (Below.refl _ _) (vok rfl) (facts_cons (fun h => absurd h (by decide)) (facts_cons (fun h => absurd h (by decide)) facts_nil))
                · intro a w_ K hw hS hd hN hK
                  have s99 := (waits_on hd 17 (by kernel_rfl)).at (d := 99) rfl rfl rfl
                  obtain ⟨v97, s97, o97, k97⟩ := (waits_on hd 15 (by kernel_rfl)).2 _ (List.mem_cons_self ..) rfl
                  have hBs := hN _ (List.mem_cons_of_mem _ (List.mem_cons_of_mem _ (List.mem_cons_self ..))) rfl
                  rw [if_pos (want_free rfl)]
                  have c0 := (hBs.cell 2).trans (show _ = some (Value.slice Av its.length cv) from rfl)
                  have f0 := hBs.frozen 2
                  obtain ⟨A0, c0', rfl⟩ := own_sl4 o97
                  go_simp
                  exact hK undef _ ⟨_, rfl⟩ (vfree rfl) (facts_cons (fun h => absurd h (by decide)) (facts_cons (fun _ => ⟨_, s97, hBs.set_ 2 _⟩) facts_nil))
              case hfin =>
                intro a w13 hw hS hk
                have s82 := (hk 0 (by decide)).at (d := 82) rfl rfl rfl
                have s83 := (hk 1 (by decide)).at (d := 83) rfl rfl rfl
                have s84 := (hk 2 (by decide)).at (d := 84) rfl rfl rfl
                have s85 := (hk 3 (by decide)).at (d := 85) rfl rfl rfl
                have s86 := (hk 4 (by decide)).at (d := 86) rfl rfl rfl
                have s87 := (hk 5 (by decide)).at (d := 87) rfl rfl rfl
                have s88 := (hk 6 (by decide)).at (d := 88) rfl rfl rfl
                have s89 := (hk 7 (by decide)).at (d := 89) rfl rfl rfl
                have s90 := (hk 8 (by decide)).at (d := 90) rfl rfl rfl
                have s91 := (hk 9 (by decide)).at (d := 91) rfl rfl rfl
                have s92 := (hk 10 (by decide)).at (d := 92) rfl rfl rfl
                have s93 := (hk 11 (by decide)).at (d := 93) rfl rfl rfl
                have s94 := (hk 12 (by decide)).at (d := 94) rfl rfl rfl
                have s95 := (hk 13 (by decide)).at (d := 95) rfl rfl rfl
                have s96 := (hk 14 (by decide)).at (d := 96) rfl rfl rfl
                obtain ⟨v97, s97, o97, k97⟩ := (hk 15 (by decide)).2 _ (List.mem_cons_self ..) rfl
                have s98 := (hk 16 (by decide)).at (d := 98) rfl rfl rfl
                have s99 := (hk 17 (by decide)).at (d := 99) rfl rfl rfl
                obtain ⟨z97, zs97, zB⟩ := (hk 18 (by decide)).2 _ (List.mem_cons_of_mem _ (List.mem_cons_self ..)) rfl
                have hlit := hS.lit _ (by kernel_rfl) (lits_cons s82 (lits_cons s83 (lits_cons s84 (lits_cons s85 (lits_cons s86 (lits_cons s87 (lits_cons s88 (lits_cons s89 (lits_cons s90 (lits_cons s91 (lits_cons s92 (lits_cons s93 (lits_cons s94 (lits_cons s95 (lits_cons s96 (lits_cons s97 (lits_cons s98 (lits_cons s99 lits_nil))))))))))))))))))
                rw [hlit]
                obtain rfl : v97 = z97 := Option.some.inj (s97.symm.trans zs97)
                clear hlit hk hS s82 s83 s84 s85 s86 s87 s88 s89 s90 s91 s92 s93 s94 s95 s96 s97 zs97 s98 s99
                have hPRn := hk0 w13 hw
                have hEn := Two.blk HER.out hw (by omega) (by omega)
                have hDn : w13.heap[D]? = some (.deferred (some [])) := (hw.block D (Array.getElem?_eq_some_iff.1 HK.out).1 (by omega) (by omega)).trans HK.out
                obtain ⟨A97, c97, rfl⟩ := own_sl4 o97
                have y0 := (hEn.cell 0).trans (show _ = some (Value.int .i64 0) from rfl)
                have yf := hEn.frozen 0
                simp only [litT, List.setIfInBounds_toArray, List.set_cons_succ, List.set_cons_zero]
                clear hk0 hk3
                gi_wp2
                have HKs : (w13.setCell ⟨w.heap.size + 1 + 1, 0, none⟩ (.int .i64 0)).heap[D]? = some (.deferred (some [])) := (KeepsOthers.setCell w13 ⟨w.heap.size + 1 + 1, 0, none⟩ (.int .i64 0)).same D _ hDn rfl
                refine ⟨by simp, .inl ⟨_, _, rfl, run_takeDeferred HKs, ?_⟩⟩
                refine ⟨_, results_errno rfl _ _ (w.heap.size + 1 + 1) _ rfl ((hEn.set_ 0 (.int .i64 0)).own (grownBy_putObj' _ D (.deferred none)) (fun r e => by cases e; exact ⟨_, HKs, rfl⟩)), 0, rfl, .inr ⟨⟨hall, hple, rfl⟩, ?_⟩⟩
                have hT1 : Two b (rowOr (.slice Av its.length cv) b) w w13 := (Two.of HBl.out).trans hw
                have hP1 := belowK_b (n₀ := w.heap.size) (w := w) (Nat.le_refl _) _ D _ (.deferred none) (by omega) HKs rfl rfl
                have hT2 := (hT1.further ((Below.refl w.heap.size w13).setCell (p := ⟨w.heap.size + 1 + 1, 0, none⟩) (by show _ ≤ w.heap.size + 1 + 1; omega) (.int .i64 0))).further hP1
                have hC1 : CliAt b root size (its ++ p.items.drop (its.length - p.fr.toNat)) (.slice A97 (its.length + (p.items.length - kk)) c97) w13 := by
                  rw [HKN.out]
                  refine ⟨zB, ?_⟩
                  rw [List.length_append, List.length_drop, show flatS (its ++ p.items.drop kk) = flatS its ++ flatS (p.items.drop kk) by simp [flatS]]
                  exact o97
                have hC2 : CliAt b root size (its ++ p.items.drop (its.length - p.fr.toNat)) (.slice A97 (its.length + (p.items.length - kk)) c97) (w13.setCell ⟨w.heap.size + 1 + 1, 0, none⟩ (.int .i64 0)) :=
                  ⟨hC1.blk.far (p := ⟨w.heap.size + 1 + 1, 0, none⟩) (by show b ≠ w.heap.size + 1 + 1; omega) _, ownsRow_set hC1.own (fun e => by
                    rcases k97 with h | ⟨g, h, hg⟩
                    · rw [h] at e; have := hvo _ e; omega
                    · rw [h] at e; cases e; have := HER.out.lt; omega)⟩
                exact ⟨_, rfl, hC2.own_ (grownBy_putObj' _ D (.deferred none)) (fun r e => by cases e; exact ⟨_, HKs, rfl⟩), hT2, k97.imp id fun ⟨g, e, hg⟩ => ⟨g, e, Nat.le_trans HBl.out.size hg⟩⟩
            · have e12 : decide ((kk : Int) < (p.items.length : Int)) = false := decide_eq_false (by omega)
              gi_wp2
              have HKs : (w11.setCell ⟨w.heap.size + 1 + 1, 0, none⟩ (.int .i64 0)).heap[D]? = some (.deferred (some [])) := (KeepsOthers.setCell w11 ⟨w.heap.size + 1 + 1, 0, none⟩ (.int .i64 0)).same D _ HK.out rfl
              have hbs := HBl.out.setCell (p := ⟨w.heap.size + 1 + 1, 0, none⟩) (by show _ ≤ w.heap.size + 1 + 1; omega) (.int .i64 0)
              have hdr : its ++ p.items.drop (its.length - p.fr.toNat) = its := by rw [HKN.out, List.drop_of_length_le (by omega), List.append_nil]
              refine ⟨by simp, .inl ⟨_, _, rfl, run_takeDeferred HKs, ?_⟩⟩
              refine ⟨_, results_errno rfl _ _ (w.heap.size + 1 + 1) _ rfl ((HER.out.set_ 0 (.int .i64 0)).own (grownBy_putObj' _ D (.deferred none)) (fun r e => by cases e; exact ⟨_, HKs, rfl⟩)), 0, rfl, (.inr ⟨⟨hall, hple, rfl⟩, by rw [hdr]; exact accept_same HC.out (hbs.trans (belowK_b (w := w) (Nat.le_refl _) _ D _ _ (by omega) HKs rfl rfl))⟩)⟩
    case stop =>
      rintro D c pre W hD _ ⟨⟨rfl, hk, hcW, heW⟩, hBW⟩ hK
      obtain ⟨k, hk⟩ := hk
      have HBl := hide hBW
      have HK := hide hK
      clear hBW hK
      gi_wp2
      refine ⟨by simp, .inl ⟨_, _, rfl, run_takeDeferred HK.out, ?_⟩⟩
      refine ⟨_, results_errno rfl _ _ (w.heap.size + 1 + 1) _ rfl (heW.own (grownBy_putObj' _ D (.deferred none)) (fun r e => by cases e; exact ⟨_, HK.out, rfl⟩)), 17, rfl, (.inl ⟨.inl ⟨?_, rfl⟩, accept_same HC.out (HBl.out.trans (belowK_b (w := w) (Nat.le_refl _) _ D _ _ (by omega) HK.out rfl rfl))⟩)⟩
      rw [Bool.eq_false_iff]
      intro hall
      rw [List.all_eq_true.1 hall k (List.mem_finRange k)] at hk
      cases hk
end Go.Proofs.YtnjlefggkfagmaaGreatDoor

/- A client: Accept at every page. -/
set_option linter.unusedVariables false
set_option linter.unusedSimpArgs false
namespace Go.Proofs.YtnjlefggkfagmaaGreatDoor
open Go.RowKit Go.Shelf

theorem Accept_any (b : Nat) (root : List UInt8) (size : Int) (its : List (List UInt8)) (hil : its.length ≤ 1000000) (v : Value) (p : Pg) (hp : p.fit) (vi vp : Value) (w : World) (hg : Glob w) (hcl : CliAt b root size its v w) (hvi : TextsAt w vi p.items) (hvp : PathsAt w vp p.paths) (hvb : p.items ≠ [] → vi.ownBlock ≠ some b) (hvr : ∀ g, v.ownBlock = some g → p.items ≠ [] → vi.ownBlock ≠ some g) :
    Calls Tryz.prog 11 #[cliP b, .agg (p.cs vi vp)] w (AcceptR b root size (accE p root size its) (accV p root size its) v w) := by
  cases hf : formedB p with
  | false =>
    have h1 : accE p root size its = 1 := by unfold accE; rw [hf]; rfl
    have h2 : accV p root size its = its := by unfold accV; rw [h1]; rfl
    rw [h1, h2]
    exact Accept_no b root size its v p hp hf vi vp w hcl hvi hvp
  | true =>
    have h17 : heldB p root size = false → accE p root size its = 17 ∧ accV p root size its = its := fun h => by
      have h1 : accE p root size its = 17 := by unfold accE; rw [hf, h]; rfl
      exact ⟨h1, by unfold accV; rw [h1]; rfl⟩
    by_cases hr : p.root = root
    · by_cases hs : p.size = size
      · by_cases hfa : p.fr ≤ p.size - p.items.length
        · refine (Accept_main b root size its hil v p hp hf ⟨hr, hs, hfa⟩ vi vp w hg hcl hvi hvp hvb hvr).mono ?_
          have hsb : sameB p root size = true := by unfold sameB; rw [decide_eq_true hr, decide_eq_true hs, decide_eq_true hfa]; rfl
          rintro e w' ⟨k, he, (⟨(⟨ha, rfl⟩ | ⟨ha, hlt, rfl⟩), hR⟩ | ⟨⟨ha, hle, rfl⟩, hR⟩)⟩
          · obtain ⟨h1, h2⟩ := h17 (by unfold heldB; rw [hsb, ha]; rfl)
            rw [h1, h2]; exact hR
          · have h1 : accE p root size its = 13 := by unfold accE heldB; rw [hf, hsb, ha]; simp [hlt]
            have h2 : accV p root size its = its := by unfold accV; rw [h1]; rfl
            rw [h1, h2]; exact hR
          · have h1 : accE p root size its = 0 := by unfold accE heldB; rw [hf, hsb, ha]; simp; omega
            have h2 : accV p root size its = its ++ p.items.drop (its.length - p.fr.toNat) := by unfold accV; rw [h1]; rfl
            rw [h1, h2]; exact hR
        · obtain ⟨h1, h2⟩ := h17 (by unfold heldB sameB; rw [decide_eq_false hfa]; simp)
          rw [h1, h2]
          exact Accept_far b root size its v p hp hf ⟨hr, hs, hfa⟩ vi vp w hcl hvi hvp
      · obtain ⟨h1, h2⟩ := h17 (by unfold heldB sameB; rw [decide_eq_false hs]; simp)
        rw [h1, h2]
        exact Accept_size b root size its v p hp hf ⟨hr, hs⟩ vi vp w hcl hvi hvp
    · obtain ⟨h1, h2⟩ := h17 (by unfold heldB sameB; rw [decide_eq_false hr]; simp)
      rw [h1, h2]
      exact Accept_root b root size its v p hp hf hr vi vp w hcl hvi hvp
end Go.Proofs.YtnjlefggkfagmaaGreatDoor

/- Walks of the statements' helpers: lists compared, sizes, leaves. -/
set_option linter.unusedVariables false
set_option linter.unusedSimpArgs false
namespace Go.Proofs.YtnjlefggkfagmaaGreatDoor
open Go.RowKit

set_option maxRecDepth 100000 in
set_option maxHeartbeats 4000000 in
theorem Same_any (a b : List (List UInt8)) (ha : a.length ≤ 8796093022208) (hb : b.length ≤ 8796093022208) (v u : Value) (w : World) (hv : TextsAt w v a) (hu : TextsAt w u b) : Calls Tryz.prog 20 #[v, u] w fun e w' => e = .returned (.bool (decide (a = b))) ∧ Below w.heap.size w w' := by
  obtain ⟨A, c, rfl, _⟩ := hv.slice
  obtain ⟨B, d, rfl, _⟩ := hu.slice
  have HS := hide hv
  have HU := hide hu
  clear hv hu
  by_cases hab : a.length = b.length
  · have HAB := hide hab
    rw [← hab] at HU hb ⊢
    clear hab
    go_enter Tryz.func20, Tryz.ntmps20
    go_wp2_with fail
    go_loopw [5] (fun i wr => ∃ k : Nat, i = .int .i64 (k : Int) ∧ k ≤ a.length ∧ Aside (Below w.heap.size w wr) ∧ Aside (a.take k = b.take k)) (fun i _ => a.length - (intOf i).toNat)
    case atStart => exact ⟨0, rfl, by omega, Below.refl _ _, rfl⟩
    case round =>
      obtain ⟨k, rfl, hk, hB, hT⟩ := hrel
      have HB : Hid (Below w.heap.size w wr) := hB
      have HT : Hid (a.take k = b.take k) := hT
      clear hB hT
      by_cases hlt : k < a.length
      · have e1 : decide ((k : Int) < (a.length : Int)) = true := decide_eq_true (by omega)
        obtain ⟨x, hx⟩ : ∃ x, a[k]? = some x := ⟨_, List.getElem?_eq_getElem hlt⟩
        obtain ⟨y, hy⟩ : ∃ y, b[k]? = some y := ⟨_, List.getElem?_eq_getElem (by have := HAB.out; omega)⟩
        obtain ⟨aa, rfl, ha0, c0⟩ := (HS.out.to HB.out).at_ hx
        obtain ⟨ba, rfl, hb0, d0⟩ := (HU.out.to HB.out).at_ hy
        have i0 : (0 : Int) ≤ (k : Int) := by omega
        have i1 : (k : Int) < (a.length : Int) := by omega
        by_cases hxy : x = y
        · have HN : Hid (a.take (k + 1) = b.take (k + 1)) := by show _ = _; rw [List.take_add_one, List.take_add_one, hx, hy, HT.out, hxy]
          subst hxy
          have q : ((bs x).toList == (bs x).toList) = true := by simp
          clear hx hy
          go_wp2_with fail
          go_quiet (fail)
          go_wp2_with fail
          refine ⟨⟨k + 1, by go_num, by omega, below_drewN HB.out _, HN.out⟩, ?_⟩
          simp [intOf]; omega
        · have HN : Hid (decide (a = b) = false) := by
            show _ = _
            apply decide_eq_false
            rintro rfl
            exact hxy (Option.some.inj (hx.symm.trans hy))
          have q : ((bs x).toList == (bs y).toList) = false := by rw [beq_eq_false_iff_ne, bs_toList, bs_toList]; exact hxy
          clear hx hy hxy
          go_wp2_with fail
          go_quiet (fail)
          go_wp2_with fail
          go_ret
          exact ⟨ret_bool (by rw [HN.out]), below_drewN HB.out _⟩
      · obtain rfl : k = a.length := by omega
        have e1 : decide ((a.length : Int) < (a.length : Int)) = false := by simp
        have HN : Hid (decide (a = b) = true) := by
          show _ = _
          apply decide_eq_true
          have := HT.out
          rwa [List.take_length, HAB.out, List.take_length] at this
        go_wp2_with fail
        go_ret
        exact ⟨ret_bool (by rw [HN.out]), HB.out⟩
  · have HN : Hid (decide (a = b) = false) := by
      show _ = _
      apply decide_eq_false
      rintro rfl
      exact hab rfl
    have e1 : ((a.length : Int) == (b.length : Int)) = false := by rw [beq_eq_false_iff_ne]; omega
    have e2 : (a.length == b.length) = false := by rw [beq_eq_false_iff_ne]; exact hab
    clear hab
    go_enter Tryz.func20, Tryz.ntmps20
    go_wp2_with fail
    go_ret
    exact ⟨ret_bool (by rw [HN.out]), Below.refl _ _⟩
def fewT (l : List (List UInt8)) (m : Nat) : Bool := l.all (fun x => decide (x.length ≤ m)) && decide (l.length ≤ 30)
theorem all_step {α : Type} {f : α → Bool} {l : List α} {k : Nat} {x : α} (h : l[k]? = some x) : (l.take (k + 1)).all f = ((l.take k).all f && f x) := by
  rw [List.take_add_one, h, List.all_append]; simp
theorem all_no {α : Type} {f : α → Bool} {l : List α} {k : Nat} {x : α} (h : l[k]? = some x) (hf : f x = false) : l.all f = false := by
  rw [List.all_eq_false]
  exact ⟨x, List.mem_of_getElem? h, by rw [hf]; simp⟩
set_option maxRecDepth 100000 in
set_option maxHeartbeats 1000000 in
theorem Few_any (l : List (List UInt8)) (hl : l.length ≤ 8796093022208) (hx : ∀ x ∈ l, x.length ≤ 140737488355328) (m : Nat) (hm : m ≤ 1000000) (v : Value) (w : World) (hv : TextsAt w v l) :
    Calls Tryz.prog 5 #[v, .int .i64 (m : Int)] w fun e w' => e = .returned (.bool (fewT l m)) ∧ w' = w := by
  obtain ⟨A, c, rfl, _⟩ := hv.slice
  have HS := hide hv
  have HX := hide hx
  clear hv hx
  go_enter Tryz.func5, Tryz.ntmps5
  go_wp2_with fail
  go_loopw [5] (fun i wr => ∃ k : Nat, i = .int .i64 (k : Int) ∧ k ≤ l.length ∧ Aside (wr = w) ∧ Aside ((l.take k).all (fun x => decide (x.length ≤ m)) = true)) (fun i _ => l.length - (intOf i).toNat)
  case atStart => exact ⟨0, rfl, by omega, rfl, rfl⟩
  case round =>
    obtain ⟨k, rfl, hk, hw, hT⟩ := hrel
    obtain rfl : wr = w := hw
    have HT : Hid ((l.take k).all (fun x => decide (x.length ≤ m)) = true) := hT
    clear hT
    by_cases hlt : k < l.length
    · have e1 : decide ((k : Int) < (l.length : Int)) = true := decide_eq_true (by omega)
      obtain ⟨x, hx⟩ : ∃ x, l[k]? = some x := ⟨_, List.getElem?_eq_getElem hlt⟩
      obtain ⟨a, rfl, ha, c0⟩ := HS.out.at_ hx
      have hxl := HX.out x (List.mem_of_getElem? hx)
      have hsz : (bs x).size = x.length := bs_size x
      by_cases hxm : x.length ≤ m
      · have e2 : decide ((m : Int) < (x.length : Int)) = false := decide_eq_false (by omega)
        have e3 : decide (m < x.length) = false := decide_eq_false (by omega)
        have HN : Hid ((l.take (k + 1)).all (fun x => decide (x.length ≤ m)) = true) := by show _ = _; rw [all_step hx, HT.out, decide_eq_true hxm]; rfl
        clear hx
        go_wp2_with fail
        refine ⟨⟨k + 1, by go_num, by omega, trivial, HN.out⟩, ?_⟩
        simp [intOf]; omega
      · have e2 : decide ((m : Int) < (x.length : Int)) = true := decide_eq_true (by omega)
        have e3 : decide (m < x.length) = true := decide_eq_true (by omega)
        have HN : Hid (fewT l m = false) := by show _ = _; unfold fewT; rw [all_no hx (decide_eq_false hxm)]; rfl
        clear hx
        go_wp2_with fail
        go_ret
        exact ⟨ret_bool (by rw [HN.out]), rfl⟩
    · obtain rfl : k = l.length := by omega
      have e1 : decide ((l.length : Int) < (l.length : Int)) = false := by simp
      have HN : Hid (fewT l m = decide (l.length ≤ 30)) := by
        show _ = _
        have := HT.out
        rw [List.take_length] at this
        unfold fewT; rw [this]; rfl
      cases hd : decide (l.length ≤ 30) with
      | true =>
        rw [hd] at HN
        have e4 : decide ((l.length : Int) ≤ 30) = true := decide_eq_true (by have := of_decide_eq_true hd; omega)
        clear hd
        go_wp2_with fail
        go_ret
        exact ⟨ret_bool (by rw [HN.out]), rfl⟩
      | false =>
        rw [hd] at HN
        have e4 : decide ((l.length : Int) ≤ 30) = false := decide_eq_false (by have := of_decide_eq_false hd; omega)
        clear hd
        go_wp2_with fail
        go_ret
        exact ⟨ret_bool (by rw [HN.out]), rfl⟩
/-- a result of texts in an array of its own -/
def LvR (ls : List (List UInt8)) (w : World) (e : Ending) (w' : World) : Prop := ∃ v', e = .returned v' ∧ OwnT w' w.heap.size v' ls ∧ Below w.heap.size w w'
def fewI (items : List (List UInt8)) : Bool := decide (items.length ≤ 12) && fewT items 60
end Go.Proofs.YtnjlefggkfagmaaGreatDoor

/- Walks of the journal: split, text. -/
set_option linter.unusedVariables false
set_option linter.unusedSimpArgs false
namespace Go.Proofs.YtnjlefggkfagmaaGreatDoor
open Go.RowKit

def lenOfS : Value → Nat
  | .string b => b.size
  | _ => 0
def TxR (ls : List (List UInt8)) (w : World) (e : Ending) (w' : World) : Prop := ∃ v', e = .returned v' ∧ OwnT w' w.heap.size v' ls ∧ Below w.heap.size w w'
set_option maxRecDepth 100000 in
set_option maxHeartbeats 2000000 in
theorem split_any (t : List UInt8) (ht : t.length ≤ 100000) (w : World) : Calls Tryz.prog 47 #[.string (bs t)] w (TxR (splitV t) w) := by
  obtain ⟨i0, hi0, hz0, hz1, hz2⟩ := info_parts info_str
  go_enter Tryz.func47, Tryz.ntmps47
  go_wp2_with fail
  go_loopw [0, 3] (fun s o wr => ∃ (r : List UInt8) (acc : List (List UInt8)), s = .string (bs r) ∧ r.length ≤ t.length ∧ acc.length ≤ t.length - r.length ∧ Aside (acc ++ splitV r = splitV t) ∧ Aside (OwnT wr w.heap.size o acc) ∧ Aside (Below w.heap.size w wr)) (fun s _ _ => lenOfS s)
  case atStart => exact ⟨t, [], rfl, Nat.le_refl _, Nat.zero_le _, rfl, World.ownsRow_nil _ _ _ _, Below.refl _ _⟩
  case round =>
    obtain ⟨r, acc, rfl, hrl, hal, hA, hO, hB⟩ := hrel
    have HA : Hid (acc ++ splitV r = splitV t) := hA
    have HO : Hid (OwnT wr w.heap.size _ acc) := hO
    have HB : Hid (Below w.heap.size w wr) := hB
    obtain ⟨Ao, co, rfl⟩ := own_sl4 hO
    clear hO hB hA
    have hsz : (bs r).size = r.length := bs_size r
    by_cases hr : r = []
    · subst hr
      have e0 : (bs ([] : List UInt8)).toList.isEmpty = true := by rw [bs_toList]; rfl
      have HF : Hid (acc = splitV t) := by show _ = _; rw [← HA.out, splitJ_nil, List.append_nil]
      go_wp2_with fail
      go_ret
      exact ⟨_, rfl, by rw [← HF.out]; exact HO.out, HB.out⟩
    · have e0 : (bs r).toList.isEmpty = false := by rw [bs_toList]; cases r with
        | nil => exact absurd rfl hr
        | cons => rfl
      obtain ⟨n, hn⟩ : ∃ n, n = min 46 r.length := ⟨_, rfl⟩
      have hm : min (46 : Int) (r.length : Int) = (n : Int) := by omega
      have hnr : n ≤ r.length := by omega
      have hpos : 0 < r.length := List.length_pos_iff.2 hr
      have h46 : n = 46 ∨ n = r.length := by omega
      have hcut : (bs r).extract 0 n = bs (r.take 46) := by
        rw [bs_cut, List.drop_zero, Nat.sub_zero, hn]
        congr 1
        rw [← List.take_take, List.take_length]
      have hcut2 : (bs r).extract n r.length = bs (r.drop 46) := by
        rw [bs_drop]
        congr 1
        rcases h46 with h | h
        · rw [h]
        · rw [h, List.drop_length, List.drop_of_length_le (by omega)]
      have HAN : Hid ((acc ++ [r.take 46]) ++ splitV (r.drop 46) = splitV t) := by
        show _ = _
        rw [← HA.out, splitJ_cons hr, List.append_assoc]; rfl
      have hdl : (r.drop 46).length < r.length := by rw [List.length_drop]; omega
      have hds : (bs (r.drop 46)).size = (r.drop 46).length := bs_size _
      have HO1 : Hid (wr.ownsRow w.heap.size 9 1 (.slice Ao acc.length co) acc.length (flatS acc)) := HO.out
      generalize r.drop 46 = r2 at *
      generalize r.take 46 = r1 at *
      clear hn h46 HO HA hr
      have HSZ : Hid (w.heap.size ≤ wr.heap.size) := HB.out.size
      go_wp2_with (at_builtin; refine wpList_append_own _ rfl (.tmp 10) (.tmp 14) _ rfl w.heap.size 9 i0 (.string ⟨#[]⟩) 1 16 Tryz.underlying22 hi0 hz0 hz1 hz2 rfl (by omega) _ acc.length (flatS acc) rfl ?c0 ⟨_, 0, none⟩ 1 1 [.string (bs r1)] rfl rfl ?c1 ?c2 ?c4 ?c5 ?c3 ?_)
      case c0 => exact own_to4 HO1.out (below_one _ _)
      case c1 => exact cells_new4 (xs := [.string (bs r1)]) (by simp)
      case c2 => intro u hu; simp only [List.mem_cons, List.not_mem_nil, or_false] at hu; rcases hu with rfl; rfl
      case c4 => simp only [maxLen]; omega
      case c5 => omega
      case c3 => have := HSZ.out; simp; omega
      intro v' w6 hown6 hgr6 _
      have HB6 := hide ((below_alloc HB.out (Nat.le_refl _) _).grown hgr6 (by have := HSZ.out; simp; omega) (fun b hb => (HO1.out.lt b hb).1))
      have HO6 : Hid (OwnT w6 w.heap.size v' (acc ++ [r1])) := by
        show World.ownsRow _ _ _ _ _ _ _
        rw [flatS_snoc, List.length_append]
        exact hown6
      clear hown6 hgr6
      go_wp2_with fail
      refine ⟨⟨r2, acc ++ [r1], rfl, by omega, by rw [List.length_append]; simp; omega, HAN.out, HO6.out, HB6.out⟩, ?_⟩
      simp [lenOfS]; omega
def TextI (rs : List (List UInt8)) (w wr : World) (i : Value) : Prop := ∃ k : Nat, k ≤ rs.length ∧ i = .int .i64 (k : Int) ∧ Lib.IsBuilder 79 5 w.heap.size w.heap.size (Lib.byteCells (joinD (rs.take k))) wr ∧ Below w.heap.size w wr
set_option maxRecDepth 100000 in
set_option maxHeartbeats 4000000 in
theorem jtext_any (rs : List (List UInt8)) (hn : rs.length ≤ 1000) (hl : (joinD rs).length ≤ 1000000) (v : Value) (w : World) (hv : TextsAt w v rs) (hg : Glob w) :
    Calls Tryz.prog 48 #[v] w fun e w' => e = .returned (.string (bs (joinD rs))) ∧ Below w.heap.size w w' := by
  obtain ⟨A, c, rfl, _⟩ := hv.slice
  have HS := hide hv
  have HG := hide hg
  have HI0 := hide (Lib.fresh_isBuilder 79 5 w)
  have HB0 := hide (below_one w (.cells #[.pointer none, .slice none 0 0] 79))
  have HT := hide hl
  clear hv hg hl
  go_enter Tryz.func48, Tryz.ntmps48
  go_wp2_with fail
  generalize w.alloc (.cells #[.pointer none, .slice none 0 0] 79) = w1 at *
  go_loopw [5, 8] (fun _ i wr => TextI rs w wr i) (fun _ i _ => rs.length - (intOf i).toNat)
  case atStart => exact ⟨0, by omega, rfl, HI0.out, HB0.out⟩
  case round =>
    obtain ⟨k, hk, rfl, hI, hB⟩ := hrel
    have HI := hide hI
    have HB := hide hB
    clear hI hB
    by_cases hlt : k < rs.length
    · obtain ⟨l, hl⟩ : ∃ l, rs[k]? = some l := ⟨_, List.getElem?_eq_getElem hlt⟩
      obtain ⟨a, rfl, ha, c0⟩ := (HS.out.to HB.out).at_ hl
      have HJ : Hid (joinD (rs.take (k + 1)) = joinD (rs.take k) ++ (Lib.itoa l.length ++ [58] ++ l)) := by
        show _ = _
        rw [List.take_add_one, hl]
        exact joinD_snoc _ _
      have HLen : Hid ((joinD (rs.take (k + 1))).length ≤ 1000000) := by
        have h1 : joinD rs = joinD (rs.take (k + 1)) ++ joinD (rs.drop (k + 1)) := by
          unfold joinD; rw [← List.flatMap_append, List.take_append_drop]
        have := HT.out
        rw [h1, List.length_append] at this
        show _ ≤ _
        omega
      have hsz : (bs l).size = l.length := bs_size l
      have ls3 : Hid ((joinD (rs.take k)).length + ((Lib.itoa l.length).length + 1 + l.length) ≤ 1000000) := by
        have := HLen.out
        rw [HJ.out] at this
        simp only [List.length_append, List.length_cons, List.length_nil] at this
        show _ ≤ _
        omega
      have e1 : decide ((k : Int) < (rs.length : Int)) = true := decide_eq_true (by omega)
      clear hl
      generalize joinD (rs.take k) = J at *
      go_wp2_with fail
      refine (Itoa_any (l.length : Int) (by omega) (by have := ls3.out; omega) _ (HG.out.belowB HB.out HG.out.top)).mono ?_
      rintro e w2 ⟨rfl, hb⟩
      have HI1 := hide (IsBuilder_to HI.out hb)
      have HB1 := hide (below_to HB.out (Nat.le_refl _) hb)
      clear hb
      generalize Lib.itoa (l.length : Int) = A at *
      have hA := bs_size A
      have ha1 := ls3.out
      obtain ⟨E, hE⟩ : ∃ E, E = A ++ [58] ++ l := ⟨_, rfl⟩
      have hap : bs A ++ { data := #[58] } ++ bs l = bs E := by rw [hE, ← bs_app, ← bs_app]; rfl
      have hEl : E.length = A.length + 1 + l.length := by rw [hE]; simp; omega
      rw [← hE] at HJ
      clear hE
      go_wp2_with fail
      refine (Tryz.Builder_WriteString _ _ _ (bs E) _ HI1.out (by rw [Lib.byteCells_length, bs_size]; omega) HB1.out.size).mono ?_
      rintro e w5 ⟨rfl, hat, hb⟩
      rw [strCells_bs, ← byteCells_app, ← HJ.out] at hat
      have HI4 : Hid (Lib.IsBuilder 79 5 w.heap.size w.heap.size (Lib.byteCells (joinD (rs.take (k + 1)))) w5) := .inr hat
      have HB4 := hide (HB1.out.trans hb)
      clear hat hb
      go_wp2_with fail
      go_roundw
      case rel => exact ⟨k + 1, by omega, by go_num, HI4.out, HB4.out⟩
      case measure => simp [intOf]; omega
    · obtain rfl : k = rs.length := by omega
      have e1 : decide ((rs.length : Int) < (rs.length : Int)) = false := by simp
      rw [List.take_length] at HI
      go_wp2_with fail
      refine (Tryz.Builder_String_any w.heap.size w.heap.size (joinD rs) _ HI.out HB.out.size).mono ?_
      rintro e w2 ⟨rfl, hb⟩
      have HB1 := hide (HB.out.trans hb)
      clear hb
      rw [show ByteArray.mk (joinD rs).toArray = bs (joinD rs) from rfl]
      go_wp2_with fail
      go_ret
      exact ⟨rfl, HB1.out⟩
end Go.Proofs.YtnjlefggkfagmaaGreatDoor

/- Walks of the journal: parse at the text of records; Room. -/
set_option linter.unusedVariables false
set_option linter.unusedSimpArgs false
namespace Go.Proofs.YtnjlefggkfagmaaGreatDoor
open Go.RowKit

theorem joinJ_cons (r : List UInt8) (rs : List (List UInt8)) : joinD (r :: rs) = Lib.itoa r.length ++ ([58] ++ (r ++ joinD rs)) := by unfold joinD; simp
theorem cut_rec (r : List UInt8) (z : List UInt8) : Lib.cut (Lib.itoa (r.length : Int) ++ ([58] ++ (r ++ z))) [58] = (Lib.itoa (r.length : Int), r ++ z, true) := by
  rw [List.singleton_append]
  exact cut_at _ (dg_not (itoa_dg (by omega)) (.inr (by decide)))
theorem atoi_itoa (n : Nat) (h : n < 1000000000) : Lib.atoiAll (Lib.itoa (n : Int)) = .ok (n : Int) := by rw [itoa_nat, atoi_dec (by omega)]
theorem join_2e4 {rs : List (List UInt8)} (hn : rs.length ≤ 1000) (hx : ∀ x ∈ rs, x.length ≤ 20000) : (joinD rs).length ≤ 30000000 := by
  have h1 := join_len rs (fun l hl => by have := hx l hl; omega)
  have h2 : ∀ l : List (List UInt8), (∀ x ∈ l, x.length ≤ 20000) → (l.map List.length).sum ≤ 20000 * l.length := by
    intro l
    induction l with
    | nil => intro _; simp
    | cons x l ih =>
      intro h
      have := ih fun y hy => h y (by simp [hy])
      have := h x (by simp)
      rw [List.map_cons, List.sum_cons, List.length_cons]; omega
  have := h2 rs hx
  omega
def ParR (rs : List (List UInt8)) (w : World) (e : Ending) (w' : World) : Prop := ∃ v', e = .returned (.tuple #[v', .bool true]) ∧ OwnT w' w.heap.size v' rs ∧ Below w.heap.size w w'
set_option maxRecDepth 100000 in
set_option maxHeartbeats 4000000 in
theorem jparse_any (rs : List (List UInt8)) (hn : rs.length ≤ 1000) (hx : ∀ x ∈ rs, x.length ≤ 20000) (w : World) (hg : Glob w) : Calls Tryz.prog 65 #[.string (bs (joinD rs))] w (ParR rs w) := by
  obtain ⟨i0, hi0, hz0, hz1, hz2⟩ := info_parts info_str
  have HG := hide hg
  have HX := hide hx
  clear hg hx
  go_enter Tryz.func65, Tryz.ntmps65
  go_wp2_with fail
  go_loopw [0, 4] (fun s o wr => ∃ k : Nat, k ≤ rs.length ∧ s = .string (bs (joinD (rs.drop k))) ∧ Aside (OwnT wr w.heap.size o (rs.take k)) ∧ Aside (Below w.heap.size w wr)) (fun s _ _ => lenOfS s)
  case atStart => exact ⟨0, Nat.zero_le _, rfl, World.ownsRow_nil _ _ _ _, Below.refl _ _⟩
  case round =>
    obtain ⟨k, hk, rfl, hO, hB⟩ := hrel
    have HO : Hid (OwnT wr w.heap.size _ (rs.take k)) := hO
    have HB : Hid (Below w.heap.size w wr) := hB
    have htl : (rs.take k).length = k := by rw [List.length_take]; omega
    obtain ⟨Ao, co, rfl⟩ := own_sl4 hO
    clear hO hB
    rw [htl] at HO ⊢
    by_cases hlt : k < rs.length
    · obtain ⟨r, hr⟩ : ∃ r, rs[k]? = some r := ⟨_, List.getElem?_eq_getElem hlt⟩
      have HSN : Hid (rs.take (k + 1) = rs.take k ++ [r]) := by show _ = _; rw [List.take_add_one, hr]; rfl
      have hdr : rs.drop k = r :: rs.drop (k + 1) := drop_at' hr
      have hrl := HX.out r (List.mem_of_getElem? hr)
      have hjd : joinD (rs.drop k) = Lib.itoa r.length ++ ([58] ++ (r ++ joinD (rs.drop (k + 1)))) := by rw [hdr, joinJ_cons]
      have hZl := join_2e4 (rs := rs.drop (k + 1)) (by rw [List.length_drop]; omega) (fun x h => HX.out x (List.mem_of_mem_drop h))
      have hil := itoa_len r.length (by omega)
      have hcut := cut_rec r (joinD (rs.drop (k + 1)))
      have hat := atoi_itoa r.length (by omega)
      have CI := fun w' (hb : Below w.heap.size w w') => Itoa_any (r.length : Int) (by omega) (by omega) w' (HG.out.belowB hb HG.out.top)
      have htk : (r ++ joinD (rs.drop (k + 1))).take r.length = r := by rw [List.take_append_of_le_length (Nat.le_refl _), List.take_length]
      have hdp : (r ++ joinD (rs.drop (k + 1))).drop r.length = joinD (rs.drop (k + 1)) := by rw [List.drop_append_of_le_length (Nat.le_refl _), List.drop_length, List.nil_append]
      have hTl : (Lib.itoa (r.length : Int) ++ ([58] ++ (r ++ joinD (rs.drop (k + 1))))).length ≤ 40000000 ∧ Lib.itoa (r.length : Int) ++ ([58] ++ (r ++ joinD (rs.drop (k + 1)))) ≠ [] := by
        refine ⟨by simp only [List.length_append, List.length_cons, List.length_nil]; omega, by simp⟩
      have HRL : Hid ((joinD (rs.drop (k + 1))).length < (Lib.itoa (r.length : Int) ++ ([58] ++ (r ++ joinD (rs.drop (k + 1))))).length) := by
        show _ < _
        simp only [List.length_append, List.length_cons, List.length_nil]; omega
      rw [hjd]
      have HO1 : Hid (wr.ownsRow w.heap.size 9 1 (.slice Ao k co) k (flatS (rs.take k))) := by
        have := HO.out
        unfold OwnT at this
        rw [htl] at this
        exact this
      have hCC := Cut_any (Lib.itoa (r.length : Int) ++ ([58] ++ (r ++ joinD (rs.drop (k + 1))))) [58] (by have := hTl.1; omega)
      rw [hcut] at hCC
      obtain ⟨T, hT⟩ : ∃ T, Lib.itoa (r.length : Int) ++ ([58] ++ (r ++ joinD (rs.drop (k + 1)))) = T := ⟨_, rfl⟩
      rw [hT] at hTl hCC HRL ⊢
      have HSZ : Hid (w.heap.size ≤ wr.heap.size) := HB.out.size
      generalize hZ : joinD (rs.drop (k + 1)) = Z at *
      generalize hI : Lib.itoa (r.length : Int) = I at *
      generalize hR : r ++ Z = R at *
      generalize rs.take k = L at *
      have hRl : R.length = r.length + Z.length := by rw [← hR, List.length_append]
      have e0 : (bs T).toList.isEmpty = false := by rw [bs_toList]; cases T with
        | nil => exact absurd rfl hTl.2
        | cons => rfl
      have hsT := bs_size T
      have hsR := bs_size R
      have hsZ := bs_size Z
      have hc1 : (bs R).extract 0 r.length = bs r := by rw [bs_cut, List.drop_zero, Nat.sub_zero, htk]
      have hc2 : (bs R).extract r.length R.length = bs Z := by rw [bs_drop, hdp]
      have b0 : (!((bs I).toList == (bs I).toList)) = false := by simp
      have b1 : decide ((r.length : Int) < 0) = false := decide_eq_false (by omega)
      have b2 : decide ((20000 : Int) < (r.length : Int)) = false := decide_eq_false (by omega)
      have b2' : decide (20000 < r.length) = false := decide_eq_false (by omega)
      have b3 : decide ((R.length : Int) < (r.length : Int)) = false := decide_eq_false (by omega)
      have b3' : decide (R.length < r.length) = false := decide_eq_false (by omega)
      have HZ := hide hZ
      have hle : r.length ≤ R.length := by omega
      have htt := hTl.1
      have HLT := hide hlt
      have CIl : Hid (I.length ≤ 20) := hil
      clear hr hdr hjd hcut hil hZl hT hTl hR htk hdp HO hI hlt
      go_wp2_with fail
      refine (hCC wr (HG.out.belowB HB.out HG.out.top)).mono ?_
      rintro e w2 ⟨rfl, hb⟩
      have HB2 := hide (below_to HB.out (Nat.le_refl _) hb)
      have HO2 := hide (own_to4 HO1.out hb)
      clear hb hCC
      go_wp2_with fail
      have CAt : Calls Tryz.prog 64 #[.string (bs I)] w2 fun e w' => e = .returned (.tuple #[.int .i64 (r.length : Int), .nilIface]) ∧ Below w2.heap.size w2 w' := by
        refine (Atoi_any I (by have := CIl.out; omega) w2 (HG.out.belowB HB2.out HG.out.top)).mono ?_
        rintro e w' ⟨hv, hb⟩
        refine ⟨?_, hb⟩
        rcases hv with ⟨v, hv, rfl⟩ | ⟨hv, _⟩
        · rw [hat] at hv
          injection hv with hv
          rw [hv]
        · exact absurd hat (hv _)
      refine CAt.mono ?_
      rintro e w3 ⟨rfl, hb⟩
      have HB3 := hide (below_to HB2.out (Nat.le_refl _) hb)
      have HO3 := hide (own_to4 HO2.out hb)
      have CI := CI w3 HB3.out
      clear hb CAt hat
      go_wp2_with fail
      refine CI.mono ?_
      rintro e w4 ⟨rfl, hb⟩
      have HB4 := hide (below_to HB3.out (Nat.le_refl _) hb)
      have HO4 := hide (own_to4 HO3.out hb)
      have HSZ4 : Hid (w.heap.size ≤ w4.heap.size) := HB4.out.size
      clear hb CI
      go_wp2_with (at_builtin; refine wpList_append_own _ rfl (.tmp 49) (.tmp 53) _ rfl w.heap.size 9 i0 (.string ⟨#[]⟩) 1 16 Tryz.underlying22 hi0 hz0 hz1 hz2 rfl (by omega) _ k (flatS L) rfl ?c0 ⟨_, 0, none⟩ 1 1 [.string (bs r)] rfl rfl ?c1 ?c2 ?c4 ?c5 ?c3 ?_)
      case c0 => exact own_to4 HO4.out (below_one _ _)
      case c1 => exact cells_new4 (xs := [.string (bs r)]) (by simp)
      case c2 => intro u hu; simp only [List.mem_cons, List.not_mem_nil, or_false] at hu; rcases hu with rfl; rfl
      case c4 => simp only [maxLen]; omega
      case c5 => omega
      case c3 => have := HSZ4.out; simp; omega
      intro v' w6 hown6 hgr6 _
      have HB6 := hide ((below_alloc HB4.out (Nat.le_refl _) _).grown hgr6 (by have := HSZ4.out; simp; omega) (fun b hb => (HO4.out.lt b hb).1))
      have HO6 : Hid (OwnT w6 w.heap.size v' (rs.take (k + 1))) := by
        rw [HSN.out]
        show World.ownsRow _ _ _ _ _ _ _
        rw [flatS_snoc, List.length_append, htl]
        exact hown6
      clear hown6 hgr6
      go_wp2_with fail
      have hc3 : (bs R).extract r.length (r.length + Z.length) = bs Z := by rw [← hRl]; exact hc2
      rw [hc3]
      refine ⟨⟨k + 1, by have := HLT.out; omega, by rw [HZ.out], HO6.out, HB6.out⟩, ?_⟩
      simp only [lenOfS, hsZ, hsT]
      exact HRL.out
    · obtain rfl : k = rs.length := by omega
      rw [List.drop_length]
      rw [List.take_length] at HO
      have e0 : (bs (joinD [])).toList.isEmpty = true := by rw [bs_toList]; rfl
      go_wp2_with fail
      go_ret2
      exact ⟨_, rfl, HO.out, HB.out⟩
/-- a journal in memory -/
structure JAt (jb b N c : Nat) (rs : List (List UInt8)) (br : Bool) (vr : Value) (w : World) : Prop where
  blk : Blk w jb 90 #[dkP b, .int .i64 (N : Int), .int .i64 (c : Int), vr, .bool br]
  own : OwnT w (jb + 1) vr rs
theorem JAt.to {jb b N c : Nat} {rs : List (List UInt8)} {br : Bool} {vr : Value} {w w' : World} (h : JAt jb b N c rs br vr w) (hb : Below w.heap.size w w') : JAt jb b N c rs br vr w' := ⟨h.blk.to hb, own_to4 h.own hb⟩
theorem JAt.sav {F : Nat → Prop} {jb b N c : Nat} {rs : List (List UInt8)} {br : Bool} {vr : Value} {w w' : World} (h : JAt jb b N c rs br vr w) (hs : Sav F w w') (hj : ¬ F jb) (hr : ∀ g, vr.ownBlock = some g → ¬ F g) : JAt jb b N c rs br vr w' := ⟨hs.blk h.blk hj, hs.own h.own hr⟩
theorem JAt.lt {jb b N c : Nat} {rs : List (List UInt8)} {br : Bool} {vr : Value} {w : World} (h : JAt jb b N c rs br vr w) : ∀ g, vr.ownBlock = some g → jb + 1 ≤ g ∧ g < w.heap.size := World.ownsRow.lt h.own
set_option maxRecDepth 100000 in
set_option maxHeartbeats 2000000 in
theorem Room_any (jb b N c : Nat) (rs : List (List UInt8)) (br : Bool) (vr : Value) (hN : N ≤ 4000) (hc : 2 + c ≤ N) (w : World) (h : JAt jb b N c rs br vr w) :
    Calls Tryz.prog 49 #[.pointer (some ⟨jb, 0, none⟩)] w fun e w' => e = .returned (.int .i64 ((N - 2 - c : Nat) : Int)) ∧ Below w.heap.size w w' := by
  have hr : (N : Int) - 2 - (c : Int) = ((N - 2 - c : Nat) : Int) := by omega
  have ew := w64 (x := (N : Int) - 2) (by omega) (by omega)
  have ew2 := w64 (x := (N : Int) - 2 - (c : Int)) (by omega) (by omega)
  obtain ⟨U, hU, g, u0, e9, hgu, hi⟩ := cls w
  subst e9
  have X1 : ∀ u, (g u).cell? ⟨jb, 1, none⟩ = some (.int .i64 (N : Int)) := blk_all hgu h.blk 1 rfl
  have X2 : ∀ u, (g u).cell? ⟨jb, 2, none⟩ = some (.int .i64 (c : Int)) := blk_all hgu h.blk 2 rfl
  have HGU := hide hgu
  have HHI := hide hi
  have HR := hide hr
  clear hgu hi h hr
  go_enter Tryz.func49, Tryz.ntmps49
  go_wp2_with fail
  refine wp_region_class g (by kernel_rfl) (by kernel_rfl) (HHI.out _ (HGU.out _).drew) ?_
  repeat (go_big_quiet_step (fail))
  refine wpQuiet_nil ?_
  intro w5 hw5
  obtain ⟨u, rfl⟩ := hw5
  go_wp2_with fail
  go_ret
  exact ⟨ret_int (by first | exact HR.out | rfl), HGU.out u⟩
end Go.Proofs.YtnjlefggkfagmaaGreatDoor

/- Walks of the journal: write. -/
set_option linter.unusedVariables false
set_option linter.unusedSimpArgs false
namespace Go.Proofs.YtnjlefggkfagmaaGreatDoor
open Go.RowKit

theorem TextsAt.sav {F : Nat → Prop} {w w' : World} {v : Value} {ls : List (List UInt8)} (h : TextsAt w v ls) (hb : Sav F w w') (hF : ∀ g, v.ownBlock = some g → ¬ F g) : TextsAt w' v ls := RowsAt.sav h hb hF
/-- the disk's blocks where nothing waits -/
def DB (b sb ab : Nat) (k : Nat) : Prop := DF b sb ab (.slice none 0 0) k
theorem DB_of {b sb ab : Nat} {vq : Value} {k n : Nat} (hv : ∀ g, vq.ownBlock = some g → n ≤ g) (hk : k < n) (h : DF b sb ab vq k) : DB b sb ab k := by
  rcases h with h | h | h | h
  · exact .inl h
  · exact .inr (.inl h)
  · exact .inr (.inr (.inl h))
  · have := hv k h; omega
theorem write_cases (d : Dk) (k : Nat) (t : List UInt8) : (∃ a, dWrite d k t = (0, { d with q := d.q ++ [(k, t)], arm := a })) ∨ ∃ d', dWrite d k t = (21, d') := by
  unfold dWrite
  rcases count_cases { d with q := d.q ++ [(k, t)] } with ⟨a, h⟩ | ⟨n, c, h⟩
  · exact .inl ⟨a, h⟩
  · exact .inr ⟨_, h⟩
def WrR (b sb ab : Nat) (r : Int × Dk) (w : World) (e : Ending) (w' : World) : Prop := e = .returned (.int .i64 r.1) ∧ DkAt b sb ab (.slice none 0 0) r.2 w' ∧ Sav (DB b sb ab) w w'
/-- between two writes -/
structure WrI (b sb ab k : Nat) (ts : List (List UInt8)) (d : Dk) (w : World) (i : Nat) (di : Dk) (vq : Value) (wr : World) : Prop where
  at_ : DkAt b sb ab vq di wr
  off : di.off = false
  ss : di.ss = d.ss
  ql : di.q.length = i
  all : wrAll d k ts = wrAll di (k + i) (ts.drop i)
  sav : Sav (DB b sb ab) w wr
  new : ∀ g, vq.ownBlock = some g → w.heap.size ≤ g
set_option maxRecDepth 100000 in
set_option maxHeartbeats 4000000 in
theorem jwrite_any (jb b sb ab : Nat) (d : Dk) (hon : d.off = false) (hq : d.q = []) (k : Nat) (ts : List (List UInt8)) (h64 : ∀ t ∈ ts, t.length = 64) (hk : k + ts.length ≤ d.ss.length) (v : Value) (w : World)
    (x0 : w.cell? ⟨jb, 0, none⟩ = some (dkP b)) (hj : ¬ DB b sb ab jb) (hd : DkAt b sb ab (.slice none 0 0) d w) (hv : TextsAt w v ts) (hvd : ∀ g, v.ownBlock = some g → ¬ DB b sb ab g) :
    Calls Tryz.prog 54 #[.pointer (some ⟨jb, 0, none⟩), .int .i64 (k : Int), v] w (WrR b sb ab (wrAll d k ts) w) := by
  obtain ⟨A, c, rfl, _⟩ := hv.slice
  have HV := hide hv
  have HVD := hide hvd
  have HJ := hide hj
  have HX := hide x0
  have hjl : jb < w.heap.size := World.block_lt_of_cell? w ⟨jb, 0, none⟩ x0
  have HI0 : Hid (WrI b sb ab k ts d w 0 d (.slice none 0 0) w) := ⟨hd, hon, rfl, by rw [hq]; rfl, rfl, Sav.refl _ _, fun g e => by cases e⟩
  have hfew := hd.few.1
  have H6 := hide h64
  clear hv hvd hj x0 hd hon hq h64
  go_enter Tryz.func54, Tryz.ntmps54
  go_wp2_with fail
  go_loopw [12] (fun i wr => ∃ (n : Nat) (di : Dk) (vq : Value), i = .int .i64 (n : Int) ∧ n ≤ ts.length ∧ Aside (WrI b sb ab k ts d w n di vq wr)) (fun i _ => ts.length - (intOf i).toNat)
  case atStart => exact ⟨0, d, _, rfl, Nat.zero_le _, HI0.out⟩
  case round =>
    obtain ⟨n, di, vq, rfl, hn, hI⟩ := hrel
    have HI : Hid (WrI b sb ab k ts d w n di vq wr) := hI
    clear hI
    have xr : wr.cell? ⟨jb, 0, none⟩ = some (.pointer (some ⟨b, 0, none⟩)) := (World.cell?_of_block (HI.out.sav.block jb hjl HJ.out)).trans HX.out
    by_cases hlt : n < ts.length
    · have e1 : decide ((n : Int) < (ts.length : Int)) = true := decide_eq_true (by omega)
      obtain ⟨t, ht⟩ : ∃ t, ts[n]? = some t := ⟨_, List.getElem?_eq_getElem hlt⟩
      obtain ⟨a, rfl, ha, c0⟩ := (HV.out.sav HI.out.sav HVD.out).at_ ht
      have ew := w64 (x := (k : Int) + (n : Int)) (by omega) (by omega)
      have ec : (k : Int) + (n : Int) = ((k + n : Nat) : Int) := by omega
      have CW := Write_any b sb ab vq di HI.out.off (k + n) (by rw [HI.out.ss]; omega) t (H6.out t (List.mem_of_getElem? ht)) (by rw [HI.out.ql]; omega) wr HI.out.at_
      have HD : Hid (wrAll d k ts = if (dWrite di (k + n) t).1 = 0 then wrAll (dWrite di (k + n) t).2 (k + n + 1) (ts.drop (n + 1)) else dWrite di (k + n) t) := by
        show _ = _
        rw [HI.out.all, drop_at' ht]; rfl
      rw [← ec] at CW
      unfold WriteR dkP at CW
      clear ht ec
      rcases write_cases di (k + n) t with ⟨m, hr⟩ | ⟨d', hr⟩
      · rw [hr] at CW
        rw [hr, if_pos rfl] at HD
        clear hr
        go_wp2_with fail
        refine CW.mono ?_
        rintro e w2 ⟨rfl, vq', h1, _, h2, h3⟩
        have HN : Hid (WrI b sb ab k ts d w (n + 1) { di with q := di.q ++ [(k + n, t)], arm := m } vq' w2) := by
          refine ⟨h2, HI.out.off, HI.out.ss, by show (di.q ++ [(k + n, t)]).length = _; rw [List.length_append, HI.out.ql]; rfl, HD.out, HI.out.sav.join h3 fun x hx hF => DB_of HI.out.new hx hF, fun g e => ?_⟩
          rcases h1 with h1 | h1 | ⟨g', h1, h1'⟩
          · exact HI.out.new g (h1.symm.trans e)
          · rw [h1] at e; cases e
          · rw [h1] at e
            have := Option.some.inj e
            have := HI.out.sav.size
            omega
        clear h1 h2 h3 CW
        go_wp2_with fail
        refine ⟨⟨n + 1, _, vq', by go_num, by omega, HN.out⟩, ?_⟩
        simp [intOf]; omega
      · rw [hr] at CW
        rw [hr, if_neg (show ¬ ((21 : Int) = 0) by decide)] at HD
        clear hr
        go_wp2_with fail
        refine CW.mono ?_
        rintro e w2 ⟨rfl, vq', _, h1, h2, h3⟩
        have hv' := h1 (by decide)
        subst hv'
        have HN := hide h2
        have HS : Hid (Sav (DB b sb ab) w w2) := HI.out.sav.join h3 fun x hx hF => DB_of HI.out.new hx hF
        clear h1 h2 h3 CW
        go_wp2_with fail
        go_ret
        exact (congrArg (fun z => WrR b sb ab z w (.returned (.int .i64 21)) w2) HD.out).mpr ⟨rfl, HN.out, HS.out⟩
    · obtain rfl : n = ts.length := by omega
      have e1 : decide ((ts.length : Int) < (ts.length : Int)) = false := by simp
      have CS := Sync_any b sb ab vq di HI.out.off wr HI.out.at_
      have HD : Hid (wrAll d k ts = dSync di) := by show _ = _; rw [HI.out.all, List.drop_length]; rfl
      unfold SyncR dkP at CS
      obtain ⟨r, hr⟩ : ∃ r, dSync di = r := ⟨_, rfl⟩
      rw [hr] at CS HD
      clear hr
      go_wp2_with fail
      refine CS.mono ?_
      rintro e w2 ⟨rfl, h2, h3⟩
      have HN := hide h2
      have HS : Hid (Sav (DB b sb ab) w w2) := HI.out.sav.join h3 fun x hx hF => DB_of HI.out.new hx hF
      clear h2 h3 CS
      go_wp2_with fail
      go_ret
      exact (congrArg (fun z => WrR b sb ab z w (.returned (.int .i64 r.1)) w2) HD.out).mpr ⟨rfl, HN.out, HS.out⟩
end Go.Proofs.YtnjlefggkfagmaaGreatDoor

/- Walks of the journal: the functions inside Append. -/
set_option linter.unusedVariables false
set_option linter.unusedSimpArgs false
namespace Go.Proofs.YtnjlefggkfagmaaGreatDoor
open Go.RowKit Go.Shelf
attribute [local go_sem] Oper.semAt_some

theorem ent_jA1 : ∀ args w, (callFunc 46 args).run Tryz.prog w = .ok (.enter 46 args) w := enters_fn Tryz.func46 (by kernel_rfl) rfl
set_option maxHeartbeats 1000000 in
theorem jA1_any (x : List UInt8) (hx : x.length ≤ 100000000000) (w : World) : Calls Tryz.prog 46 #[.string (bs x)] w fun e w' => e = .returned (.bool (decide (20000 < x.length))) ∧ Below w.heap.size w w' := by
  have hsz : (bs x).size = x.length := bs_size x
  have HV : Hid (decide ((20000 : Int) < (x.length : Int)) = decide (20000 < x.length)) := decide_eq_decide.2 (by omega)
  go_enter Tryz.func46, Tryz.ntmps46
  go_wp2_with fail
  go_ret
  exact ⟨ret_bool (by first | exact HV.out | rfl), Below.refl _ _⟩
theorem TextsAt.one {w : World} {g : Nat} {x : List UInt8} (h : Blk w g 9 #[.string (bs x)]) : TextsAt w (.slice (some ⟨g, 0, none⟩) 1 1) [x] := by
  refine RowsAt.of_blk h rfl (Nat.le_refl _) (by simp [strV]) fun k y hy j u hu => ?_
  cases k with
  | zero => simp at hy; subst hy; cases j with
    | zero => simpa [strV] using hu
    | succ j => simp [strV] at hu
  | succ k => simp at hy
set_option maxRecDepth 100000 in
set_option maxHeartbeats 2000000 in
theorem jA3_any (jb b sb ab p2 p6 p8 : Nat) (d : Dk) (hon : d.off = false) (hq : d.q = []) (k : Nat) (ts : List (List UInt8)) (h64 : ∀ t ∈ ts, t.length = 64) (hk : k + ts.length ≤ d.ss.length) (v : Value) (w : World)
    (x0 : w.cell? ⟨jb, 0, none⟩ = some (dkP b)) (hj : ¬ DB b sb ab jb) (hd : DkAt b sb ab (.slice none 0 0) d w) (hv : TextsAt w v ts) (hvd : ∀ g, v.ownBlock = some g → ¬ DB b sb ab g)
    (h2 : Blk w p2 29 #[.pointer (some ⟨jb, 0, none⟩)]) (h6 : Blk w p6 3 #[.int .i64 (k : Int)]) (h8 : Blk w p8 22 #[v]) :
    Calls Tryz.prog 53 #[.pointer (some ⟨p2, 0, none⟩), .pointer (some ⟨p6, 0, none⟩), .pointer (some ⟨p8, 0, none⟩)] w (WrR b sb ab (wrAll d k ts) w) := by
  have CW := jwrite_any jb b sb ab d hon hq k ts h64 hk v w x0 hj hd hv hvd
  have y2 := (h2.cell 0).trans (show _ = some (Value.pointer (some ⟨jb, 0, none⟩)) from rfl)
  have y6 := (h6.cell 0).trans (show _ = some (Value.int .i64 (k : Int)) from rfl)
  obtain ⟨A, c, rfl, _⟩ := hv.slice
  have y8 := (h8.cell 0).trans (show _ = some (Value.slice A ts.length c) from rfl)
  unfold WrR at CW ⊢
  generalize wrAll d k ts = r at *
  clear hd hv hvd h2 h6 h8 h64
  go_enter Tryz.func53, Tryz.ntmps53
  go_wp2_with fail
  refine CW.mono ?_
  rintro e w2 ⟨rfl, h1, h2⟩
  go_wp2_with fail
  go_ret
  exact ⟨rfl, h1, h2⟩
set_option maxRecDepth 100000 in
set_option maxHeartbeats 2000000 in
theorem jA4_any (jb b sb ab p2 p6 p8 : Nat) (d : Dk) (hon : d.off = false) (hq : d.q = []) (k : Nat) (ts : List (List UInt8)) (h64 : ∀ t ∈ ts, t.length = 64) (hk : k + ts.length ≤ d.ss.length) (v : Value) (w : World)
    (x0 : w.cell? ⟨jb, 0, none⟩ = some (dkP b)) (hj : ¬ DB b sb ab jb) (hd : DkAt b sb ab (.slice none 0 0) d w) (hv : TextsAt w v ts) (hvd : ∀ g, v.ownBlock = some g → ¬ DB b sb ab g)
    (h2 : Blk w p2 29 #[.pointer (some ⟨jb, 0, none⟩)]) (h6 : Blk w p6 3 #[.int .i64 (k : Int)]) (h8 : Blk w p8 22 #[v]) :
    Calls Tryz.prog 55 #[.pointer (some ⟨p2, 0, none⟩), .pointer (some ⟨p6, 0, none⟩), .pointer (some ⟨p8, 0, none⟩)] w (WrR b sb ab (wrAll d k ts) w) := by
  have CW := jwrite_any jb b sb ab d hon hq k ts h64 hk v w x0 hj hd hv hvd
  have y2 := (h2.cell 0).trans (show _ = some (Value.pointer (some ⟨jb, 0, none⟩)) from rfl)
  have y6 := (h6.cell 0).trans (show _ = some (Value.int .i64 (k : Int)) from rfl)
  obtain ⟨A, c, rfl, _⟩ := hv.slice
  have y8 := (h8.cell 0).trans (show _ = some (Value.slice A ts.length c) from rfl)
  unfold WrR at CW ⊢
  generalize wrAll d k ts = r at *
  clear hd hv hvd h2 h6 h8 h64
  go_enter Tryz.func55, Tryz.ntmps55
  go_wp2_with fail
  refine CW.mono ?_
  rintro e w2 ⟨rfl, h1, h2⟩
  go_wp2_with fail
  go_ret
  exact ⟨rfl, h1, h2⟩
set_option maxRecDepth 100000 in
set_option maxHeartbeats 4000000 in
theorem jA5_any (jb b sb ab p2 p7 : Nat) (d : Dk) (hon : d.off = false) (hq : d.q = []) (n : Nat) (hn : n ≤ 10000000) (hfit : 2 ≤ d.ss.length) (w : World) (hg : ∀ W, Sav (DB b sb ab) w W → Glob W)
    (x0 : w.cell? ⟨jb, 0, none⟩ = some (dkP b)) (hj : ¬ DB b sb ab jb) (hd : DkAt b sb ab (.slice none 0 0) d w) (hnew : ∀ g, w.heap.size ≤ g → ¬ DB b sb ab g)
    (h2 : Blk w p2 29 #[.pointer (some ⟨jb, 0, none⟩)]) (h7 : Blk w p7 3 #[.int .i64 (n : Int)]) :
    Calls Tryz.prog 56 #[.pointer (some ⟨p2, 0, none⟩), .pointer (some ⟨p7, 0, none⟩)] w (WrR b sb ab (wrAll d 1 [headV 1 n]) w) := by
  have HJ := hide hj
  have HNEW := hide hnew
  have hjl : jb < w.heap.size := World.block_lt_of_cell? w ⟨jb, 0, none⟩ x0
  obtain ⟨HH, hHH⟩ : ∃ HH, headV 1 n = HH := ⟨_, rfl⟩
  have hHl : HH.length = 64 := by rw [← hHH]; exact head_len (by omega)
  have CH : ∀ (W : World) (hw : Sav (DB b sb ab) w W), Calls Tryz.prog 57 #[.int .i64 1, .int .i64 (n : Int)] W fun e w' => e = .returned (.string (bs (headV 1 n))) ∧ Below W.heap.size W w' := fun (W : World) (hw : Sav (DB b sb ab) w W) => jhead_any 1 n (by omega) (by omega) W (hg W hw)
  rw [hHH] at CH ⊢
  obtain ⟨r, hr⟩ : ∃ r, wrAll d 1 [HH] = r := ⟨_, rfl⟩
  rw [hr]
  unfold WrR
  clear hHH hg hj hnew
  go_enter Tryz.func56, Tryz.ntmps56
  go_upto_region 1 with fail
  apply wp_region_lo4 (C := fun W => Sav (DB b sb ab) w W) (V := [some _, some _, some _, none, none, some _]) (Fs := [(3, fun a W => ∃ g, a.tmps[6]? = some (.slice (some ⟨g, 0, none⟩) 1 1) ∧ Blk W g 9 #[.string (bs HH)] ∧ w.heap.size ≤ g), (4, fun a W => a.tmps[7]? = some (.int .i64 r.1) ∧ DkAt b sb ab (.slice none 0 0) r.2 W)]) (Ns := [(0, fun (_ : Act) W => Blk W p2 29 #[.pointer (some ⟨jb, 0, none⟩)]), (1, fun (_ : Act) W => Blk W p7 3 #[.int .i64 (n : Int)]), (4, fun (_ : Act) W => DkAt b sb ab (.slice none 0 0) d W ∧ W.cell? ⟨jb, 0, none⟩ = some (dkP b) ∧ jb < W.heap.size)]) (Rel := fun i a0_ a1_ x x' => if i = 4 then (fun b0 b1 x x' => Sav (DB b sb ab) x x') a0_ a1_ x x' else Below x.heap.size x x')
  case hm => kernel_rfl
  case hB => kernel_rfl
  case hCw => exact (Sav.of (below_drewN (Below.refl _ w) 1))
  case hC =>
    intro i a a' w_ w' hw hr
    by_cases e4 : i = 4
    · subst e4
      have hr' : (fun b0 b1 x x' => Sav (DB b sb ab) x x') a a' w_ w' := hr
      exact Sav.trans hw hr'
    have hr' : Below w_.heap.size w_ w' := by simpa [e4] using hr
    exact Sav.to hw hr'
  case hst =>
    refine keeps4_cons (fun i a a' w_ w' hne hwt hs hput hr h => by
      by_cases e4 : i = 4
      · subst e4
        have hr' : (fun b0 b1 x x' => Sav (DB b sb ab) x x') a a' w_ w' := hr
        obtain ⟨g, h1, h2, h3⟩ := h
        exact ⟨g, (hs 6 (by kernel_rfl)).trans h1, Sav.blk hr' h2 (HNEW.out g h3), h3⟩
      have hr' : Below w_.heap.size w_ w' := by simpa [e4] using hr
      obtain ⟨g, h1, h2, h3⟩ := h
      exact ⟨g, (hs 6 (by kernel_rfl)).trans h1, h2.to hr', h3⟩) ?_
    refine keeps4_cons (fun i a a' w_ w' hne hwt hs hput hr h => by
      by_cases e4 : i = 4
      · exact absurd e4 hne
      have hr' : Below w_.heap.size w_ w' := by simpa [e4] using hr
      exact ⟨(hs 7 (by kernel_rfl)).trans h.1, h.2.to hr'⟩) ?_
    exact keeps4_nil
  case hN0 => exact pre0_cons ((show Blk w.drew p2 _ _ from h2)) (pre0_cons ((show Blk w.drew p7 _ _ from h7)) (pre0_cons ((show DkAt b sb ab (.slice none 0 0) d w.drew ∧ w.drew.cell? ⟨jb, 0, none⟩ = some (dkP b) ∧ jb < w.drew.heap.size from ⟨hd.to (below_drewN (Below.refl _ w) 1), x0, hjl⟩)) (pre0_nil)))
  case hNst =>
    refine prek_cons3 (fun i a a' w_ w' hne hwt hr h hput => by
      by_cases e4 : i = 4
      · subst e4
        exact absurd (hwt.symm.trans (show waitsT .any _ _ 4 0 = true by kernel_rfl)) (by decide)
      have hr' : Below w_.heap.size w_ w' := by simpa [e4] using hr
      exact h.to hr') ?_
    refine prek_cons3 (fun i a a' w_ w' hne hwt hr h hput => by
      by_cases e4 : i = 4
      · subst e4
        exact absurd (hwt.symm.trans (show waitsT .any _ _ 4 1 = true by kernel_rfl)) (by decide)
      have hr' : Below w_.heap.size w_ w' := by simpa [e4] using hr
      exact h.to hr') ?_
    refine prek_cons3 (fun i a a' w_ w' hne hwt hr h hput => by
      by_cases e4 : i = 4
      · exact absurd e4 hne
      have hr' : Below w_.heap.size w_ w' := by simpa [e4] using hr
      exact ⟨h.1.to hr', (hr'.cell (p := ⟨jb, 0, none⟩) h.2.2).trans h.2.1, Nat.lt_of_lt_of_le h.2.2 hr'.size⟩) ?_
    exact prek_nil3
  case hop =>
    refine ⟨?_, ?_, ?_, ?_, ?_, ?_, trivial⟩
    · intro a w_ K hw hS hd hN hK
      have s0 := hS.at 0 (by kernel_rfl) rfl
      have hB0 := hN _ (List.mem_cons_self ..) rfl
      rw [if_pos (want_free rfl)]
      have c0 := (hB0.cell 0).trans (show _ = some (Value.pointer (some ⟨jb, 0, none⟩)) from rfl)
      go_simp
      exact hK _ _ (Below.refl _ _) (vok rfl) (facts_cons (fun h => absurd h (by decide)) (facts_cons (fun h => absurd h (by decide)) facts_nil))
    · intro a w_ K hw hS hd hN hK
      have s1 := hS.at 1 (by kernel_rfl) rfl
      have hB1 := hN _ (List.mem_cons_of_mem _ (List.mem_cons_self ..)) rfl
      rw [if_pos (want_free rfl)]
      have c0 := (hB1.cell 0).trans (show _ = some (Value.int .i64 (n : Int)) from rfl)
      go_simp
      exact hK _ _ (Below.refl _ _) (vok rfl) (facts_cons (fun h => absurd h (by decide)) (facts_cons (fun h => absurd h (by decide)) facts_nil))
    · intro a w_ K hw hS hd hN hK
      have s4 := (hd 1 (by kernel_rfl)).at (d := 4) rfl rfl rfl
      rw [if_pos (want_free rfl)]
      go_simp
      with_reducible refine (CH w_ hw).mono ?_
      rintro e w' ⟨rfl, hb⟩
      exact hK _ _ hb (vok rfl) (facts_cons (fun h => absurd h (by decide)) (facts_cons (fun h => absurd h (by decide)) facts_nil))
    · intro a w_ K hw hS hd hN hK
      have s5 := (hd 2 (by kernel_rfl)).at (d := 5) rfl rfl rfl
      rw [if_pos (want_free rfl)]
      go_simp
      exact hK _ _ (below_one _ _) (vfree rfl) (facts_cons (fun _ => ⟨_, hS.put_at (by kernel_rfl) _, Blk.new _ _ _, (Sav.size hw)⟩) (facts_cons (fun h => absurd h (by decide)) facts_nil))
    · intro a w_ K hw hS hd hN hK
      have s3 := (hd 0 (by kernel_rfl)).at (d := 3) rfl rfl rfl
      obtain ⟨g6, s6, r6, l6⟩ := (hd 3 (by kernel_rfl)).2 _ (List.mem_cons_self ..) rfl
      obtain ⟨hD4, hX4, hL4⟩ := hN _ (List.mem_cons_of_mem _ (List.mem_cons_of_mem _ (List.mem_cons_self ..))) rfl
      rw [if_pos (want_free rfl)]
      have hTX : TextsAt w_ (.slice (some ⟨g6, 0, none⟩) 1 1) [HH] := TextsAt.one r6
      have CW : Calls Tryz.prog 54 #[.pointer (some ⟨jb, 0, none⟩), .int .i64 1, .slice (some ⟨g6, 0, none⟩) 1 1] w_ (WrR b sb ab (wrAll d 1 [HH]) w_) := jwrite_any jb b sb ab d hon hq 1 [HH] (by intro t ht; rw [List.mem_singleton.1 ht]; exact hHl) (by show 1 + 1 ≤ _; omega) (.slice (some ⟨g6, 0, none⟩) 1 1) w_ hX4 HJ.out hD4 hTX (fun g e => by obtain rfl : g6 = g := Option.some.inj e; exact HNEW.out _ l6)
      unfold WrR at CW
      rw [hr] at CW
      go_simp
      refine CW.mono ?_
      rintro e w' ⟨rfl, h1, h2⟩
      exact hK _ _ h2 (vfree rfl) (facts_cons (fun h => absurd h (by decide)) (facts_cons (fun _ => ⟨hS.put_at (by kernel_rfl) _, h1⟩) facts_nil))
    · intro a w_ K hw hS hd hN hK
      obtain ⟨s7, hR7⟩ := (hd 4 (by kernel_rfl)).2 _ (List.mem_cons_of_mem _ (List.mem_cons_self ..)) rfl
      rw [if_pos (want_free rfl)]
      go_simp
      exact hK _ _ (Below.refl _ _) (vok rfl) (facts_cons (fun h => absurd h (by decide)) (facts_cons (fun h => absurd h (by decide)) facts_nil))
  case hfin =>
    intro a w5 hw hS hk
    have s3 := (hk 0 (by decide)).at (d := 3) rfl rfl rfl
    have s4 := (hk 1 (by decide)).at (d := 4) rfl rfl rfl
    have s5 := (hk 2 (by decide)).at (d := 5) rfl rfl rfl
    obtain ⟨g6, s6, r6, l6⟩ := (hk 3 (by decide)).2 _ (List.mem_cons_self ..) rfl
    obtain ⟨s7, hR7⟩ := (hk 4 (by decide)).2 _ (List.mem_cons_of_mem _ (List.mem_cons_self ..)) rfl
    have s2 := (hk 5 (by decide)).at (d := 2) rfl rfl rfl
    have hlit := hS.lit _ (by kernel_rfl) (lits_cons s3 (lits_cons s4 (lits_cons s5 (lits_cons s6 (lits_cons s7 (lits_cons s2 lits_nil))))))
    rw [hlit]
    have HR := hide hR7
    have HW := hide hw
    clear hlit hk hS s3 s4 s5 s6 s7 s2 r6 l6 hR7 hw
    simp only [litT, List.setIfInBounds_toArray, List.set_cons_succ, List.set_cons_zero]
    go_wp2_with fail
    go_ret
    exact ⟨rfl, HR.out, HW.out⟩
set_option maxRecDepth 100000 in
set_option maxHeartbeats 4000000 in
theorem jA6_any (jb b sb ab p2 p7 : Nat) (d : Dk) (hon : d.off = false) (hq : d.q = []) (n : Nat) (hn : n ≤ 10000000) (hfit : 2 ≤ d.ss.length) (w : World) (hg : ∀ W, Sav (DB b sb ab) w W → Glob W)
    (x0 : w.cell? ⟨jb, 0, none⟩ = some (dkP b)) (hj : ¬ DB b sb ab jb) (hd : DkAt b sb ab (.slice none 0 0) d w) (hnew : ∀ g, w.heap.size ≤ g → ¬ DB b sb ab g)
    (h2 : Blk w p2 29 #[.pointer (some ⟨jb, 0, none⟩)]) (h7 : Blk w p7 3 #[.int .i64 (n : Int)]) :
    Calls Tryz.prog 58 #[.pointer (some ⟨p2, 0, none⟩), .pointer (some ⟨p7, 0, none⟩)] w (WrR b sb ab (wrAll d 0 [headV 0 n]) w) := by
  have HJ := hide hj
  have HNEW := hide hnew
  have hjl : jb < w.heap.size := World.block_lt_of_cell? w ⟨jb, 0, none⟩ x0
  obtain ⟨HH, hHH⟩ : ∃ HH, headV 0 n = HH := ⟨_, rfl⟩
  have hHl : HH.length = 64 := by rw [← hHH]; exact head_len (by omega)
  have CH : ∀ (W : World) (hw : Sav (DB b sb ab) w W), Calls Tryz.prog 57 #[.int .i64 0, .int .i64 (n : Int)] W fun e w' => e = .returned (.string (bs (headV 0 n))) ∧ Below W.heap.size W w' := fun (W : World) (hw : Sav (DB b sb ab) w W) => jhead_any 0 n (by omega) (by omega) W (hg W hw)
  rw [hHH] at CH ⊢
  obtain ⟨r, hr⟩ : ∃ r, wrAll d 0 [HH] = r := ⟨_, rfl⟩
  rw [hr]
  unfold WrR
  clear hHH hg hj hnew
  go_enter Tryz.func58, Tryz.ntmps58
  go_upto_region 1 with fail
  apply wp_region_lo4 (C := fun W => Sav (DB b sb ab) w W) (V := [some _, some _, some _, none, none, some _]) (Fs := [(3, fun a W => ∃ g, a.tmps[6]? = some (.slice (some ⟨g, 0, none⟩) 1 1) ∧ Blk W g 9 #[.string (bs HH)] ∧ w.heap.size ≤ g), (4, fun a W => a.tmps[7]? = some (.int .i64 r.1) ∧ DkAt b sb ab (.slice none 0 0) r.2 W)]) (Ns := [(0, fun (_ : Act) W => Blk W p2 29 #[.pointer (some ⟨jb, 0, none⟩)]), (1, fun (_ : Act) W => Blk W p7 3 #[.int .i64 (n : Int)]), (4, fun (_ : Act) W => DkAt b sb ab (.slice none 0 0) d W ∧ W.cell? ⟨jb, 0, none⟩ = some (dkP b) ∧ jb < W.heap.size)]) (Rel := fun i a0_ a1_ x x' => if i = 4 then (fun b0 b1 x x' => Sav (DB b sb ab) x x') a0_ a1_ x x' else Below x.heap.size x x')
  case hm => kernel_rfl
  case hB => kernel_rfl
  case hCw => exact (Sav.of (below_drewN (Below.refl _ w) 1))
  case hC =>
    intro i a a' w_ w' hw hr
    by_cases e4 : i = 4
    · subst e4
      have hr' : (fun b0 b1 x x' => Sav (DB b sb ab) x x') a a' w_ w' := hr
      exact Sav.trans hw hr'
    have hr' : Below w_.heap.size w_ w' := by simpa [e4] using hr
    exact Sav.to hw hr'
  case hst =>
    refine keeps4_cons (fun i a a' w_ w' hne hwt hs hput hr h => by
      by_cases e4 : i = 4
      · subst e4
        have hr' : (fun b0 b1 x x' => Sav (DB b sb ab) x x') a a' w_ w' := hr
        obtain ⟨g, h1, h2, h3⟩ := h
        exact ⟨g, (hs 6 (by kernel_rfl)).trans h1, Sav.blk hr' h2 (HNEW.out g h3), h3⟩
      have hr' : Below w_.heap.size w_ w' := by simpa [e4] using hr
      obtain ⟨g, h1, h2, h3⟩ := h
      exact ⟨g, (hs 6 (by kernel_rfl)).trans h1, h2.to hr', h3⟩) ?_
    refine keeps4_cons (fun i a a' w_ w' hne hwt hs hput hr h => by
      by_cases e4 : i = 4
      · exact absurd e4 hne
      have hr' : Below w_.heap.size w_ w' := by simpa [e4] using hr
      exact ⟨(hs 7 (by kernel_rfl)).trans h.1, h.2.to hr'⟩) ?_
    exact keeps4_nil
  case hN0 => exact pre0_cons ((show Blk w.drew p2 _ _ from h2)) (pre0_cons ((show Blk w.drew p7 _ _ from h7)) (pre0_cons ((show DkAt b sb ab (.slice none 0 0) d w.drew ∧ w.drew.cell? ⟨jb, 0, none⟩ = some (dkP b) ∧ jb < w.drew.heap.size from ⟨hd.to (below_drewN (Below.refl _ w) 1), x0, hjl⟩)) (pre0_nil)))
  case hNst =>
    refine prek_cons3 (fun i a a' w_ w' hne hwt hr h hput => by
      by_cases e4 : i = 4
      · subst e4
        exact absurd (hwt.symm.trans (show waitsT .any _ _ 4 0 = true by kernel_rfl)) (by decide)
      have hr' : Below w_.heap.size w_ w' := by simpa [e4] using hr
      exact h.to hr') ?_
    refine prek_cons3 (fun i a a' w_ w' hne hwt hr h hput => by
      by_cases e4 : i = 4
      · subst e4
        exact absurd (hwt.symm.trans (show waitsT .any _ _ 4 1 = true by kernel_rfl)) (by decide)
      have hr' : Below w_.heap.size w_ w' := by simpa [e4] using hr
      exact h.to hr') ?_
    refine prek_cons3 (fun i a a' w_ w' hne hwt hr h hput => by
      by_cases e4 : i = 4
      · exact absurd e4 hne
      have hr' : Below w_.heap.size w_ w' := by simpa [e4] using hr
      exact ⟨h.1.to hr', (hr'.cell (p := ⟨jb, 0, none⟩) h.2.2).trans h.2.1, Nat.lt_of_lt_of_le h.2.2 hr'.size⟩) ?_
    exact prek_nil3
  case hop =>
    refine ⟨?_, ?_, ?_, ?_, ?_, ?_, trivial⟩
    · intro a w_ K hw hS hd hN hK
      have s0 := hS.at 0 (by kernel_rfl) rfl
      have hB0 := hN _ (List.mem_cons_self ..) rfl
      rw [if_pos (want_free rfl)]
      have c0 := (hB0.cell 0).trans (show _ = some (Value.pointer (some ⟨jb, 0, none⟩)) from rfl)
      go_simp
      exact hK _ _ (Below.refl _ _) (vok rfl) (facts_cons (fun h => absurd h (by decide)) (facts_cons (fun h => absurd h (by decide)) facts_nil))
    · intro a w_ K hw hS hd hN hK
      have s1 := hS.at 1 (by kernel_rfl) rfl
      have hB1 := hN _ (List.mem_cons_of_mem _ (List.mem_cons_self ..)) rfl
      rw [if_pos (want_free rfl)]
      have c0 := (hB1.cell 0).trans (show _ = some (Value.int .i64 (n : Int)) from rfl)
      go_simp
      exact hK _ _ (Below.refl _ _) (vok rfl) (facts_cons (fun h => absurd h (by decide)) (facts_cons (fun h => absurd h (by decide)) facts_nil))
    · intro a w_ K hw hS hd hN hK
      have s4 := (hd 1 (by kernel_rfl)).at (d := 4) rfl rfl rfl
      rw [if_pos (want_free rfl)]
      go_simp
      with_reducible refine (CH w_ hw).mono ?_
      rintro e w' ⟨rfl, hb⟩
      exact hK _ _ hb (vok rfl) (facts_cons (fun h => absurd h (by decide)) (facts_cons (fun h => absurd h (by decide)) facts_nil))
    · intro a w_ K hw hS hd hN hK
      have s5 := (hd 2 (by kernel_rfl)).at (d := 5) rfl rfl rfl
      rw [if_pos (want_free rfl)]
      go_simp
      exact hK _ _ (below_one _ _) (vfree rfl) (facts_cons (fun _ => ⟨_, hS.put_at (by kernel_rfl) _, Blk.new _ _ _, (Sav.size hw)⟩) (facts_cons (fun h => absurd h (by decide)) facts_nil))
    · intro a w_ K hw hS hd hN hK
      have s3 := (hd 0 (by kernel_rfl)).at (d := 3) rfl rfl rfl
      obtain ⟨g6, s6, r6, l6⟩ := (hd 3 (by kernel_rfl)).2 _ (List.mem_cons_self ..) rfl
      obtain ⟨hD4, hX4, hL4⟩ := hN _ (List.mem_cons_of_mem _ (List.mem_cons_of_mem _ (List.mem_cons_self ..))) rfl
      rw [if_pos (want_free rfl)]
      have hTX : TextsAt w_ (.slice (some ⟨g6, 0, none⟩) 1 1) [HH] := TextsAt.one r6
      have CW : Calls Tryz.prog 54 #[.pointer (some ⟨jb, 0, none⟩), .int .i64 0, .slice (some ⟨g6, 0, none⟩) 1 1] w_ (WrR b sb ab (wrAll d 0 [HH]) w_) := jwrite_any jb b sb ab d hon hq 0 [HH] (by intro t ht; rw [List.mem_singleton.1 ht]; exact hHl) (by show 0 + 1 ≤ _; omega) (.slice (some ⟨g6, 0, none⟩) 1 1) w_ hX4 HJ.out hD4 hTX (fun g e => by obtain rfl : g6 = g := Option.some.inj e; exact HNEW.out _ l6)
      unfold WrR at CW
      rw [hr] at CW
      go_simp
      refine CW.mono ?_
      rintro e w' ⟨rfl, h1, h2⟩
      exact hK _ _ h2 (vfree rfl) (facts_cons (fun h => absurd h (by decide)) (facts_cons (fun _ => ⟨hS.put_at (by kernel_rfl) _, h1⟩) facts_nil))
    · intro a w_ K hw hS hd hN hK
      obtain ⟨s7, hR7⟩ := (hd 4 (by kernel_rfl)).2 _ (List.mem_cons_of_mem _ (List.mem_cons_self ..)) rfl
      rw [if_pos (want_free rfl)]
      go_simp
      exact hK _ _ (Below.refl _ _) (vok rfl) (facts_cons (fun h => absurd h (by decide)) (facts_cons (fun h => absurd h (by decide)) facts_nil))
  case hfin =>
    intro a w5 hw hS hk
    have s3 := (hk 0 (by decide)).at (d := 3) rfl rfl rfl
    have s4 := (hk 1 (by decide)).at (d := 4) rfl rfl rfl
    have s5 := (hk 2 (by decide)).at (d := 5) rfl rfl rfl
    obtain ⟨g6, s6, r6, l6⟩ := (hk 3 (by decide)).2 _ (List.mem_cons_self ..) rfl
    obtain ⟨s7, hR7⟩ := (hk 4 (by decide)).2 _ (List.mem_cons_of_mem _ (List.mem_cons_self ..)) rfl
    have s2 := (hk 5 (by decide)).at (d := 2) rfl rfl rfl
    have hlit := hS.lit _ (by kernel_rfl) (lits_cons s3 (lits_cons s4 (lits_cons s5 (lits_cons s6 (lits_cons s7 (lits_cons s2 lits_nil))))))
    rw [hlit]
    have HR := hide hR7
    have HW := hide hw
    clear hlit hk hS s3 s4 s5 s6 s7 s2 r6 l6 hR7 hw
    simp only [litT, List.setIfInBounds_toArray, List.set_cons_succ, List.set_cons_zero]
    go_wp2_with fail
    go_ret
    exact ⟨rfl, HR.out, HW.out⟩
end Go.Proofs.YtnjlefggkfagmaaGreatDoor

/- The plain side of the journal: what Append writes. No program in sight. -/
set_option linter.unusedVariables false
set_option linter.unusedSimpArgs false
namespace Go.Proofs.YtnjlefggkfagmaaGreatDoor
open Go

/-- the sectors of pieces, from place k on -/
def secsV : Nat → List (List UInt8) → List (List UInt8)
  | _, [] => []
  | k, p :: r => sectorV k p :: secsV (k + 1) r
theorem secsV_len : ∀ (ps : List (List UInt8)) (k : Nat), (secsV k ps).length = ps.length
  | [], _ => rfl
  | p :: r, k => by show (secsV (k + 1) r).length + 1 = _; rw [secsV_len r]; rfl
theorem secsV_at : ∀ (ps : List (List UInt8)) (k i : Nat) (p : List UInt8), ps[i]? = some p → (secsV k ps)[i]? = some (sectorV (k + i) p)
  | [], k, i, p, h => by simp at h
  | q :: r, k, 0, p, h => by simp at h; subst h; rfl
  | q :: r, k, i + 1, p, h => by
    have := secsV_at r (k + 1) i p (by simpa using h)
    show (secsV (k + 1) r)[i]? = _
    rw [this, show k + 1 + i = k + (i + 1) by omega]
theorem secsV_64 {ps : List (List UInt8)} {k : Nat} (h : ∀ p ∈ ps, 1 ≤ p.length ∧ p.length ≤ 46) : ∀ s ∈ secsV k ps, s.length = 64 := fun s hs => by
  obtain ⟨i, hi, rfl⟩ := List.getElem_of_mem hs
  rw [secsV_len] at hi
  have := secsV_at ps k i ps[i] (List.getElem?_eq_getElem hi)
  rw [List.getElem?_eq_getElem (by rw [secsV_len]; exact hi)] at this
  rw [Option.some.inj this]
  have hp := h ps[i] (List.getElem_mem hi)
  exact sealV_len (by rw [List.length_append, digits_2 (by omega)]; omega)
/-- the four steps of Append behind c pieces -/
def stepsV (c : Nat) (ps : List (List UInt8)) : List (Nat × List (List UInt8)) :=
  [(2 + c, List.replicate ps.length zeroV), (2 + c, secsV (2 + c) ps), (1, [headV 1 (c + ps.length)]), (0, [headV 0 (c + ps.length)])]
end Go.Proofs.YtnjlefggkfagmaaGreatDoor

/- Two boxes of one cell made in a region that draws its order. -/
set_option linter.unusedVariables false
set_option linter.unusedSimpArgs false
namespace Go.Proofs.YtnjlefggkfagmaaGreatDoor
open Go.RowKit

abbrev ptrV (b : Nat) : Value := .pointer (some ⟨b, 0, none⟩)
/-- the box of slot s, of one cell; slot o holds another one -/
def NewB1 (B : Nat) (T : TypeId) (s o : Tmp) (a : Act) (w : World) : Prop := ∃ b x0, a.tmps[s]? = some (ptrV b) ∧ B ≤ b ∧ Blk w b T #[x0] ∧ ∀ b', a.tmps[o]? = some (ptrV b') → b' ≠ b
def HasB (B : Nat) (T : TypeId) (s o : Tmp) (cs : Array Value) (a : Act) (w : World) : Prop := ∃ b, a.tmps[s]? = some (ptrV b) ∧ B ≤ b ∧ Blk w b T cs ∧ ∀ b', a.tmps[o]? = some (ptrV b') → b' ≠ b
def OldB (o : Tmp) (a : Act) (w : World) : Prop := ∀ b', a.tmps[o]? = some (ptrV b') → b' < w.heap.size
def RAl (s : Tmp) (a a' : Act) (w w' : World) : Prop := Below w.heap.size w w' ∧ a'.tmps[s]? = some (ptrV w.heap.size) ∧ w.heap.size < w'.heap.size
def RSt (B : Nat) (T : TypeId) (s : Tmp) (v0 : Value) (a a' : Act) (w w' : World) : Prop := ∃ b, a.tmps[s]? = some (ptrV b) ∧ B ≤ b ∧ Only w w' b ∧ Blk w' b T #[v0]
theorem put_other {a : Act} {s o : Tmp} (h : s ≠ o) (v : Value) : (a.put (some s) v).tmps[o]? = a.tmps[o]? := by
  show (a.tmps.setIfInBounds s v)[o]? = _
  rw [Array.getElem?_setIfInBounds_ne h]
section
variable {B : Nat} {T : TypeId} {s o : Tmp} {cs : Array Value} {a a' : Act} {w w' : World} {v0 : Value}
theorem ptr_eq {b b' : Nat} (h : (some (ptrV b) : Option Value) = some (ptrV b')) : b = b' := by
  injection h with h; injection h with h; injection h with h; injection h
theorem NewB1.keep (h : NewB1 B T s o a w) (hs : a'.tmps[s]? = a.tmps[s]?) (ho : a'.tmps[o]? = a.tmps[o]?) (hr : Below w.heap.size w w') : NewB1 B T s o a' w' := by
  obtain ⟨b, x0, h1, h2, h3, h4⟩ := h
  exact ⟨b, x0, hs.trans h1, h2, h3.to hr, fun b' hb => h4 b' (ho.symm.trans hb)⟩
theorem NewB1.alloc (h : NewB1 B T s o a w) (hs : a'.tmps[s]? = a.tmps[s]?) (hr : RAl o a a' w w') : NewB1 B T s o a' w' := by
  obtain ⟨b, x0, h1, h2, h3, h4⟩ := h
  refine ⟨b, x0, hs.trans h1, h2, h3.to hr.1, fun b' hb => ?_⟩
  have := ptr_eq (hr.2.1.symm.trans hb)
  have := h3.lt
  omega
theorem NewB1.st (h : NewB1 B T s o a w) (hs : a'.tmps[s]? = a.tmps[s]?) (ho : a'.tmps[o]? = a.tmps[o]?) (hr : RSt B T s v0 a a' w w') : NewB1 B T s o a' w' := by
  obtain ⟨b, x0, h1, h2, h3, h4⟩ := h
  obtain ⟨c, g1, g2, g3, g4⟩ := hr
  have e := ptr_eq (h1.symm.trans g1)
  subst e
  exact ⟨b, v0, hs.trans h1, h2, g4, fun b' hb => h4 b' (ho.symm.trans hb)⟩
theorem NewB1.far (h : NewB1 B T s o a w) (hs : a'.tmps[s]? = a.tmps[s]?) (ho : a'.tmps[o]? = a.tmps[o]?) (hr : RSt B T o v0 a a' w w') : NewB1 B T s o a' w' := by
  obtain ⟨b, x0, h1, h2, h3, h4⟩ := h
  obtain ⟨c, g1, g2, g3, g4⟩ := hr
  exact ⟨b, x0, hs.trans h1, h2, g3.blk h3 (fun e => h4 c g1 e.symm), fun b' hb => h4 b' (ho.symm.trans hb)⟩
theorem HasB.keep (h : HasB B T s o cs a w) (hs : a'.tmps[s]? = a.tmps[s]?) (ho : a'.tmps[o]? = a.tmps[o]?) (hr : Below w.heap.size w w') : HasB B T s o cs a' w' := by
  obtain ⟨b, h1, h2, h3, h4⟩ := h
  exact ⟨b, hs.trans h1, h2, h3.to hr, fun b' hb => h4 b' (ho.symm.trans hb)⟩
theorem HasB.alloc (h : HasB B T s o cs a w) (hs : a'.tmps[s]? = a.tmps[s]?) (hr : RAl o a a' w w') : HasB B T s o cs a' w' := by
  obtain ⟨b, h1, h2, h3, h4⟩ := h
  refine ⟨b, hs.trans h1, h2, h3.to hr.1, fun b' hb => ?_⟩
  have := ptr_eq (hr.2.1.symm.trans hb)
  have := h3.lt
  omega
theorem HasB.far (h : HasB B T s o cs a w) (hs : a'.tmps[s]? = a.tmps[s]?) (ho : a'.tmps[o]? = a.tmps[o]?) (hr : RSt B T o v0 a a' w w') : HasB B T s o cs a' w' := by
  obtain ⟨b, h1, h2, h3, h4⟩ := h
  obtain ⟨c, g1, g2, g3, g4⟩ := hr
  exact ⟨b, hs.trans h1, h2, g3.blk h3 (fun e => h4 c g1 e.symm), fun b' hb => h4 b' (ho.symm.trans hb)⟩
theorem OldB.keep (h : OldB o a w) (ho : a'.tmps[o]? = a.tmps[o]?) (hr : w.heap.size ≤ w'.heap.size) : OldB o a' w' := fun b' hb => Nat.lt_of_lt_of_le (h b' (ho.symm.trans hb)) hr
theorem OldB.alloc (hr : RAl o a a' w w') : OldB o a' w' := fun b' hb => by
  have := ptr_eq (hr.2.1.symm.trans hb)
  have := hr.2.2
  omega
theorem OldB.start (h : a.tmps[o]? = some undef) : OldB o a w := fun b' hb => by
  rw [h] at hb
  exact absurd (Option.some.inj hb) (by unfold undef ptrV; simp)
theorem RSt.size (hr : RSt B T s v0 a a' w w') : w.heap.size ≤ w'.heap.size := by
  obtain ⟨c, g1, g2, g3, g4⟩ := hr
  exact g3.size
theorem RSt.below {w0 : World} (hr : RSt B T s v0 a a' w w') (h : Below B w0 w) (hB : B ≤ w.heap.size) : Below B w0 w' := by
  obtain ⟨c, g1, g2, g3, g4⟩ := hr
  exact Only.below h g3 hB g2
end
end Go.Proofs.YtnjlefggkfagmaaGreatDoor

/- What Append keeps between the pieces. -/
set_option linter.unusedVariables false
set_option linter.unusedSimpArgs false
namespace Go.Proofs.YtnjlefggkfagmaaGreatDoor
open Go.RowKit

theorem only_one (w : World) (b i : Nat) (v : Value) : Only w (w.setCell ⟨b, i, none⟩ v) b :=
  ⟨rfl, rfl, rfl, by simp [World.setCell], fun k hk hn => Below.heap_setCell _ _ _ _ (fun e => hn (by rw [e]))⟩
/-- the boxes of j and of the result -/
structure ApB (w : World) (jb : Nat) (er : Int) (W : World) : Prop where
  bel : Below w.heap.size w W
  b2 : Blk W w.heap.size 29 #[.pointer (some ⟨jb, 0, none⟩)]
  b4 : Blk W (w.heap.size + 1) 39 #[.int .i64 er]
theorem ApB.to {w W W' : World} {jb : Nat} {er : Int} (h : ApB w jb er W) (hb : Below W.heap.size W W') : ApB w jb er W' := ⟨below_to h.bel (Nat.le_refl _) hb, h.b2.to hb, h.b4.to hb⟩
/-- between the pieces: i sectors of zeros, j full ones -/
structure LpI (w w5 : World) (jb c : Nat) (ps : List (List UInt8)) (i j : Nat) (vE vF : Value) (W : World) : Prop where
  ap : ApB w jb 0 W
  lt : w.heap.size + 1 < w5.heap.size
  sav : Below w5.heap.size w5 W
  b8 : Blk W w5.heap.size 22 #[vE]
  b9 : Blk W (w5.heap.size + 1) 22 #[vF]
  oE : OwnT W (w5.heap.size + 2) vE (List.replicate i zeroV)
  oF : OwnT W (w5.heap.size + 2) vF ((secsV (2 + c) ps).take j)
  df : ∀ g, vE.ownBlock = some g → vF.ownBlock ≠ some g
theorem sav_two {p q : Nat} {w w' : World} (h : Two p q w w') : Sav (fun k => k = p ∨ k = q) w w' := ⟨h.os, h.tape, h.output, h.size, fun k hk hn => h.block k hk (fun e => hn (.inl e)) (fun e => hn (.inr e))⟩
theorem rowOr_cases (v : Value) (p : Nat) : rowOr v p = p ∨ v.ownBlock = some (rowOr v p) := by
  unfold rowOr
  cases e : v.ownBlock with
  | none => exact .inl rfl
  | some g => exact .inr rfl
section
variable {w w5 W W' : World} {jb c i j : Nat} {ps : List (List UInt8)} {vE vF vE' vF' : Value}
theorem LpI.to (h : LpI w w5 jb c ps i j vE vF W) (hb : Below W.heap.size W W') : LpI w w5 jb c ps i j vE vF W' :=
  ⟨h.ap.to hb, h.lt, below_to h.sav (Nat.le_refl _) hb, h.b8.to hb, h.b9.to hb, own_to4 h.oE hb, own_to4 h.oF hb, h.df⟩
theorem LpI.ltE (h : LpI w w5 jb c ps i j vE vF W) : ∀ g, vE.ownBlock = some g → w5.heap.size + 2 ≤ g ∧ g < W.heap.size := World.ownsRow.lt h.oE
theorem LpI.ltF (h : LpI w w5 jb c ps i j vE vF W) : ∀ g, vF.ownBlock = some g → w5.heap.size + 2 ≤ g ∧ g < W.heap.size := World.ownsRow.lt h.oF
theorem LpI.stepE (h : LpI w w5 jb c ps i j vE vF W) (hT : Two w5.heap.size (rowOr vE w5.heap.size) W W') (hb : Blk W' w5.heap.size 22 #[vE']) (ho : OwnT W' (w5.heap.size + 2) vE' (List.replicate (i + 1) zeroV))
    (hk : vE'.ownBlock = vE.ownBlock ∨ ∃ g, vE'.ownBlock = some g ∧ W.heap.size ≤ g) : LpI w w5 jb c ps (i + 1) j vE' vF W' := by
  have hlt := h.lt
  have hr : w5.heap.size ≤ rowOr vE w5.heap.size ∧ rowOr vE w5.heap.size ≠ w5.heap.size + 1 := by
    rcases rowOr_cases vE w5.heap.size with e | e
    · omega
    · have := (h.ltE _ e).1; omega
  refine ⟨⟨h.ap.bel.trans (hT.below h.ap.bel.size (by omega) (by omega)), hT.blk h.ap.b2 (by omega) (by omega), hT.blk h.ap.b4 (by omega) (by omega)⟩, hlt, h.sav.trans (hT.below h.sav.size (Nat.le_refl _) hr.1), hb, hT.blk h.b9 (by omega) (fun e => hr.2 e.symm), ho, (sav_two hT).own h.oF (fun g e hF => ?_), fun g e e2 => ?_⟩
  · have := (h.ltF g e).1
    rcases hF with hF | hF
    · omega
    · rcases rowOr_cases vE w5.heap.size with e3 | e3
      · omega
      · rw [← hF] at e3; exact h.df g e3 e
  · rcases hk with hk | ⟨g', hk, hg⟩
    · exact h.df g (hk.symm.trans e) e2
    · rw [hk] at e
      have := Option.some.inj e
      have := (h.ltF g e2).2
      omega
theorem LpI.stepF (h : LpI w w5 jb c ps i j vE vF W) (hT : Two (w5.heap.size + 1) (rowOr vF (w5.heap.size + 1)) W W') (hb : Blk W' (w5.heap.size + 1) 22 #[vF']) (ho : OwnT W' (w5.heap.size + 2) vF' ((secsV (2 + c) ps).take (j + 1)))
    (hk : vF'.ownBlock = vF.ownBlock ∨ ∃ g, vF'.ownBlock = some g ∧ W.heap.size ≤ g) : LpI w w5 jb c ps i (j + 1) vE vF' W' := by
  have hlt := h.lt
  have hr : w5.heap.size + 1 ≤ rowOr vF (w5.heap.size + 1) := by
    rcases rowOr_cases vF (w5.heap.size + 1) with e | e
    · omega
    · have := (h.ltF _ e).1; omega
  refine ⟨⟨h.ap.bel.trans (hT.below h.ap.bel.size (by omega) (by omega)), hT.blk h.ap.b2 (by omega) (by omega), hT.blk h.ap.b4 (by omega) (by omega)⟩, hlt, h.sav.trans (hT.below h.sav.size (by omega) (by omega)), hT.blk h.b8 (by omega) (by omega), hb, (sav_two hT).own h.oE (fun g e hF => ?_), ho, fun g e e2 => ?_⟩
  · have := (h.ltE g e).1
    rcases hF with hF | hF
    · omega
    · rcases rowOr_cases vF (w5.heap.size + 1) with e3 | e3
      · omega
      · rw [← hF] at e3; exact h.df g e e3
  · rcases hk with hk | ⟨g', hk, hg⟩
    · exact h.df g e (hk.symm.trans e2)
    · rw [hk] at e2
      have := Option.some.inj e2
      have := (h.ltE g e).2
      omega
end
end Go.Proofs.YtnjlefggkfagmaaGreatDoor

/- What Append keeps between its four steps. -/
set_option linter.unusedVariables false
set_option linter.unusedSimpArgs false
namespace Go.Proofs.YtnjlefggkfagmaaGreatDoor
open Go.RowKit

theorem wrAll_fine (d : Dk) (hon : d.off = false) (hq : d.q = []) (k : Nat) (l : List (List UInt8)) : ((wrAll d k l).1 = 0 ∧ (wrAll d k l).2.off = false ∧ (wrAll d k l).2.q = [] ∧ (wrAll d k l).2.ss.length = d.ss.length) ∨ (wrAll d k l).1 = 21 := by
  obtain ⟨ss, q, off, arm⟩ := d
  have hon : off = false := hon
  have hq : q = [] := hq
  subst hon; subst hq
  rcases wrAll_cases ss k false l arm with ⟨a, h⟩ | ⟨m, n, b, a, _, h⟩
  · rw [h]; exact .inl ⟨rfl, rfl, rfl, settle_len _ _⟩
  · rw [h]; exact .inr rfl
def fnV (f : FuncId) (l : List Nat) : Value := .func (.func f) #[] (l.map fun p => Value.pointer (some ⟨p, 0, none⟩)).toArray
/-- the four steps as functions -/
def fnRow (p2 p6 p7 p8 p9 : Nat) : Array Value := #[fnV 53 [p2, p6, p8], fnV 55 [p2, p6, p9], fnV 56 [p2, p7], fnV 58 [p2, p7]]
/-- between two steps -/
structure StI (w wq : World) (b sb ab N : Nat) (d : Dk) (st : List (Nat × List (List UInt8))) (k : Nat) (dk : Dk) (W : World) : Prop where
  at_ : DkAt b sb ab (.slice none 0 0) dk W
  off : dk.off = false
  q : dk.q = []
  len : dk.ss.length = N
  all : wrSteps d st = wrSteps dk (st.drop k)
  sav : Sav (fun x => DB b sb ab x ∨ x = w.heap.size + 1) wq W
  b4 : Blk W (w.heap.size + 1) 39 #[.int .i64 0]
/-- all that the four steps read -/
structure ApC (w w5 wq : World) (jb b sb ab c b6 b7 : Nat) (ps : List (List UInt8)) (vE vF : Value) : Prop where
  lp : LpI w w5 jb c ps ps.length ps.length vE vF wq
  r6 : Blk wq b6 3 #[.int .i64 (2 + (c : Int))]
  r7 : Blk wq b7 3 #[.int .i64 ((c : Int) + (ps.length : Int))]
  l6 : w.heap.size + 1 < b6
  l7 : w.heap.size + 1 < b7
  db : ∀ k, DB b sb ab k → k < w.heap.size
  j0 : wq.cell? ⟨jb, 0, none⟩ = some (dkP b)
  jn : ¬ DB b sb ab jb
  jl : jb < w.heap.size
  gl : Glob w
  gb : Tryz.prog.globals.size ≤ w.heap.size ∧ ∀ k, DB b sb ab k → Tryz.prog.globals.size ≤ k
  pl : ∀ p ∈ ps, 1 ≤ p.length ∧ p.length ≤ 46
theorem ent_jA3 : ∀ args w, (callFunc 53 args).run Tryz.prog w = .ok (.enter 53 args) w := enters_fn Tryz.func53 (by kernel_rfl) rfl
theorem ent_jA4 : ∀ args w, (callFunc 55 args).run Tryz.prog w = .ok (.enter 55 args) w := enters_fn Tryz.func55 (by kernel_rfl) rfl
theorem ent_jA5 : ∀ args w, (callFunc 56 args).run Tryz.prog w = .ok (.enter 56 args) w := enters_fn Tryz.func56 (by kernel_rfl) rfl
theorem ent_jA6 : ∀ args w, (callFunc 58 args).run Tryz.prog w = .ok (.enter 58 args) w := enters_fn Tryz.func58 (by kernel_rfl) rfl
section
variable {w w5 wq W : World} {jb b sb ab N c b6 b7 k : Nat} {ps : List (List UInt8)} {vE vF : Value} {d dk : Dk} {st : List (Nat × List (List UInt8))}
/-- a step's function, and what it does -/
theorem ApC.step (h : ApC w w5 wq jb b sb ab c b6 b7 ps vE vF) (hS : StI w wq b sb ab N d (stepsV c ps) k dk W) (hk : k < 4) (hN : N ≤ 4000) (hfit : 2 + c + ps.length ≤ N) : ∃ (F : FuncId) (l : List Nat) (s : Nat × List (List UInt8)), (fnRow w.heap.size b6 b7 w5.heap.size (w5.heap.size + 1))[k]? = some (fnV F l) ∧ (stepsV c ps)[k]? = some s ∧
    (∀ args w, (callFunc F args).run Tryz.prog w = .ok (.enter F args) w) ∧ Calls Tryz.prog F (l.map fun p => Value.pointer (some ⟨p, 0, none⟩)).toArray W (WrR b sb ab (wrAll dk s.1 s.2) W) := by
  have hlt := h.lp.lt
  have hno : ∀ x, w.heap.size ≤ x → x ≠ w.heap.size + 1 → ¬ (DB b sb ab x ∨ x = w.heap.size + 1) := fun x hx hn hF => by
    rcases hF with hF | hF
    · have := h.db x hF; omega
    · exact hn hF
  have q2 := hS.sav.blk h.lp.ap.b2 (hno _ (Nat.le_refl _) (by omega))
  have q6 := hS.sav.blk h.r6 (hno _ (by have := h.l6; omega) (by have := h.l6; omega))
  have q7 := hS.sav.blk h.r7 (hno _ (by have := h.l7; omega) (by have := h.l7; omega))
  have q8 := hS.sav.blk h.lp.b8 (hno _ (by omega) (by omega))
  have q9 := hS.sav.blk h.lp.b9 (hno _ (by omega) (by omega))
  have hjl : jb < wq.heap.size := World.block_lt_of_cell? wq ⟨jb, 0, none⟩ h.j0
  have x0 : W.cell? ⟨jb, 0, none⟩ = some (dkP b) := (World.cell?_of_block (hS.sav.block jb hjl (fun hF => by
    rcases hF with hF | hF
    · exact h.jn hF
    · have := h.jl; omega))).trans h.j0
  have hnd : ∀ g, w.heap.size ≤ g → ¬ DB b sb ab g := fun g hg hF => by have := h.db g hF; omega
  have hw : w.heap.size ≤ W.heap.size := Nat.le_trans h.lp.ap.bel.size hS.sav.size
  have hG : ∀ W', Sav (DB b sb ab) W W' → Glob W' := fun W' hs => by
    have h1 : Sav (fun x => DB b sb ab x ∨ x = w.heap.size + 1) wq W' := hS.sav.trans (hs.mono fun _ _ h => .inl h)
    have h2 : Below Tryz.prog.globals.size wq W' := h1.below (Nat.le_trans h.gb.1 h.lp.ap.bel.size) fun k hk hF => by
      rcases hF with hF | hF
      · have := h.gb.2 k hF; omega
      · have := h.gb.1; omega
    exact h.gl.belowB ((h.lp.ap.bel.mono h.gb.1).trans h2) (Nat.le_refl _)
  have cast1 : (2 : Int) + (c : Int) = ((2 + c : Nat) : Int) := by omega
  have cast2 : (c : Int) + (ps.length : Int) = ((c + ps.length : Nat) : Int) := by omega
  rw [cast1] at q6
  rw [cast2] at q7
  have tE : TextsAt W vE (List.replicate ps.length zeroV) := (TextsAt.of_own h.lp.oE).sav hS.sav fun g e => hno g (by have := (h.lp.ltE g e).1; omega) (by have := (h.lp.ltE g e).1; omega)
  have tF : TextsAt W vF (secsV (2 + c) ps) := by
    have := (TextsAt.of_own h.lp.oF).sav hS.sav fun g e => hno g (by have := (h.lp.ltF g e).1; omega) (by have := (h.lp.ltF g e).1; omega)
    rwa [List.take_of_length_le (by rw [secsV_len]; exact Nat.le_refl _)] at this
  obtain rfl | rfl | rfl | rfl : k = 0 ∨ k = 1 ∨ k = 2 ∨ k = 3 := by omega
  · refine ⟨_, _, _, rfl, rfl, ent_jA3, ?_⟩
    exact jA3_any jb b sb ab w.heap.size b6 w5.heap.size dk hS.off hS.q (2 + c) (List.replicate ps.length zeroV) (fun t ht => by rw [List.eq_of_mem_replicate ht]; exact List.length_replicate) (by rw [List.length_replicate, hS.len]; omega) vE W x0 h.jn hS.at_ tE (fun g e => hnd g (by have := (h.lp.ltE g e).1; omega)) q2 q6 q8
  · refine ⟨_, _, _, rfl, rfl, ent_jA4, ?_⟩
    exact jA4_any jb b sb ab w.heap.size b6 (w5.heap.size + 1) dk hS.off hS.q (2 + c) (secsV (2 + c) ps) (secsV_64 h.pl) (by rw [secsV_len, hS.len]; omega) vF W x0 h.jn hS.at_ tF (fun g e => hnd g (by have := (h.lp.ltF g e).1; omega)) q2 q6 q9
  · refine ⟨_, _, _, rfl, rfl, ent_jA5, ?_⟩
    exact jA5_any jb b sb ab w.heap.size b7 dk hS.off hS.q (c + ps.length) (by omega) (by rw [hS.len]; omega) W hG x0 h.jn hS.at_ (fun g hg => hnd g (by omega)) q2 q7
  · refine ⟨_, _, _, rfl, rfl, ent_jA6, ?_⟩
    exact jA6_any jb b sb ab w.heap.size b7 dk hS.off hS.q (c + ps.length) (by omega) (by rw [hS.len]; omega) W hG x0 h.jn hS.at_ (fun g hg => hnd g (by omega)) q2 q7
theorem steps_at {d : Dk} {st : List (Nat × List (List UInt8))} {k : Nat} {s : Nat × List (List UInt8)} (h : st[k]? = some s) : wrSteps d (st.drop k) = if (wrAll d s.1 s.2).1 = 0 then wrSteps (wrAll d s.1 s.2).2 (st.drop (k + 1)) else wrAll d s.1 s.2 := by
  rw [drop_at' h]; rfl
theorem StI.next (h : StI w wq b sb ab N d st k dk W) {s : Nat × List (List UInt8)} (hs : st[k]? = some s) {W' : World} (hr : DkAt b sb ab (.slice none 0 0) (wrAll dk s.1 s.2).2 W') (hS : Sav (DB b sb ab) W W') (h0 : (wrAll dk s.1 s.2).1 = 0) (hb : w.heap.size + 1 ≠ b ∧ w.heap.size + 1 ≠ sb ∧ (b < ab → w.heap.size + 1 ≠ ab)) :
    StI w wq b sb ab N d st (k + 1) (wrAll dk s.1 s.2).2 (W'.setCell ⟨w.heap.size + 1, 0, none⟩ (.int .i64 0)) := by
  rcases wrAll_fine dk h.off h.q s.1 s.2 with ⟨_, h1, h2, h3⟩ | h1
  · have hnd : ¬ DB b sb ab (w.heap.size + 1) := fun hF => by
      rcases hF with hF | hF | ⟨hF, hlt⟩ | hF
      · exact hb.1 hF
      · exact hb.2.1 hF
      · exact hb.2.2 hlt hF
      · cases hF
    refine ⟨⟨hr.blk.far (p := ⟨w.heap.size + 1, 0, none⟩) (fun e => hb.1 e.symm) _, hr.st.far (p := ⟨w.heap.size + 1, 0, none⟩) (fun e => hb.2.1 e.symm) _, fun a n c e => ?_, hr.ord, own_farB hr.q (by intro e; cases e) _, hr.l64, hr.qk, hr.few⟩, h1, h2, h3.trans h.len, ?_, ?_, ?_⟩
    · obtain ⟨g1, g2, g3, g4⟩ := hr.al a n c e
      exact ⟨g1.far (p := ⟨w.heap.size + 1, 0, none⟩) (fun e => hb.2.2 g2 e.symm) _, g2, g3, g4⟩
    · rw [h.all, steps_at hs, if_pos h0]
    · exact (h.sav.trans (hS.mono fun _ _ h => .inl h)).set_ (p := ⟨w.heap.size + 1, 0, none⟩) (fun _ => .inr rfl) _
    · exact (hS.blk h.b4 hnd).set_ 0 _
  · rw [h0] at h1; cases h1
end
set_option maxRecDepth 100000 in
set_option maxHeartbeats 1000000 in
theorem jA2_any (p2 p4 jb : Nat) (er : Int) (bv : Bool) (hb : (er != 0) = bv) (cs : Array Value) (br : Bool) (h5 : cs[4]? = some (.bool br)) (w : World) (h2 : Blk w p2 29 #[.pointer (some ⟨jb, 0, none⟩)]) (h4 : Blk w p4 39 #[.int .i64 er]) (hj : Blk w jb 90 cs) :
    CallsD Tryz.prog 50 #[.pointer (some ⟨p4, 0, none⟩), .pointer (some ⟨p2, 0, none⟩)] .returning w fun e u' w' => u' = .returning ∧ e = .returned (.tuple #[]) ∧ w' = w.setCell ⟨jb, 4, none⟩ (.bool bv) := by
  have x2 := (h2.cell 0).trans (show _ = some (Value.pointer (some ⟨jb, 0, none⟩)) from rfl)
  have x4 := (h4.cell 0).trans (show _ = some (Value.int .i64 er) from rfl)
  have xj := (hj.cell 4).trans h5
  have fj := hj.frozen 4
  refine callsD_of_wp Tryz.func50 rfl ?_
  simp only [Tryz.ntmps50]
  go_wp2_with fail
  exact ⟨rfl, .tuple #[], results_none rfl _ _ _, rfl, rfl⟩
theorem DkAt.farC {b sb ab p i : Nat} {d : Dk} {W : World} {u : Value} (h : DkAt b sb ab (.slice none 0 0) d W) (hp : ¬ DB b sb ab p) : DkAt b sb ab (.slice none 0 0) d (W.setCell ⟨p, i, none⟩ u) := by
  have h1 : b ≠ p := fun e => hp (.inl e.symm)
  have h2 : sb ≠ p := fun e => hp (.inr (.inl e.symm))
  refine ⟨h.blk.far (p := ⟨p, i, none⟩) h1 _, h.st.far (p := ⟨p, i, none⟩) h2 _, fun a n c e => ?_, h.ord, own_farB h.q (by intro e; cases e) _, h.l64, h.qk, h.few⟩
  obtain ⟨g1, g2, g3, g4⟩ := h.al a n c e
  exact ⟨g1.far (p := ⟨p, i, none⟩) (fun e => hp (.inr (.inr (.inl ⟨e.symm, g2⟩)))) _, g2, g3, g4⟩
def AppR (jb b sb ab N c : Nat) (rs news : List (List UInt8)) (vr : Value) (r : Int × Dk) (w : World) (e : Ending) (w' : World) : Prop :=
  e = .returned (.int .i64 r.1) ∧ DkAt b sb ab (.slice none 0 0) r.2 w' ∧ Sav (fun k => DB b sb ab k ∨ k = jb ∨ vr.ownBlock = some k) w w' ∧
  (r.1 = 0 → ∃ vr', JAt jb b N (c + (splitV (joinD news)).length) (rs ++ news) false vr' w' ∧ (vr'.ownBlock = vr.ownBlock ∨ ∃ g, vr'.ownBlock = some g ∧ w.heap.size ≤ g))
theorem app_leave (er : Int) (bv : Bool) (hb : (er != 0) = bv) (p2 p4 jb : Nat) (cs : Array Value) (br : Bool) (h5 : cs[4]? = some (.bool br)) (hne : p4 ≠ jb) (W : World) (h2 : Blk W p2 29 #[.pointer (some ⟨jb, 0, none⟩)]) (h4 : Blk W p4 39 #[.int .i64 er]) (hj : Blk W jb 90 cs)
    (R : Ending → World → Prop) (hR : R (.returned (.int .i64 er)) (W.setCell ⟨jb, 4, none⟩ (.bool bv))) (tmps : Array Value) (ht : tmps[4]? = some (.pointer (some ⟨p4, 0, none⟩))) :
    Leaves Tryz.prog Tryz.f18 tmps R [{ target := .fn (.func 50) #[.pointer (some ⟨p4, 0, none⟩), .pointer (some ⟨p2, 0, none⟩)], args := #[] }] .returning W := by
  refine leaves_cons (f := 50) (args := #[.pointer (some ⟨p4, 0, none⟩), .pointer (some ⟨p2, 0, none⟩)]) (by simp) (by simp [go_sem]) ?_
  refine (jA2_any p2 p4 jb er bv hb cs br h5 W h2 h4 hj).mono ?_
  rintro e u' w' ⟨rfl, rfl, rfl⟩
  show Leaves _ _ _ _ [] .returning _
  exact ⟨_, results_errno rfl tmps _ p4 _ ht (h4.far (p := ⟨jb, 4, none⟩) hne _), hR⟩
end Go.Proofs.YtnjlefggkfagmaaGreatDoor
