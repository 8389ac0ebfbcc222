/- Walk of the law VeilMasks. -/
import Derived.Test.YtdgbnplieaaokaaDoorV8
import Derived.Test.YtdgbnplieaaokaaDoorLC
import Derived.Test.YtdgbnplieaaokaaDoorM2
import Derived.Test.YtdgbnplieaaokaaDoorLoose
set_option linter.unusedVariables false
set_option linter.unusedSimpArgs false
namespace Go.Proofs.YtdgbnplieaaokaaDoor
open Go.RowKit

theorem digit_int {x : Int} (h0 : 0 ≤ x) (h1 : x ≤ 32767) (p : Nat) (hp : p ≤ 4) (w : World) :
    Calls Tryd.prog 16 #[.int .i64 x, .int .i64 (p : Int)] w fun e w' => e = .returned (.int .i64 (digN x.toNat p : Int)) ∧ Below w.heap.size w w' := by
  have h := digit_any x.toNat p (by omega) (by omega) w
  rw [show ((x.toNat : Nat) : Int) = x by omega] at h
  refine h.mono ?_
  rintro e w' ⟨rfl, rfl⟩
  exact ⟨rfl, Below.refl _ _⟩
def MkI {U : Type} (g : U → World) (i : Value) (wr : World) : Prop := ∃ k : Nat, k ≤ 10 ∧ i = .int .i64 (k : Int) ∧ ∃ u, wr = g u
theorem digN_le (n p : Nat) : 0 ≤ ((digN n p : Nat) : Int) ∧ ((digN n p : Nat) : Int) ≤ 9 := by unfold digN; omega
theorem short2 {a b : List UInt8} (h : shortP [a, b] = true) : a.length ≤ 300 ∧ b.length ≤ 300 := by simpa [shortP] using h
set_option maxRecDepth 100000 in
set_option maxHeartbeats 8000000 in
theorem masks_law (key salt : List UInt8) (x y u v : Int) (hk : key.length ≤ 140737488351232) (hs : salt.length ≤ 140737488351232) (w : World) (hg : Glob w) :
    Calls Tryd.prog 7 #[.string (bs key), .string (bs salt), pval x y, pval u v] w fun e w' => e = .returned (.bool true) ∧ Below w.heap.size w w' := by
  have HK := hide hk
  have HS := hide hs
  clear hk hs
  have HB := hide (below_two w (.cells #[.int .i64 x, .int .i64 y] 23) (.cells #[.int .i64 u, .int .i64 v] 23))
  have HG := hide ((hg.alloc (.cells #[.int .i64 x, .int .i64 y] 23)).alloc (.cells #[.int .i64 u, .int .i64 v] 23))
  have Hp := hide ((Blk.new w 23 #[.int .i64 x, .int .i64 y]).alloc (.cells #[.int .i64 u, .int .i64 v] 23))
  have Hq : Hid (Blk ((w.alloc (.cells #[.int .i64 x, .int .i64 y] 23)).alloc (.cells #[.int .i64 u, .int .i64 v] 23)) (w.heap.size + 1) 23 #[.int .i64 u, .int .i64 v]) := by have := Blk.new (w.alloc (.cells #[.int .i64 x, .int .i64 y] 23)) 23 #[.int .i64 u, .int .i64 v]; show Blk _ _ _ _; simpa using this
  clear hg
  go_enter Tryd.func7, Tryd.ntmps7
  unfold pval
  go_wp2_with fail
  generalize (w.alloc (.cells #[.int .i64 x, .int .i64 y] 23)).alloc (.cells #[.int .i64 u, .int .i64 v] 23) = w1 at *
  obtain ⟨Bq, HBq⟩ : ∃ A, Hid (w.heap.size + 1 = A) := ⟨_, rfl⟩
  rw [HBq.out] at Hq ⊢
  obtain ⟨Bp, HBp⟩ : ∃ A, Hid (w.heap.size = A) := ⟨_, rfl⟩
  rw [HBp.out] at Hp ⊢
  refine (head_any _ HG.out).mono ?_
  rintro e w2 ⟨rfl, hb⟩
  have HB2 := hide (below_to HB.out (Nat.le_refl _) hb)
  have HG2 := hide (HG.out.to hb)
  have Hp2 := hide (Hp.out.to hb)
  have Hq2 := hide (Hq.out.to hb)
  clear hb HB HG Hp Hq
  obtain ⟨U, hU, g, u0, rfl, hgu, hi⟩ := cls w2
  have p0 := blk_all hgu Hp2.out 0 rfl
  have p1 := blk_all hgu Hp2.out 1 rfl
  have q0 := blk_all hgu Hq2.out 0 rfl
  have q1 := blk_all hgu Hq2.out 1 rfl
  have C1 := cls_call hgu hi (fun w hb => Lock_any key salt x y HK.out HS.out w (HG2.out.to hb))
  have C2 := cls_call hgu hi (fun w hb => Lock_any key salt u v HK.out HS.out w (HG2.out.to hb))
  unfold pval at C1 C2
  go_wp2_with (first | ((with_reducible refine (C1 _).mono ?_); rintro e w' ⟨rfl, uz, rfl⟩) | ((with_reducible refine (C2 _).mono ?_); rintro e w' ⟨rfl, uz, rfl⟩))
  have HS3 : Hid (Blk ((g uz).alloc (.cells #[.string (bs key), .string (bs salt)] 9)) (g uz).heap.size 9 (strC [key, salt])) := Blk.new (g uz) _ _
  have HB3 := hide (below_alloc (below_to HB2.out (Nat.le_refl _) (hgu uz)) (Nat.le_refl _) (.cells #[.string (bs key), .string (bs salt)] 9))
  have Hp3 := hide ((Hp2.out.to (hgu uz)).alloc (.cells #[.string (bs key), .string (bs salt)] 9))
  have Hq3 := hide ((Hq2.out.to (hgu uz)).alloc (.cells #[.string (bs key), .string (bs salt)] 9))
  clear p0 p1 q0 q1 C1 C2 HB2 HG2
  generalize (g uz).alloc (.cells #[.string (bs key), .string (bs salt)] 9) = w3 at *
  generalize (g uz).heap.size = A at *
  clear Hp2 Hq2 hgu hi
  refine (short_any [key, salt] _ _ _ HS3.out (by simp) (fun l hl => by
    simp only [List.mem_cons, List.not_mem_nil, or_false] at hl
    have h1 := HK.out; have h3 := HS.out
    rcases hl with rfl | rfl <;> omega)).mono ?_
  rintro e w4 ⟨rfl, rfl⟩
  cases hsh : shortP [key, salt]
  · go_wp2_with fail
    go_ret
    exact ⟨ret_bool rfl, HB3.out⟩
  clear hsh HS3
  cases hc1 : canL salt x y
  · rw [(lock_not (key := key) hc1).1]
    clear hc1
    go_wp2_with fail
    go_ret
    exact ⟨ret_bool rfl, HB3.out⟩
  cases hc2 : canL salt u v
  · rw [lockE_can hc1, (lock_not (key := key) hc2).1]
    clear hc1 hc2
    go_wp2_with fail
    go_ret
    exact ⟨ret_bool rfl, HB3.out⟩
  rw [lockE_can hc1, lockE_can hc2]
  have s1 : (bs (lockP key salt x y)).size = 42 := by rw [bs_size, lock_len hc1]
  have s2 : (bs (lockP key salt u v)).size = 42 := by rw [bs_size, lock_len hc2]
  obtain ⟨U3, hU3, g3, u30, rfl, hgu3, hi3⟩ := cls w3
  have p0 := blk_all hgu3 Hp3.out 0 rfl
  have p1 := blk_all hgu3 Hp3.out 1 rfl
  have q0 := blk_all hgu3 Hq3.out 0 rfl
  have q1 := blk_all hgu3 Hq3.out 1 rfl
  have HM := hide (masks_at (key := key) hc1 hc2)
  have hon1 : onP x y = true := by unfold canL at hc1; simp only [Bool.and_eq_true] at hc1; exact hc1.2
  have hon2 : onP u v = true := by unfold canL at hc2; simp only [Bool.and_eq_true] at hc2; exact hc2.2
  have HO1 := hide ((onP_iff x y).1 hon1)
  have HO2 := hide ((onP_iff u v).1 hon2)
  clear hc1 hc2 hon1 hon2 HK HS
  have HI1 : Hid (∀ (k : Nat) (c : UInt8), (lockP key salt x y)[k]? = some c → ∀ w, (Instr.index 9 (.string (bs (lockP key salt x y))) (.int .i64 (k : Int))).run Tryd.prog w = .ok (.int .u8 (c.toNat : Int)) w) := fun k c h w => index_bs _ k c h w
  have HI2 : Hid (∀ (k : Nat) (c : UInt8), (lockP key salt u v)[k]? = some c → ∀ w, (Instr.index 9 (.string (bs (lockP key salt u v))) (.int .i64 (k : Int))).run Tryd.prog w = .ok (.int .u8 (c.toNat : Int)) w) := fun k c h w => index_bs _ k c h w
  generalize lockP key salt x y = l1 at *
  generalize lockP key salt u v = l2 at *
  generalize hT1 : bs l1 = T1 at *
  generalize hT2 : bs l2 = T2 at *
  clear hT1 hT2
  go_wp2_with fail
  have HB4 := hide hgu3
  clear hgu3
  go_loopw [14] (fun i wr => MkI g3 i wr) (fun i _ => 10 - (intOf i).toNat)
  case atStart => exact ⟨0, by omega, rfl, _, rfl⟩
  case round =>
    obtain ⟨k, hk, rfl, uz, rfl⟩ := hrel
    by_cases hlt : k < 10
    · obtain ⟨c, d, hc, hd, hm⟩ := HM.out k hlt
      have hx1 := HI1.out (16 + k) c hc
      have hx2 := HI2.out (16 + k) d hd
      rw [show ((16 + k : Nat) : Int) = 16 + (k : Int) by omega] at hx1 hx2
      have c0 : 0 ≤ (c.toNat : Int) ∧ (c.toNat : Int) ≤ 255 := by have := c.toNat_lt; omega
      have d0 : 0 ≤ (d.toNat : Int) ∧ (d.toNat : Int) ≤ 255 := by have := d.toNat_lt; omega
      have a1 := digK_lt k x y
      have b1 := digK_lt k u v
      have e1 : decide ((k : Int) < 10) = true := by simp; omega
      have e2 : (k : Int).tmod 5 = ((k % 5 : Nat) : Int) := rfl
      have e3 : (4 : Int) - ((k % 5 : Nat) : Int) = ((4 - k % 5 : Nat) : Int) := by omega
      obtain ⟨P, hP⟩ : ∃ P, 4 - k % 5 = P := ⟨_, rfl⟩
      have hP4 : P ≤ 4 := by omega
      have hda : digK k x y = if k < 5 then digN x.toNat P else digN y.toNat P := by rw [← hP]; rfl
      have hdb : digK k u v = if k < 5 then digN u.toNat P else digN v.toNat P := by rw [← hP]; rfl
      rw [hda] at hm a1
      rw [hdb] at hm b1
      have HHm := hide hm
      have HA1 := hide a1
      have HB1 := hide b1
      have HHk := hide hlt
      have DX := fun w => digit_int HO1.out.1 HO1.out.2.1 P hP4 w
      have DY := fun w => digit_int HO1.out.2.2.1 HO1.out.2.2.2 P hP4 w
      have DU := fun w => digit_int HO2.out.1 HO2.out.2.1 P hP4 w
      have DV := fun w => digit_int HO2.out.2.2.1 HO2.out.2.2.2 P hP4 w
      have hP5 : (4 : Int) - (k : Int).tmod 5 = (P : Int) := by rw [e2, e3, hP]
      have hP6 : wrap64 (P : Int) = (P : Int) := by unfold wrap64; omega
      clear hc hd hm a1 b1 hda hdb e2 e3 hP hP4
      have gX := digN_le x.toNat P
      have gY := digN_le y.toNat P
      have gU := digN_le u.toNat P
      have gV := digN_le v.toNat P
      obtain ⟨r, hr⟩ : ∃ r : Int, (k : Int).tmod 5 = r := ⟨_, rfl⟩
      rw [hr] at hP5
      have hr0 : 0 ≤ r ∧ r ≤ 4 := by rw [← hr]; have : (k : Int).tmod 5 = ((k % 5 : Nat) : Int) := rfl; omega
      have hr6 : wrap64 r = r := by unfold wrap64; omega
      have hr7 := w64 (x := r) (by omega) (by omega)
      have hP7 := w64 (x := (P : Int)) (by omega) (by omega)
      by_cases h5 : k < 5
      · have e5 : decide ((5 : Int) ≤ (k : Int)) = false := by simp; omega
        have hm := HHm.out
        rw [if_pos h5, if_pos h5] at hm
        clear HHm h5 DY DV gY gV HA1 HB1
        generalize ((digN x.toNat P : Nat) : Int) = av at *
        generalize ((digN u.toNat P : Nat) : Int) = bv at *
        go_wp2_with fail
        apply wp_region_looseG g3 (V := [some _, some _, some _, some _, some _, some _, some _, some _, some _, some _, some _, some _, some _, some _]) (Fs := []) (Rel := fun _ w w' => Below w.heap.size w w')
        case hm => kernel_rfl
        case hB => kernel_rfl
        case hCw => exact hi3 _ (HB4.out _).drew
        case hC =>
          rintro i uq w' hr
          exact hi3 _ (below_to (HB4.out uq) (Nat.le_refl _) hr)
        case hst =>
          exact keeps_nil
        case hop =>
          refine ⟨?_, ?_, ?_, ?_, ?_, ?_, ?_, ?_, ?_, ?_, ?_, ?_, ?_, ?_, trivial⟩
          · intro a uq K hS hd hK
            have s6 := hS.at 6 (by kernel_rfl) rfl
            rw [if_pos (want_free rfl)]
            go_simp
            exact hK _ _ (Below.refl _ _) (vok rfl) facts_nil
          · intro a uq K hS hd hK
            have s58 := (waits_on hd 0 (by kernel_rfl)).at (d := 58) rfl rfl rfl
            rw [if_pos (want_free rfl)]
            go_simp
            exact hK _ _ (Below.refl _ _) (vok rfl) facts_nil
          · intro a uq K hS hd hK
            have s14 := hS.at 14 (by kernel_rfl) rfl
            rw [if_pos (want_free rfl)]
            go_simp
            exact hK _ _ (Below.refl _ _) (vok rfl) facts_nil
          · intro a uq K hS hd hK
            have s60 := (waits_on hd 2 (by kernel_rfl)).at (d := 60) rfl rfl rfl
            rw [if_pos (want_free rfl)]
            go_simp
            exact hK _ _ (Below.refl _ _) (vok rfl) facts_nil
          · intro a uq K hS hd hK
            have s61 := (waits_on hd 3 (by kernel_rfl)).at (d := 61) rfl rfl rfl
            rw [if_pos (want_free rfl)]
            go_simp
            exact hK _ _ (Below.refl _ _) (vok rfl) facts_nil
          · intro a uq K hS hd hK
            have s59 := (waits_on hd 1 (by kernel_rfl)).at (d := 59) rfl rfl rfl
            have s62 := (waits_on hd 4 (by kernel_rfl)).at (d := 62) rfl rfl rfl
            rw [if_pos (want_free rfl)]
            go_simp
            with_reducible refine (DX (g3 uq)).mono ?_
            rintro e w' ⟨rfl, hb⟩
            exact hK _ _ hb (vok rfl) facts_nil
          · intro a uq K hS hd hK
            have s7 := hS.at 7 (by kernel_rfl) rfl
            rw [if_pos (want_free rfl)]
            go_simp
            exact hK _ _ (Below.refl _ _) (vok rfl) facts_nil
          · intro a uq K hS hd hK
            have s64 := (waits_on hd 6 (by kernel_rfl)).at (d := 64) rfl rfl rfl
            rw [if_pos (want_free rfl)]
            go_simp
            exact hK _ _ (Below.refl _ _) (vok rfl) facts_nil
          · intro a uq K hS hd hK
            have s14 := hS.at 14 (by kernel_rfl) rfl
            rw [if_pos (want_free rfl)]
            go_simp
            exact hK _ _ (Below.refl _ _) (vok rfl) facts_nil
          · intro a uq K hS hd hK
            have s66 := (waits_on hd 8 (by kernel_rfl)).at (d := 66) rfl rfl rfl
            rw [if_pos (want_free rfl)]
            go_simp
            exact hK _ _ (Below.refl _ _) (vok rfl) facts_nil
          · intro a uq K hS hd hK
            have s67 := (waits_on hd 9 (by kernel_rfl)).at (d := 67) rfl rfl rfl
            rw [if_pos (want_free rfl)]
            go_simp
            exact hK _ _ (Below.refl _ _) (vok rfl) facts_nil
          · intro a uq K hS hd hK
            have s65 := (waits_on hd 7 (by kernel_rfl)).at (d := 65) rfl rfl rfl
            have s68 := (waits_on hd 10 (by kernel_rfl)).at (d := 68) rfl rfl rfl
            rw [if_pos (want_free rfl)]
            go_simp
            with_reducible refine (DU (g3 uq)).mono ?_
            rintro e w' ⟨rfl, hb⟩
            exact hK _ _ hb (vok rfl) facts_nil
          · intro a uq K hS hd hK
            have s63 := (waits_on hd 5 (by kernel_rfl)).at (d := 63) rfl rfl rfl
            rw [if_pos (want_free rfl)]
            go_simp
            exact hK _ _ (Below.refl _ _) (vok rfl) facts_nil
          · intro a uq K hS hd hK
            have s69 := (waits_on hd 11 (by kernel_rfl)).at (d := 69) rfl rfl rfl
            rw [if_pos (want_free rfl)]
            go_simp
            exact hK _ _ (Below.refl _ _) (vok rfl) facts_nil
        case hfin =>
          intro a uq hS hk
          have s58 := (hk 0 (by decide)).at (d := 58) rfl rfl rfl
          have s59 := (hk 1 (by decide)).at (d := 59) rfl rfl rfl
          have s60 := (hk 2 (by decide)).at (d := 60) rfl rfl rfl
          have s61 := (hk 3 (by decide)).at (d := 61) rfl rfl rfl
          have s62 := (hk 4 (by decide)).at (d := 62) rfl rfl rfl
          have s63 := (hk 5 (by decide)).at (d := 63) rfl rfl rfl
          have s64 := (hk 6 (by decide)).at (d := 64) rfl rfl rfl
          have s65 := (hk 7 (by decide)).at (d := 65) rfl rfl rfl
          have s66 := (hk 8 (by decide)).at (d := 66) rfl rfl rfl
          have s67 := (hk 9 (by decide)).at (d := 67) rfl rfl rfl
          have s68 := (hk 10 (by decide)).at (d := 68) rfl rfl rfl
          have s69 := (hk 11 (by decide)).at (d := 69) rfl rfl rfl
          have s15 := (hk 12 (by decide)).at (d := 15) rfl rfl rfl
          have s16 := (hk 13 (by decide)).at (d := 16) rfl rfl rfl
          have hlit := hS.lit _ (by kernel_rfl) (lits_cons s58 (lits_cons s59 (lits_cons s60 (lits_cons s61 (lits_cons s62 (lits_cons s63 (lits_cons s64 (lits_cons s65 (lits_cons s66 (lits_cons s67 (lits_cons s68 (lits_cons s69 (lits_cons s15 (lits_cons s16 lits_nil))))))))))))))
          rw [hlit]
          clear hlit hk hS s58 s59 s60 s61 s62 s63 s64 s65 s66 s67 s68 s69 s15 s16
          simp only [litT, List.setIfInBounds_toArray, List.set_cons_succ, List.set_cons_zero]
          clear DX DU p0 p1 q0 q1
          go_wp2_with fail
          generalize (c.toNat : Int) = cv at *
          generalize (d.toNat : Int) = dv at *
          have v0 := w64 (x := 16 + (k : Int)) (by omega) (by omega)
          have u0 : wrap64 (16 + (k : Int)) = 16 + (k : Int) := by unfold wrap64; omega
          have v1 := w64 (x := cv) (by omega) (by omega)
          have u1 : wrap64 (cv) = cv := by unfold wrap64; omega
          have v2 := w64 (x := dv) (by omega) (by omega)
          have u2 : wrap64 (dv) = dv := by unfold wrap64; omega
          have v3 := w64 (x := cv - dv) (by omega) (by omega)
          have u3 : wrap64 (cv - dv) = cv - dv := by unfold wrap64; omega
          have v4 := w64 (x := cv - dv - av) (by omega) (by omega)
          have u4 : wrap64 (cv - dv - av) = cv - dv - av := by unfold wrap64; omega
          have v5 := w64 (x := cv - dv - av + bv) (by omega) (by omega)
          have u5 : wrap64 (cv - dv - av + bv) = cv - dv - av + bv := by unfold wrap64; omega
          apply wp_region_looseG g3 (V := [some _, some _, some _, some _, some _, some _, some _, some _, some _, some _, some _, some _, some _, some _, some _, some _, some _]) (Fs := []) (Rel := fun _ w w' => Below w.heap.size w w')
          case hm => kernel_rfl
          case hB => kernel_rfl
          case hCw => exact hi3 _ (HB4.out _).drew
          case hC =>
            rintro i uq w' hr
            exact hi3 _ (below_to (HB4.out uq) (Nat.le_refl _) hr)
          case hst =>
            exact keeps_nil
          case hop =>
            refine ⟨?_, ?_, ?_, ?_, ?_, ?_, ?_, ?_, ?_, ?_, ?_, ?_, ?_, ?_, ?_, ?_, ?_, trivial⟩
            · intro a uq K hS hd hK
              have s10 := hS.at 10 (by kernel_rfl) rfl
              rw [if_pos (want_free rfl)]
              go_simp
              exact hK _ _ (Below.refl _ _) (vok rfl) facts_nil
            · intro a uq K hS hd hK
              have s14 := hS.at 14 (by kernel_rfl) rfl
              rw [if_pos (want_free rfl)]
              go_simp
              exact hK _ _ (Below.refl _ _) (vok rfl) facts_nil
            · intro a uq K hS hd hK
              have s85 := (waits_on hd 1 (by kernel_rfl)).at (d := 85) rfl rfl rfl
              rw [if_pos (want_free rfl)]
              go_simp
              exact hK _ _ (Below.refl _ _) (vok rfl) facts_nil
            · intro a uq K hS hd hK
              have s84 := (waits_on hd 0 (by kernel_rfl)).at (d := 84) rfl rfl rfl
              have s86 := (waits_on hd 2 (by kernel_rfl)).at (d := 86) rfl rfl rfl
              rw [if_pos (want_free rfl)]
              go_simp
              exact hK _ _ (Below.refl _ _) (vok rfl) facts_nil
            · intro a uq K hS hd hK
              have s87 := (waits_on hd 3 (by kernel_rfl)).at (d := 87) rfl rfl rfl
              rw [if_pos (want_free rfl)]
              go_simp
              exact hK _ _ (Below.refl _ _) (vok rfl) facts_nil
            · intro a uq K hS hd hK
              have s12 := hS.at 12 (by kernel_rfl) rfl
              rw [if_pos (want_free rfl)]
              go_simp
              exact hK _ _ (Below.refl _ _) (vok rfl) facts_nil
            · intro a uq K hS hd hK
              have s14 := hS.at 14 (by kernel_rfl) rfl
              rw [if_pos (want_free rfl)]
              go_simp
              exact hK _ _ (Below.refl _ _) (vok rfl) facts_nil
            · intro a uq K hS hd hK
              have s90 := (waits_on hd 6 (by kernel_rfl)).at (d := 90) rfl rfl rfl
              rw [if_pos (want_free rfl)]
              go_simp
              exact hK _ _ (Below.refl _ _) (vok rfl) facts_nil
            · intro a uq K hS hd hK
              have s89 := (waits_on hd 5 (by kernel_rfl)).at (d := 89) rfl rfl rfl
              have s91 := (waits_on hd 7 (by kernel_rfl)).at (d := 91) rfl rfl rfl
              rw [if_pos (want_free rfl)]
              go_simp
              exact hK _ _ (Below.refl _ _) (vok rfl) facts_nil
            · intro a uq K hS hd hK
              have s92 := (waits_on hd 8 (by kernel_rfl)).at (d := 92) rfl rfl rfl
              rw [if_pos (want_free rfl)]
              go_simp
              exact hK _ _ (Below.refl _ _) (vok rfl) facts_nil
            · intro a uq K hS hd hK
              have s88 := (waits_on hd 4 (by kernel_rfl)).at (d := 88) rfl rfl rfl
              have s93 := (waits_on hd 9 (by kernel_rfl)).at (d := 93) rfl rfl rfl
              rw [if_pos (want_free rfl)]
              go_simp
              exact hK _ _ (Below.refl _ _) (vok rfl) facts_nil
            · intro a uq K hS hd hK
              have s15 := hS.at 15 (by kernel_rfl) rfl
              rw [if_pos (want_free rfl)]
              go_simp
              exact hK _ _ (Below.refl _ _) (vok rfl) facts_nil
            · intro a uq K hS hd hK
              have s94 := (waits_on hd 10 (by kernel_rfl)).at (d := 94) rfl rfl rfl
              have s95 := (waits_on hd 11 (by kernel_rfl)).at (d := 95) rfl rfl rfl
              rw [if_pos (want_free rfl)]
              go_simp
              exact hK _ _ (Below.refl _ _) (vok rfl) facts_nil
            · intro a uq K hS hd hK
              have s16 := hS.at 16 (by kernel_rfl) rfl
              rw [if_pos (want_free rfl)]
              go_simp
              exact hK _ _ (Below.refl _ _) (vok rfl) facts_nil
            · intro a uq K hS hd hK
              have s96 := (waits_on hd 12 (by kernel_rfl)).at (d := 96) rfl rfl rfl
              have s97 := (waits_on hd 13 (by kernel_rfl)).at (d := 97) rfl rfl rfl
              rw [if_pos (want_free rfl)]
              go_simp
              exact hK _ _ (Below.refl _ _) (vok rfl) facts_nil
            · intro a uq K hS hd hK
              have s98 := (waits_on hd 14 (by kernel_rfl)).at (d := 98) rfl rfl rfl
              rw [if_pos (want_free rfl)]
              go_simp
              exact hK _ _ (Below.refl _ _) (vok rfl) facts_nil
            · intro a uq K hS hd hK
              have s99 := (waits_on hd 15 (by kernel_rfl)).at (d := 99) rfl rfl rfl
              rw [if_pos (want_free rfl)]
              go_simp
              exact hK _ _ (Below.refl _ _) (vok rfl) facts_nil
          case hfin =>
            intro a uq hS hk
            have s84 := (hk 0 (by decide)).at (d := 84) rfl rfl rfl
            have s85 := (hk 1 (by decide)).at (d := 85) rfl rfl rfl
            have s86 := (hk 2 (by decide)).at (d := 86) rfl rfl rfl
            have s87 := (hk 3 (by decide)).at (d := 87) rfl rfl rfl
            have s88 := (hk 4 (by decide)).at (d := 88) rfl rfl rfl
            have s89 := (hk 5 (by decide)).at (d := 89) rfl rfl rfl
            have s90 := (hk 6 (by decide)).at (d := 90) rfl rfl rfl
            have s91 := (hk 7 (by decide)).at (d := 91) rfl rfl rfl
            have s92 := (hk 8 (by decide)).at (d := 92) rfl rfl rfl
            have s93 := (hk 9 (by decide)).at (d := 93) rfl rfl rfl
            have s94 := (hk 10 (by decide)).at (d := 94) rfl rfl rfl
            have s95 := (hk 11 (by decide)).at (d := 95) rfl rfl rfl
            have s96 := (hk 12 (by decide)).at (d := 96) rfl rfl rfl
            have s97 := (hk 13 (by decide)).at (d := 97) rfl rfl rfl
            have s98 := (hk 14 (by decide)).at (d := 98) rfl rfl rfl
            have s99 := (hk 15 (by decide)).at (d := 99) rfl rfl rfl
            have s100 := (hk 16 (by decide)).at (d := 100) rfl rfl rfl
            have hlit := hS.lit _ (by kernel_rfl) (lits_cons s84 (lits_cons s85 (lits_cons s86 (lits_cons s87 (lits_cons s88 (lits_cons s89 (lits_cons s90 (lits_cons s91 (lits_cons s92 (lits_cons s93 (lits_cons s94 (lits_cons s95 (lits_cons s96 (lits_cons s97 (lits_cons s98 (lits_cons s99 (lits_cons s100 lits_nil)))))))))))))))))
            rw [hlit]
            clear hlit hk hS s84 s85 s86 s87 s88 s89 s90 s91 s92 s93 s94 s95 s96 s97 s98 s99 s100
            simp only [litT, List.setIfInBounds_toArray, List.set_cons_succ, List.set_cons_zero]
            clear hx1 hx2 hm hr hP5 hP6 hr6 hr7 hP7 hr0 v0 v1 v2 v3 v4 v5 u0 u1 u2 u3 u4 u5 c0 d0 s1 s2 HI1 HI2 HM
            go_wp2_with fail
            refine ⟨⟨k + 1, by omega, by go_num, _, rfl⟩, ?_⟩
            simp [intOf]; omega
      · have e5 : decide ((5 : Int) ≤ (k : Int)) = true := by simp; omega
        have hm := HHm.out
        rw [if_neg h5, if_neg h5] at hm
        clear HHm h5 HA1 HB1
        generalize ((digN y.toNat P : Nat) : Int) = av at *
        generalize ((digN v.toNat P : Nat) : Int) = bv at *
        go_wp2_with fail
        apply wp_region_looseG g3 (V := [some _, some _, some _, some _, some _, some _, some _, some _, some _, some _, some _, some _, some _, some _]) (Fs := []) (Rel := fun _ w w' => Below w.heap.size w w')
        case hm => kernel_rfl
        case hB => kernel_rfl
        case hCw => exact hi3 _ (HB4.out _).drew
        case hC =>
          rintro i uq w' hr
          exact hi3 _ (below_to (HB4.out uq) (Nat.le_refl _) hr)
        case hst =>
          exact keeps_nil
        case hop =>
          refine ⟨?_, ?_, ?_, ?_, ?_, ?_, ?_, ?_, ?_, ?_, ?_, ?_, ?_, ?_, trivial⟩
          · intro a uq K hS hd hK
            have s6 := hS.at 6 (by kernel_rfl) rfl
            rw [if_pos (want_free rfl)]
            go_simp
            exact hK _ _ (Below.refl _ _) (vok rfl) facts_nil
          · intro a uq K hS hd hK
            have s58 := (waits_on hd 0 (by kernel_rfl)).at (d := 58) rfl rfl rfl
            rw [if_pos (want_free rfl)]
            go_simp
            exact hK _ _ (Below.refl _ _) (vok rfl) facts_nil
          · intro a uq K hS hd hK
            have s14 := hS.at 14 (by kernel_rfl) rfl
            rw [if_pos (want_free rfl)]
            go_simp
            exact hK _ _ (Below.refl _ _) (vok rfl) facts_nil
          · intro a uq K hS hd hK
            have s60 := (waits_on hd 2 (by kernel_rfl)).at (d := 60) rfl rfl rfl
            rw [if_pos (want_free rfl)]
            go_simp
            exact hK _ _ (Below.refl _ _) (vok rfl) facts_nil
          · intro a uq K hS hd hK
            have s61 := (waits_on hd 3 (by kernel_rfl)).at (d := 61) rfl rfl rfl
            rw [if_pos (want_free rfl)]
            go_simp
            exact hK _ _ (Below.refl _ _) (vok rfl) facts_nil
          · intro a uq K hS hd hK
            have s59 := (waits_on hd 1 (by kernel_rfl)).at (d := 59) rfl rfl rfl
            have s62 := (waits_on hd 4 (by kernel_rfl)).at (d := 62) rfl rfl rfl
            rw [if_pos (want_free rfl)]
            go_simp
            with_reducible refine (DX (g3 uq)).mono ?_
            rintro e w' ⟨rfl, hb⟩
            exact hK _ _ hb (vok rfl) facts_nil
          · intro a uq K hS hd hK
            have s7 := hS.at 7 (by kernel_rfl) rfl
            rw [if_pos (want_free rfl)]
            go_simp
            exact hK _ _ (Below.refl _ _) (vok rfl) facts_nil
          · intro a uq K hS hd hK
            have s64 := (waits_on hd 6 (by kernel_rfl)).at (d := 64) rfl rfl rfl
            rw [if_pos (want_free rfl)]
            go_simp
            exact hK _ _ (Below.refl _ _) (vok rfl) facts_nil
          · intro a uq K hS hd hK
            have s14 := hS.at 14 (by kernel_rfl) rfl
            rw [if_pos (want_free rfl)]
            go_simp
            exact hK _ _ (Below.refl _ _) (vok rfl) facts_nil
          · intro a uq K hS hd hK
            have s66 := (waits_on hd 8 (by kernel_rfl)).at (d := 66) rfl rfl rfl
            rw [if_pos (want_free rfl)]
            go_simp
            exact hK _ _ (Below.refl _ _) (vok rfl) facts_nil
          · intro a uq K hS hd hK
            have s67 := (waits_on hd 9 (by kernel_rfl)).at (d := 67) rfl rfl rfl
            rw [if_pos (want_free rfl)]
            go_simp
            exact hK _ _ (Below.refl _ _) (vok rfl) facts_nil
          · intro a uq K hS hd hK
            have s65 := (waits_on hd 7 (by kernel_rfl)).at (d := 65) rfl rfl rfl
            have s68 := (waits_on hd 10 (by kernel_rfl)).at (d := 68) rfl rfl rfl
            rw [if_pos (want_free rfl)]
            go_simp
            with_reducible refine (DU (g3 uq)).mono ?_
            rintro e w' ⟨rfl, hb⟩
            exact hK _ _ hb (vok rfl) facts_nil
          · intro a uq K hS hd hK
            have s63 := (waits_on hd 5 (by kernel_rfl)).at (d := 63) rfl rfl rfl
            rw [if_pos (want_free rfl)]
            go_simp
            exact hK _ _ (Below.refl _ _) (vok rfl) facts_nil
          · intro a uq K hS hd hK
            have s69 := (waits_on hd 11 (by kernel_rfl)).at (d := 69) rfl rfl rfl
            rw [if_pos (want_free rfl)]
            go_simp
            exact hK _ _ (Below.refl _ _) (vok rfl) facts_nil
        case hfin =>
          intro a uq hS hk
          have s58 := (hk 0 (by decide)).at (d := 58) rfl rfl rfl
          have s59 := (hk 1 (by decide)).at (d := 59) rfl rfl rfl
          have s60 := (hk 2 (by decide)).at (d := 60) rfl rfl rfl
          have s61 := (hk 3 (by decide)).at (d := 61) rfl rfl rfl
          have s62 := (hk 4 (by decide)).at (d := 62) rfl rfl rfl
          have s63 := (hk 5 (by decide)).at (d := 63) rfl rfl rfl
          have s64 := (hk 6 (by decide)).at (d := 64) rfl rfl rfl
          have s65 := (hk 7 (by decide)).at (d := 65) rfl rfl rfl
          have s66 := (hk 8 (by decide)).at (d := 66) rfl rfl rfl
          have s67 := (hk 9 (by decide)).at (d := 67) rfl rfl rfl
          have s68 := (hk 10 (by decide)).at (d := 68) rfl rfl rfl
          have s69 := (hk 11 (by decide)).at (d := 69) rfl rfl rfl
          have s15 := (hk 12 (by decide)).at (d := 15) rfl rfl rfl
          have s16 := (hk 13 (by decide)).at (d := 16) rfl rfl rfl
          have hlit := hS.lit _ (by kernel_rfl) (lits_cons s58 (lits_cons s59 (lits_cons s60 (lits_cons s61 (lits_cons s62 (lits_cons s63 (lits_cons s64 (lits_cons s65 (lits_cons s66 (lits_cons s67 (lits_cons s68 (lits_cons s69 (lits_cons s15 (lits_cons s16 lits_nil))))))))))))))
          rw [hlit]
          clear hlit hk hS s58 s59 s60 s61 s62 s63 s64 s65 s66 s67 s68 s69 s15 s16
          simp only [litT, List.setIfInBounds_toArray, List.set_cons_succ, List.set_cons_zero]
          clear DX DU
          go_wp2_with fail
          apply wp_region_looseG g3 (V := [some _, some _, some _, some _, some _, some _, some _, some _, some _, some _, some _, some _, some _, some _]) (Fs := []) (Rel := fun _ w w' => Below w.heap.size w w')
          case hm => kernel_rfl
          case hB => kernel_rfl
          case hCw => exact hi3 _ (HB4.out _).drew
          case hC =>
            rintro i uq w' hr
            exact hi3 _ (below_to (HB4.out uq) (Nat.le_refl _) hr)
          case hst =>
            exact keeps_nil
          case hop =>
            refine ⟨?_, ?_, ?_, ?_, ?_, ?_, ?_, ?_, ?_, ?_, ?_, ?_, ?_, ?_, trivial⟩
            · intro a uq K hS hd hK
              have s6 := hS.at 6 (by kernel_rfl) rfl
              rw [if_pos (want_free rfl)]
              go_simp
              exact hK _ _ (Below.refl _ _) (vok rfl) facts_nil
            · intro a uq K hS hd hK
              have s72 := (waits_on hd 0 (by kernel_rfl)).at (d := 72) rfl rfl rfl
              rw [if_pos (want_free rfl)]
              go_simp
              exact hK _ _ (Below.refl _ _) (vok rfl) facts_nil
            · intro a uq K hS hd hK
              have s14 := hS.at 14 (by kernel_rfl) rfl
              rw [if_pos (want_free rfl)]
              go_simp
              exact hK _ _ (Below.refl _ _) (vok rfl) facts_nil
            · intro a uq K hS hd hK
              have s74 := (waits_on hd 2 (by kernel_rfl)).at (d := 74) rfl rfl rfl
              rw [if_pos (want_free rfl)]
              go_simp
              exact hK _ _ (Below.refl _ _) (vok rfl) facts_nil
            · intro a uq K hS hd hK
              have s75 := (waits_on hd 3 (by kernel_rfl)).at (d := 75) rfl rfl rfl
              rw [if_pos (want_free rfl)]
              go_simp
              exact hK _ _ (Below.refl _ _) (vok rfl) facts_nil
            · intro a uq K hS hd hK
              have s73 := (waits_on hd 1 (by kernel_rfl)).at (d := 73) rfl rfl rfl
              have s76 := (waits_on hd 4 (by kernel_rfl)).at (d := 76) rfl rfl rfl
              rw [if_pos (want_free rfl)]
              go_simp
              with_reducible refine (DY (g3 uq)).mono ?_
              rintro e w' ⟨rfl, hb⟩
              exact hK _ _ hb (vok rfl) facts_nil
            · intro a uq K hS hd hK
              have s7 := hS.at 7 (by kernel_rfl) rfl
              rw [if_pos (want_free rfl)]
              go_simp
              exact hK _ _ (Below.refl _ _) (vok rfl) facts_nil
            · intro a uq K hS hd hK
              have s78 := (waits_on hd 6 (by kernel_rfl)).at (d := 78) rfl rfl rfl
              rw [if_pos (want_free rfl)]
              go_simp
              exact hK _ _ (Below.refl _ _) (vok rfl) facts_nil
            · intro a uq K hS hd hK
              have s14 := hS.at 14 (by kernel_rfl) rfl
              rw [if_pos (want_free rfl)]
              go_simp
              exact hK _ _ (Below.refl _ _) (vok rfl) facts_nil
            · intro a uq K hS hd hK
              have s80 := (waits_on hd 8 (by kernel_rfl)).at (d := 80) rfl rfl rfl
              rw [if_pos (want_free rfl)]
              go_simp
              exact hK _ _ (Below.refl _ _) (vok rfl) facts_nil
            · intro a uq K hS hd hK
              have s81 := (waits_on hd 9 (by kernel_rfl)).at (d := 81) rfl rfl rfl
              rw [if_pos (want_free rfl)]
              go_simp
              exact hK _ _ (Below.refl _ _) (vok rfl) facts_nil
            · intro a uq K hS hd hK
              have s79 := (waits_on hd 7 (by kernel_rfl)).at (d := 79) rfl rfl rfl
              have s82 := (waits_on hd 10 (by kernel_rfl)).at (d := 82) rfl rfl rfl
              rw [if_pos (want_free rfl)]
              go_simp
              with_reducible refine (DV (g3 uq)).mono ?_
              rintro e w' ⟨rfl, hb⟩
              exact hK _ _ hb (vok rfl) facts_nil
            · intro a uq K hS hd hK
              have s77 := (waits_on hd 5 (by kernel_rfl)).at (d := 77) rfl rfl rfl
              rw [if_pos (want_free rfl)]
              go_simp
              exact hK _ _ (Below.refl _ _) (vok rfl) facts_nil
            · intro a uq K hS hd hK
              have s83 := (waits_on hd 11 (by kernel_rfl)).at (d := 83) rfl rfl rfl
              rw [if_pos (want_free rfl)]
              go_simp
              exact hK _ _ (Below.refl _ _) (vok rfl) facts_nil
          case hfin =>
            intro a uq hS hk
            have s72 := (hk 0 (by decide)).at (d := 72) rfl rfl rfl
            have s73 := (hk 1 (by decide)).at (d := 73) rfl rfl rfl
            have s74 := (hk 2 (by decide)).at (d := 74) rfl rfl rfl
            have s75 := (hk 3 (by decide)).at (d := 75) rfl rfl rfl
            have s76 := (hk 4 (by decide)).at (d := 76) rfl rfl rfl
            have s77 := (hk 5 (by decide)).at (d := 77) rfl rfl rfl
            have s78 := (hk 6 (by decide)).at (d := 78) rfl rfl rfl
            have s79 := (hk 7 (by decide)).at (d := 79) rfl rfl rfl
            have s80 := (hk 8 (by decide)).at (d := 80) rfl rfl rfl
            have s81 := (hk 9 (by decide)).at (d := 81) rfl rfl rfl
            have s82 := (hk 10 (by decide)).at (d := 82) rfl rfl rfl
            have s83 := (hk 11 (by decide)).at (d := 83) rfl rfl rfl
            have s15 := (hk 12 (by decide)).at (d := 15) rfl rfl rfl
            have s16 := (hk 13 (by decide)).at (d := 16) rfl rfl rfl
            have hlit := hS.lit _ (by kernel_rfl) (lits_cons s72 (lits_cons s73 (lits_cons s74 (lits_cons s75 (lits_cons s76 (lits_cons s77 (lits_cons s78 (lits_cons s79 (lits_cons s80 (lits_cons s81 (lits_cons s82 (lits_cons s83 (lits_cons s15 (lits_cons s16 lits_nil))))))))))))))
            rw [hlit]
            clear hlit hk hS s72 s73 s74 s75 s76 s77 s78 s79 s80 s81 s82 s83 s15 s16
            simp only [litT, List.setIfInBounds_toArray, List.set_cons_succ, List.set_cons_zero]
            clear DY DV p0 p1 q0 q1
            go_wp2_with fail
            generalize (c.toNat : Int) = cv at *
            generalize (d.toNat : Int) = dv at *
            have v0 := w64 (x := 16 + (k : Int)) (by omega) (by omega)
            have u0 : wrap64 (16 + (k : Int)) = 16 + (k : Int) := by unfold wrap64; omega
            have v1 := w64 (x := cv) (by omega) (by omega)
            have u1 : wrap64 (cv) = cv := by unfold wrap64; omega
            have v2 := w64 (x := dv) (by omega) (by omega)
            have u2 : wrap64 (dv) = dv := by unfold wrap64; omega
            have v3 := w64 (x := cv - dv) (by omega) (by omega)
            have u3 : wrap64 (cv - dv) = cv - dv := by unfold wrap64; omega
            have v4 := w64 (x := cv - dv - av) (by omega) (by omega)
            have u4 : wrap64 (cv - dv - av) = cv - dv - av := by unfold wrap64; omega
            have v5 := w64 (x := cv - dv - av + bv) (by omega) (by omega)
            have u5 : wrap64 (cv - dv - av + bv) = cv - dv - av + bv := by unfold wrap64; omega
            apply wp_region_looseG g3 (V := [some _, some _, some _, some _, some _, some _, some _, some _, some _, some _, some _, some _, some _, some _, some _, some _, some _]) (Fs := []) (Rel := fun _ w w' => Below w.heap.size w w')
            case hm => kernel_rfl
            case hB => kernel_rfl
            case hCw => exact hi3 _ (HB4.out _).drew
            case hC =>
              rintro i uq w' hr
              exact hi3 _ (below_to (HB4.out uq) (Nat.le_refl _) hr)
            case hst =>
              exact keeps_nil
            case hop =>
              refine ⟨?_, ?_, ?_, ?_, ?_, ?_, ?_, ?_, ?_, ?_, ?_, ?_, ?_, ?_, ?_, ?_, ?_, trivial⟩
              · intro a uq K hS hd hK
                have s10 := hS.at 10 (by kernel_rfl) rfl
                rw [if_pos (want_free rfl)]
                go_simp
                exact hK _ _ (Below.refl _ _) (vok rfl) facts_nil
              · intro a uq K hS hd hK
                have s14 := hS.at 14 (by kernel_rfl) rfl
                rw [if_pos (want_free rfl)]
                go_simp
                exact hK _ _ (Below.refl _ _) (vok rfl) facts_nil
              · intro a uq K hS hd hK
                have s85 := (waits_on hd 1 (by kernel_rfl)).at (d := 85) rfl rfl rfl
                rw [if_pos (want_free rfl)]
                go_simp
                exact hK _ _ (Below.refl _ _) (vok rfl) facts_nil
              · intro a uq K hS hd hK
                have s84 := (waits_on hd 0 (by kernel_rfl)).at (d := 84) rfl rfl rfl
                have s86 := (waits_on hd 2 (by kernel_rfl)).at (d := 86) rfl rfl rfl
                rw [if_pos (want_free rfl)]
                go_simp
                exact hK _ _ (Below.refl _ _) (vok rfl) facts_nil
              · intro a uq K hS hd hK
                have s87 := (waits_on hd 3 (by kernel_rfl)).at (d := 87) rfl rfl rfl
                rw [if_pos (want_free rfl)]
                go_simp
                exact hK _ _ (Below.refl _ _) (vok rfl) facts_nil
              · intro a uq K hS hd hK
                have s12 := hS.at 12 (by kernel_rfl) rfl
                rw [if_pos (want_free rfl)]
                go_simp
                exact hK _ _ (Below.refl _ _) (vok rfl) facts_nil
              · intro a uq K hS hd hK
                have s14 := hS.at 14 (by kernel_rfl) rfl
                rw [if_pos (want_free rfl)]
                go_simp
                exact hK _ _ (Below.refl _ _) (vok rfl) facts_nil
              · intro a uq K hS hd hK
                have s90 := (waits_on hd 6 (by kernel_rfl)).at (d := 90) rfl rfl rfl
                rw [if_pos (want_free rfl)]
                go_simp
                exact hK _ _ (Below.refl _ _) (vok rfl) facts_nil
              · intro a uq K hS hd hK
                have s89 := (waits_on hd 5 (by kernel_rfl)).at (d := 89) rfl rfl rfl
                have s91 := (waits_on hd 7 (by kernel_rfl)).at (d := 91) rfl rfl rfl
                rw [if_pos (want_free rfl)]
                go_simp
                exact hK _ _ (Below.refl _ _) (vok rfl) facts_nil
              · intro a uq K hS hd hK
                have s92 := (waits_on hd 8 (by kernel_rfl)).at (d := 92) rfl rfl rfl
                rw [if_pos (want_free rfl)]
                go_simp
                exact hK _ _ (Below.refl _ _) (vok rfl) facts_nil
              · intro a uq K hS hd hK
                have s88 := (waits_on hd 4 (by kernel_rfl)).at (d := 88) rfl rfl rfl
                have s93 := (waits_on hd 9 (by kernel_rfl)).at (d := 93) rfl rfl rfl
                rw [if_pos (want_free rfl)]
                go_simp
                exact hK _ _ (Below.refl _ _) (vok rfl) facts_nil
              · intro a uq K hS hd hK
                have s15 := hS.at 15 (by kernel_rfl) rfl
                rw [if_pos (want_free rfl)]
                go_simp
                exact hK _ _ (Below.refl _ _) (vok rfl) facts_nil
              · intro a uq K hS hd hK
                have s94 := (waits_on hd 10 (by kernel_rfl)).at (d := 94) rfl rfl rfl
                have s95 := (waits_on hd 11 (by kernel_rfl)).at (d := 95) rfl rfl rfl
                rw [if_pos (want_free rfl)]
                go_simp
                exact hK _ _ (Below.refl _ _) (vok rfl) facts_nil
              · intro a uq K hS hd hK
                have s16 := hS.at 16 (by kernel_rfl) rfl
                rw [if_pos (want_free rfl)]
                go_simp
                exact hK _ _ (Below.refl _ _) (vok rfl) facts_nil
              · intro a uq K hS hd hK
                have s96 := (waits_on hd 12 (by kernel_rfl)).at (d := 96) rfl rfl rfl
                have s97 := (waits_on hd 13 (by kernel_rfl)).at (d := 97) rfl rfl rfl
                rw [if_pos (want_free rfl)]
                go_simp
                exact hK _ _ (Below.refl _ _) (vok rfl) facts_nil
              · intro a uq K hS hd hK
                have s98 := (waits_on hd 14 (by kernel_rfl)).at (d := 98) rfl rfl rfl
                rw [if_pos (want_free rfl)]
                go_simp
                exact hK _ _ (Below.refl _ _) (vok rfl) facts_nil
              · intro a uq K hS hd hK
                have s99 := (waits_on hd 15 (by kernel_rfl)).at (d := 99) rfl rfl rfl
                rw [if_pos (want_free rfl)]
                go_simp
                exact hK _ _ (Below.refl _ _) (vok rfl) facts_nil
            case hfin =>
              intro a uq hS hk
              have s84 := (hk 0 (by decide)).at (d := 84) rfl rfl rfl
              have s85 := (hk 1 (by decide)).at (d := 85) rfl rfl rfl
              have s86 := (hk 2 (by decide)).at (d := 86) rfl rfl rfl
              have s87 := (hk 3 (by decide)).at (d := 87) rfl rfl rfl
              have s88 := (hk 4 (by decide)).at (d := 88) rfl rfl rfl
              have s89 := (hk 5 (by decide)).at (d := 89) rfl rfl rfl
              have s90 := (hk 6 (by decide)).at (d := 90) rfl rfl rfl
              have s91 := (hk 7 (by decide)).at (d := 91) rfl rfl rfl
              have s92 := (hk 8 (by decide)).at (d := 92) rfl rfl rfl
              have s93 := (hk 9 (by decide)).at (d := 93) rfl rfl rfl
              have s94 := (hk 10 (by decide)).at (d := 94) rfl rfl rfl
              have s95 := (hk 11 (by decide)).at (d := 95) rfl rfl rfl
              have s96 := (hk 12 (by decide)).at (d := 96) rfl rfl rfl
              have s97 := (hk 13 (by decide)).at (d := 97) rfl rfl rfl
              have s98 := (hk 14 (by decide)).at (d := 98) rfl rfl rfl
              have s99 := (hk 15 (by decide)).at (d := 99) rfl rfl rfl
              have s100 := (hk 16 (by decide)).at (d := 100) rfl rfl rfl
              have hlit := hS.lit _ (by kernel_rfl) (lits_cons s84 (lits_cons s85 (lits_cons s86 (lits_cons s87 (lits_cons s88 (lits_cons s89 (lits_cons s90 (lits_cons s91 (lits_cons s92 (lits_cons s93 (lits_cons s94 (lits_cons s95 (lits_cons s96 (lits_cons s97 (lits_cons s98 (lits_cons s99 (lits_cons s100 lits_nil)))))))))))))))))
              rw [hlit]
              clear hlit hk hS s84 s85 s86 s87 s88 s89 s90 s91 s92 s93 s94 s95 s96 s97 s98 s99 s100
              simp only [litT, List.setIfInBounds_toArray, List.set_cons_succ, List.set_cons_zero]
              clear hx1 hx2 hm hr hP5 hP6 hr6 hr7 hP7 hr0 v0 v1 v2 v3 v4 v5 u0 u1 u2 u3 u4 u5 c0 d0 s1 s2 HI1 HI2 HM
              go_wp2_with fail
              refine ⟨⟨k + 1, by omega, by go_num, _, rfl⟩, ?_⟩
              simp [intOf]; omega
    · obtain rfl : k = 10 := by omega
      have e1 : decide (((10 : Nat) : Int) < 10) = false := by decide
      go_wp2_with fail
      go_ret
      exact ⟨ret_bool rfl, below_to HB3.out (Nat.le_refl _) (HB4.out _)⟩
end Go.Proofs.YtdgbnplieaaokaaDoor
