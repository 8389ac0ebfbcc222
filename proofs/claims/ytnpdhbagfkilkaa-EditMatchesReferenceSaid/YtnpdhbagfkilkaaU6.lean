/- The reference of layer 18: Best. -/
import Derived.Test.YtnpdhbagfkilkaaUU
import Derived.Test.YtnpdhbagfkilkaaW11
import Derived.Test.YtnpdhbagfkilkaaCl2
import Derived.BigQuiet
import Derived.Deep.DeepCutAuto
set_option linter.unusedVariables false
set_option linter.unusedSimpArgs false
namespace Go.Proofs.Ytnpdhbagfkilkaa
open Go.RowKit

theorem goodK0 {W : Wt} {x y : List UInt8} {i j : Nat} : Wt.goodK W x y i j 0 = false := good_neg (sc := -1) (sa := 0) (sb := 0) rfl (by decide)
set_option maxRecDepth 100000 in
set_option maxHeartbeats 8000000 in
theorem rbest_any (W : Wt) (A : Option Addr) (n c X : Nat) (x y : ByteArray) (w : World) (hN : Near w X A n W.near) (hX0 : X ≤ w.heap.size) (hn : n ≤ 140737488355328) (hx : x.size ≤ maxLen) (hy : y.size ≤ maxLen) :
    Calls Try.prog 15 #[wval W A n c, .string x, .string y] w fun e w' => ∃ v, e = .returned (.tuple #[v, .int .i64 (dist W x.data.toList y.data.toList), .int .i64 (errn (ok3 W x.data.toList y.data.toList))]) ∧ IntsV w' v (bestL W x.data.toList y.data.toList) ∧ Below w.heap.size w w' := by
  have HN := hide hN
  have HB := hide (Box.start w W A n c)
  clear hN
  go_enter Try.func15, Try.ntmps15
  unfold wval
  go_upto_region 1 with fail
  generalize w.alloc (.cells #[.int .i64 W.ins, .int .i64 W.del, .int .i64 W.chg, .int .i64 W.swp, .slice A n c] 24) = w1 at *
  obtain ⟨U, hU, g, u0, rfl, hgu, hgi⟩ := cls w1
  have xs_0 := fun u => (((HB.out.blk.to (hgu u)).cell 0).trans (show _ = some (Value.int IntKind.i64 W.ins) from rfl))
  have xs_1 := fun u => (((HB.out.blk.to (hgu u)).cell 1).trans (show _ = some (Value.int IntKind.i64 W.del) from rfl))
  have xs_2 := fun u => (((HB.out.blk.to (hgu u)).cell 2).trans (show _ = some (Value.int IntKind.i64 W.chg) from rfl))
  have xs_3 := fun u => (((HB.out.blk.to (hgu u)).cell 3).trans (show _ = some (Value.int IntKind.i64 W.swp) from rfl))
  have xs_4 := fun u => (((HB.out.blk.to (hgu u)).cell 4).trans (show _ = some (Value.slice A n c) from rfl))
  have CV : ∀ u, Calls Try.prog 21 #[.agg #[.int .i64 W.ins, .int .i64 W.del, .int .i64 W.chg, .int .i64 W.swp, .slice A n c]] (g u) fun e w' => e = .returned (.bool W.valid) ∧ ∃ u', w' = g u' := fun u => cls_call hgu hgi (fun Wd hb => rvalid8_any W A n c X Wd (HN.out.below (below_to HB.out.bel (Nat.le_refl _) hb) hX0) (by have := (below_to HB.out.bel (Nat.le_refl _) hb).size; omega) hn) u
  have CX : ∀ u, Calls Try.prog 29 #[.string x] (g u) fun e w' => e = .returned (.bool (okText x.data.toList)) ∧ ∃ u', w' = g u' := fun u => cls_call hgu hgi (fun Wd hb => (refText_any x Wd hx).mono (fun e w' h => ⟨h.1, h.2 ▸ Below.refl _ _⟩)) u
  have CY : ∀ u, Calls Try.prog 29 #[.string y] (g u) fun e w' => e = .returned (.bool (okText y.data.toList)) ∧ ∃ u', w' = g u' := fun u => cls_call hgu hgi (fun Wd hb => (refText_any y Wd hy).mono (fun e w' h => ⟨h.1, h.2 ▸ Below.refl _ _⟩)) u
  cases hv : W.valid with
  | false =>
    rw [hv] at CV
    have HF := hide (ok3_n1 (W := W) (x := x.data.toList) (y := y.data.toList) hv)
    clear hv
    go_wp2_with (first | ((with_reducible refine (CV _).mono ?_); rintro e w' ⟨rfl, u, rfl⟩) | ((with_reducible refine (CX _).mono ?_); rintro e w' ⟨rfl, u, rfl⟩) | ((with_reducible refine (CY _).mono ?_); rintro e w' ⟨rfl, u, rfl⟩))
    go_ret3
    exact ⟨_, ret_three (best_f HF.out).2.1.symm (best_f HF.out).2.2.symm, by rw [(best_f HF.out).1]; exact IntsV.nil _, below_to HB.out.bel (Nat.le_refl _) (hgu _)⟩
  | true =>
    rw [hv] at CV
    cases hxt : okText x.data.toList with
    | false =>
      rw [hxt] at CX
      have HF := hide (ok3_n2 (W := W) (x := x.data.toList) (y := y.data.toList) hxt)
      clear hxt hv
      go_wp2_with (first | ((with_reducible refine (CV _).mono ?_); rintro e w' ⟨rfl, u, rfl⟩) | ((with_reducible refine (CX _).mono ?_); rintro e w' ⟨rfl, u, rfl⟩) | ((with_reducible refine (CY _).mono ?_); rintro e w' ⟨rfl, u, rfl⟩))
      go_ret3
      exact ⟨_, ret_three (best_f HF.out).2.1.symm (best_f HF.out).2.2.symm, by rw [(best_f HF.out).1]; exact IntsV.nil _, below_to HB.out.bel (Nat.le_refl _) (hgu _)⟩
    | true =>
      rw [hxt] at CX
      cases hyt : okText y.data.toList with
      | false =>
        rw [hyt] at CY
        have HF := hide (ok3_n3 (W := W) (x := x.data.toList) (y := y.data.toList) hyt)
        clear hyt hv hxt
        go_wp2_with (first | ((with_reducible refine (CV _).mono ?_); rintro e w' ⟨rfl, u, rfl⟩) | ((with_reducible refine (CX _).mono ?_); rintro e w' ⟨rfl, u, rfl⟩) | ((with_reducible refine (CY _).mono ?_); rintro e w' ⟨rfl, u, rfl⟩))
        go_ret3
        exact ⟨_, ret_three (best_f HF.out).2.1.symm (best_f HF.out).2.2.symm, by rw [(best_f HF.out).1]; exact IntsV.nil _, below_to HB.out.bel (Nat.le_refl _) (hgu _)⟩
      | true =>
        rw [hyt] at CY
        have HF := hide (ok3_yes hv hxt hyt)
        have HV := hide hv
        have hx120 : x.size ≤ 120 := by simpa using okText_len hxt
        have hy120 : y.size ≤ 120 := by simpa using okText_len hyt
        have HX := hide (okText_len hxt)
        have HY := hide (okText_len hyt)
        have HD := hide (Wt.isDist hv (okText_len hxt) (okText_len hyt))
        clear hv hxt hyt
        go_wp2_with (first | ((with_reducible refine (CV _).mono ?_); rintro e w' ⟨rfl, u, rfl⟩) | ((with_reducible refine (CX _).mono ?_); rintro e w' ⟨rfl, u, rfl⟩) | ((with_reducible refine (CY _).mono ?_); rintro e w' ⟨rfl, u, rfl⟩))
        have HBg := hide (below_to HB.out.bel (Nat.le_refl _) (hgu u))
        have HNg := hide (HN.out.below HBg.out hX0)
        have HXg : Hid (X ≤ (g u).heap.size) := by have := HBg.out.size; show _ ≤ _; omega
        have HBx := hide (HB.out.next (hgu u))
        clear CV CX CY xs_0 xs_1 xs_2 xs_3 xs_4 HB
        generalize g u = w3 at *
        clear hgu hgi
        refine (rtable_any W HV.out A n c X x y w3 HNg.out HXg.out hn hx120 hy120 _ HD.out).mono ?_
        rintro e w5 ⟨rfl, hF⟩
        have HDS := hide (dist_yes HF.out)
        have HL : Hid (bestL W x.data.toList y.data.toList = Wt.G W x.data.toList y.data.toList 0 0) := by show _ = _; unfold bestL; rw [HF.out]; rfl
        obtain ⟨i0, hi0, hz0, hz1, hz2⟩ := info_parts info_int
        have HFT := hide hF
        have HBT := hide (HBg.out.trans (hF.box.bel.mono HBg.out.size))
        have HBw := hide (HBx.out.next hF.box.bel)
        have HN5 := hide (HNg.out.below hF.box.bel HXg.out)
        have HX5 : Hid (X ≤ w5.heap.size) := by have := hF.box.bel.size; have := HXg.out; show _ ≤ _; omega
        clear hF HBx
        go_wp2_with fail
        go_loopw [10, 11, 12] (fun t10 t11 t12 wr => BsR wr w5 W x y t10 t11 t12) (fun _ t11 t12 _ => (x.size + y.size) - ((intOf t11).toNat + (intOf t12).toNat))
        case atStart => exact ⟨0, 0, [], rfl, rfl, by omega, by omega, by simp, rfl, ⟨by simp, .inl ⟨rfl, rfl⟩⟩, Below.refl _ _⟩
        case round =>
          obtain ⟨v, rfl⟩ : ∃ v : Value, v = u10 := ⟨_, rfl⟩
          obtain ⟨i, j, l, rfl, rfl, hrel⟩ := hrel
          have hi := hrel.hi
          have hj := hrel.hj
          have HR := hide hrel
          clear hrel
          go_upto_region 7 with fail
          go_cut [44] (fun z wx => ∃ b : Bool, z = .bool b ∧ (b = true → i < x.size ∨ j < y.size) ∧ (b = false → i = x.size ∧ j = y.size) ∧ BsRel wx w5 W x y v i j l)
          case first =>
            by_cases hix : i < x.size
            · have g1 : decide ((i : Int) < (x.size : Int)) = true := decide_eq_true (by omega)
              have g1' : decide (i < x.size) = true := decide_eq_true hix
              have H1 := hide hix
              clear hix
              go_wp2_with fail
              go_meet
              exact ⟨true, rfl, fun _ => .inl H1.out, fun h => (by cases h), HR.out⟩
            · have g1 : decide ((i : Int) < (x.size : Int)) = false := decide_eq_false (by omega)
              have g1' : decide (i < x.size) = false := decide_eq_false hix
              by_cases hjy : j < y.size
              · have g2 : decide ((j : Int) < (y.size : Int)) = true := decide_eq_true (by omega)
                have g2' : decide (j < y.size) = true := decide_eq_true hjy
                have H1 := hide hjy
                clear hix hjy
                go_wp2_with fail
                go_meet
                exact ⟨true, rfl, fun _ => .inr H1.out, fun h => (by cases h), HR.out⟩
              · have g2 : decide ((j : Int) < (y.size : Int)) = false := decide_eq_false (by omega)
                have g2' : decide (j < y.size) = false := decide_eq_false hjy
                have H1 : Hid (i = x.size ∧ j = y.size) := ⟨by omega, by omega⟩
                clear hix hjy
                go_wp2_with fail
                go_meet
                exact ⟨false, rfl, fun h => (by cases h), fun _ => H1.out, HR.out⟩
          case rest =>
            obtain ⟨b, rfl, hb1, hb2, hrel⟩ := hcut
            have HRc := hide hrel
            clear hrel HR
            generalize wc = w6 at *
            cases b with
            | false =>
              have H1 := hide (hb2 rfl)
              clear hb1 hb2
              have hG := HRc.out.path
              rw [Wt.G_end (by have := H1.out; simp; omega), List.append_nil] at hG
              have hO := HRc.out.own
              have HIV : Hid (IntsV w6 v (bestL W x.data.toList y.data.toList)) := by
                rw [HL.out, ← hG]
                exact IntsV.of_own hO
              obtain ⟨bR, q1, q2⟩ := (HFT.out.to HRc.out.bel).cells (i := 0) (j := 0) (Nat.zero_le _) (Nat.zero_le _) (Nat.zero_le _) (.inl (Nat.zero_le _))
              have HBE := hide (HBT.out.trans (HRc.out.bel.mono HBT.out.size))
              have HDV := hide HDS.out.1
              generalize W.D x.data.toList y.data.toList 0 0 = dv at *
              have s1 : (0 : Int) < (x.size : Int) + 1 := by omega
              have s2 : (0 : Int) < (y.size : Int) + 1 := by omega
              clear hG hO HRc H1
              go_wp2_with fail
              go_quiet (fail)
              go_wp2_with fail
              go_ret3
              exact ⟨_, ret_three HDV.out.symm HDS.out.2.symm, HIV.out, below_drewN HBE.out _⟩
            | true =>
              have hne : i < x.data.toList.length ∨ j < y.data.toList.length := by have := hb1 rfl; simpa using this
              have FK := hide (Wt.firstK_spec HV.out HX.out HY.out (show i ≤ x.data.toList.length by simpa using hi) (show j ≤ y.data.toList.length by simpa using hj) hne)
              have GR := hide (Wt.G_rec HV.out HX.out HY.out (show i ≤ x.data.toList.length by simpa using hi) (show j ≤ y.data.toList.length by simpa using hj) hne)
              generalize Wt.firstK W x.data.toList y.data.toList i j = K at FK GR
              clear hne hb1 hb2
              have H0 : Hid (∀ q, q < 1 → Wt.goodK W x.data.toList y.data.toList i j q = false) := fun q hq => by
                obtain rfl : q = 0 := by omega
                exact goodK0
              go_wp2_with fail
              go_loopw [10, 11, 12, 13] (fun t10 t11 t12 t13 wr => ∃ k : Nat, (1 ≤ k ∧ k ≤ 6) ∧ t13 = .int .i64 (k : Int) ∧ t10 = v ∧ t11 = .int .i64 (i : Int) ∧ t12 = .int .i64 (j : Int) ∧ (∀ q, q < k → Wt.goodK W x.data.toList y.data.toList i j q = false) ∧ BsRel wr w5 W x y v i j l) (fun _ _ _ t13 _ => 6 - (intOf t13).toNat)
              case atStart => exact ⟨1, by omega, rfl, rfl, rfl, rfl, H0.out, HRc.out⟩
              case round =>
                obtain ⟨k, hk, rfl, rfl, rfl, rfl, hmin, hrel⟩ := hrel
                clear HRc
                have hkK : k ≤ K := by
                  rcases Nat.lt_or_ge K k with h | h
                  · have h1 := hmin K h
                    rw [FK.out.2.2.1] at h1
                    cases h1
                  · exact h
                have hk6 : k < 6 := by have := FK.out.1; omega
                have HRk := hide hrel
                have Hmin := hide hmin
                obtain ⟨d0, d1, d2, d3, d4⟩ := (HBw.out.next hrel.bel).facts
                clear hmin hrel
                have t1 : decide ((k : Int) ≤ (5 : Int)) = true := decide_eq_true (by omega)
                obtain ⟨⟨sc, sa, sb⟩, hs⟩ : ∃ s, Wt.stp W x.data.toList y.data.toList i j k = s := ⟨_, rfl⟩
                have HSR := hide (stepR_k (W := W) (x := x.data.toList) (y := y.data.toList) (i := i) (j := j) hk.1 (by omega) hs)
                have CS := rstep_any W HV.out A n c X x y i j (k : Int) wr (HN5.out.below HRk.out.bel HX5.out) (by have := HRk.out.bel.size; have := HX5.out; omega) hn hi hj hx120 hy120
                by_cases hneg : sc < 0
                · have HV2 : Hid (stepR W x.data.toList y.data.toList i j (k : Int) = (0, 0, 0, false)) := by show _ = _; rw [HSR.out, if_pos hneg]
                  rw [HV2.out] at CS
                  have HG := hide (good_neg hs hneg)
                  have HM2 : Hid (∀ q, q < k + 1 → Wt.goodK W x.data.toList y.data.toList i j q = false) := fun q hq => by
                    rcases Nat.lt_or_ge q k with h | h
                    · exact Hmin.out q h
                    · obtain rfl : q = k := by omega
                      exact HG.out
                  unfold stepV at CS
                  clear hs hneg
                  go_wp2_with fail
                  refine CS.mono ?_
                  rintro e w7 ⟨rfl, hb⟩
                  have HR7 := hide (HRk.out.below hb)
                  clear hb CS HRk d0 d1 d2 d3 d4
                  go_wp2_with fail
                  go_quiet (fail)
                  have HR8 := hide (HR7.out.below (below_drewN (Below.refl _ _) nq))
                  go_wp2_with fail
                  go_roundw
                  case rel => exact ⟨k + 1, by omega, by go_num, rfl, rfl, rfl, HM2.out, HR8.out⟩
                  case measure => simp [intOf] <;> omega
                · have hfit := Wt.stp_fits HV.out (show i ≤ x.data.toList.length by simpa using hi) (show j ≤ y.data.toList.length by simpa using hj) hk6
                  rw [hs] at hfit
                  have hf : sc ≤ 1000 ∧ 0 ≤ sa ∧ 0 ≤ sb ∧ 0 < sa + sb ∧ i + sa ≤ x.size ∧ j + sb ≤ y.size := by
                    have := hfit.resolve_left hneg
                    simpa using this
                  clear hfit
                  obtain ⟨f1, f2, f3, f4, f5, f6⟩ := hf
                  obtain ⟨na, rfl⟩ := Int.eq_ofNat_of_zero_le f2
                  obtain ⟨nb, rfl⟩ := Int.eq_ofNat_of_zero_le f3
                  have hi2 : i + na ≤ x.size := by omega
                  have hj2 : j + nb ≤ y.size := by omega
                  have HV2 : Hid (stepR W x.data.toList y.data.toList i j (k : Int) = (sc, (na : Int), (nb : Int), true)) := by show _ = _; rw [HSR.out, if_neg hneg]
                  rw [HV2.out] at CS
                  unfold stepV at CS
                  have b1 := HD.out.lo (i + na) (j + nb)
                  have b2 := HD.out.hi (i + na) (j + nb) (by simpa using hi2) (by simpa using hj2)
                  obtain ⟨dv, hdv⟩ : ∃ dv, Wt.D W x.data.toList y.data.toList (i + na) (j + nb) = dv := ⟨_, rfl⟩
                  obtain ⟨dij, hdij⟩ : ∃ dij, Wt.D W x.data.toList y.data.toList i j = dij := ⟨_, rfl⟩
                  have HG := hide (good_iff hs hdv hdij)
                  have HS := hide hs
                  have HDVV := hide hdv
                  have HDIJ := hide hdij
                  rw [hdv] at b1 b2
                  have hsc : 0 ≤ sc := by omega
                  clear hs hdv hdij hneg
                  go_wp2_with fail
                  refine CS.mono ?_
                  rintro e w7 ⟨rfl, hb⟩
                  have HR7 := hide (HRk.out.below hb)
                  obtain ⟨bP, p1, p2⟩ := (HFT.out.to HR7.out.bel).cells (i := i + na) (j := j + nb) (Nat.zero_le _) hi2 hj2 (.inl (Nat.zero_le _))
                  obtain ⟨bQ, q1, q2⟩ := (HFT.out.to HR7.out.bel).cells (i := i) (j := j) (Nat.zero_le _) hi hj (.inl (Nat.zero_le _))
                  rw [HDVV.out] at p2
                  rw [HDIJ.out] at q2
                  clear hb CS HRk d0 d1 d2 d3 d4
                  obtain ⟨iz, hiz⟩ : ∃ z, i + na = z := ⟨_, rfl⟩
                  obtain ⟨jz, hjz⟩ : ∃ z, j + nb = z := ⟨_, rfl⟩
                  have ei : (i : Int) + (na : Int) = (iz : Int) := by omega
                  have ej : (j : Int) + (nb : Int) = (jz : Int) := by omega
                  rw [hiz] at p1
                  rw [hjz] at p2
                  have HIZ := hide hiz
                  have HJZ := hide hjz
                  have hizl : iz ≤ x.size := by omega
                  have hjzl : jz ≤ y.size := by omega
                  clear hiz hjz
                  have s1 : (0 : Int) ≤ (iz : Int) := by omega
                  have s2 : (iz : Int) < (x.size : Int) + 1 := by omega
                  have s3 : (0 : Int) ≤ (jz : Int) := by omega
                  have s4 : (jz : Int) < (y.size : Int) + 1 := by omega
                  have s5 : (0 : Int) ≤ (i : Int) := by omega
                  have s6 : (i : Int) < (x.size : Int) + 1 := by omega
                  have s7 : (0 : Int) ≤ (j : Int) := by omega
                  have s8 : (j : Int) < (y.size : Int) + 1 := by omega
                  have s9 : IntKind.i64.wrap (sc + dv) = sc + dv := IntWalk.i64_in _ (by omega)
                  have s10 : IntKind.i64.wrap ((i : Int) + (na : Int)) = (iz : Int) := by rw [ei]; exact IntWalk.i64_in _ (by omega)
                  have s11 : IntKind.i64.wrap ((j : Int) + (nb : Int)) = (jz : Int) := by rw [ej]; exact IntWalk.i64_in _ (by omega)
                  by_cases heq : sc + dv = dij
                  · have hbq : ((sc + dv) == dij) = true := by simp [heq]
                    have hgood : Wt.goodK W x.data.toList y.data.toList i j k = true := by rw [HG.out]; simp [hsc, heq]
                    obtain rfl : k = K := by
                      rcases Nat.lt_or_ge k K with h | h
                      · have h1 := FK.out.2.2.2 k h
                        rw [hgood] at h1; cases h1
                      · omega
                    have HGR : Hid (Wt.G W x.data.toList y.data.toList i j = (k : Int) :: Wt.G W x.data.toList y.data.toList (i + na) (j + nb)) := by
                      show _ = _
                      have h := GR.out
                      rw [HS.out] at h
                      simpa using h
                    clear hgood heq HG
                    go_wp2_with fail
                    go_quiet (fail)
                    have HR8 := hide (HR7.out.below (below_drewN (Below.refl _ _) nq))
                    clear s1 s2 s3 s4 s5 s6 s7 s8 s9 s10 s11 hbq p1 p2 q1 q2 HR7
                    generalize w7.drewN nq = w8 at *
                    have HLN : Hid (l.length ≤ 1000) := by have := HR8.out.len; show _ ≤ _; omega
                    have HSZ : Hid (w5.heap.size ≤ w8.heap.size) := HR8.out.bel.size
                    go_wp2_with (at_builtin; refine wpList_append_own _ rfl (.tmp 85) (.tmp 87) _ rfl w5.heap.size 3 i0 (.int .i64 0) 1 8 Try.underlying25 hi0 hz0 hz1 hz2 rfl (by omega) _ l.length (l.map (Value.int .i64)) rfl ?c0 ⟨_, 0, none⟩ 1 1 [.int .i64 (k : Int)] rfl rfl ?c1 ?c2 ?c4 ?c5 ?c3 ?_)
                    case c0 => exact HR8.out.own.alloc _
                    case c1 => exact one_new (by simp)
                    case c2 => intro u hu; rw [List.mem_singleton.1 hu]; rfl
                    case c4 => have := HLN.out; simp only [maxLen]; omega
                    case c5 => have := HLN.out; omega
                    case c3 => have := HSZ.out; simp; omega
                    intro v' w9 hown6 hgr6 _
                    have HB9 : Hid (Below w5.heap.size w5 w9) := (HR8.out.bel.alloc HSZ.out _).grown hgr6 (by have := HSZ.out; simp; omega) (fun b hb => (own_block HR8.out.own b hb).1)
                    have HR9 : Hid (BsRel w9 w5 W x y v' iz jz (l ++ [(k : Int)])) := by
                      have := HR8.out.step (sc := 0) HGR.out hi2 hj2 (by omega) hown6 HB9.out
                      rw [HIZ.out, HJZ.out] at this
                      exact this
                    clear hown6 hgr6 HR8
                    have hpz : i + j < iz + jz := by have := HIZ.out; have := HJZ.out; omega
                    go_wp2_with fail
                    go_roundw
                    case rel => exact ⟨iz, jz, l ++ [(k : Int)], vint (by omega), vint (by omega), HR9.out⟩
                    case measure => simp [intOf] <;> omega
                  · have hbq : ((sc + dv) == dij) = false := by simp [heq]
                    have hbad : Wt.goodK W x.data.toList y.data.toList i j k = false := by rw [HG.out]; simp [heq]
                    have HM2 : Hid (∀ q, q < k + 1 → Wt.goodK W x.data.toList y.data.toList i j q = false) := fun q hq => by
                      rcases Nat.lt_or_ge q k with h | h
                      · exact Hmin.out q h
                      · obtain rfl : q = k := by omega
                        exact hbad
                    clear hbad heq HG
                    go_wp2_with fail
                    go_quiet (fail)
                    have HR8 := hide (HR7.out.below (below_drewN (Below.refl _ _) nq))
                    go_wp2_with fail
                    go_roundw
                    case rel => exact ⟨k + 1, by omega, by go_num, rfl, rfl, rfl, HM2.out, HR8.out⟩
                    case measure => simp [intOf] <;> omega
end Go.Proofs.Ytnpdhbagfkilkaa
