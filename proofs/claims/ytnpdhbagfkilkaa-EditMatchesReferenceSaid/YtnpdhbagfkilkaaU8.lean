/- The reference of layer 18: Ahead. -/
import Derived.Test.YtnpdhbagfkilkaaU7
import Derived.Test.YtnpdhbagfkilkaaW14
import Derived.Test.YtnpdhbagfkilkaaCl2
import Derived.BigQuiet
import Derived.Deep.DeepCutAuto
import Derived.Deep.DrawnRows
set_option linter.unusedVariables false
set_option linter.unusedSimpArgs false
namespace Go.Proofs.Ytnpdhbagfkilkaa
open Go.RowKit

theorem ahead_no {W : Wt} {x y : List UInt8} (h : ok3 W x y = false) : ahead W x y = 0 ∧ errn (ok3 W x y) = 1 := by simp [ahead, errn, h]
theorem okText_take {l : List UInt8} (h : okText l = true) (k : Nat) : okText (l.take k) = true := by
  unfold okText at h ⊢
  simp only [Bool.and_eq_true, decide_eq_true_eq, List.all_eq_true] at h ⊢
  exact ⟨fun c hc => h.1 c (List.mem_of_mem_take hc), by rw [List.length_take]; omega⟩
theorem row_F {W : Wt} {x y : List UInt8} {N n1 i : Nat} {v : Int} (h : (rowL W x (y.take n1) N)[i]? = some v) : v = Wt.F W x y n1 i := by
  unfold rowL at h
  rw [List.getElem?_map] at h
  rcases Nat.lt_or_ge i N with hi | hi
  · rw [List.getElem?_range hi] at h
    have h := (Option.some.inj h).symm
    rw [h]; dsimp only; rw [F_row]; rfl
  · rw [List.getElem?_eq_none (by simpa using hi)] at h; cases h
theorem row_bounds {W : Wt} (hW : W.valid = true) {x y : List UInt8} (hx : x.length ≤ 120) (hy : y.length ≤ 120) {N i : Nat} {v : Int} (h : (rowL W x y N)[i]? = some v) : 0 ≤ v ∧ v ≤ 1000000 := by
  have hv : v = Wt.F W x y y.length i := by
    have h2 : (rowL W x (y.take y.length) N)[i]? = some v := by rw [List.take_length]; exact h
    exact row_F h2
  rw [hv, F_row]
  have hd := Wt.isDist hW (x := x.take i) (y := y) (by rw [List.length_take]; omega) hy
  exact ⟨hd.lo 0 0, hd.hi 0 0 (Nat.zero_le _) (Nat.zero_le _)⟩
set_option maxRecDepth 100000 in
set_option maxHeartbeats 8000000 in
theorem rahead_any (W : Wt) (A : Option Addr) (n c X : Nat) (x y : ByteArray) (w : World) (hN : Near w X A n W.near) (hX0 : X ≤ w.heap.size) (hn : n ≤ 140737488355328) (hx : x.size ≤ maxLen) (hy : y.size ≤ maxLen) :
    Calls Try.prog 17 #[wval W A n c, .string x, .string y] w fun e w' => e = .returned (.tuple #[.int .i64 (ahead W x.data.toList y.data.toList), .int .i64 (errn (ok3 W x.data.toList y.data.toList))]) ∧ Below w.heap.size w w' := by
  have HN := hide hN
  have HB := hide (Box.start w W A n c)
  clear hN
  go_enter Try.func17, Try.ntmps17
  unfold wval
  go_upto_region 1 with fail
  generalize w.alloc (.cells #[.int .i64 W.ins, .int .i64 W.del, .int .i64 W.chg, .int .i64 W.swp, .slice A n c] 24) = w1 at *
  obtain ⟨U, hU, g, u0, rfl, hgu, hgi⟩ := cls w1
  have xs_0 := fun u => (((HB.out.blk.to (hgu u)).cell 0).trans (show _ = some (Value.int IntKind.i64 W.ins) from rfl))
  have xs_1 := fun u => (((HB.out.blk.to (hgu u)).cell 1).trans (show _ = some (Value.int IntKind.i64 W.del) from rfl))
  have xs_2 := fun u => (((HB.out.blk.to (hgu u)).cell 2).trans (show _ = some (Value.int IntKind.i64 W.chg) from rfl))
  have xs_3 := fun u => (((HB.out.blk.to (hgu u)).cell 3).trans (show _ = some (Value.int IntKind.i64 W.swp) from rfl))
  have xs_4 := fun u => (((HB.out.blk.to (hgu u)).cell 4).trans (show _ = some (Value.slice A n c) from rfl))
  have CV : ∀ u, Calls Try.prog 21 #[.agg #[.int .i64 W.ins, .int .i64 W.del, .int .i64 W.chg, .int .i64 W.swp, .slice A n c]] (g u) fun e w' => e = .returned (.bool W.valid) ∧ ∃ u', w' = g u' := fun u => cls_call hgu hgi (fun Wd hb => rvalid8_any W A n c X Wd (HN.out.below (below_to HB.out.bel (Nat.le_refl _) hb) hX0) (by have := (below_to HB.out.bel (Nat.le_refl _) hb).size; omega) hn) u
  have CX : ∀ u, Calls Try.prog 29 #[.string x] (g u) fun e w' => e = .returned (.bool (okText x.data.toList)) ∧ ∃ u', w' = g u' := fun u => cls_call hgu hgi (fun Wd hb => (refText_any x Wd hx).mono (fun e w' h => ⟨h.1, h.2 ▸ Below.refl _ _⟩)) u
  have CY : ∀ u, Calls Try.prog 29 #[.string y] (g u) fun e w' => e = .returned (.bool (okText y.data.toList)) ∧ ∃ u', w' = g u' := fun u => cls_call hgu hgi (fun Wd hb => (refText_any y Wd hy).mono (fun e w' h => ⟨h.1, h.2 ▸ Below.refl _ _⟩)) u
  cases hv : W.valid with
  | false =>
    rw [hv] at CV
    have HF := hide (ok3_n1 (W := W) (x := x.data.toList) (y := y.data.toList) hv)
    clear hv
    go_wp2_with (first | ((with_reducible refine (CV _).mono ?_); rintro e w' ⟨rfl, u, rfl⟩) | ((with_reducible refine (CX _).mono ?_); rintro e w' ⟨rfl, u, rfl⟩) | ((with_reducible refine (CY _).mono ?_); rintro e w' ⟨rfl, u, rfl⟩))
    go_ret2
    exact ⟨ret_two (ahead_no HF.out).1.symm (ahead_no HF.out).2.symm, below_to HB.out.bel (Nat.le_refl _) (hgu _)⟩
  | true =>
    rw [hv] at CV
    cases hxt : okText x.data.toList with
    | false =>
      rw [hxt] at CX
      have HF := hide (ok3_n2 (W := W) (x := x.data.toList) (y := y.data.toList) hxt)
      clear hxt hv
      go_wp2_with (first | ((with_reducible refine (CV _).mono ?_); rintro e w' ⟨rfl, u, rfl⟩) | ((with_reducible refine (CX _).mono ?_); rintro e w' ⟨rfl, u, rfl⟩) | ((with_reducible refine (CY _).mono ?_); rintro e w' ⟨rfl, u, rfl⟩))
      go_ret2
      exact ⟨ret_two (ahead_no HF.out).1.symm (ahead_no HF.out).2.symm, below_to HB.out.bel (Nat.le_refl _) (hgu _)⟩
    | true =>
      rw [hxt] at CX
      cases hyt : okText y.data.toList with
      | false =>
        rw [hyt] at CY
        have HF := hide (ok3_n3 (W := W) (x := x.data.toList) (y := y.data.toList) hyt)
        clear hyt hv hxt
        go_wp2_with (first | ((with_reducible refine (CV _).mono ?_); rintro e w' ⟨rfl, u, rfl⟩) | ((with_reducible refine (CX _).mono ?_); rintro e w' ⟨rfl, u, rfl⟩) | ((with_reducible refine (CY _).mono ?_); rintro e w' ⟨rfl, u, rfl⟩))
        go_ret2
        exact ⟨ret_two (ahead_no HF.out).1.symm (ahead_no HF.out).2.symm, below_to HB.out.bel (Nat.le_refl _) (hgu _)⟩
      | true =>
        rw [hyt] at CY
        have HF := hide (ok3_yes hv hxt hyt)
        have HV := hide hv
        have HXT := hide hxt
        have HYT := hide hyt
        have hx120 : x.size ≤ 120 := by simpa using okText_len hxt
        have hy120 : y.size ≤ 120 := by simpa using okText_len hyt
        have HX := hide (okText_len hxt)
        have HXS : Hid (x.data.toList.length = x.size) := by show _ = _; simp
        have HYS : Hid (y.data.toList.length = y.size) := by show _ = _; simp
        have HY := hide (okText_len hyt)
        clear hv hxt hyt
        go_wp2_with (first | ((with_reducible refine (CV _).mono ?_); rintro e w' ⟨rfl, u, rfl⟩) | ((with_reducible refine (CX _).mono ?_); rintro e w' ⟨rfl, u, rfl⟩) | ((with_reducible refine (CY _).mono ?_); rintro e w' ⟨rfl, u, rfl⟩))
        have HBg := hide (below_to HB.out.bel (Nat.le_refl _) (hgu u))
        have HNg := hide (HN.out.below HBg.out hX0)
        have HXg : Hid (X ≤ (g u).heap.size) := by have := HBg.out.size; show _ ≤ _; omega
        have HBx := hide (HB.out.next (hgu u))
        clear CV CX CY xs_0 xs_1 xs_2 xs_3 xs_4 HB
        generalize g u = w3 at *
        clear hgu hgi
        refine (rrow_any W A n c X x y w3 HNg.out HXg.out hn HV.out HXT.out HYT.out).mono ?_
        rintro e w4 ⟨v1, rfl, hI, hb⟩
        obtain ⟨A1, c1, rfl, hI1⟩ := hI
        have hl1 := rowL_len W x.data.toList y.data.toList (x.size + 1)
        rw [hl1] at hI1 ⊢
        have HI := hide hI1
        have HB4 := hide hb
        have HBw := hide (HBx.out.next hb)
        have HRM : Hid (Wt.rowMin W x.data.toList y.data.toList = Wt.minL (rowL W x.data.toList y.data.toList (x.size + 1))) := by show _ = _; unfold Wt.rowMin rowL; simp
        have HFB : Hid (∀ (i : Nat) (v : Int), (rowL W x.data.toList y.data.toList (x.size + 1))[i]? = some v → 0 ≤ v ∧ v ≤ 1000000) := fun i v h => row_bounds HV.out HX.out HY.out h
        clear hI1 hb HBx hl1
        obtain ⟨L, hL⟩ : ∃ L, rowL W x.data.toList y.data.toList (x.size + 1) = L := ⟨_, rfl⟩
        rw [hL] at HI HRM HFB
        clear hL
        obtain ⟨ad1, r0, ea, hab, hr0, cr0⟩ := ints_at HI.out (k := 0) (by omega)
        subst ea
        have e00 : ad1.add 0 = ad1 := by unfold Addr.add; simp
        have cr1 : w4.cell? ad1 = some (.int .i64 r0) := by rw [e00] at cr0; exact cr0
        have k00 : (0 : Int) < (x.size : Int) + 1 := by omega
        have HR0 : Hid (L.headD 0 = r0) := by show _ = _; cases L with | nil => cases hr0 | cons a l => simpa using hr0
        have HLL : Hid (L.length = x.size + 1) := HI.out.len
        have HRB := hide (HFB.out 0 r0 hr0)
        clear hr0 e00 hab
        go_wp2_with fail
        clear cr0 cr1
        go_loopw [9, 10] (fun t9 t10 wr => ∃ (m : Nat) (b : Int), t10 = .int .i64 (m : Int) ∧ t9 = .int .i64 b ∧ (m ≤ x.size + 1 ∧ b = (L.take m).foldl min (L.headD 0) ∧ (0 ≤ b ∧ b ≤ 1000000)) ∧ wr = w4) (fun _ t10 _ => x.size + 1 - (intOf t10).toNat)
        case atStart => exact ⟨0, r0, rfl, rfl, ⟨Nat.zero_le _, by rw [HR0.out]; rfl, HRB.out⟩, rfl⟩
        case round =>
          obtain ⟨m, b, rfl, rfl, ⟨hm, hb, hbb⟩, hw⟩ := hrel
          have hw := hw.symm
          subst hw
          have HBE := hide hb
          clear hb
          by_cases hml : m < x.size + 1
          · have e1 : decide ((m : Int) < (x.size : Int) + 1) = true := decide_eq_true (by omega)
            have e1' : decide ((m : Int) < ((x.size + 1 : Nat) : Int)) = true := decide_eq_true (by omega)
            have e1'' : decide (m < x.size + 1) = true := decide_eq_true hml
            obtain ⟨ad, v, ea, hab, hlv, cv⟩ := ints_at HI.out (k := m) hml
            injection ea with ea
            subst ea
            have k0 : (0 : Int) ≤ (m : Int) := by omega
            have k1 : (m : Int) < (x.size : Int) + 1 := by omega
            have k1' : (m : Int) < ((x.size + 1 : Nat) : Int) := by omega
            have HTK : Hid ((L.take (m + 1)).foldl min (L.headD 0) = min b v) := by show _ = _; rw [List.take_add_one, hlv, HBE.out, List.foldl_append]; rfl
            have hvb := HFB.out m v hlv
            have HML := hide hml
            clear hlv hab hml
            by_cases hlt : v < b
            · have g1 : decide (v < b) = true := decide_eq_true hlt
              have HN2 : Hid (v = (L.take (m + 1)).foldl min (L.headD 0)) := by show _ = _; rw [HTK.out]; omega
              clear hlt
              go_wp2_with fail
              go_roundw
              case rel => exact ⟨m + 1, v, by go_num, rfl, ⟨by have := HML.out; omega, HN2.out, hvb⟩, by first | trivial | rfl⟩
              case measure => have := HML.out; simp [intOf] <;> omega
            · have g1 : decide (v < b) = false := decide_eq_false hlt
              have HN2 : Hid (b = (L.take (m + 1)).foldl min (L.headD 0)) := by show _ = _; rw [HTK.out]; omega
              clear hlt
              go_wp2_with fail
              go_roundw
              case rel => exact ⟨m + 1, b, by go_num, rfl, ⟨by have := HML.out; omega, HN2.out, hbb⟩, by first | trivial | rfl⟩
              case measure => have := HML.out; simp [intOf] <;> omega
          · obtain rfl : m = x.size + 1 := by omega
            have e1 : decide (((x.size + 1 : Nat) : Int) < (x.size : Int) + 1) = false := decide_eq_false (by omega)
            have e1' : decide (((x.size + 1 : Nat) : Int) < ((x.size + 1 : Nat) : Int)) = false := by simp
            have e1'' : decide (x.size + 1 < x.size + 1) = false := by simp
            have e1q : decide ((x.size : Int) + 1 < (x.size : Int) + 1) = false := by simp
            have HBM : Hid (b = Wt.rowMin W x.data.toList y.data.toList) := by show _ = _; rw [HBE.out, HRM.out]; unfold Wt.minL; rw [List.take_of_length_le (by rw [HLL.out]; exact Nat.le_refl _)]
            have ebs : bs y.data.toList = y := by cases y; simp [bs]
            by_cases hp0 : y.size = 0
            · have hyl : y.data.toList = [] := List.eq_nil_of_length_eq_zero (by simpa using hp0)
              have e0 : y.toList.isEmpty = true := by rw [← ebs, bs_toList, hyl]; rfl
              have HR : Hid (ahead W x.data.toList y.data.toList = b) := by show _ = _; rw [HBM.out]; unfold ahead; rw [HF.out, if_pos rfl]; unfold Wt.aheadV; rw [if_neg (by rw [HYS.out]; omega)]
              clear hp0 hyl ebs
              go_wp2_with fail
              go_ret2
              exact ⟨ret_two HR.out.symm (by rw [HF.out]; rfl), HBg.out.trans (HB4.out.mono HBg.out.size)⟩
            · obtain ⟨n1, hn1⟩ : ∃ n1, y.size = n1 + 1 := ⟨y.size - 1, by omega⟩
              have e0 : y.toList.isEmpty = false := by
                rw [← ebs, bs_toList]
                cases hq : y.data.toList with
                | nil => have h1 := HYS.out; rw [hq] at h1; simp at h1; omega
                | cons a l => rfl
              obtain ⟨z, hz⟩ : ∃ z, y.data.toList[n1]? = some z := ⟨_, List.getElem?_eq_getElem (by simp; omega)⟩
              have iz := index_ba y n1 z hz
              have en : (y.size : Int) - 1 = (n1 : Int) := by omega
              have k4 : (0 : Int) ≤ (n1 : Int) := by omega
              have k5 : (n1 : Int) < (y.size : Int) := by omega
              have k6 : (n1 : Int) ≤ (y.size : Int) := by omega
              have HZ := hide hz
              have HNY := hide hn1
              have HYK : Hid (okText (y.extract 0 n1).data.toList = true) := by show _ = _; rw [ext_list]; exact okText_take HYT.out n1
              obtain ⟨d0, d1, d2, d3, d4⟩ := HBw.out.facts
              clear hz hn1 hp0 ebs
              go_upto_region 13 with fail
              clear iz e0 e1 e1' e1'' e1q d0 d1 d2 d3 d4
              obtain ⟨U2, hU2, g2, u2, rfl, hgu2, hgi2⟩ := cls w4
              have CR : ∀ u, Calls Try.prog 35 #[.agg #[.int .i64 W.ins, .int .i64 W.del, .int .i64 W.chg, .int .i64 W.swp, .slice A n c], .string x, .string (y.extract 0 n1)] (g2 u) fun e w' => ∃ v, e = .returned v ∧ IntsV w' v (rowL W x.data.toList (y.data.toList.take n1) (x.size + 1)) ∧ Below (g2 u).heap.size (g2 u) w' := fun u => by
                have hbu := HB4.out.trans ((hgu2 u).mono HB4.out.size)
                refine (rrow_any W A n c X x (y.extract 0 n1) (g2 u) (HNg.out.below hbu HXg.out) (by have := hbu.size; have := HXg.out; omega) hn HV.out HXT.out HYK.out).mono ?_
                rintro e w' ⟨v, rfl, h1, h2⟩
                rw [ext_list] at h1
                exact ⟨v, rfl, h1, h2⟩
              have xs_0 := fun u => (((HBw.out.blk.to (hgu2 u)).cell 0).trans (show _ = some (Value.int IntKind.i64 W.ins) from rfl))
              have xs_1 := fun u => (((HBw.out.blk.to (hgu2 u)).cell 1).trans (show _ = some (Value.int IntKind.i64 W.del) from rfl))
              have xs_2 := fun u => (((HBw.out.blk.to (hgu2 u)).cell 2).trans (show _ = some (Value.int IntKind.i64 W.chg) from rfl))
              have xs_3 := fun u => (((HBw.out.blk.to (hgu2 u)).cell 3).trans (show _ = some (Value.int IntKind.i64 W.swp) from rfl))
              have xs_4 := fun u => (((HBw.out.blk.to (hgu2 u)).cell 4).trans (show _ = some (Value.slice A n c) from rfl))
              have s7 : IntKind.i64.wrap ((y.size : Int) - 1) = (n1 : Int) := by rw [en]; exact IntWalk.i64_in _ (by omega)
              have k8 : n1 ≤ y.size := by omega
              refine wp_region_class_tail g2 7 (by kernel_rfl) (by kernel_rfl) (hgi2 _ (hgu2 _).drew) ?_
              simp only [List.take_succ_cons, List.take_zero, List.drop_succ_cons, List.drop_zero]
              repeat (go_big_quiet_step (fail))
              refine wpQuiet_nil ?_
              intro w5 hw5
              obtain ⟨u, rfl⟩ := hw5
              go_wp2_with fail
              refine (CR u).mono ?_
              rintro e w6 ⟨v2, rfl, hI2, hb6⟩
              have hb5 := (hgu2 u).trans (hb6.mono (hgu2 u).size)
              clear xs_0 xs_1 xs_2 xs_3 xs_4 s7 k8
              focus
                obtain ⟨A2, c2, rfl, hI2⟩ := hI2
                rw [rowL_len] at hI2 ⊢
                have HI2 := hide hI2
                have HB5 := hide (hb5)
                have HBv := hide (HBw.out.next hb5)
                have HFB2 : Hid (∀ (i : Nat) (v : Int), (rowL W x.data.toList (y.data.toList.take n1) (x.size + 1))[i]? = some v → (0 ≤ v ∧ v ≤ 1000000) ∧ v = Wt.F W x.data.toList y.data.toList n1 i) := fun i v h => ⟨row_bounds HV.out HX.out (by have := HY.out; rw [List.length_take]; omega) h, row_F h⟩
                have HA0 : Hid (Wt.afold W x.data.toList y.data.toList 0 = b) := by show _ = _; rw [HBM.out]; rfl
                clear hI2 hb5 hb6 CR HI HFB
                generalize rowL W x.data.toList (y.data.toList.take n1) (x.size + 1) = L2 at *
                clear en
                go_wp2_with fail
                go_loopw [9, 13] (fun t9 t13 wr => ∃ (m : Nat) (b2 : Int), t13 = .int .i64 (m : Int) ∧ t9 = .int .i64 b2 ∧ (m ≤ x.size ∧ (m = 0 ∨ m < x.size) ∧ Wt.afold W x.data.toList y.data.toList m = b2 ∧ (0 ≤ b2 ∧ b2 ≤ 1000000)) ∧ Below w6.heap.size w6 wr) (fun _ t13 _ => x.size - (intOf t13).toNat)
                case atStart => exact ⟨0, b, rfl, rfl, ⟨Nat.zero_le _, .inl rfl, HA0.out, hbb⟩, Below.refl _ _⟩
                case round =>
                  obtain ⟨m, b2, rfl, rfl, ⟨hm, hm0, ha, hb2⟩, hB⟩ := hrel
                  have HBr := hide hB
                  have HAF := hide ha
                  clear hB ha HA0
                  by_cases hmx : m + 1 < x.size
                  · have e1 : decide ((m : Int) + 1 < (x.size : Int)) = true := decide_eq_true (by omega)
                    have e1' : decide (m + 1 < x.size) = true := decide_eq_true hmx
                    obtain ⟨a, ha⟩ : ∃ a, x.data.toList[m]? = some a := ⟨_, List.getElem?_eq_getElem (by simp; omega)⟩
                    obtain ⟨a', ha'⟩ : ∃ a, x.data.toList[m + 1]? = some a := ⟨_, List.getElem?_eq_getElem (by simp; omega)⟩
                    have ix := index_ba x m a ha
                    have ix1 := index_ba x (m + 1) a' ha'
                    have em : (((m + 1 : Nat)) : Int) = (m : Int) + 1 := by omega
                    rw [em] at ix1
                    obtain ⟨ad2, v2, ea, hab, hlv, cv⟩ := ints_at (HI2.out.below HBr.out (Nat.le_refl _)) (k := m) (by omega)
                    subst ea
                    obtain ⟨d0, d1, d2, d3, d4⟩ := (HBv.out.next HBr.out).facts
                    have hsw := Wt.valid_num HV.out
                    have hv2 := (HFB2.out m v2 hlv).1
                    have HV2 := hide (HFB2.out m v2 hlv).2
                    have k0 : (0 : Int) ≤ (m : Int) := by omega
                    have k1 : (m : Int) < (x.size : Int) := by omega
                    have k2 : (m : Int) + 1 < (x.size : Int) := by omega
                    have k3 : (0 : Int) ≤ (m : Int) + 1 := by omega
                    have k7 : (m : Int) < (x.size : Int) + 1 := by omega
                    have k7' : (m : Int) < ((x.size + 1 : Nat) : Int) := by omega
                    have s9 : IntKind.i64.wrap (v2 + W.swp) = v2 + W.swp := IntWalk.i64_in _ (by omega)
                    have s8 : IntKind.i64.wrap ((m : Int) + 1) = (m : Int) + 1 := IntWalk.i64_in _ (by omega)
                    have HOV : Hid (Wt.over x.data.toList y.data.toList m = (((a.toNat : Int) != (a'.toNat : Int)) && ((a'.toNat : Int) == (z.toNat : Int)))) := by
                      show _ = _
                      unfold Wt.over
                      rw [at_of ha, at_of ha', show y.data.toList.length - 1 = n1 by have := HNY.out; simp; omega, at_of HZ.out]
                    have HST : Hid (Wt.afold W x.data.toList y.data.toList (m + 1) = if Wt.over x.data.toList y.data.toList m then min b2 (v2 + W.swp) else b2) := by
                      show _ = _
                      unfold Wt.afold at HAF ⊢
                      rw [List.range_succ, List.foldl_append, HAF.out]
                      show (if Wt.over x.data.toList y.data.toList m then min b2 (Wt.atv (Wt.F W x.data.toList y.data.toList (y.data.toList.length - 1) m) W.swp) else b2) = _
                      rw [show y.data.toList.length - 1 = n1 by have := HNY.out; simp; omega, ← HV2.out]
                      unfold Wt.atv
                      rw [if_neg (show ¬ W.swp < 0 by omega)]
                    have HMX := hide hmx
                    clear ha ha' hlv hab hmx hm hm0 em
                    obtain ⟨q1, h1⟩ : ∃ q, ((a.toNat : Int) != (a'.toNat : Int)) = q := ⟨_, rfl⟩
                    obtain ⟨q2, h2⟩ : ∃ q, ((a'.toNat : Int) == (z.toNat : Int)) = q := ⟨_, rfl⟩
                    rw [h1, h2] at HOV
                    by_cases ho : (q1 && q2) = true
                    · have hq1 : q1 = true := by cases q1; simp at ho; rfl
                      have hq2 : q2 = true := by cases q2; simp at ho; rfl
                      rw [hq1] at h1
                      rw [hq2] at h2
                      rw [HOV.out, ho, if_pos rfl] at HST
                      clear ho hq1 hq2 HOV
                      by_cases hlt : v2 + W.swp < b2
                      · have g3 : decide (v2 + W.swp < b2) = true := decide_eq_true hlt
                        have HR : Hid (Wt.afold W x.data.toList y.data.toList (m + 1) = v2 + W.swp) := by show _ = _; rw [HST.out]; omega
                        have hv3 : 0 ≤ v2 + W.swp ∧ v2 + W.swp ≤ 1000000 := by omega
                        clear hlt
                        go_wp2_with fail
                        go_quiet (fail)
                        go_wp2_with fail
                        go_quiet (fail)
                        have HBn := hide (below_drewN HBr.out nq)
                        go_wp2_with fail
                        go_roundw
                        case rel => exact ⟨m + 1, v2 + W.swp, by go_num, rfl, ⟨by have := HMX.out; omega, .inr HMX.out, HR.out, hv3⟩, by first | exact below_drewN (below_drewN HBr.out _) _ | exact below_drewN HBr.out _⟩
                        case measure => have := HMX.out; simp [intOf] <;> omega
                      · have g3 : decide (v2 + W.swp < b2) = false := decide_eq_false hlt
                        have HR : Hid (Wt.afold W x.data.toList y.data.toList (m + 1) = b2) := by show _ = _; rw [HST.out]; omega
                        clear hlt
                        go_wp2_with fail
                        go_quiet (fail)
                        go_wp2_with fail
                        go_roundw
                        case rel => exact ⟨m + 1, b2, by go_num, rfl, ⟨by have := HMX.out; omega, .inr HMX.out, HR.out, hb2⟩, by first | exact below_drewN (below_drewN HBr.out _) _ | exact below_drewN HBr.out _⟩
                        case measure => have := HMX.out; simp [intOf] <;> omega
                    · rw [HOV.out, if_neg ho] at HST
                      have ho2 : q1 = false ∨ q2 = false := by cases q1 <;> cases q2 <;> simp_all
                      clear ho HOV
                      rcases ho2 with rfl | rfl
                      · go_wp2_with fail
                        go_quiet (fail)
                        go_wp2_with fail
                        go_roundw
                        case rel => exact ⟨m + 1, b2, by go_num, rfl, ⟨by have := HMX.out; omega, .inr HMX.out, HST.out, hb2⟩, by first | exact below_drewN (below_drewN HBr.out _) _ | exact below_drewN HBr.out _⟩
                        case measure => have := HMX.out; simp [intOf] <;> omega
                      · cases q1 with
                        | false =>
                          go_wp2_with fail
                          go_quiet (fail)
                          go_wp2_with fail
                          go_roundw
                          case rel => exact ⟨m + 1, b2, by go_num, rfl, ⟨by have := HMX.out; omega, .inr HMX.out, HST.out, hb2⟩, by first | exact below_drewN (below_drewN HBr.out _) _ | exact below_drewN HBr.out _⟩
                          case measure => have := HMX.out; simp [intOf] <;> omega
                        | true =>
                          go_wp2_with fail
                          go_quiet (fail)
                          go_wp2_with fail
                          go_roundw
                          case rel => exact ⟨m + 1, b2, by go_num, rfl, ⟨by have := HMX.out; omega, .inr HMX.out, HST.out, hb2⟩, by first | exact below_drewN (below_drewN HBr.out _) _ | exact below_drewN HBr.out _⟩
                          case measure => have := HMX.out; simp [intOf] <;> omega
                  · have e1 : decide ((m : Int) + 1 < (x.size : Int)) = false := decide_eq_false (by omega)
                    have e1' : decide (m + 1 < x.size) = false := decide_eq_false hmx
                    have hme : m = x.data.toList.length - 1 := by simp; omega
                    have HR : Hid (ahead W x.data.toList y.data.toList = b2) := by
                      show _ = _
                      unfold ahead
                      rw [HF.out, if_pos rfl]
                      unfold Wt.aheadV
                      rw [if_pos (by have := HNY.out; simp; omega), ← hme, HAF.out]
                    clear hme hmx
                    go_wp2_with fail
                    go_ret2
                    exact ⟨ret_two HR.out.symm (by rw [HF.out]; rfl), HBg.out.trans ((HB4.out.trans ((HB5.out.trans (HBr.out.mono HB5.out.size)).mono HB4.out.size)).mono HBg.out.size)⟩
end Go.Proofs.Ytnpdhbagfkilkaa
