/- Several texts as one, in build order. -/
import Derived.Test.YtnjlefggkfagmaaGreatDoorMF
import Derived.Deep.DeepCutAuto
import Derived.Test.YtnjlefggkfagmaaGreatDoorMA
import Derived.Test.YtnjlefggkfagmaaGreatDoorRows
import Derived.Stop.LaidErr
import Derived.Lib.LaidTab
import Derived.Clock
/- The walk of TopRestarts. -/
set_option linter.unusedVariables false
set_option linter.unusedSimpArgs false
namespace Go.Proofs.YtnjlefggkfagmaaGreatDoor
open Go.RowKit Go.Shelf
attribute [local go_sem] Oper.semAt_some

set_option maxRecDepth 100000 in
set_option maxHeartbeats 40000000 in
theorem restarts_law (items : List (List UInt8)) (hn : items.length ≤ 8796093022208) (hx : ∀ x ∈ items, x.length ≤ 140737488355328) (sts : List Stp) (hsn : sts.length ≤ 140737488355328) (hs : ∀ s ∈ sts, s.fit) (v u : Value) (w : World) (hv : TextsAt w v items) (hu : StpsAt w u sts) (hg : Glob w) :
    Calls Tryz.prog 3 #[v, u] w fun e w' => e = .returned (.bool true) ∧ Below w.heap.size w w' := by
  have HS := hide hv
  have HU := hide hu
  have HG := hide hg
  have HFT := hide hs
  have CF : ∀ (w' : World), Below w.heap.size w w' → Calls Tryz.prog 5 #[v, .int .i64 40] w' fun e w2 => e = .returned (.bool (fewT items 40)) ∧ w2 = w' := fun (w' : World) (hb : Below w.heap.size w w') => Few_any items hn hx 40 (by decide) v w' (hv.to hb)
  obtain ⟨A, c, rfl, hc⟩ := hv.slice
  obtain ⟨Au, cu, rfl⟩ := hu.slice
  have C1 := w09Pages_any w hg
  clear hv hg hu hs
  by_cases hok : (items.length ≤ 8 ∧ fewT items 40 = true) ∧ sts.length ≤ 12
  · obtain ⟨⟨h8, hfew⟩, hs12⟩ := hok
    have HL := hide (fewT_lg h8 hfew)
    have e0 : decide ((8 : Int) < (items.length : Int)) = false := decide_eq_false (by omega)
    have e0' : decide (8 < items.length) = false := decide_eq_false (by omega)
    have e0s : decide ((12 : Int) < (sts.length : Int)) = false := decide_eq_false (by omega)
    have e0s' : decide (12 < sts.length) = false := decide_eq_false (by omega)
    rw [hfew] at CF
    clear hfew
    go_enter Tryz.func3, Tryz.ntmps3
    go_wp2_with fail
    refine C1.mono ?_
    rintro e w1 ⟨rfl, hb⟩
    have HB1 := hide hb
    have CF := CF w1 hb
    clear hb C1
    go_wp2_with ((with_reducible refine CF.mono ?_); rintro e w3 ⟨rfl, e9⟩; have e9 := e9.symm; subst e9)
    clear CF e0 e0' e0s e0s'
    have C3 := w09Root_any items HL.out.big.1 HL.out.big.2 (.slice A items.length c) w1 (HS.out.to HB1.out) (HG.out.to HB1.out)
    rw [show totalT (leavesV items) = rootL items from rfl] at C3
    refine C3.mono ?_
    rintro e w2 ⟨rfl, hb⟩
    have HB2 := hide (below_to HB1.out (Nat.le_refl _) hb)
    clear hb C3 HB1
    go_wp2_with fail
    have C4 := diskNew_any 600 (by decide) (by decide) w2
    unfold NewDR dkP at C4
    refine C4.mono ?_
    rintro e w3 ⟨b, sb, rfl, hsb, hd, hb⟩
    have HB3 := hide (below_to HB2.out (Nat.le_refl _) hb)
    have HD3 := hide hd
    have hsbw : w.heap.size ≤ sb := Nat.le_trans HB2.out.size hsb
    clear hb hd C4 HB2 hsb
    go_wp2_with fail
    have C5 := reopen_lw HL.out HG.out b sb b 600 [] (newD 600).ss [] trivial (jd_new (by decide) (by decide)).rd rfl (by decide) w3 HB3.out hsbw HD3.out.blk.lt HD3.out
    unfold dkP at C5
    refine C5.mono ?_
    rintro e w4 ⟨jb, cb, vr, vc, rfl, hS⟩
    have HM4 : Hid (MS w items b sb b jb cb vr vc (fixA 0 (newD 600).ss) [] [] w4) := ⟨hS, trivial, Nat.zero_le _⟩
    clear hS C5 HD3 HB3
    generalize fixA 0 (newD 600).ss = ss4 at *
    go_wp2_with fail
    have C6 := HM4.out.lw.next HL.out
    rw [show repK items.length [] 0 = 0 from rfl] at C6
    refine C6.mono ?_
    rintro e w5 ⟨rfl, hb⟩
    have HM5 : Hid (MS w items b sb b jb cb vr vc ss4 [] [] w5) := ⟨HM4.out.lw.to hb, trivial, Nat.zero_le _⟩
    clear hb C6 HM4
    go_wp2_with fail
    go_loopw [9, 10, 12, 13, 150] (fun z9 z10 z12 i z150 wr => ∃ (q wrt jb cb ab : Nat) (vr vc : Value) (ss ps : List (List UInt8)) (L : List (Nat × Nat)), z9 = .pointer (some ⟨jb, 0, none⟩) ∧ z10 = .pointer (some ⟨cb, 0, none⟩) ∧ z12 = .int .i64 (wrt : Int) ∧ i = .int .i64 (q : Int) ∧ q ≤ sts.length ∧ z150 = undef ∧ wrt ≤ repK items.length L 0 ∧ Aside (MS w items b sb ab jb cb vr vc ss ps L wr)) (fun _ _ _ i _ _ => sts.length - (intOf i).toNat)
    case atStart => exact ⟨0, 0, jb, cb, b, vr, vc, ss4, [], [], rfl, rfl, rfl, rfl, by omega, rfl, Nat.zero_le _, HM5.out⟩
    case round =>
      clear HM5
      obtain ⟨q, wrt, jb, cb, ab, vr, vc, ss, ps, L, rfl, rfl, rfl, rfl, hq, rfl, hwr, hM⟩ := hrel
      have HM : Hid (MS w items b sb ab jb cb vr vc ss ps L wr) := hM
      have HWR := hide hwr
      clear hM hwr
      by_cases hlt : q < sts.length
      · have e1 : decide ((q : Int) < (sts.length : Int)) = true := decide_eq_true (by omega)
        obtain ⟨x, hx1⟩ : ∃ x, sts[q]? = some x := ⟨_, List.getElem?_eq_getElem hlt⟩
        have hxf := HFT.out x (List.mem_of_getElem? hx1)
        obtain ⟨a, e9, ha, c0, c1, c2, c3, c4, c5⟩ := (HU.out.to HM.out.lw.bel).at_ hx1
        obtain ⟨xf, xm, xc, xa, xn, xb⟩ := x
        obtain ⟨hxf, hxm, hxc, hxa⟩ := hxf
        simp only at c0 c1 c2 c3 c4 c5 hxf hxm hxc hxa
        subst e9
        have i0 : (0 : Int) ≤ (q : Int) := by omega
        have i1 : (q : Int) < (sts.length : Int) := by omega
        obtain ⟨F0, hF0⟩ : ∃ F, xf % (items.length + 1) = F := ⟨_, rfl⟩
        have hFn0 : F0 ≤ items.length := by have := Nat.mod_lt xf (show 0 < items.length + 1 by omega); omega
        have eF : (xf : Int) % ((items.length : Int) + 1) = (F0 : Int) := by rw [← hF0]; push_cast; rfl
        have ne1 : ¬ ((items.length : Int) + 1 = 0) := by omega
        have hb6 := below_one wr (.cells #[.int .u8 (xf : Int), .int .u8 (xm : Int), .int .u8 (xc : Int), .int .i64 xa, .int .i64 xn, .int .i64 xb] 35)
        have HM6 : Hid (MS w items b sb ab jb cb vr vc ss ps L (wr.alloc (.cells #[.int .u8 (xf : Int), .int .u8 (xm : Int), .int .u8 (xc : Int), .int .i64 xa, .int .i64 xn, .int .i64 xb] 35))) := ⟨HM.out.lw.to hb6, HM.out.ok, HM.out.pl⟩
        have HX6 := hide (Blk.new wr 35 #[.int .u8 (xf : Int), .int .u8 (xm : Int), .int .u8 (xc : Int), .int .i64 xa, .int .i64 xn, .int .i64 xb])
        clear hx1 hF0 hb6
        go_upto_if 84 with fail
        go_cut [15, 150] (fun z15 z150 wx => ∃ F : Nat, z15 = .int .i64 (F : Int) ∧ F ≤ items.length ∧ z150 = undef ∧ Aside (MS w items b sb ab jb cb vr vc ss ps L wx) ∧ Aside (Blk wx wr.heap.size 35 #[.int .u8 (xf : Int), .int .u8 (xm : Int), .int .u8 (xc : Int), .int .i64 xa, .int .i64 xn, .int .i64 xb]))
        case first =>
          by_cases hc2 : xc % 2 = 0
          · have d1 : ((xc : Int) % 2 == 0) = true := by rw [beq_iff_eq]; omega
            have d2 : (xc : Int) % 2 = 0 := by omega
            go_wp2_with fail
            refine (HM6.out.lw.next HL.out).mono ?_
            rintro e w6 ⟨rfl, hb⟩
            go_wp2_with fail
            go_meet
            exact ⟨_, rfl, HM6.out.lw.kl, rfl, ⟨HM6.out.lw.to hb, HM6.out.ok, HM6.out.pl⟩, HX6.out.to hb⟩
          · have d1 : ((xc : Int) % 2 == 0) = false := by rw [beq_eq_false_iff_ne]; omega
            have d2 : ¬ (xc : Int) % 2 = 0 := by omega
            go_wp2_with fail
            go_meet
            exact ⟨F0, by rw [eF], hFn0, rfl, HM6.out, HX6.out⟩
        case rest =>
          clear HM6 HX6 c0 c1 c2 c3 c4 c5 eF
          obtain ⟨F, rfl, hFn, rfl, hM, hX⟩ := hcut
          generalize wc = wd at *
          have HM6 : Hid (MS w items b sb ab jb cb vr vc ss ps L wd) := hM
          have HX6 : Hid (Blk wd wr.heap.size 35 #[.int .u8 (xf : Int), .int .u8 (xm : Int), .int .u8 (xc : Int), .int .i64 xa, .int .i64 xn, .int .i64 xb]) := hX
          clear hM hX
          obtain ⟨M, hM⟩ : ∃ M, 1 + xm % 4 = M := ⟨_, rfl⟩
          have hM1 : 1 ≤ M := by omega
          have hM2 : M ≤ 50 := by omega
          have hM4 : M ≤ 4 := by omega
          have eM : 1 + (xm : Int) % 4 = (M : Int) := by rw [← hM]; push_cast; rfl
          clear hM
          have x1 := (HX6.out.cell 1).trans (show _ = some (Value.int .u8 (xm : Int)) from rfl)
          have C5 := Serve_yes items HL.out.big.1 HL.out.big.2 F M (serve_yes HL.out hFn hM1 hM2) (.slice A items.length c) wd (HG.out.to HM6.out.lw.bel) (HS.out.to HM6.out.lw.bel)
          unfold ServeR at C5
          go_wp2_with fail
          with_reducible refine C5.mono ?_
          rintro e w6 ⟨vi, vp, rfl, hpg, hb⟩
          have HP6 := hide hpg
          have HTP := hide hpg.tp
          have hcb : cb < wd.heap.size := HM6.out.lw.c.blk.lt
          have hvl := hide (fun g e => (HM6.out.lw.clt g e).2)
          have hrow := HM6.out.lw.rowlt
          have HFR := hide (fun (p : Nat) (hp : wd.heap.size ≤ p) => HM6.out.lw.fresh hp)
          have H6 : Hid (LwS w 600 items b sb ab jb cb vr vc ss ps (recsT items L) (repK items.length L 0) none w6) := HM6.out.lw.to hb
          have HOK := hide HM6.out.ok
          have HPL := hide HM6.out.pl
          have hxw : wr.heap.size < wd.heap.size := HX6.out.lt
          have hww : w.heap.size ≤ wr.heap.size := HM.out.lw.bel.size
          have hyc : cb ≠ wr.heap.size := by have := HM.out.lw.c.blk.lt; omega
          have hyr : rowOr vc cb ≠ wr.heap.size := by have := HM.out.lw.rowlt; omega
          have HY6 := hide (HX6.out.to hb)
          have hrs := hb.size
          obtain ⟨Ai, ci, rfl, _⟩ := hpg.ti.slice
          obtain ⟨Ap, cp, rfl, _⟩ := hpg.tp.slice
          clear hb hpg C5 HM6 HX6 x1
          have HP7 := hide (HP6.out.to (below_one w6 (.cells ((pageV items F M).cs (.slice Ai (pageV items F M).items.length ci) (.slice Ap (pageV items F M).paths.length cp)) 38)))
          have HB7 := hide (below_one w6 (.cells ((pageV items F M).cs (.slice Ai (pageV items F M).items.length ci) (.slice Ap (pageV items F M).paths.length cp)) 38))
          have H7 := hide (H6.out.to (below_one w6 (.cells ((pageV items F M).cs (.slice Ai (pageV items F M).items.length ci) (.slice Ap (pageV items F M).paths.length cp)) 38)))
          have HY7 := hide (HY6.out.to (below_one w6 (.cells ((pageV items F M).cs (.slice Ai (pageV items F M).items.length ci) (.slice Ap (pageV items F M).paths.length cp)) 38)))
          have HX7 := hide (Blk.new w6 38 ((pageV items F M).cs (.slice Ai (pageV items F M).items.length ci) (.slice Ap (pageV items F M).paths.length cp)))
          unfold Pg.cs at HP7 H7 HX7 HB7 HY7 ⊢
          go_upto_region 20 with fail
          have hil := page_ilen items F M
          clear H6 HY6
          generalize hL : (pageV items F M).items.length = L0 at *
          have HLL := hide hL
          have HIL := hide hil
          clear hL hil
          generalize w6.alloc (.cells #[.int .i64 (pageV items F M).fr, .int .i64 (pageV items F M).size, .string (bs (pageV items F M).root), .slice Ai L0 ci, .slice Ap (pageV items F M).paths.length cp] 38) = w7 at *
          have x3 : w7.cell? ⟨w6.heap.size, 3, none⟩ = some (.slice Ai L0 ci) := (HX7.out.cell 3).trans rfl
          have y2 := (HY7.out.cell 2).trans (show _ = some (Value.int .u8 (xc : Int)) from rfl)
          obtain ⟨k, hk⟩ : ∃ k, repK items.length L 0 = k := ⟨_, rfl⟩
          rw [hk] at H7 HWR
          have HK := hide hk
          clear hk
          have hkn := H7.out.kl
          go_cut [18, 150] (fun z18 z150 wx => z18 = .bool (decide (xc % 5 = 0 ∧ 0 < L0)) ∧ z150 = undef ∧ w7 = wx)
          case first =>
            by_cases hc5 : xc % 5 = 0
            · have d3 : ((xc : Int) % 5 == 0) = true := by rw [beq_iff_eq]; omega
              have d3' : (xc : Int) % 5 = 0 := by omega
              by_cases hL0 : 0 < L0
              · have d2 : decide ((0 : Int) < (L0 : Int)) = true := decide_eq_true (by omega)
                have d2' : decide (0 < L0) = true := decide_eq_true hL0
                go_wp2_with fail
                go_meet
                exact ⟨by rw [decide_eq_true (p := xc % 5 = 0 ∧ 0 < L0) ⟨hc5, hL0⟩], rfl, rfl⟩
              · have d2 : decide ((0 : Int) < (L0 : Int)) = false := decide_eq_false (by omega)
                have d2' : decide (0 < L0) = false := decide_eq_false hL0
                go_wp2_with fail
                go_meet
                exact ⟨by rw [decide_eq_false (p := xc % 5 = 0 ∧ 0 < L0) (fun h => hL0 h.2)], rfl, rfl⟩
            · have d3 : ((xc : Int) % 5 == 0) = false := by rw [beq_eq_false_iff_ne]; omega
              have d3' : ¬ (xc : Int) % 5 = 0 := by omega
              go_wp2_with fail
              go_meet
              exact ⟨by rw [decide_eq_false (p := xc % 5 = 0 ∧ 0 < L0) (fun h => hc5 h.1)], rfl, rfl⟩
          case rest =>
            obtain ⟨e18, rfl, e9⟩ := hcut
            subst e9
            by_cases hch : xc % 5 = 0 ∧ 0 < L0
            · rw [decide_eq_true (p := xc % 5 = 0 ∧ 0 < L0) hch] at e18
              obtain ⟨hc5, hL0⟩ := hch
              subst e18
              as_aux_lemma =>
                have y1 := (HY7.out.cell 1).trans (show _ = some (Value.int .u8 (xm : Int)) from rfl)
                obtain ⟨J, hJ⟩ : ∃ J, xm % L0 = J := ⟨_, rfl⟩
                have hJL : J < L0 := by rw [← hJ]; exact Nat.mod_lt _ hL0
                have eJ : (xm : Int) % (L0 : Int) = (J : Int) := by rw [← hJ]; push_cast; rfl
                have neL : ¬ ((L0 : Int) = 0) := by omega
                have neL' : ¬ (L0 = 0) := by omega
                have hbx : w6.heap.size < w7.heap.size := HX7.out.lt
                have hnx : w6.heap.size ≠ w7.heap.size := by omega
                clear hJ
                go_wp2_with (at_builtin; refine wpList_append_texts rfl (.tmp 118) (.tmp 120) rfl w7.heap.size _ [] rfl (own_empty (Nat.le_refl _)) (.slice Ai L0 ci) (pageV items F M).items rfl (HP7.out.ti.to (below_one w7 (.cells #[] 9))) (by rw [HLL.out]; have := HIL.out; simp; omega) (by simp) ?_)
                intro v10 w10 ho hg10 _
                have hb10 : Below w7.heap.size w7 w10 := (below_one w7 (.cells #[] 9)).trans (below_grown hg10 (by simp) (fun g e => by have : w7.heap.size = g := Option.some.inj e; omega))
                have H10 := hide (H7.out.to hb10)
                have HX10 := hide (HX7.out.to hb10)
                have HB10 := hide (below_to HB7.out (Nat.le_refl _) hb10)
                have ho : OwnT w10 w7.heap.size v10 (pageV items F M).items := ho
                have HO10 := hide ho
                have ho' := ho
                unfold OwnT at ho'
                rw [HLL.out] at ho'
                obtain ⟨A10, c10, rfl⟩ := own_sl4 ho'
                obtain ⟨g10, rfl, hg9, _⟩ := own_blk4 ho' hL0
                have x3' := (HX10.out.cell 3).trans (show _ = some (Value.slice Ai L0 ci) from rfl)
                have fr3 := HX10.out.frozen 3
                have H11 := hide (H10.out.far (p := w6.heap.size) (i := 3) (HFR.out _ (by omega)) (by omega) (.slice (some ⟨g10, 0, none⟩) L0 c10))
                have HO11 : Hid (OwnT (w10.setCell ⟨w6.heap.size, 3, none⟩ (.slice (some ⟨g10, 0, none⟩) L0 c10)) w7.heap.size (.slice (some ⟨g10, 0, none⟩) L0 c10) (pageV items F M).items) := ownsRow_set ho (fun e => by have : g10 = w6.heap.size := Option.some.inj e; omega)
                have HB11 := hide (HB10.out.setCell (p := ⟨w6.heap.size, 3, none⟩) (Nat.le_refl _) (.slice (some ⟨g10, 0, none⟩) L0 c10))
                have HX11 := hide (HX10.out.set_ 3 (.slice (some ⟨g10, 0, none⟩) L0 c10))
                clear ho ho' hg10 hb10 H7 HX7 HP7 H10 HX10 HO10 x3 HY7 y1 y2
                go_wp2_with fail
                generalize w10.setCell ⟨w6.heap.size, 3, none⟩ (.slice (some ⟨g10, 0, none⟩) L0 c10) = w11 at *
                obtain ⟨y, hy⟩ : ∃ y, (pageV items F M).items[J]? = some y := ⟨_, List.getElem?_eq_getElem (by rw [HLL.out]; exact hJL)⟩
                have HXJ := hide hy
                have ea : (⟨g10, 0, none⟩ : Addr).add J = ⟨g10, J, none⟩ := by unfold Addr.add; split <;> simp_all
                have HO12 : Hid (w11.ownsRow w7.heap.size 9 1 (.slice (some ⟨g10, 0, none⟩) L0 c10) L0 (flatS (pageV items F M).items)) := by
                  have := HO11.out
                  unfold OwnT at this
                  rw [HLL.out] at this
                  exact this
                obtain ⟨g11, e11, _, cur, hcur, _⟩ := own_blk4 HO12.out hL0
                obtain rfl : g10 = g11 := by injection e11 with e; injection e
                clear e11
                obtain ⟨U, hU, g, u0, e9, hgu, hi⟩ := cls w11
                subst e9
                have X3 : ∀ u, (g u).cell? ⟨w6.heap.size, 3, none⟩ = some (.slice (some ⟨g10, 0, none⟩) L0 c10) := blk_all hgu HX11.out 3 rfl
                have CX : ∀ u, (g u).cell? ⟨g10, J, none⟩ = some (.string (bs y)) := fun u => own_cell4 (n := L0) (c := c10) (acc := (pageV items F M).items) (by unfold OwnT; rw [HLL.out]; exact own_to4 HO12.out (hgu u)) hy
                have FX : ∀ u, (g u).frozen? ⟨g10, J, none⟩ = false := fun u => (hcur.to (hgu u)).frozen J
                have k0 : (0 : Int) ≤ (J : Int) := by omega
                have k1 : (J : Int) < (L0 : Int) := by omega
                have hxl := page_small HL.out F M y (List.mem_of_getElem? hy)
                have CAT : ∀ W, (Op.stringOp .add (bs y) { data := #[120] }).run Tryz.prog W = .ok (.string (bs (y ++ [120]))) W := fun W => run_string_add_lists W y [120] (by omega) (by decide)
                clear hxl
                have HGU := hide hgu
                have HHI := hide hi
                clear hgu hi hy hcur
                go_wp2_with fail
                refine wp_region_class_tail g 10 (by kernel_rfl) (by kernel_rfl) (HHI.out _ (HGU.out _).drew) ?_
                simp only [List.take_succ_cons, List.take_zero, List.drop_succ_cons, List.drop_zero]
                repeat (go_big_quiet_step (fail))
                refine wpQuiet_nil ?_
                intro w12 hw12
                obtain ⟨u, rfl⟩ := hw12
                go_wp2_with fail
                have H13 := hide ((H11.out.to (HGU.out u)).far (p := g10) (i := J) (HFR.out _ (by omega)) (by omega) (.string (bs (y ++ [120]))))
                have HX13 := hide ((HX11.out.to (HGU.out u)).far (p := ⟨g10, J, none⟩) (by show w6.heap.size ≠ g10; omega) (.string (bs (y ++ [120]))))
                have HB13 := hide ((below_to HB11.out (Nat.le_refl _) (HGU.out u)).setCell (p := ⟨g10, J, none⟩) (by show _ ≤ g10; omega) (.string (bs (y ++ [120]))))
                have HT13 : Hid (TextsAt ((g u).setCell ⟨g10, J, none⟩ (.string (bs (y ++ [120])))) (.slice (some ⟨g10, 0, none⟩) L0 c10) (chP (pageV items F M) J).items) := by
                  rw [chP_items HXJ.out]
                  exact own_set (n := L0) (c := c10) (by unfold OwnT; rw [HLL.out]; exact own_to4 HO12.out (HGU.out u)) HLL.out.symm hJL (y ++ [120])
                have hg10c : wd.heap.size ≤ g10 := by omega
                clear H11 HX11 HB11 HO11 HO12 CAT CX FX X3 HB10 HB7
                generalize (g u).setCell ⟨g10, J, none⟩ (.string (bs (y ++ [120]))) = w13 at *
                have C13 := H13.out.next HL.out
                with_reducible refine C13.mono ?_
                rintro e w14 ⟨rfl, hb⟩
                have H14 := hide (H13.out.to hb)
                have HX14 := hide (HX13.out.to hb)
                have HT14 := hide (HT13.out.to hb)
                have HB14 := hide (below_to HB13.out (Nat.le_refl _) hb)
                clear hb C13 H13 HX13 HB13 HT13
                have x0 := (HX14.out.cell 0).trans (show _ = some (Value.int .i64 (pageV items F M).fr) from rfl)
                have x1 := (HX14.out.cell 1).trans (show _ = some (Value.int .i64 (pageV items F M).size) from rfl)
                have x2 := (HX14.out.cell 2).trans (show _ = some (Value.string (bs (pageV items F M).root)) from rfl)
                have x3 := (HX14.out.cell 3).trans (show _ = some (Value.slice (some ⟨g10, 0, none⟩) L0 c10) from rfl)
                have x4 := (HX14.out.cell 4).trans (show _ = some (Value.slice Ap (pageV items F M).paths.length cp) from rfl)
                have hff := HFR.out g10 hg10c
                have CA := H14.out.accX HL.out HG.out (chP_fit (page_fit HL.out hFn hM2) (fun x hx => by have := page_small HL.out F M x hx; omega) J) (p := chP (pageV items F M) J) (vi := .slice (some ⟨g10, 0, none⟩) L0 c10) (vp := .slice Ap (pageV items F M).paths.length cp) HT14.out (HTP.out.to HB14.out) (fun e => hff.2.2.2.1 (Option.some.inj e)) (fun g e e2 => hff.2.2.2.2 (by rw [e]; exact congrArg some (Option.some.inj e2).symm))
                clear hff
                by_cases hE0 : accE (chP (pageV items F M) J) (rootL items) items.length (items.take k) = 0
                · have HE0 := hide hE0
                  rw [hE0] at CA
                  clear hE0
                  unfold chP Pg.cs at CA
                  go_wp2_with fail
                  with_reducible refine CA.mono ?_
                  rintro e w15 ⟨v15, rfl, _, hT, hB⟩
                  have HX15 := hide (hT.blk HX14.out (by omega) (by omega))
                  have HT15 := hide (HT14.out.two hT (fun e => by have : g10 = cb := Option.some.inj e; omega) (fun e => by have : g10 = rowOr vc cb := Option.some.inj e; omega))
                  have HB15 := hide hB
                  have HQ15 : Hid (PgAt wd.heap.size w6.heap.size w15 _ _ (pageV items F M)) := (HP6.out.to HB14.out).two hT (.inl hcb) (.inl hrow)
                  clear hT hB CA H14 HX14 HT14 HP6 x0 x1 x2 x3 x4
                  go_wp2_with fail
                  obtain ⟨hfo, hho, _⟩ := acc_facts HE0.out
                  have hpf := chP_fit (page_fit HL.out hFn hM2) (fun x hx => by have := page_small HL.out F M x hx; omega) J
                  have HHD : Hid (∀ W, Below w15.heap.size w15 W → Calls Tryz.prog 12 #[.agg #[.int .i64 (pageV items F M).fr, .int .i64 (pageV items F M).size, .string (bs (pageV items F M).root), .slice (some ⟨g10, 0, none⟩) L0 c10, .slice Ap (pageV items F M).paths.length cp]] W fun e w' => e = .returned (.bool true) ∧ Below W.heap.size W w') := fun W h => Holds_yes (chP (pageV items F M) J) hpf hfo hho _ _ W (HT15.out.to h) (HQ15.out.tp.to h)
                  have HCK : Hid (∀ W : World, Below w15.heap.size w15 W → Calls Tryz.prog 15 #[.agg #[.int .i64 (pageV items F M).fr, .int .i64 (pageV items F M).size, .string (bs (pageV items F M).root), .slice (some ⟨g10, 0, none⟩) L0 c10, .slice Ap (pageV items F M).paths.length cp]] W (LvR (checkedV (chP (pageV items F M) J)) W)) := fun W h => Checked_any (chP (pageV items F M) J) hpf hfo hho _ _ W (HT15.out.to h) (HQ15.out.tp.to h)
                  have HDG := hide (fun (W : World) (h : Below w15.heap.size w15 W) => Digested_any items HL.out.big.1 HL.out.big.2 (.slice A items.length c) W ((HS.out.to HB15.out).to h))
                  have hdl := dig_len items
                  have hcl : (checkedV (chP (pageV items F M) J)).length ≤ 50 * 13 := by
                    have h1 := chk_len (chP (pageV items F M) J) (chP (pageV items F M) J).items.length
                    have h2 : (chP (pageV items F M) J).items.length = L0 := by rw [chP_len]; exact HLL.out
                    have h3 : (chP (pageV items F M) J).size.toNat = items.length := rfl
                    rw [h2, h3] at h1
                    have h4 : L0 ≤ 50 := by have := HIL.out; omega
                    exact Nat.le_trans (by unfold checkedV; rw [h2]; exact h1) (Nat.mul_le_mul h4 (by omega))
                  have HSH := hide (shown_app (D := digestedV items) (K := checkedV (chP (pageV items F M) J)) (coll_in (changed_coll HL.out hFn (by rw [HLL.out]; exact hJL) HE0.out)) (by omega) (dig_small (fun x hx => by have := HL.out.lx x hx; omega)) (chk_small (chP_small (fun x hx => page_small HL.out F M x hx) J) (fun q hq x hx => by have := (formed_len hfo).1 q hq; rw [this.2 x hx]; decide)))
                  clear hfo hho hpf
                  apply wp_region_lo3 (C := fun W => Below w15.heap.size w15 W) (V := [some _, some _, some _, some _, some _, some _, some _, none, some _, none, none, some _, some _, some _]) (Fs := [(7, fun a W => ∃ v, a.tmps[147]? = some v ∧ (a.tmps[150]? = some undef → OwnT W w15.heap.size v (digestedV items))), (9, fun a W => ∃ v, a.tmps[149]? = some v ∧ (a.tmps[150]? = some undef → TextsAt W v (checkedV (chP (pageV items F M) J)))), (10, fun a W => ∃ v, a.tmps[150]? = some v ∧ TextsAt W v (digestedV items ++ checkedV (chP (pageV items F M) J)))]) (Ns := [(10, fun a (_ : World) => a.tmps[150]? = some undef)]) (Rel := fun i a0_ a1_ x x' => if i = 10 then (fun b b' x x' => ¬ b'.tmps[150]? = some undef ∧ ∃ r, World.grownBy x x' r ∧ ∀ g, r = some g → w15.heap.size ≤ g) a0_ a1_ x x' else Below x.heap.size x x')
                  case hm => kernel_rfl
                  case hB => kernel_rfl
                  case hCw => exact (Below.refl _ w15).drew
                  case hC =>
                    intro i a a' w_ w' hw hr
                    by_cases e10 : i = 10
                    · subst e10
                      have hr' : (fun b b' x x' => ¬ b'.tmps[150]? = some undef ∧ ∃ r, World.grownBy x x' r ∧ ∀ g, r = some g → w15.heap.size ≤ g) a a' w_ w' := hr
                      obtain ⟨_, r, hg, hv⟩ := hr'
                      exact hw.trans (below_grown hg hw.size hv)
                    have hr' : Below w_.heap.size w_ w' := by simpa [e10] using hr
                    exact below_to hw (Nat.le_refl _) hr'
                  case hst =>
                    refine keeps3_cons (fun i a a' w_ w' hne hwt hs hput hr h => by
                      by_cases e10 : i = 10
                      · subst e10
                        have hr' : (fun b b' x x' => ¬ b'.tmps[150]? = some undef ∧ ∃ r, World.grownBy x x' r ∧ ∀ g, r = some g → w15.heap.size ≤ g) a a' w_ w' := hr
                        obtain ⟨v, h1, _⟩ := h
                        exact ⟨v, (hs 147 (by kernel_rfl)).trans h1, fun e => absurd e hr'.1⟩
                      have hr' : Below w_.heap.size w_ w' := by simpa [e10] using hr
                      obtain ⟨v, h1, h2⟩ := h
                      exact ⟨v, (hs 147 (by kernel_rfl)).trans h1, fun e => own_to4 (h2 ((other_slot (d := 150) (k := 10) (by kernel_rfl) hput e10).symm.trans e)) hr'⟩) ?_
                    refine keeps3_cons (fun i a a' w_ w' hne hwt hs hput hr h => by
                      by_cases e10 : i = 10
                      · subst e10
                        have hr' : (fun b b' x x' => ¬ b'.tmps[150]? = some undef ∧ ∃ r, World.grownBy x x' r ∧ ∀ g, r = some g → w15.heap.size ≤ g) a a' w_ w' := hr
                        obtain ⟨v, h1, _⟩ := h
                        exact ⟨v, (hs 149 (by kernel_rfl)).trans h1, fun e => absurd e hr'.1⟩
                      have hr' : Below w_.heap.size w_ w' := by simpa [e10] using hr
                      obtain ⟨v, h1, h2⟩ := h
                      exact ⟨v, (hs 149 (by kernel_rfl)).trans h1, fun e => (h2 ((other_slot (d := 150) (k := 10) (by kernel_rfl) hput e10).symm.trans e)).to hr'⟩) ?_
                    refine keeps3_cons (fun i a a' w_ w' hne hwt hs hput hr h => by
                      by_cases e10 : i = 10
                      · exact absurd e10 hne
                      have hr' : Below w_.heap.size w_ w' := by simpa [e10] using hr
                      obtain ⟨v, h1, h2⟩ := h
                      exact ⟨v, (hs 150 (by kernel_rfl)).trans h1, h2.to hr'⟩) ?_
                    exact keeps3_nil
                  case hN0 => exact pre0_cons (rfl) (pre0_nil)
                  case hNst =>
                    refine prek_cons3 (fun i a a' w_ w' hne hwt hr h hput => by
                      by_cases e10 : i = 10
                      · exact absurd e10 hne
                      have hr' : Below w_.heap.size w_ w' := by simpa [e10] using hr
                      exact (other_slot (d := 150) (k := 10) (by kernel_rfl) hput e10).trans h) ?_
                    exact prek_nil3
                  case hop =>
                    refine ⟨?_, ?_, ?_, ?_, ?_, ?_, ?_, ?_, ?_, ?_, ?_, ?_, ?_, ?_, trivial⟩
                    · intro a w_ K hw hS hd hN hK
                      have s5 := hS.at 5 (by kernel_rfl) rfl
                      rw [if_pos (want_free rfl)]
                      go_simp
                      exact hK _ _ (Below.refl _ _) (vok rfl) (facts_cons (fun h => absurd h (by decide)) (facts_cons (fun h => absurd h (by decide)) (facts_cons (fun h => absurd h (by decide)) facts_nil)))
                    · intro a w_ K hw hS hd hN hK
                      have s140 := (waits_on hd 0 (by kernel_rfl)).at (d := 140) rfl rfl rfl
                      rw [if_pos (want_free rfl)]
                      go_simp
                      exact hK _ _ (Below.refl _ _) (vok rfl) (facts_cons (fun h => absurd h (by decide)) (facts_cons (fun h => absurd h (by decide)) (facts_cons (fun h => absurd h (by decide)) facts_nil)))
                    · intro a w_ K hw hS hd hN hK
                      have s141 := (waits_on hd 1 (by kernel_rfl)).at (d := 141) rfl rfl rfl
                      have s16 := hS.at 16 (by kernel_rfl) rfl
                      rw [if_pos (want_yes rfl rfl rfl s141)]
                      have x0 := ((HX15.out.to hw).cell 0).trans (show _ = some (Value.int .i64 (pageV items F M).fr) from rfl)
                      have x1 := ((HX15.out.to hw).cell 1).trans (show _ = some (Value.int .i64 (pageV items F M).size) from rfl)
                      have x2 := ((HX15.out.to hw).cell 2).trans (show _ = some (Value.string (bs (pageV items F M).root)) from rfl)
                      have x3 := ((HX15.out.to hw).cell 3).trans (show _ = some (Value.slice (some ⟨g10, 0, none⟩) L0 c10) from rfl)
                      have x4 := ((HX15.out.to hw).cell 4).trans (show _ = some (Value.slice Ap (pageV items F M).paths.length cp) from rfl)
                      go_simp
                      exact hK _ _ (Below.refl _ _) (vok rfl) (facts_cons (fun h => absurd h (by decide)) (facts_cons (fun h => absurd h (by decide)) (facts_cons (fun h => absurd h (by decide)) facts_nil)))
                    · intro a w_ K hw hS hd hN hK
                      have s141 := (waits_on hd 1 (by kernel_rfl)).at (d := 141) rfl rfl rfl
                      have s142 := (waits_on hd 2 (by kernel_rfl)).at (d := 142) rfl rfl rfl
                      rw [if_pos (want_yes rfl rfl rfl s141)]
                      go_simp
                      with_reducible refine (HHD.out w_ hw).mono ?_
                      rintro e w' ⟨rfl, hb⟩
                      exact hK _ _ hb (vok rfl) (facts_cons (fun h => absurd h (by decide)) (facts_cons (fun h => absurd h (by decide)) (facts_cons (fun h => absurd h (by decide)) facts_nil)))
                    · intro a w_ K hw hS hd hN hK
                      have s141 := (waits_on hd 1 (by kernel_rfl)).at (d := 141) rfl rfl rfl
                      have s143 := (waits_on hd 3 (by kernel_rfl)).at (d := 143) rfl rfl rfl
                      rw [if_pos (want_free rfl)]
                      go_simp
                      exact hK _ _ (Below.refl _ _) (vok rfl) (facts_cons (fun h => absurd h (by decide)) (facts_cons (fun h => absurd h (by decide)) (facts_cons (fun h => absurd h (by decide)) facts_nil)))
                    · intro a w_ K hw hS hd hN hK
                      have s144 := (waits_on hd 4 (by kernel_rfl)).at (d := 144) rfl rfl rfl
                      rw [if_pos (want_free rfl)]
                      go_simp
                      exact hK _ _ (Below.refl _ _) (vok rfl) (facts_cons (fun h => absurd h (by decide)) (facts_cons (fun h => absurd h (by decide)) (facts_cons (fun h => absurd h (by decide)) facts_nil)))
                    · intro a w_ K hw hS hd hN hK
                      have s145 := (waits_on hd 5 (by kernel_rfl)).at (d := 145) rfl rfl rfl
                      have s0 := hS.at 0 (by kernel_rfl) rfl
                      rw [if_pos (want_yes rfl rfl rfl s145)]
                      go_simp
                      exact hK _ _ (Below.refl _ _) (vok rfl) (facts_cons (fun h => absurd h (by decide)) (facts_cons (fun h => absurd h (by decide)) (facts_cons (fun h => absurd h (by decide)) facts_nil)))
                    · intro a w_ K hw hS hd hN hK
                      have s145 := (waits_on hd 5 (by kernel_rfl)).at (d := 145) rfl rfl rfl
                      have s146 := (waits_on hd 6 (by kernel_rfl)).at (d := 146) rfl rfl rfl
                      rw [if_pos (want_yes rfl rfl rfl s145)]
                      go_simp
                      refine (HDG.out w_ hw).mono ?_
                      rintro e w' ⟨v7, rfl, ho7, hb7⟩
                      exact hK _ _ hb7 (vfree rfl) (facts_cons (fun _ => ⟨v7, hS.put_at (by kernel_rfl) _, fun _ => own_less ho7 hw.size⟩) (facts_cons (fun h => absurd h (by decide)) (facts_cons (fun h => absurd h (by decide)) facts_nil)))
                    · intro a w_ K hw hS hd hN hK
                      have s145 := (waits_on hd 5 (by kernel_rfl)).at (d := 145) rfl rfl rfl
                      have s16 := hS.at 16 (by kernel_rfl) rfl
                      rw [if_pos (want_yes rfl rfl rfl s145)]
                      have x0 := ((HX15.out.to hw).cell 0).trans (show _ = some (Value.int .i64 (pageV items F M).fr) from rfl)
                      have x1 := ((HX15.out.to hw).cell 1).trans (show _ = some (Value.int .i64 (pageV items F M).size) from rfl)
                      have x2 := ((HX15.out.to hw).cell 2).trans (show _ = some (Value.string (bs (pageV items F M).root)) from rfl)
                      have x3 := ((HX15.out.to hw).cell 3).trans (show _ = some (Value.slice (some ⟨g10, 0, none⟩) L0 c10) from rfl)
                      have x4 := ((HX15.out.to hw).cell 4).trans (show _ = some (Value.slice Ap (pageV items F M).paths.length cp) from rfl)
                      go_simp
                      exact hK _ _ (Below.refl _ _) (vok rfl) (facts_cons (fun h => absurd h (by decide)) (facts_cons (fun h => absurd h (by decide)) (facts_cons (fun h => absurd h (by decide)) facts_nil)))
                    · intro a w_ K hw hS hd hN hK
                      have s145 := (waits_on hd 5 (by kernel_rfl)).at (d := 145) rfl rfl rfl
                      have s148 := (waits_on hd 8 (by kernel_rfl)).at (d := 148) rfl rfl rfl
                      rw [if_pos (want_yes rfl rfl rfl s145)]
                      go_simp
                      refine (HCK.out w_ hw).mono ?_
                      rintro e w' ⟨v7, rfl, ho7, hb7⟩
                      exact hK _ _ hb7 (vfree rfl) (facts_cons (fun h => absurd h (by decide)) (facts_cons (fun _ => ⟨v7, hS.put_at (by kernel_rfl) _, fun _ => TextsAt.of_own ho7⟩) (facts_cons (fun h => absurd h (by decide)) facts_nil)))
                    · intro a w_ K hw hS hd hN hK
                      have s145 := (waits_on hd 5 (by kernel_rfl)).at (d := 145) rfl rfl rfl
                      obtain ⟨v68, s147, f68⟩ := (waits_on hd 7 (by kernel_rfl)).2 _ (List.mem_cons_self ..) rfl
                      obtain ⟨v70, s149, f70⟩ := (waits_on hd 9 (by kernel_rfl)).2 _ (List.mem_cons_of_mem _ (List.mem_cons_self ..)) rfl
                      have hu71 := hN _ (List.mem_cons_self ..) rfl
                      rw [if_pos (want_yes rfl rfl rfl s145)]
                      refine wp_append_texts (.tmp 147) (.tmp 149) rfl w15.heap.size v68 (digestedV items) (eval_at s147) (f68 hu71) v70 (checkedV (chP (pageV items F M) J)) (eval_at s149) (f70 hu71) (by omega) hw.size ?_
                      intro v8 w' ho hg hne
                      have hp71 := hS.put_at (s := 150) (by kernel_rfl) v8
                      exact hK v8 w' ⟨fun e => hne (Option.some.inj (hp71.symm.trans e)), _, hg, fun g e => (own_blk_lt (f68 hu71) g e).1⟩ (vfree rfl) (facts_cons (fun h => absurd h (by decide)) (facts_cons (fun h => absurd h (by decide)) (facts_cons (fun _ => ⟨v8, hp71, TextsAt.of_own ho⟩) facts_nil)))
                    · intro a w_ K hw hS hd hN hK
                      have s145 := (waits_on hd 5 (by kernel_rfl)).at (d := 145) rfl rfl rfl
                      obtain ⟨v71, s150, t71⟩ := (waits_on hd 10 (by kernel_rfl)).2 _ (List.mem_cons_of_mem _ (List.mem_cons_of_mem _ (List.mem_cons_self ..))) rfl
                      rw [if_pos (want_yes rfl rfl rfl s145)]
                      go_simp
                      with_reducible refine (HSH.out w_ v71 t71).mono ?_
                      rintro e w' ⟨rfl, hb⟩
                      exact hK _ _ hb (vok rfl) (facts_cons (fun h => absurd h (by decide)) (facts_cons (fun h => absurd h (by decide)) (facts_cons (fun h => absurd h (by decide)) facts_nil)))
                    · intro a w_ K hw hS hd hN hK
                      have s145 := (waits_on hd 5 (by kernel_rfl)).at (d := 145) rfl rfl rfl
                      have s151 := (waits_on hd 11 (by kernel_rfl)).at (d := 151) rfl rfl rfl
                      rw [if_pos (want_free rfl)]
                      go_simp
                      exact hK _ _ (Below.refl _ _) (vok rfl) (facts_cons (fun h => absurd h (by decide)) (facts_cons (fun h => absurd h (by decide)) (facts_cons (fun h => absurd h (by decide)) facts_nil)))
                    · intro a w_ K hw hS hd hN hK
                      have s152 := (waits_on hd 12 (by kernel_rfl)).at (d := 152) rfl rfl rfl
                      rw [if_pos (want_free rfl)]
                      go_simp
                      exact hK _ _ (Below.refl _ _) (vok rfl) (facts_cons (fun h => absurd h (by decide)) (facts_cons (fun h => absurd h (by decide)) (facts_cons (fun h => absurd h (by decide)) facts_nil)))
                  case hfin =>
                    intro a w20 hw hS hk
                    have s140 := (hk 0 (by decide)).at (d := 140) rfl rfl rfl
                    have s141 := (hk 1 (by decide)).at (d := 141) rfl rfl rfl
                    have s142 := (hk 2 (by decide)).at (d := 142) rfl rfl rfl
                    have s143 := (hk 3 (by decide)).at (d := 143) rfl rfl rfl
                    have s144 := (hk 4 (by decide)).at (d := 144) rfl rfl rfl
                    have s145 := (hk 5 (by decide)).at (d := 145) rfl rfl rfl
                    have s146 := (hk 6 (by decide)).at (d := 146) rfl rfl rfl
                    obtain ⟨v68, s147, f68⟩ := (hk 7 (by decide)).2 _ (List.mem_cons_self ..) rfl
                    have s148 := (hk 8 (by decide)).at (d := 148) rfl rfl rfl
                    obtain ⟨v70, s149, f70⟩ := (hk 9 (by decide)).2 _ (List.mem_cons_of_mem _ (List.mem_cons_self ..)) rfl
                    obtain ⟨v71, s150, t71⟩ := (hk 10 (by decide)).2 _ (List.mem_cons_of_mem _ (List.mem_cons_of_mem _ (List.mem_cons_self ..))) rfl
                    have s151 := (hk 11 (by decide)).at (d := 151) rfl rfl rfl
                    have s152 := (hk 12 (by decide)).at (d := 152) rfl rfl rfl
                    have s4 := (hk 13 (by decide)).at (d := 4) rfl rfl rfl
                    have hlit := hS.lit _ (by kernel_rfl) (lits_cons s140 (lits_cons s141 (lits_cons s142 (lits_cons s143 (lits_cons s144 (lits_cons s145 (lits_cons s146 (lits_cons s147 (lits_cons s148 (lits_cons s149 (lits_cons s150 (lits_cons s151 (lits_cons s152 (lits_cons s4 lits_nil))))))))))))))
                    rw [hlit]
                    have HF9 := hide (below_to HB15.out (Nat.le_refl _) hw)
                    clear hlit hk hS f68 f70 t71 hw
                    simp only [litT, List.setIfInBounds_toArray, List.set_cons_succ, List.set_cons_zero]
                    go_wp2_with fail
                    go_ret
                    exact ⟨rfl, HF9.out⟩
                · obtain ⟨E, hE⟩ : ∃ E, accE (chP (pageV items F M) J) (rootL items) items.length (items.take k) = E := ⟨_, rfl⟩
                  rw [hE] at CA hE0
                  have HE0 := hide hE0
                  have g1 : (E != 0) = true := by simpa using hE0
                  clear hE hE0
                  unfold chP Pg.cs at CA
                  go_wp2_with fail
                  with_reducible refine CA.mono ?_
                  rintro e w15 ⟨v15, rfl, hS, _⟩
                  have H15 := hide (hS HE0.out)
                  clear hS CA H14 HX14 HB14 HT14 HTP x0 x1 x2 x3 x4
                  go_wp2_with fail
                  rw [← HK.out] at H15 HWR
                  refine ⟨⟨q + 1, wrt, jb, cb, ab, vr, v15, ss, ps, L, rfl, rfl, rfl, by go_num, by omega, rfl, HWR.out, H15.out, HOK.out, HPL.out⟩, ?_⟩
                  simp [intOf]; omega
            · rw [decide_eq_false (p := xc % 5 = 0 ∧ 0 < L0) hch] at e18
              clear hch
              subst e18
              as_aux_lemma =>
                have C7 := H7.out.next HL.out
                go_wp2_with fail
                refine C7.mono ?_
                rintro e w8 ⟨rfl, hb⟩
                have H8 := hide (H7.out.to hb)
                have HP8 := hide (HP7.out.to hb)
                have HX8 := hide (HX7.out.to hb)
                have HY8 := hide (HY7.out.to hb)
                clear hb C7 H7 HP7 HX7 HY7 x3 y2 HB7
                have x0 := (HX8.out.cell 0).trans (show _ = some (Value.int .i64 (pageV items F M).fr) from rfl)
                have x1 := (HX8.out.cell 1).trans (show _ = some (Value.int .i64 (pageV items F M).size) from rfl)
                have x2 := (HX8.out.cell 2).trans (show _ = some (Value.string (bs (pageV items F M).root)) from rfl)
                have x3 := (HX8.out.cell 3).trans (show _ = some (Value.slice Ai L0 ci) from rfl)
                have x4 := (HX8.out.cell 4).trans (show _ = some (Value.slice Ap (pageV items F M).paths.length cp) from rfl)
                have CA := H8.out.accept HL.out HG.out hFn hM2 HP8.out hcb hvl.out
                unfold Pg.cs at CA
                go_wp2_with fail
                by_cases hkF : k < F
                · rw [if_pos hkF, if_pos hkF] at CA
                  refine CA.mono ?_
                  rintro e w9 ⟨v9, rfl, hI, hT⟩
                  rw [← HK.out] at hI HWR
                  have H9 := hide hI
                  clear hI hT CA H8 HP8 HX8 HY8 x0 x1 x2 x3 x4
                  go_wp2_with fail
                  refine ⟨⟨q + 1, wrt, jb, cb, ab, vr, v9, ss, ps, L, rfl, rfl, rfl, by go_num, by omega, rfl, HWR.out, H9.out, HOK.out, HPL.out⟩, ?_⟩
                  simp [intOf]; omega
                · rw [if_neg hkF, if_neg hkF] at CA
                  obtain ⟨k', hk'⟩ : ∃ k', max k (min (F + M) items.length) = k' := ⟨_, rfl⟩
                  rw [hk'] at CA
                  have HK' := hide hk'
                  have hkk1 : k ≤ k' := by omega
                  clear hk'
                  refine CA.mono ?_
                  rintro e w9 ⟨v9, rfl, hI, hT⟩
                  have H9 := hide hI
                  have HP9 := hide (HP8.out.two hT (.inl hcb) (.inl hrow))
                  have HX9 := hide (hT.blk HX8.out (by omega) (by omega))
                  have HY9 := hide (hT.blk HY8.out (fun e => by have := hyc; omega) (fun e => by have := hyr; omega))
                  clear hI hT CA H8 HP8 HX8 HY8 x0 x1 x2 x3 x4
                  go_wp2_with fail
                  refine (H9.out.next HL.out).mono ?_
                  rintro e w10 ⟨rfl, hb⟩
                  have H10 := hide (H9.out.to hb)
                  have HP10 := hide (HP9.out.to hb)
                  have HX10 := hide (HX9.out.to hb)
                  have HY10 := hide (HY9.out.to hb)
                  clear hb H9 HP9 HX9 HY9
                  by_cases hkk : k' = k
                  · subst hkk
                    have f1 : ((k' : Int) == (k' : Int)) = true := by simp
                    rw [← HK.out] at HWR
                    have H10' : Hid (LwS w 600 items b sb ab jb cb vr v9 ss ps (recsT items L) (repK items.length L 0) none w10) := by rw [HK.out]; exact H10
                    clear H10 HP10 HX10 HY10
                    go_wp2_with fail
                    refine ⟨⟨q + 1, wrt, jb, cb, ab, vr, v9, ss, ps, L, rfl, rfl, rfl, by go_num, by omega, rfl, HWR.out, H10'.out, HOK.out, HPL.out⟩, ?_⟩
                    simp [intOf]; omega
                  · have f1 : ((k' : Int) == (k : Int)) = false := by rw [beq_eq_false_iff_ne]; omega
                    have f1' : ¬ (k' : Int) = (k : Int) := by omega
                    have x0 := (HX10.out.cell 0).trans (show _ = some (Value.int .i64 (pageV items F M).fr) from rfl)
                    have x1 := (HX10.out.cell 1).trans (show _ = some (Value.int .i64 (pageV items F M).size) from rfl)
                    have x2 := (HX10.out.cell 2).trans (show _ = some (Value.string (bs (pageV items F M).root)) from rfl)
                    have x3 := (HX10.out.cell 3).trans (show _ = some (Value.slice Ai L0 ci) from rfl)
                    have x4 := (HX10.out.cell 4).trans (show _ = some (Value.slice Ap (pageV items F M).paths.length cp) from rfl)
                    have C10 := Text_any (pageV items F M) (page_fit HL.out hFn hM2) _ _ w10 (H10.out.glob HG.out) HP10.out.ti HP10.out.tp
                    unfold Pg.cs at C10
                    rw [(text_page HL.out hFn hM2).1, (text_page HL.out hFn hM2).2] at C10
                    have htl := pgT_len HL.out (s := (F, M)) hFn hM4
                    have HLS : Hid (repOK items.length (L ++ [(F, M)]) 0) := repOK_snoc _ L 0 (F, M) HOK.out (by rw [HK.out, HK'.out]; exact ⟨by omega, hFn, hM4, by omega⟩)
                    have HKS : Hid (repK items.length (L ++ [(F, M)]) 0 = k') := by show _ = _; rw [repK_snoc, HK.out]; exact HK'.out
                    have hLk : L.length ≤ k := by have := rep_len _ L 0 HOK.out; rw [HK.out] at this; omega
                    have hrl : (recsT items L).length ≤ 1000 := by unfold recsT; rw [List.length_map]; omega
                    have hkn' := H10.out.kl
                    have hpc := (pieces_60 htl).1
                    have hfit : 2 + ps.length + (splitV (joinD [pgT items (F, M)])).length ≤ 600 := by have := HPL.out; omega
                    have HPS : Hid ((ps ++ splitV (joinD [pgT items (F, M)])).length ≤ 60 * (L ++ [(F, M)]).length) := by show _ ≤ _; have := HPL.out; rw [List.length_append, List.length_append, List.length_singleton]; omega
                    have HRS := hide (recsT_snoc items L (F, M))
                    generalize htt : pgT items (F, M) = t at *
                    have HTT := hide htt
                    clear htt
                    go_wp2_with fail
                    refine C10.mono ?_
                    rintro e w11 ⟨rfl, hb⟩
                    have H11 := hide (H10.out.to hb)
                    have HY11 := hide (HY10.out.to hb)
                    clear hb C10 H10 HP10 HX10 HY10 x0 x1 x2 x3 x4
                    have y3 := (HY11.out.cell 3).trans (show _ = some (Value.int .i64 xa) from rfl)
                    have y4 := (HY11.out.cell 4).trans (show _ = some (Value.int .i64 xn) from rfl)
                    have y5 := (HY11.out.cell 5).trans (show _ = some (Value.int .i64 xb) from rfl)
                    have C11 := H11.out.armed xa xn xb hxa
                    generalize (if 0 ≤ xa then some (xa, xn, xb) else none) = m at C11
                    go_wp2_with fail
                    refine C11.mono ?_
                    rintro e w12 ⟨rfl, ab2, hS⟩
                    have H12 := hide hS
                    clear hS C11 H11 HY11 y3 y4 y5
                    have C12 := H12.out.append1 HG.out t htl hrl hfit
                    go_upto_region 32 with fail
                    go_cut [23, 150] (fun z23 z150 wx => ∃ code : Int, z23 = .int .i64 code ∧ z150 = undef ∧ Aside (AfterA w items b sb ab2 jb cb v9 ps (recsT items L) t k' code wx))
                    case first =>
                      as_aux_lemma =>
                        go_wp2_with fail
                        refine C12.mono ?_
                        rintro e w13 h13
                        rcases h13 with ⟨rfl, vr13, ss13, m13, hS, _⟩ | ⟨rfl, _, ss13, hF, _⟩
                        · go_wp2_with fail
                          go_meet
                          exact ⟨0, rfl, rfl, .inl ⟨rfl, _, _, _, hS⟩⟩
                        · go_wp2_with fail
                          go_meet
                          exact ⟨21, rfl, rfl, .inr ⟨rfl, _, hF⟩⟩
                    case rest =>
                      as_aux_lemma =>
                        obtain ⟨code, rfl, rfl, hA⟩ := hcut
                        have HA13 : Hid (AfterA w items b sb ab2 jb cb v9 ps (recsT items L) t k' code wc) := hA
                        clear hA C12 H12
                        generalize wc = w13 at *
                        go_wp2_with fail
                        refine (HA13.out.next HL.out).mono ?_
                        rintro e w14 ⟨rfl, hb⟩
                        have HA14 := hide (HA13.out.to hb)
                        clear hb HA13
                        go_upto_region 34 with fail
                        go_cut [150, 185] (fun z150 z185 wx => z150 = undef ∧ z185 = .bool false ∧ w14 = wx)
                        case first =>
                          as_aux_lemma =>
                            rcases HA14.out with ⟨hcd, _⟩ | ⟨hcd, _⟩
                            · subst hcd
                              go_wp2_with fail
                              go_meet
                              exact ⟨rfl, rfl, rfl⟩
                            · subst hcd
                              go_wp2_with fail
                              go_meet
                              exact ⟨rfl, rfl, rfl⟩
                        case rest =>
                          as_aux_lemma =>
                            obtain ⟨rfl, rfl, e9⟩ := hcut
                            subst e9
                            go_upto_if 187 with fail
                            go_cut [9, 10, 11, 12, 150] (fun z9 z10 z11 z12 z150 wx => ∃ (K2 jb2 cb2 ab9 : Nat) (vr2 vc2 : Value) (ss2 ps2 : List (List UInt8)) (L2 : List (Nat × Nat)), z9 = .pointer (some ⟨jb2, 0, none⟩) ∧ z10 = .pointer (some ⟨cb2, 0, none⟩) ∧ z12 = .int .i64 (K2 : Int) ∧ z150 = undef ∧ repK items.length L2 0 = K2 ∧ Aside (MS w items b sb ab9 jb2 cb2 vr2 vc2 ss2 ps2 L2 wx))
                            case first =>
                              as_aux_lemma =>
                                rcases HA14.out with ⟨hcd, vr13, ss13, m13, hS⟩ | ⟨hcd, ss13, hF⟩
                                · subst hcd
                                  have H14 := hide hS
                                  clear hS HA14
                                  go_wp2_with fail
                                  have C14 := H14.out.armed (-1) 0 0 (by decide)
                                  rw [if_neg (by decide)] at C14
                                  refine C14.mono ?_
                                  rintro e w15 ⟨rfl, ab3, hS⟩
                                  have H15 : Hid (LwS w 600 items b sb ab3 jb cb vr13 v9 ss13 (ps ++ splitV (joinD [t])) (recsT items (L ++ [(F, M)])) (repK items.length (L ++ [(F, M)]) 0) none w15) := by rw [HKS.out, HRS.out]; exact hS
                                  clear hS C14 H14
                                  go_wp2_with fail
                                  go_meet
                                  exact ⟨k', jb, cb, ab3, vr13, v9, ss13, _, L ++ [(F, M)], rfl, rfl, rfl, rfl, HKS.out, H15.out, HLS.out, HPS.out⟩
                                · subst hcd
                                  have H14 := hide hF
                                  clear hF HA14
                                  go_wp2_with fail
                                  refine H14.out.start.mono ?_
                                  rintro e w15 ⟨rfl, hF⟩
                                  have H15 : Hid (LwF w 600 items b sb ab2 cb v9 ss13 ps (splitV (joinD [t])) (recsT items L) t k' false w15) := hF
                                  clear hF H14
                                  have C15 : Calls Tryz.prog 8 #[dkP b, .string (bs (rootL items)), .int .i64 (items.length : Int)] w15 fun e W' =>
                                    ∃ jb cb vr vc ss' ps' L', e = .returned (.tuple #[.pointer (some ⟨jb, 0, none⟩), .pointer (some ⟨cb, 0, none⟩), .bool true]) ∧ (L' = L ∧ ps' = ps ∨ L' = L ++ [(F, M)] ∧ ps' = ps ++ splitV (joinD [t])) ∧ LwS w 600 items b sb ab2 jb cb vr vc ss' ps' (recsT items L') (repK items.length L' 0) none W' := by
                                    have := H15.out
                                    rw [← HTT.out] at this ⊢
                                    exact reopen_or HL.out HG.out HOK.out HLS.out (by decide) this
                                  unfold dkP at C15
                                  go_wp2_with fail
                                  refine C15.mono ?_
                                  rintro e w16 ⟨jb2, cb2, vr2, vc2, ss2, ps2, L2, rfl, hor, hS⟩
                                  have H16 := hide hS
                                  have HOR : Hid (repOK items.length L2 0 ∧ ps2.length ≤ 60 * L2.length ∧ (repK items.length L2 0 = k ∨ repK items.length L2 0 = k')) := by
                                    rcases hor with ⟨rfl, rfl⟩ | ⟨rfl, rfl⟩
                                    · exact ⟨HOK.out, HPL.out, .inl HK.out⟩
                                    · exact ⟨HLS.out, HPS.out, .inr HKS.out⟩
                                  obtain ⟨K2, hK2⟩ : ∃ K2, repK items.length L2 0 = K2 := ⟨_, rfl⟩
                                  rw [hK2] at H16 HOR
                                  have HK2 := hide hK2
                                  clear hor hS C15 H15 hK2
                                  go_wp2_with fail
                                  refine (H16.out.next HL.out).mono ?_
                                  rintro e w17 ⟨rfl, hb⟩
                                  have H17 := hide (H16.out.to hb)
                                  clear hb H16
                                  have m3 : max (wrt : Int) (K2 : Int) = (K2 : Int) := by have h1 := HOR.out.2.2; have h2 := HWR.out; omega
                                  by_cases hKk : K2 = k
                                  · have g1 : ((K2 : Int) != (k : Int)) = false := by simp [hKk]
                                    clear hKk
                                    go_wp2_with fail
                                    refine (H17.out.next HL.out).mono ?_
                                    rintro e w18 ⟨rfl, hb⟩
                                    have H18 : Hid (LwS w 600 items b sb ab2 jb2 cb2 vr2 vc2 ss2 ps2 (recsT items L2) (repK items.length L2 0) none w18) := by rw [HK2.out]; exact H17.out.to hb
                                    clear hb H17 g1
                                    go_wp2_with fail
                                    go_meet
                                    exact ⟨K2, jb2, cb2, ab2, vr2, vc2, ss2, ps2, L2, rfl, rfl, rfl, rfl, HK2.out, H18.out, HOR.out.1, HOR.out.2.1⟩
                                  · have hKk2 : K2 = k' := by have := HOR.out.2.2; omega
                                    have g1 : ((K2 : Int) != (k : Int)) = true := by rw [bne_iff_ne]; omega
                                    have g2 : ((K2 : Int) != (k' : Int)) = false := by simp [hKk2]
                                    clear hKk hKk2
                                    go_wp2_with fail
                                    refine (H17.out.next HL.out).mono ?_
                                    rintro e w17b ⟨rfl, hb⟩
                                    have H17b := hide (H17.out.to hb)
                                    clear hb H17
                                    go_wp2_with fail
                                    refine (H17b.out.next HL.out).mono ?_
                                    rintro e w18 ⟨rfl, hb⟩
                                    have H18 : Hid (LwS w 600 items b sb ab2 jb2 cb2 vr2 vc2 ss2 ps2 (recsT items L2) (repK items.length L2 0) none w18) := by rw [HK2.out]; exact H17b.out.to hb
                                    clear hb H17b g1 g2
                                    go_wp2_with fail
                                    go_meet
                                    exact ⟨K2, jb2, cb2, ab2, vr2, vc2, ss2, ps2, L2, rfl, rfl, rfl, rfl, HK2.out, H18.out, HOR.out.1, HOR.out.2.1⟩
                            case rest =>
                              as_aux_lemma =>
                                obtain ⟨K2, jb2, cb2, ab9, vr2, vc2, ss2, ps2, L2, rfl, rfl, rfl, rfl, hK2, hM⟩ := hcut
                                have HM15 : Hid (MS w items b sb ab9 jb2 cb2 vr2 vc2 ss2 ps2 L2 wc) := hM
                                have HK2 := hide hK2
                                have H15 : Hid (LwS w 600 items b sb ab9 jb2 cb2 vr2 vc2 ss2 ps2 (recsT items L2) K2 none wc) := by
                                  have := HM15.out.lw
                                  rwa [hK2] at this
                                clear hM hK2 HA14
                                generalize wc = w15 at *
                                go_wp2_with fail
                                refine (H15.out.next HL.out).mono ?_
                                rintro e w16 ⟨rfl, hb⟩
                                have T16 := hide (H15.out.to hb)
                                have t1 : decide ((K2 : Int) < (K2 : Int)) = false := decide_eq_false (by have := Nat.le_refl K2; omega)
                                have t1' : decide (K2 < K2) = false := decide_eq_false (by have := Nat.le_refl K2; omega)
                                have t2 : decide ((items.length : Int) < (K2 : Int)) = false := decide_eq_false (by have := H15.out.kl; omega)
                                have t2' : decide (items.length < K2) = false := decide_eq_false (by have := H15.out.kl; omega)
                                have t3 : (0 : Int) ≤ (K2 : Int) := by omega
                                have t4 : (K2 : Int) ≤ (c : Int) := by have := H15.out.kl; omega
                                have t5 : K2 ≤ c := by have := H15.out.kl; omega
                                clear hb H15
                                go_wp2_with fail
                                refine (T16.out.next HL.out).mono ?_
                                rintro e w17 ⟨rfl, hb⟩
                                have T17 := hide (T16.out.to hb)
                                clear hb T16
                                go_wp2_with fail
                                have CI := T17.out.its HL.out
                                unfold ItemsR at CI
                                refine CI.mono ?_
                                rintro e w18 ⟨vI, rfl, ho, hb⟩
                                have T18 := hide (T17.out.to hb)
                                have HOI := hide ho
                                clear hb CI T17 ho
                                go_wp2_with fail
                                refine (T18.out.next HL.out).mono ?_
                                rintro e w19 ⟨rfl, hb⟩
                                have T19 := hide (T18.out.to hb)
                                have HOJ := hide (own_to4 HOI.out hb)
                                clear hb T18 HOI
                                have CS := Same_any (items.take K2) (items.take K2) (by rw [List.length_take]; omega) (by rw [List.length_take]; omega) vI (.slice A K2 c) w19 (TextsAt.of_own HOJ.out) ((HS.out.to T19.out.bel).take T19.out.kl c t5)
                                rw [decide_eq_true rfl] at CS
                                go_wp2_with fail
                                refine CS.mono ?_
                                rintro e w20 ⟨rfl, hb⟩
                                have T20 := hide (T19.out.to hb)
                                clear hb CS T19 HOJ t1 t1' t2 t2'
                                go_wp2_with fail
                                have H20 : Hid (LwS w 600 items b sb ab9 jb2 cb2 vr2 vc2 ss2 ps2 (recsT items L2) (repK items.length L2 0) none w20) := by rw [HK2.out]; exact T20
                                refine ⟨⟨q + 1, K2, jb2, cb2, ab9, vr2, vc2, ss2, ps2, L2, rfl, rfl, rfl, by go_num, by omega, rfl, Nat.le_of_eq HK2.out.symm, H20.out, HM15.out.ok, HM15.out.pl⟩, ?_⟩
                                simp [intOf]; omega
      · as_aux_lemma =>
          have e1 : decide ((q : Int) < (sts.length : Int)) = false := decide_eq_false (by omega)
          have e1' : decide (q < sts.length) = false := decide_eq_false hlt
          clear HWR hlt
          generalize wr = w20 at *
          go_wp2_with fail
          go_loopg [] (items.length - repK items.length L 0) (fun g wx => ∃ (vr2 vc2 : Value) (ss2 ps2 : List (List UInt8)) (L2 : List (Nat × Nat)), items.length - repK items.length L2 0 = g ∧ Aside (MS w items b sb ab jb cb vr2 vc2 ss2 ps2 L2 wx))
          case atStart => exact ⟨vr, vc, ss, ps, L, rfl, HM.out⟩
          case round =>
            clear HM
            obtain ⟨vr2, vc2, ss2, ps2, L2, hg2, hM⟩ := hrel
            have HM2 : Hid (MS w items b sb ab jb cb vr2 vc2 ss2 ps2 L2 wr) := hM
            obtain ⟨k, hk⟩ : ∃ k, repK items.length L2 0 = k := ⟨_, rfl⟩
            have HK := hide hk
            rw [hk] at hg2
            have HGK := hide hg2
            have H20 : Hid (LwS w 600 items b sb ab jb cb vr2 vc2 ss2 ps2 (recsT items L2) k none wr) := by rw [← HK.out]; exact HM2.out.lw
            have HOK := hide HM2.out.ok
            have HPL := hide HM2.out.pl
            have hkn := H20.out.kl
            clear hM hk hg2 HM2
            go_wp2_with fail
            refine (H20.out.next HL.out).mono ?_
            rintro e w21 ⟨rfl, hb⟩
            have H21 := hide (H20.out.to hb)
            clear hb H20
            by_cases hks : k < items.length
            · have f1 : decide ((k : Int) < (items.length : Int)) = true := decide_eq_true (by omega)
              have f1' : decide (k < items.length) = true := decide_eq_true hks
              go_wp2_with fail
              refine (H21.out.next HL.out).mono ?_
              rintro e w22 ⟨rfl, hb⟩
              have H22 := hide (H21.out.to hb)
              clear hb H21 f1 f1'
              go_wp2_with fail
              have C5 := Serve_yes items HL.out.big.1 HL.out.big.2 k 3 (serve_yes HL.out hkn (by decide) (by decide)) (.slice A items.length c) w22 (HG.out.to H22.out.bel) (HS.out.to H22.out.bel)
              unfold ServeR at C5
              refine C5.mono ?_
              rintro e w23 ⟨vi, vp, rfl, hpg, hb⟩
              have H23 := hide (H22.out.to hb)
              have HP23 := hide hpg
              have hlo : cb < w22.heap.size := H22.out.c.blk.lt
              have hvl := hide (fun g e => (H22.out.clt g e).2)
              have hpf := page_fit HL.out (F := k) (M := 3) hkn (by decide)
              obtain ⟨tx1, tx2⟩ := text_page HL.out (F := k) (M := 3) hkn (by decide)
              have HPF := hide hpf
              have HTX1 := hide tx1
              have HTX2 := hide tx2
              obtain ⟨Ai, ci, rfl, _⟩ := hpg.ti.slice
              obtain ⟨Ap, cp, rfl, _⟩ := hpg.tp.slice
              clear hb hpg C5 H22 hpf tx1 tx2
              have hb6 := below_one w23 (.cells ((pageV items k 3).cs (.slice Ai (pageV items k 3).items.length ci) (.slice Ap (pageV items k 3).paths.length cp)) 38)
              have HX24 := hide (Blk.new w23 38 ((pageV items k 3).cs (.slice Ai (pageV items k 3).items.length ci) (.slice Ap (pageV items k 3).paths.length cp)))
              have H24 := hide (H23.out.to hb6)
              have HP24 := hide (HP23.out.to hb6)
              clear H23 HP23 hb6
              unfold Pg.cs at HX24 H24 HP24 ⊢
              go_wp2_with fail
              generalize w23.alloc (.cells #[.int .i64 (pageV items k 3).fr, .int .i64 (pageV items k 3).size, .string (bs (pageV items k 3).root), .slice Ai (pageV items k 3).items.length ci, .slice Ap (pageV items k 3).paths.length cp] 38) = w24 at *
              obtain ⟨x0, x1, x2, x3, x4⟩ := page_cells (p := pageV items k 3) HX24.out
              have C6 := Text_any (pageV items k 3) HPF.out _ _ w24 (H24.out.glob HG.out) HP24.out.ti HP24.out.tp
              unfold Pg.cs at C6
              rw [HTX1.out, HTX2.out] at C6
              obtain ⟨k', hk'⟩ : ∃ k', max k (min (k + 3) items.length) = k' := ⟨_, rfl⟩
              have HK' := hide hk'
              have hkk : k < k' := by omega
              have hkn' : k' ≤ items.length := by omega
              clear hk'
              have htl := pgT_len HL.out (s := (k, 3)) hkn (show 3 ≤ 4 by decide)
              have HLS : Hid (repOK items.length (L2 ++ [(k, 3)]) 0) := repOK_snoc _ L2 0 (k, 3) HOK.out (by rw [HK.out, HK'.out]; exact ⟨Nat.le_refl _, hkn, (show 3 ≤ 4 by decide), hkk⟩)
              have HKS : Hid (repK items.length (L2 ++ [(k, 3)]) 0 = k') := by show _ = _; rw [repK_snoc, HK.out]; exact HK'.out
              have hLk : L2.length ≤ k := by have := rep_len _ L2 0 HOK.out; rw [HK.out] at this; omega
              have hrl : (recsT items L2).length ≤ 1000 := by unfold recsT; rw [List.length_map]; omega
              have hpc := (pieces_60 htl).1
              have hfit : 2 + ps2.length + (splitV (joinD [pgT items (k, 3)])).length ≤ 600 := by have := HPL.out; omega
              have HPS : Hid ((ps2 ++ splitV (joinD [pgT items (k, 3)])).length ≤ 60 * (L2 ++ [(k, 3)]).length) := by show _ ≤ _; have := HPL.out; rw [List.length_append, List.length_append, List.length_singleton]; omega
              have HRS := hide (recsT_snoc items L2 (k, 3))
              generalize htt : pgT items (k, 3) = t at *
              clear htt
              go_wp2_with fail
              refine C6.mono ?_
              rintro e w25 ⟨rfl, hb⟩
              have H25 := hide (H24.out.to hb)
              have HP25 := hide (HP24.out.to hb)
              have HX25 := hide (HX24.out.to hb)
              clear hb C6 H24 HP24 HX24 x0 x1 x2 x3 x4
              obtain ⟨x0, x1, x2, x3, x4⟩ := page_cells (p := pageV items k 3) HX25.out
              have C7 := H25.out.accept HL.out HG.out (F := k) (M := 3) hkn (by decide) HP25.out hlo hvl.out
              rw [if_neg (Nat.lt_irrefl k), if_neg (Nat.lt_irrefl k), HK'.out] at C7
              unfold Pg.cs at C7
              go_wp2_with fail
              refine C7.mono ?_
              rintro e w26 ⟨v26, rfl, hS, hT⟩
              have H26 := hide hS
              clear hS hT C7 H25 HP25 HX25 x0 x1 x2 x3 x4
              have C8 := H26.out.append1 HG.out t htl hrl hfit
              go_wp2_with fail
              refine C8.mono ?_
              rintro e w27 h9
              rcases h9 with ⟨rfl, vr9, ss9, m9, hS, hm, _⟩ | ⟨_, hm, _⟩
              case inr => exact absurd rfl hm
              obtain rfl := hm trivial
              have H27 := hide hS
              clear hS hm C8 H26
              go_wp2_with fail
              refine (H27.out.next HL.out).mono ?_
              rintro e w28 ⟨rfl, hb⟩
              have H28 : Hid (LwS w 600 items b sb ab jb cb vr9 v26 ss9 (ps2 ++ splitV (joinD [t])) (recsT items (L2 ++ [(k, 3)])) (repK items.length (L2 ++ [(k, 3)]) 0) none w28) := by rw [HRS.out, HKS.out]; exact H27.out.to hb
              have f2 : decide ((k' : Int) ≤ (k : Int)) = false := decide_eq_false (by omega)
              have f2' : decide (k' ≤ k) = false := decide_eq_false (by omega)
              clear hb H27
              go_wp2_with fail
              go_roundg (items.length - k')
              case measure => have := HGK.out; omega
              case rel => exact ⟨vr9, v26, ss9, _, L2 ++ [(k, 3)], by rw [HKS.out], H28.out, HLS.out, HPS.out⟩
            · have f1 : decide ((k : Int) < (items.length : Int)) = false := decide_eq_false (by omega)
              have f1' : decide (k < items.length) = false := decide_eq_false hks
              go_wp2_with fail
              have C9 := reopen_lw HL.out HG.out b sb ab 600 ps2 ss2 L2 HOK.out H21.out.jd.rd H21.out.fl (by decide) w21 H21.out.bel H21.out.sbw H21.out.abl H21.out.dk
              unfold dkP at C9
              refine C9.mono ?_
              rintro e w22 ⟨jb2, cb2, vr3, vc3, rfl, hS⟩
              have H22 : Hid (LwS w 600 items b sb ab jb2 cb2 vr3 vc3 (fixA ps2.length ss2) ps2 (recsT items L2) k none w22) := by rw [← HK.out]; exact hS
              clear hS C9 H21
              go_wp2_with fail
              have CI := H22.out.its HL.out
              unfold ItemsR at CI
              refine CI.mono ?_
              rintro e w23 ⟨vI, rfl, ho, hb⟩
              have HB23 := hide (below_to H22.out.bel (Nat.le_refl _) hb)
              have HO23 := hide ho
              clear ho hb CI H22
              have CS := Same_any (items.take k) items (by rw [List.length_take]; omega) (by omega) vI (.slice A items.length c) w23 (TextsAt.of_own HO23.out) (HS.out.to HB23.out)
              rw [decide_eq_true (List.take_of_length_le (by omega))] at CS
              go_wp2_with fail
              refine CS.mono ?_
              rintro e w24 ⟨rfl, hb⟩
              have HB24 := hide (below_to HB23.out (Nat.le_refl _) hb)
              clear hb CS
              go_wp2_with fail
              go_ret
              exact ⟨rfl, HB24.out⟩
  · clear hsn hn
    by_cases h8 : items.length ≤ 8
    · have e0 : decide ((8 : Int) < (items.length : Int)) = false := decide_eq_false (by omega)
      have e0' : decide (8 < items.length) = false := decide_eq_false (by omega)
      by_cases hf : fewT items 40 = true
      · rw [hf] at CF
        have h12 : 12 < sts.length := by
          by_cases h : sts.length ≤ 12
          · exact absurd ⟨⟨h8, hf⟩, h⟩ hok
          · omega
        have e0s : decide ((12 : Int) < (sts.length : Int)) = true := decide_eq_true (by omega)
        have e0s' : decide (12 < sts.length) = true := decide_eq_true h12
        clear hf hok h12
        go_enter Tryz.func3, Tryz.ntmps3
        go_wp2_with fail
        refine C1.mono ?_
        rintro e w1 ⟨rfl, hb⟩
        have HB1 := hide hb
        have CF := CF w1 hb
        clear hb C1
        go_wp2_with ((with_reducible refine CF.mono ?_); rintro e w3 ⟨rfl, e9⟩; have e9 := e9.symm; subst e9)
        go_ret
        exact ⟨rfl, HB1.out⟩
      · rw [Bool.eq_false_iff.2 hf] at CF
        clear hf hok
        go_enter Tryz.func3, Tryz.ntmps3
        go_wp2_with fail
        refine C1.mono ?_
        rintro e w1 ⟨rfl, hb⟩
        have HB1 := hide hb
        have CF := CF w1 hb
        clear hb C1
        go_wp2_with ((with_reducible refine CF.mono ?_); rintro e w3 ⟨rfl, e9⟩; have e9 := e9.symm; subst e9)
        go_ret
        exact ⟨rfl, HB1.out⟩
    · have e0 : decide ((8 : Int) < (items.length : Int)) = true := decide_eq_true (by omega)
      have e0' : decide (8 < items.length) = true := decide_eq_true (by omega)
      clear hok CF
      go_enter Tryz.func3, Tryz.ntmps3
      go_wp2_with fail
      refine C1.mono ?_
      rintro e w1 ⟨rfl, hb⟩
      have HB1 := hide hb
      clear hb C1
      go_wp2_with fail
      go_ret
      exact ⟨rfl, HB1.out⟩
end Go.Proofs.YtnjlefggkfagmaaGreatDoor

/- What a row of the seat gives: the variables' cells. -/
set_option linter.unusedVariables false
set_option linter.unusedSimpArgs false
namespace Go.Proofs.YtnjlefggkfagmaaGreatDoor
open Go.RowKit

theorem iface_of_trod {H : Type} {enc : TypeId × Value → H} {P : Program} {w : World} {base : Nat} {sp : Nat → Bool} {held : Bool} {fuel : Nat} {t : TypeId} {ms : Array (String × TypeId)} {cs : List Value} {y : DataW H} {p : List MemPlace}
    (ht : P.underlying t = some (.interface ms)) (h : DataW.trod enc P w base sp held fuel t cs = some (y, p)) : ∃ v, cs = [v] ∧ (v = .nilIface ∨ ∃ te pe, v = .iface te pe) := by
  cases fuel with
  | zero => simp [DataW.trod] at h
  | succ fuel =>
    match cs, h with
    | [], h => simp [DataW.trod, ht] at h
    | [v], h =>
      refine ⟨v, rfl, ?_⟩
      cases v <;> simp [DataW.trod, ht] at h <;> simp
    | _ :: _ :: _, h => simp [DataW.trod, ht] at h
theorem iface_head {P : Program} {n : String} {d : DataW Unit} {r : List (String × DataW Unit)} {W : World} {g : Nat} {ti : TypeId} {ms : Array (String × TypeId)}
    (h : laidMet P ((n, d) :: r) W) (hg : P.globalNamed n = some g) (ht : (P.globals[g]?).map (·.type) = some ti) (hi : P.underlying ti = some (.interface ms)) :
    ∃ ev, W.cell? ⟨g, 0, none⟩ = some ev ∧ (ev = .nilIface ∨ ∃ te pe, ev = .iface te pe) := by
  obtain ⟨ps, ⟨g0, t0, cs0, f0, p0, q0, hg0, ht0, hv0, hd0, _, e0⟩, _, _⟩ := h
  obtain rfl := Option.some.inj (hg.symm.trans hg0)
  obtain rfl := Option.some.inj (ht.symm.trans ht0)
  obtain ⟨v, hv, hc⟩ := iface_of_trod hi hd0
  obtain rfl : cs0 = #[v] := by cases cs0; simpa using hv
  exact ⟨v, by simpa using World.var?_cell hg0 hv0 0, hc⟩
theorem int_of_shape {P : Program} {w : World} {g : Nat} {t : TypeId} {zero : Array Value} (h : w.ShapedOpen P) (hg : g < P.globals.size)
    (h0 : ((begin P (fun _ _ => 0) default).world.heap[g]?).bind Obj.row? = some (zero, t)) (hz : zero.size = 1)
    (hb : P.buildable t = true) (hc : P.cellTypes P.depth t = some [t]) (hu : P.underlying t = some (.int .i64)) : ∃ p, w.cell? ⟨g, 0, none⟩ = some (.int .i64 p) := by
  obtain ⟨cs, hh, hs, hr⟩ := h.1 g zero t hg h0
  obtain ⟨ts, hts, _, hall⟩ := hr hb
  rw [hc] at hts
  cases hts
  have h1 : 0 < cs.size := by omega
  obtain ⟨u, hu', hok⟩ := hall 0 cs[0] (by simp [h1])
  have : u = t := by simpa using hu'.symm
  subst this
  have hcell : w.cell? ⟨g, 0, none⟩ = some cs[0] := by simp [World.cell?, hh, h1]
  rw [hcell]
  unfold Cell.ok at hok
  rw [hu] at hok
  cases hv : cs[0] <;> rw [hv] at hok <;> simp at hok
  obtain ⟨rfl, _⟩ := hok
  exact ⟨_, rfl⟩
theorem glob0_of {w : World} (hs : w.ShapedOpen Tryz.prog) (hL : laidMet Tryz.prog Rows.topRestartsRow.laid w) : Glob w := by
  have h2 := hL.tail
  have h3 := h2.tail
  have h5 := h3.tail.tail
  refine ⟨?_, ?_, ?_, ?_, ?_, ?_⟩
  · obtain ⟨⟨z, ty⟩, h0⟩ := Option.isSome_iff_exists.1 (show (((begin Tryz.prog (fun _ _ => 0) default).world.heap[7]?).bind Obj.row?).isSome = true by kernel_rfl)
    obtain ⟨cs, h, _⟩ := hs.1 7 z ty (of_decide_eq_true (by kernel_rfl)) h0
    have hz : Tryz.prog.globals.size = 8 := by kernel_rfl
    rw [hz]
    rcases Nat.lt_or_ge 7 w.heap.size with h' | h'
    · omega
    · rw [Array.getElem?_eq_none h'] at h; cases h
  · exact int_of_shape (g := 2) (t := 3) (zero := #[.int .i64 0]) hs (of_decide_eq_true (by kernel_rfl)) (by kernel_rfl) rfl (by kernel_rfl) (by kernel_rfl) Tryz.underlying3
  · exact iface_head (g := 0) (ti := 81) h5.tail (by kernel_rfl) (by kernel_rfl) Tryz.underlying81
  · exact iface_head (g := 1) (ti := 81) h5 (by kernel_rfl) (by kernel_rfl) Tryz.underlying81
  · exact Lib.tabIs_of_head (t := 215) (e := 5) (n := 64) (g := 7) (by kernel_rfl) (by kernel_rfl) Tryz.underlying215 Tryz.underlying5 (by kernel_rfl) (by kernel_rfl) h2
  · exact Lib.tabIs_of_head (t := 197) (e := 119) (n := 20) (g := 3) (by kernel_rfl) (by kernel_rfl) Tryz.underlying197 Tryz.underlying119 (by kernel_rfl) (by kernel_rfl) h3
theorem glob_of {w : World} (hs : w.ShapedOpen Tryz.prog) (hL : laidMet Tryz.prog Rows.topRestartsRow.laid w) : Glob w := glob0_of hs hL
open Go.ChangeShapes Go.WideShapes Go.Deep
end Go.Proofs.YtnjlefggkfagmaaGreatDoor

/- Slices of records and of texts that came in. -/
set_option linter.unusedVariables false
set_option linter.unusedSimpArgs false
namespace Go.Proofs.YtnjlefggkfagmaaGreatDoor
open Go.RowKit Go.ChangeShapes Go.WideShapes Go.Deep

theorem reachC {n : Nat} (h : n ≤ reachBytes) : n ≤ 140737488351232 := by unfold reachBytes at h; omega
theorem rows_came {α : Type} {w : World} {a : Addr} {n c size : Nat} (enc : α → List Value) (Q : α → Prop) (hs : ∀ x, (enc x).length = size) (h0 : 0 < size) (hc : n ≤ c)
    (h : ∀ i, i < n → ∃ x : α, Q x ∧ ∀ j u, (enc x)[j]? = some u → w.cell? (a.add (i * size + j)) = some u) : ∃ ls : List α, ls.length = n ∧ (∀ x ∈ ls, Q x) ∧ RowsAt w size (.slice (some a) n c) (ls.map enc) := by
  have hex : ∀ m, m ≤ n → ∃ ls : List α, ls.length = m ∧ (∀ x ∈ ls, Q x) ∧ ∀ (i : Nat) x, ls[i]? = some x → ∀ j u, (enc x)[j]? = some u → w.cell? (a.add (i * size + j)) = some u := by
    intro m
    induction m with
    | zero => exact fun _ => ⟨[], rfl, by simp, by simp⟩
    | succ m ih =>
      intro hm
      obtain ⟨ls, h1, h2, h3⟩ := ih (by omega)
      obtain ⟨x, hq, hx⟩ := h m (by omega)
      refine ⟨ls ++ [x], by simp [h1], fun y hy => ?_, fun i y hy j u hu => ?_⟩
      · rcases List.mem_append.1 hy with hy | hy
        · exact h2 y hy
        · rw [List.mem_singleton.1 hy]; exact hq
      · rcases Nat.lt_or_ge i ls.length with hi | hi
        · rw [List.getElem?_append_left hi] at hy
          exact h3 i y hy j u hu
        · rw [List.getElem?_append_right hi] at hy
          have hz : i - ls.length = 0 := by
            rcases Nat.eq_zero_or_pos (i - ls.length) with hz | hz
            · exact hz
            · rw [List.getElem?_eq_none (by simp only [List.length_cons, List.length_nil]; omega)] at hy; cases hy
          rw [hz] at hy
          simp at hy
          subst hy
          obtain rfl : i = m := by omega
          exact hx j u hu
  obtain ⟨ls, h1, h2, h3⟩ := hex n (Nat.le_refl _)
  refine ⟨ls, h1, h2, some a, c, by rw [List.length_map, h1], by rw [List.length_map]; omega, fun x hx => ?_, fun k x hx => ?_⟩
  · obtain ⟨y, _, rfl⟩ := List.mem_map.1 hx
    exact hs y
  · rw [List.getElem?_map, Option.map_eq_some_iff] at hx
    obtain ⟨y, hy, rfl⟩ := hx
    have hk := h3 k y hy
    refine ⟨a, rfl, ?_, fun j u hu => by rw [add_of_add]; exact hk j u hu⟩
    have hl : 0 < (enc y).length := by rw [hs]; exact h0
    have := World.block_lt_of_cell? w _ (hk 0 _ (List.getElem?_eq_getElem hl))
    rwa [block_of_add] at this
theorem came_texts {H : Type} {enc : TypeId × Value → H} {w : World} {cs : List Value} (h : CameC enc Tryz.prog w 22 cs) :
    ∃ (v : Value) (ls : List (List UInt8)), cs = [v] ∧ TextsAt w v ls ∧ (∀ x ∈ ls, x.length ≤ 140737488355328) ∧ ls.length ≤ 8796093022208 := by
  rcases h.slice Tryz.underlying22 with rfl | ⟨a, n, c, rfl, hn, hb, _, hi⟩
  · exact ⟨_, [], rfl, RowsAt.nil _ _, by simp, by simp⟩
  · have h1 : Tryz.prog.cellsOf 9 = 1 := by kernel_rfl
    have h2 : Tryz.prog.bytesOf 9 = 16 := by kernel_rfl
    rw [h1] at hi
    rw [h2] at hb
    obtain ⟨ls, e, hq, hr⟩ := rows_came (w := w) (a := a) (c := c) (size := 1) strV (fun x => x.length ≤ 140737488355328) (fun _ => rfl) (by decide) hn fun i hi' => by
      obtain ⟨cs', hl, hat, hcm⟩ := hi i hi'
      obtain ⟨s, rfl, hs⟩ := hcm.string Tryz.underlying9
      refine ⟨s.data.toList, ?_, fun j u hu => ?_⟩
      · have := reachC hs
        have h3 := Lib.size_eq s
        omega
      · have hj : j = 0 := by
          rcases Nat.eq_zero_or_pos j with hz | hz
          · exact hz
          · rw [List.getElem?_eq_none (by simp only [strV, List.length_cons, List.length_nil]; omega)] at hu; cases hu
        subst hj
        rw [hat 0 (by decide)]
        exact hu
    refine ⟨_, ls, rfl, e ▸ hr, hq, ?_⟩
    have := reachC hb
    omega
end Go.Proofs.YtnjlefggkfagmaaGreatDoor

/- Lists of texts and steps that came in. -/
set_option linter.unusedVariables false
set_option linter.unusedSimpArgs false
namespace Go.Proofs.YtnjlefggkfagmaaGreatDoor
open Go.RowKit Go.ChangeShapes Go.WideShapes Go.Deep

set_option maxRecDepth 100000 in
theorem came_step {H : Type} {enc : TypeId × Value → H} {w : World} {cs : List Value} (h : CameC enc Tryz.prog w 35 cs) : ∃ s : Stp, cs = stpV s ∧ s.fit := by
  obtain ⟨h1, h2⟩ := h.fields Tryz.underlying35 (by kernel_rfl) (by kernel_rfl)
  obtain ⟨v0, e0, c0⟩ := h2 0 _ rfl
  obtain ⟨v1, e1, c1⟩ := h2 1 _ rfl
  obtain ⟨v2, e2, c2⟩ := h2 2 _ rfl
  obtain ⟨v3, e3, c3⟩ := h2 3 _ rfl
  obtain ⟨v4, e4, c4⟩ := h2 4 _ rfl
  obtain ⟨v5, e5, c5⟩ := h2 5 _ rfl
  obtain ⟨x0, g0, f0⟩ := c0.int Tryz.underlying5
  obtain ⟨x1, g1, f1⟩ := c1.int Tryz.underlying5
  obtain ⟨x2, g2, f2⟩ := c2.int Tryz.underlying5
  obtain ⟨x3, g3, f3⟩ := c3.int Tryz.underlying3
  obtain ⟨x4, g4, f4⟩ := c4.int Tryz.underlying3
  obtain ⟨x5, g5, f5⟩ := c5.int Tryz.underlying3
  simp only [List.cons.injEq, and_true] at g0 g1 g2 g3 g4 g5
  subst g0 g1 g2 g3 g4 g5
  have h1' : cs.length = 6 := h1
  match cs, h1' with
  | [y0, y1, y2, y3, y4, y5], _ =>
    simp only [List.getElem?_cons_zero, List.getElem?_cons_succ, Option.some.injEq] at e0 e1 e2 e3 e4 e5
    have b0 : 0 ≤ x0 ∧ x0 ≤ 255 := by simpa [Lit.wf, IntKind.min, IntKind.max, IntKind.signed, IntKind.bits] using f0
    have b1 : 0 ≤ x1 ∧ x1 ≤ 255 := by simpa [Lit.wf, IntKind.min, IntKind.max, IntKind.signed, IntKind.bits] using f1
    have b2 : 0 ≤ x2 ∧ x2 ≤ 255 := by simpa [Lit.wf, IntKind.min, IntKind.max, IntKind.signed, IntKind.bits] using f2
    have b3 : -9223372036854775808 ≤ x3 ∧ x3 ≤ 9223372036854775807 := by simpa [Lit.wf, IntKind.min, IntKind.max, IntKind.signed, IntKind.bits] using f3
    obtain ⟨n0, rfl⟩ : ∃ n : Nat, x0 = n := ⟨x0.toNat, by omega⟩
    obtain ⟨n1, rfl⟩ : ∃ n : Nat, x1 = n := ⟨x1.toNat, by omega⟩
    obtain ⟨n2, rfl⟩ : ∃ n : Nat, x2 = n := ⟨x2.toNat, by omega⟩
    exact ⟨⟨n0, n1, n2, x3, x4, x5⟩, by rw [e0, e1, e2, e3, e4, e5]; rfl, ⟨by have := b0.2; show n0 ≤ 255; omega, by have := b1.2; show n1 ≤ 255; omega, by have := b2.2; show n2 ≤ 255; omega, b3.2⟩⟩
theorem came_steps {H : Type} {enc : TypeId × Value → H} {w : World} {cs : List Value} (h : CameC enc Tryz.prog w 23 cs) :
    ∃ (v : Value) (l : List Stp), cs = [v] ∧ StpsAt w v l ∧ (∀ s ∈ l, s.fit) ∧ l.length ≤ 140737488355328 := by
  rcases h.slice Tryz.underlying23 with rfl | ⟨a, n, c, rfl, hn, hb, _, hi⟩
  · exact ⟨_, [], rfl, RowsAt.nil _ _, by simp, by simp⟩
  · have h1 : Tryz.prog.cellsOf 35 = 6 := by kernel_rfl
    have h2 : Tryz.prog.bytesOf 35 = 32 := by kernel_rfl
    rw [h1] at hi
    rw [h2] at hb
    obtain ⟨ls, e, hq, hr⟩ := rows_came (w := w) (a := a) (c := c) (size := 6) stpV (fun x => x.fit) (fun _ => rfl) (by decide) hn fun i hi' => by
      obtain ⟨cs', hl, hat, hcm⟩ := hi i hi'
      obtain ⟨l, rfl, hfl⟩ := came_step hcm
      refine ⟨l, hfl, fun j u hu => ?_⟩
      rw [hat j (by rcases Nat.lt_or_ge j 6 with h | h; exact h; rw [List.getElem?_eq_none (by simpa [stpV] using h)] at hu; cases hu)]
      exact hu
    refine ⟨_, ls, rfl, e ▸ hr, hq, ?_⟩
    have := reachC hb
    omega
end Go.Proofs.YtnjlefggkfagmaaGreatDoor
