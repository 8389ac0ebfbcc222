/- Walks of package number: Parse. -/
import Derived.Test.YtabphhclnboknaaDoorW5
import Derived.Lib.AtoiErrMem
set_option linter.unusedVariables false
set_option linter.unusedSimpArgs false
namespace Go.Proofs.YtabphhclnboknaaDoor
open Go.RowKit

theorem bs_list (l : List UInt8) : (bs l).data.toList = l := by simp [bs]
theorem Atoi_any (l : List UInt8) (hl : l.length ≤ 100000) (w : World) (hg : Glob w) : Calls Tryd.prog 36 #[.string (bs l)] w fun e w' => ∃ err, e = .returned (.tuple #[.int .i64 (atoiV l), err]) ∧ Below w.heap.size w w' := by
  have hs := bs_size l
  cases h : Lib.atoiAll l with
  | ok v =>
    refine (Tryd.strconv_Atoi_ok (bs l) (by omega) v (by rw [bs_list]; exact h) w).mono ?_
    rintro e w' ⟨rfl, hw⟩
    refine ⟨.nilIface, by unfold atoiV; rw [h], ?_⟩
    rcases hw with rfl | ⟨t, rfl⟩
    · exact Below.refl _ _
    · exact Lib.bytesWorld_below _ _ _
  | range =>
    obtain ⟨ev, h1, h2⟩ := hg.rng
    refine (Tryd.strconv_Atoi_range (bs l) (by omega) (by rw [bs_list]; exact h) ev w h1 h2).mono ?_
    rintro e w' ⟨N, rfl, _, _, hb⟩
    exact ⟨_, by unfold atoiV; rw [h, bs_list], hb⟩
  | _ =>
    obtain ⟨ev, h1, h2⟩ := hg.syn
    refine (Tryd.strconv_Atoi_bad (bs l) (by omega) (by rw [bs_list, h]; simp) (by rw [bs_list, h]; simp) ev w h1 h2).mono ?_
    rintro e w' ⟨N, rfl, _, _, hb⟩
    exact ⟨_, by unfold atoiV; rw [h], hb⟩
theorem Cut_any (l s : List UInt8) (hl : l.length ≤ 100000) (w : World) (hg : Glob w) : Calls Tryd.prog 34 #[.string (bs l), .string (bs s)] w fun e w' => e = .returned (.tuple #[.string (bs (Lib.cut l s).1), .string (bs (Lib.cut l s).2.1), .bool (Lib.cut l s).2.2]) ∧ Below w.heap.size w w' := by
  have hs := bs_size l
  obtain ⟨m, hm⟩ := hg.len
  refine (Tryd.strings_Cut (bs l) (bs s) m w (by omega) hm).mono ?_
  rintro e w' ⟨rfl, n, rfl⟩
  refine ⟨?_, below_drewN (Below.refl _ _) n⟩
  rw [bs_list, bs_list]; rfl
theorem Trim_any (l : List UInt8) (hl : l.length ≤ 100000) (w : World) : Calls Tryd.prog 35 #[.string (bs l), .string (bs lowers)] w fun e w' => e = .returned (.string (bs (Lib.trimRightS l lowers))) ∧ Below w.heap.size w w' := by
  have hs := bs_size l
  refine (Tryd.strings_TrimRight_laid (bs l) (bs lowers) w (by omega) (by rw [bs_size]; decide) (fun j b h => ?_)).mono ?_
  · rw [bs_list] at h
    have : b ∈ lowers := List.mem_of_getElem? h
    have h2 := lowers_iff b
    rw [List.contains_iff_mem.2 this] at h2
    have h3 := h2.symm
    simp only [Bool.and_eq_true, decide_eq_true_eq] at h3
    omega
  · rintro e w' ⟨rfl, hb⟩
    rw [bs_list, bs_list]
    exact ⟨rfl, hb⟩
theorem cut_len (l s : List UInt8) : (Lib.cut l s).1.length ≤ l.length ∧ (Lib.cut l s).2.1.length ≤ l.length := by
  unfold Lib.cut
  split <;> simp
  omega
theorem trim_pre (l cs : List UInt8) : Lib.trimRightS l cs <+: l := by
  unfold Lib.trimRightS
  have h := List.dropWhile_suffix (fun c => cs.contains c) (l := l.reverse)
  have := List.reverse_prefix.2 h
  simpa using this
theorem Glob.below8 {w w' : World} {B : Nat} (h : Glob w) (hb : Below B w w') (hB : 8 ≤ B) : Glob w' := by
  obtain ⟨h1, ⟨m, h2⟩, ⟨e1, h3, h4⟩, ⟨e2, h5, h6⟩, h7⟩ := h
  exact ⟨Nat.le_trans h1 hb.size, ⟨m, by rw [hb.cell (by simp only; omega)]; exact h2⟩, ⟨e1, by rw [hb.cell (by simp only; omega)]; exact h3, h4⟩, ⟨e2, by rw [hb.cell (by simp only; omega)]; exact h5, h6⟩, var_below h7 pow10_at hb (by omega)⟩
theorem bs_drop (l : List UInt8) (k : Nat) : (bs l).extract k l.length = bs (l.drop k) := by
  apply ByteArray.ext
  apply Array.ext'
  simp [bs, List.take_of_length_le]
def outP (t : List UInt8) : HN := (parseP t).getD ⟨0, [], 0, 0⟩
def errP (t : List UInt8) : Int := if (parseP t).isSome then 0 else 5
theorem results_cell_tmp {P : Program} {fn : Func} {p u : Tmp} {ty : TypeId} (h : fn.results = #[.cell p ty, .tmp u]) (tmps : Array Value) (w : World) (g : Nat) (t : TypeId) (cs : Array Value) (d : TypeDesc)
    (hp : tmps.getD p undef = .pointer (some ⟨g, 0, none⟩)) (hg : Blk w g t cs)
    (hu : P.underlying ty = some d) (hd : (match d with | .struct _ | .array _ _ => true | _ => false) = true) (hi : (P.info? ty).map (·.size) = some cs.size) :
    (results fn tmps).run P w = .ok (.tuple #[.agg cs, tmps.getD u undef]) w := by
  have hp' : tmps[p]?.getD undef = .pointer (some ⟨g, 0, none⟩) := by simpa using hp
  simp [results, h, hp', asAddr, run_loadVar_row w g t ty cs (0, 0) d hg hu hd hi]
theorem ret_hn {a b : HN} {x y : Int} (h : a = b) (h' : x = y) : Ending.returned (.tuple #[.agg (hCells a), .int .i64 x]) = .returned (.tuple #[hval b, .int .i64 y]) := by rw [h, h']; rfl
theorem bs_inj {l m : List UInt8} (h : bs l = bs m) : l = m := by rw [← bs_list l, h, bs_list]
theorem parse_bad {t : List UInt8} {c : HN} (h : candP t = c) (hv : c.valid = false) : outP t = ⟨0, [], 0, 0⟩ ∧ errP t = 5 := by
  unfold outP errP parseP
  rw [h, hv]; exact ⟨rfl, rfl⟩
theorem parse_ne {t : List UInt8} {c : HN} (h : candP t = c) (hv : c.valid = true) (he : ¬ textP c = t) : outP t = ⟨0, [], 0, 0⟩ ∧ errP t = 5 := by
  unfold outP errP parseP
  rw [h, hv]; simp [he]
theorem parse_ok {t : List UInt8} {c : HN} (h : candP t = c) (hv : c.valid = true) (he : textP c = t) : outP t = c ∧ errP t = 0 := by
  unfold outP errP parseP
  rw [h, hv]; simp [he]
set_option maxHeartbeats 1500000 in
theorem Parse_any (t : List UInt8) (w : World) (ht : t.length ≤ 100000) (hg : Glob w) : Calls Tryd.prog 15 #[.string (bs t)] w fun e w' => e = .returned (.tuple #[hval (outP t), .int .i64 (errP t)]) ∧ Below w.heap.size w w' := by
  have hg8 := hg.top
  have HA := hide (hNew2 w ⟨0, [], 0, 0⟩ ⟨0, [], 0, 0⟩).1
  have HB := hide (hNew2 w ⟨0, [], 0, 0⟩ ⟨0, [], 0, 0⟩).2
  have HB0 := hide (((Below.refl w.heap.size w).alloc (Nat.le_refl _) (.cells #[.int .i64 0, .string (bs []), .int .i64 0, .int .i64 0] 23)).alloc (by simp) (.cells #[.int .i64 0, .string (bs []), .int .i64 0, .int .i64 0] 23))
  go_enter Tryd.func15, Tryd.ntmps15
  obtain ⟨F, R, isR, HC⟩ : ∃ F R isR, Hid (Lib.cut t [32] = (F, R, isR)) := ⟨_, _, _, rfl⟩
  obtain ⟨N, M, isM, HD⟩ : ∃ N M isM, Hid (Lib.cut R [47] = (N, M, isM)) := ⟨_, _, _, rfl⟩
  obtain ⟨D, HT⟩ : ∃ D, Hid (Lib.trimRightS F lowers = D) := ⟨_, rfl⟩
  go_wp2_with fail
  refine (Cut_any t [32] ht _ ((hg.alloc _).alloc _)).mono ?_
  simp only [HC.out]
  rintro e w1 ⟨rfl, hb⟩
  have HB1 := hide (HB0.out.trans (hb.mono HB0.out.size))
  have HX1 := hide (HB.out.below hb (by simp))
  have HY1 := hide (HA.out.below hb (by simp; omega))
  have HG1 := hide (hg.below HB1.out (Nat.le_refl _))
  have HS1 : Hid (w.heap.size + 1 < w1.heap.size) := by have := hb.size; simp at this; exact this
  have lF : F.length ≤ 100000 := by have := (cut_len t [32]).1; rw [HC.out] at this; simp only at this; omega
  have lR : R.length ≤ 100000 := by have := (cut_len t [32]).2; rw [HC.out] at this; simp only at this; omega
  clear hb hg HA HB HB0
  go_wp2_with fail
  refine (Trim_any F lF _).mono ?_
  simp only [HT.out]
  rintro e w2 ⟨rfl, hb⟩
  have HB2 := hide (HB1.out.trans (hb.mono HB1.out.size))
  have HX2 := hide (HX1.out.below hb HS1.out)
  have HG2 := hide (HG1.out.below hb (Nat.le_refl _))
  have HY2 := hide (HY1.out.below hb (by have := HS1.out; omega))
  have HS2 : Hid (w.heap.size + 1 < w2.heap.size) := by have := hb.size; have := HS1.out; simp only [Hid]; omega
  have lD : D.length ≤ F.length := by have := (trim_pre F lowers).length_le; rw [HT.out] at this; exact this
  clear hb HG1 HX1 HY1 HB1 HS1
  go_wp2_with fail
  refine (Atoi_any D (by omega) _ HG2.out).mono ?_
  rintro e w3 ⟨er, rfl, hb⟩
  have HB3 := hide (HB2.out.trans (hb.mono HB2.out.size))
  have HX3 := hide (HX2.out.below hb HS2.out)
  have HG3 := hide (HG2.out.below hb (Nat.le_refl _))
  have HY3 := hide (HY2.out.below hb (by have := HS2.out; omega))
  have HS3 : Hid (w.heap.size + 1 < w3.heap.size) := by have := hb.size; have := HS2.out; simp only [Hid]; omega
  clear hb HG2 HX2 HB2 HS2 HY2
  have lFs := bs_size F
  have lDs := bs_size D
  obtain ⟨c0, c1, _, _⟩ := HX3.out.facts
  have f0 := HX3.out.blk.frozen 0
  have f1 := HX3.out.blk.frozen 1
  have HT0 : Hid (8 ≤ w.heap.size) := hg8
  go_wp2_with fail
  rw [bs_drop]
  obtain ⟨L, HLL⟩ : ∃ L, Hid (F.drop D.length = L) := ⟨_, rfl⟩
  rw [HLL.out]
  have HX4 := hide (HBox.mk ((HX3.out.blk.set_ 0 (.int .i64 (atoiV D))).set_ 1 (.string (bs L))) : HBox _ _ ⟨atoiV D, L, 0, 0⟩)
  have HY4 := hide (HBox.mk ((HY3.out.blk.far (p := ⟨w.heap.size + 1, 0, none⟩) (by simp) (.int .i64 (atoiV D))).far (p := ⟨w.heap.size + 1, 1, none⟩) (by simp) (.string (bs L))) : HBox _ _ ⟨0, [], 0, 0⟩)
  have HB4 := hide ((HB3.out.setCell (p := ⟨w.heap.size + 1, 0, none⟩) (by simp) (.int .i64 (atoiV D))).setCell (p := ⟨w.heap.size + 1, 1, none⟩) (by simp) (.string (bs L)))
  have HG4 := hide (HG3.out.below8 (((Below.refl w.heap.size w3).setCell (p := ⟨w.heap.size + 1, 0, none⟩) (by simp) (.int .i64 (atoiV D))).setCell (p := ⟨w.heap.size + 1, 1, none⟩) (by simp) (.string (bs L))) HT0.out)
  have HS4 : Hid (w.heap.size + 1 < ((w3.setCell ⟨w.heap.size + 1, 0, none⟩ (.int .i64 (atoiV D))).setCell ⟨w.heap.size + 1, 1, none⟩ (.string (bs L))).heap.size) := by
    have := HX4.out.blk.lt; exact this
  generalize (w3.setCell ⟨w.heap.size + 1, 0, none⟩ (.int .i64 (atoiV D))).setCell ⟨w.heap.size + 1, 1, none⟩ (.string (bs L)) = w4 at *
  clear HX3 HY3 HB3 HG3 HS3 c0 c1 f0 f1
  refine (Cut_any R [47] lR _ HG4.out).mono ?_
  simp only [HD.out]
  rintro e w5 ⟨rfl, hb⟩
  have HB5 := hide (HB4.out.trans (hb.mono HB4.out.size))
  have HX5 := hide (HX4.out.below hb HS4.out)
  have HY5 := hide (HY4.out.below hb (by have := HS4.out; omega))
  have HG5 := hide (HG4.out.below hb (Nat.le_refl _))
  have HS5 : Hid (w.heap.size + 1 < w5.heap.size) := by have := hb.size; have := HS4.out; simp only [Hid]; omega
  have lN : N.length ≤ 100000 := by have := (cut_len R [47]).1; rw [HD.out] at this; simp only at this; omega
  have lM : M.length ≤ 100000 := by have := (cut_len R [47]).2; rw [HD.out] at this; simp only at this; omega
  clear hb HB4 HX4 HY4 HG4 HS4
  have HFT : Hid (∀ a b c, HN.fit ⟨a, L, b, c⟩) := fun a b c => by
    have : (bs L).size = L.length := bs_size L
    have h2 : L.length ≤ F.length := by rw [← HLL.out]; simp
    show (bs L).size ≤ maxLen
    unfold maxLen; omega
  cases isM
  · have HCC : Hid (candP t = ⟨atoiV D, L, 0, 0⟩) := by
      show _ = _
      unfold candP; simp only [HC.out, HD.out, HT.out, HLL.out]; rfl
    have HP0 := hide (parse_bad (t := t) (c := ⟨atoiV D, L, 0, 0⟩))
    have HP1 := hide (parse_ne (t := t) (c := ⟨atoiV D, L, 0, 0⟩))
    have HP2 := hide (parse_ok (t := t) (c := ⟨atoiV D, L, 0, 0⟩))
    obtain ⟨c0, c1, c2, c3⟩ := HX5.out.facts
    go_wp2_with fail
    refine (Text_any ⟨atoiV D, L, 0, 0⟩ _ (HFT.out _ _ _) HG5.out).mono ?_
    rintro e w7 ⟨rfl, hb⟩
    have HB7 := hide (HB5.out.trans (hb.mono HB5.out.size))
    have HX7 := hide (HX5.out.below hb HS5.out)
    have HY7 := hide (HY5.out.below hb (by have := HS5.out; omega))
    have HS7 : Hid (w.heap.size + 1 < w7.heap.size) := by have := hb.size; have := HS5.out; simp only [Hid]; omega
    clear hb HB5 HX5 HY5 HG5 HS5 c0 c1 c2 c3
    obtain ⟨y0, y1, y2, y3⟩ := HY7.out.facts
    have f0 := HY7.out.blk.frozen 0
    have f1 := HY7.out.blk.frozen 1
    have f2 := HY7.out.blk.frozen 2
    have f3 := HY7.out.blk.frozen 3
    cases hv : HN.valid ⟨atoiV D, L, 0, 0⟩
    · have HQ := hide (HP0.out HCC.out hv)
      clear HP0 HP1 HP2 hv
      simp only [Bool.false_eq_true, if_false]
      go_wp2_with fail
      have HZ := hide (HBox.mk ((((HY7.out.blk.set_ 0 (.int .i64 0)).set_ 1 (.string ⟨#[]⟩)).set_ 2 (.int .i64 0)).set_ 3 (.int .i64 0)) : HBox _ _ ⟨0, [], 0, 0⟩)
      have HW := hide ((((HB7.out.setCell (p := ⟨w.heap.size, 0, none⟩) (Nat.le_refl _) (.int .i64 0)).setCell (p := ⟨w.heap.size, 1, none⟩) (Nat.le_refl _) (.string ⟨#[]⟩)).setCell (p := ⟨w.heap.size, 2, none⟩) (Nat.le_refl _) (.int .i64 0)).setCell (p := ⟨w.heap.size, 3, none⟩) (Nat.le_refl _) (.int .i64 0))
      generalize (((w7.setCell ⟨w.heap.size, 0, none⟩ (.int .i64 0)).setCell ⟨w.heap.size, 1, none⟩ (.string ⟨#[]⟩)).setCell ⟨w.heap.size, 2, none⟩ (.int .i64 0)).setCell ⟨w.heap.size, 3, none⟩ (.int .i64 0) = w8 at *
      refine bodyPost_ret (results_cell_tmp rfl _ _ w.heap.size 23 _ _ rfl HZ.out.blk Tryd.underlying23 rfl (by kernel_rfl)) rfl ?_
      exact ⟨ret_hn HQ.out.1.symm HQ.out.2.symm, HW.out⟩
    · simp only [if_true]
      by_cases he : textP ⟨atoiV D, L, 0, 0⟩ = t
      · have HQ := hide (HP2.out HCC.out hv he)
        clear HP0 HP1 HP2 hv
        rw [he]
        obtain ⟨c0, c1, c2, c3⟩ := HX7.out.facts
        go_wp2_with fail
        have HZ := hide (HBox.mk ((((HY7.out.blk.set_ 0 (.int .i64 (atoiV D))).set_ 1 (.string ⟨L.toArray⟩)).set_ 2 (.int .i64 0)).set_ 3 (.int .i64 0)) : HBox _ _ ⟨atoiV D, L, 0, 0⟩)
        have HW := hide ((((HB7.out.setCell (p := ⟨w.heap.size, 0, none⟩) (Nat.le_refl _) (.int .i64 (atoiV D))).setCell (p := ⟨w.heap.size, 1, none⟩) (Nat.le_refl _) (.string ⟨L.toArray⟩)).setCell (p := ⟨w.heap.size, 2, none⟩) (Nat.le_refl _) (.int .i64 0)).setCell (p := ⟨w.heap.size, 3, none⟩) (Nat.le_refl _) (.int .i64 0))
        generalize (((w7.setCell ⟨w.heap.size, 0, none⟩ (.int .i64 (atoiV D))).setCell ⟨w.heap.size, 1, none⟩ (.string ⟨L.toArray⟩)).setCell ⟨w.heap.size, 2, none⟩ (.int .i64 0)).setCell ⟨w.heap.size, 3, none⟩ (.int .i64 0) = w8 at *
        refine bodyPost_ret (results_cell_tmp rfl _ _ w.heap.size 23 _ _ rfl HZ.out.blk Tryd.underlying23 rfl (by kernel_rfl)) rfl ?_
        exact ⟨ret_hn HQ.out.1.symm HQ.out.2.symm, HW.out⟩
      · have HQ := hide (HP1.out HCC.out hv he)
        have hne : bs (textP ⟨atoiV D, L, 0, 0⟩) ≠ bs t := fun h => he (bs_inj h)
        have hnb : ((bs (textP ⟨atoiV D, L, 0, 0⟩)).toList == (bs t).toList) = false := by rw [ByteArray.toList_eq, ByteArray.toList_eq, bs_list, bs_list]; simpa using he
        clear he
        clear HP0 HP1 HP2 hv
        go_wp2_with fail
        have HZ := hide (HBox.mk ((((HY7.out.blk.set_ 0 (.int .i64 0)).set_ 1 (.string ⟨#[]⟩)).set_ 2 (.int .i64 0)).set_ 3 (.int .i64 0)) : HBox _ _ ⟨0, [], 0, 0⟩)
        have HW := hide ((((HB7.out.setCell (p := ⟨w.heap.size, 0, none⟩) (Nat.le_refl _) (.int .i64 0)).setCell (p := ⟨w.heap.size, 1, none⟩) (Nat.le_refl _) (.string ⟨#[]⟩)).setCell (p := ⟨w.heap.size, 2, none⟩) (Nat.le_refl _) (.int .i64 0)).setCell (p := ⟨w.heap.size, 3, none⟩) (Nat.le_refl _) (.int .i64 0))
        generalize (((w7.setCell ⟨w.heap.size, 0, none⟩ (.int .i64 0)).setCell ⟨w.heap.size, 1, none⟩ (.string ⟨#[]⟩)).setCell ⟨w.heap.size, 2, none⟩ (.int .i64 0)).setCell ⟨w.heap.size, 3, none⟩ (.int .i64 0) = w8 at *
        refine bodyPost_ret (results_cell_tmp rfl _ _ w.heap.size 23 _ _ rfl HZ.out.blk Tryd.underlying23 rfl (by kernel_rfl)) rfl ?_
        exact ⟨ret_hn HQ.out.1.symm HQ.out.2.symm, HW.out⟩
  · have HCC : Hid (candP t = ⟨atoiV D, L, atoiV N, atoiV M⟩) := by
      show _ = _
      unfold candP; simp only [HC.out, HD.out, HT.out, HLL.out]; rfl
    go_wp2_with fail
    refine (Atoi_any N lN _ HG5.out).mono ?_
    rintro e w6 ⟨er2, rfl, hb⟩
    have HB6 := hide (HB5.out.trans (hb.mono HB5.out.size))
    have HX6 := hide (HX5.out.below hb HS5.out)
    have HY6 := hide (HY5.out.below hb (by have := HS5.out; omega))
    have HG6 := hide (HG5.out.below hb (Nat.le_refl _))
    have HS6 : Hid (w.heap.size + 1 < w6.heap.size) := by have := hb.size; have := HS5.out; simp only [Hid]; omega
    clear hb HB5 HX5 HY5 HG5 HS5
    obtain ⟨_, _, c2, _⟩ := HX6.out.facts
    have f2 := HX6.out.blk.frozen 2
    go_wp2_with fail
    have HX8 := hide (HBox.mk (HX6.out.blk.set_ 2 (.int .i64 (atoiV N))) : HBox _ _ ⟨atoiV D, L, atoiV N, 0⟩)
    have HY8 := hide (HBox.mk (HY6.out.blk.far (p := ⟨w.heap.size + 1, 2, none⟩) (by simp) (.int .i64 (atoiV N))) : HBox _ _ ⟨0, [], 0, 0⟩)
    have HB8 := hide (HB6.out.setCell (p := ⟨w.heap.size + 1, 2, none⟩) (by simp) (.int .i64 (atoiV N)))
    have HG8 := hide (HG6.out.below8 ((Below.refl w.heap.size w6).setCell (p := ⟨w.heap.size + 1, 2, none⟩) (by simp) (.int .i64 (atoiV N))) HT0.out)
    have HS8 : Hid (w.heap.size + 1 < (w6.setCell ⟨w.heap.size + 1, 2, none⟩ (.int .i64 (atoiV N))).heap.size) := by have := HX8.out.blk.lt; exact this
    generalize w6.setCell ⟨w.heap.size + 1, 2, none⟩ (.int .i64 (atoiV N)) = w8 at *
    clear HX6 HY6 HB6 HG6 HS6 c2 f2
    refine (Atoi_any M lM _ HG8.out).mono ?_
    rintro e w9 ⟨er3, rfl, hb⟩
    have HB9 := hide (HB8.out.trans (hb.mono HB8.out.size))
    have HX9 := hide (HX8.out.below hb HS8.out)
    have HY9 := hide (HY8.out.below hb (by have := HS8.out; omega))
    have HG9 := hide (HG8.out.below hb (Nat.le_refl _))
    have HS9 : Hid (w.heap.size + 1 < w9.heap.size) := by have := hb.size; have := HS8.out; simp only [Hid]; omega
    clear hb HB8 HX8 HY8 HG8 HS8
    obtain ⟨a0, a1, a2, a3⟩ := HX9.out.facts
    have f3 := HX9.out.blk.frozen 3
    have HXb := hide (HBox.mk (HX9.out.blk.set_ 3 (.int .i64 (atoiV M))) : HBox _ _ ⟨atoiV D, L, atoiV N, atoiV M⟩)
    have HYb := hide (HBox.mk (HY9.out.blk.far (p := ⟨w.heap.size + 1, 3, none⟩) (by simp) (.int .i64 (atoiV M))) : HBox _ _ ⟨0, [], 0, 0⟩)
    have HBb := hide (HB9.out.setCell (p := ⟨w.heap.size + 1, 3, none⟩) (by simp) (.int .i64 (atoiV M)))
    have HGb := hide (HG9.out.below8 ((Below.refl w.heap.size w9).setCell (p := ⟨w.heap.size + 1, 3, none⟩) (by simp) (.int .i64 (atoiV M))) HT0.out)
    have HSb : Hid (w.heap.size + 1 < (w9.setCell ⟨w.heap.size + 1, 3, none⟩ (.int .i64 (atoiV M))).heap.size) := by have := HXb.out.blk.lt; exact this
    clear HX9 HY9 HB9 HG9 HS9
    have HP0 := hide (parse_bad (t := t) (c := ⟨atoiV D, L, atoiV N, atoiV M⟩))
    have HP1 := hide (parse_ne (t := t) (c := ⟨atoiV D, L, atoiV N, atoiV M⟩))
    have HP2 := hide (parse_ok (t := t) (c := ⟨atoiV D, L, atoiV N, atoiV M⟩))
    obtain ⟨c0, c1, c2, c3⟩ := HXb.out.facts
    go_wp2_with fail
    refine (Text_any ⟨atoiV D, L, atoiV N, atoiV M⟩ _ (HFT.out _ _ _) HGb.out).mono ?_
    rintro e w7 ⟨rfl, hb⟩
    have HB7 := hide (HBb.out.trans (hb.mono HBb.out.size))
    have HX7 := hide (HXb.out.below hb HSb.out)
    have HY7 := hide (HYb.out.below hb (by have := HSb.out; omega))
    have HS7 : Hid (w.heap.size + 1 < w7.heap.size) := by have := hb.size; have := HSb.out; simp only [Hid]; omega
    clear hb HBb HXb HYb HGb HSb c0 c1 c2 c3
    obtain ⟨y0, y1, y2, y3⟩ := HY7.out.facts
    have f0 := HY7.out.blk.frozen 0
    have f1 := HY7.out.blk.frozen 1
    have f2 := HY7.out.blk.frozen 2
    have f3 := HY7.out.blk.frozen 3
    cases hv : HN.valid ⟨atoiV D, L, atoiV N, atoiV M⟩
    · have HQ := hide (HP0.out HCC.out hv)
      clear HP0 HP1 HP2 hv
      simp only [Bool.false_eq_true, if_false]
      go_wp2_with fail
      have HZ := hide (HBox.mk ((((HY7.out.blk.set_ 0 (.int .i64 0)).set_ 1 (.string ⟨#[]⟩)).set_ 2 (.int .i64 0)).set_ 3 (.int .i64 0)) : HBox _ _ ⟨0, [], 0, 0⟩)
      have HW := hide ((((HB7.out.setCell (p := ⟨w.heap.size, 0, none⟩) (Nat.le_refl _) (.int .i64 0)).setCell (p := ⟨w.heap.size, 1, none⟩) (Nat.le_refl _) (.string ⟨#[]⟩)).setCell (p := ⟨w.heap.size, 2, none⟩) (Nat.le_refl _) (.int .i64 0)).setCell (p := ⟨w.heap.size, 3, none⟩) (Nat.le_refl _) (.int .i64 0))
      generalize (((w7.setCell ⟨w.heap.size, 0, none⟩ (.int .i64 0)).setCell ⟨w.heap.size, 1, none⟩ (.string ⟨#[]⟩)).setCell ⟨w.heap.size, 2, none⟩ (.int .i64 0)).setCell ⟨w.heap.size, 3, none⟩ (.int .i64 0) = w8 at *
      refine bodyPost_ret (results_cell_tmp rfl _ _ w.heap.size 23 _ _ rfl HZ.out.blk Tryd.underlying23 rfl (by kernel_rfl)) rfl ?_
      exact ⟨ret_hn HQ.out.1.symm HQ.out.2.symm, HW.out⟩
    · simp only [if_true]
      by_cases he : textP ⟨atoiV D, L, atoiV N, atoiV M⟩ = t
      · have HQ := hide (HP2.out HCC.out hv he)
        clear HP0 HP1 HP2 hv
        rw [he]
        obtain ⟨c0, c1, c2, c3⟩ := HX7.out.facts
        go_wp2_with fail
        have HZ := hide (HBox.mk ((((HY7.out.blk.set_ 0 (.int .i64 (atoiV D))).set_ 1 (.string ⟨L.toArray⟩)).set_ 2 (.int .i64 (atoiV N))).set_ 3 (.int .i64 (atoiV M))) : HBox _ _ ⟨atoiV D, L, atoiV N, atoiV M⟩)
        have HW := hide ((((HB7.out.setCell (p := ⟨w.heap.size, 0, none⟩) (Nat.le_refl _) (.int .i64 (atoiV D))).setCell (p := ⟨w.heap.size, 1, none⟩) (Nat.le_refl _) (.string ⟨L.toArray⟩)).setCell (p := ⟨w.heap.size, 2, none⟩) (Nat.le_refl _) (.int .i64 (atoiV N))).setCell (p := ⟨w.heap.size, 3, none⟩) (Nat.le_refl _) (.int .i64 (atoiV M)))
        generalize (((w7.setCell ⟨w.heap.size, 0, none⟩ (.int .i64 (atoiV D))).setCell ⟨w.heap.size, 1, none⟩ (.string ⟨L.toArray⟩)).setCell ⟨w.heap.size, 2, none⟩ (.int .i64 (atoiV N))).setCell ⟨w.heap.size, 3, none⟩ (.int .i64 (atoiV M)) = w8 at *
        refine bodyPost_ret (results_cell_tmp rfl _ _ w.heap.size 23 _ _ rfl HZ.out.blk Tryd.underlying23 rfl (by kernel_rfl)) rfl ?_
        exact ⟨ret_hn HQ.out.1.symm HQ.out.2.symm, HW.out⟩
      · have HQ := hide (HP1.out HCC.out hv he)
        have hne : bs (textP ⟨atoiV D, L, atoiV N, atoiV M⟩) ≠ bs t := fun h => he (bs_inj h)
        have hnb : ((bs (textP ⟨atoiV D, L, atoiV N, atoiV M⟩)).toList == (bs t).toList) = false := by rw [ByteArray.toList_eq, ByteArray.toList_eq, bs_list, bs_list]; simpa using he
        clear he
        clear HP0 HP1 HP2 hv
        go_wp2_with fail
        have HZ := hide (HBox.mk ((((HY7.out.blk.set_ 0 (.int .i64 0)).set_ 1 (.string ⟨#[]⟩)).set_ 2 (.int .i64 0)).set_ 3 (.int .i64 0)) : HBox _ _ ⟨0, [], 0, 0⟩)
        have HW := hide ((((HB7.out.setCell (p := ⟨w.heap.size, 0, none⟩) (Nat.le_refl _) (.int .i64 0)).setCell (p := ⟨w.heap.size, 1, none⟩) (Nat.le_refl _) (.string ⟨#[]⟩)).setCell (p := ⟨w.heap.size, 2, none⟩) (Nat.le_refl _) (.int .i64 0)).setCell (p := ⟨w.heap.size, 3, none⟩) (Nat.le_refl _) (.int .i64 0))
        generalize (((w7.setCell ⟨w.heap.size, 0, none⟩ (.int .i64 0)).setCell ⟨w.heap.size, 1, none⟩ (.string ⟨#[]⟩)).setCell ⟨w.heap.size, 2, none⟩ (.int .i64 0)).setCell ⟨w.heap.size, 3, none⟩ (.int .i64 0) = w8 at *
        refine bodyPost_ret (results_cell_tmp rfl _ _ w.heap.size 23 _ _ rfl HZ.out.blk Tryd.underlying23 rfl (by kernel_rfl)) rfl ?_
        exact ⟨ret_hn HQ.out.1.symm HQ.out.2.symm, HW.out⟩
end Go.Proofs.YtabphhclnboknaaDoor
