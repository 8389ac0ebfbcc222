/- Walks of the reference of layer 22: Text, Parse (printed by genr3.py). -/
import Derived.Test.YtabphhclnboknaaDoorR2
set_option linter.unusedVariables false
set_option linter.unusedSimpArgs false
namespace Go.Proofs.YtabphhclnboknaaDoor
open Go.RowKit

theorem ret_si {a b : ByteArray} {x y : Int} (h : a = b) (h' : x = y) : Ending.returned (.tuple #[.string a, .int .i64 x]) = .returned (.tuple #[.string b, .int .i64 y]) := by rw [h, h']
theorem rItoa_any (n : Int) (h0 : 0 ≤ n) (h1 : n ≤ 9999) (w : World) : Calls Tryd.prog 33 #[.int .i64 n] w fun e w' => e = .returned (.string (bs (Lib.itoa n))) ∧ Below w.heap.size w w' := by
  have C := rDecimal_any n.toNat (by omega) w
  rw [show ((n.toNat : Nat) : Int) = n by omega] at C
  refine C.mono ?_
  rintro e w' ⟨rfl, rfl⟩
  exact ⟨by rw [itoa_dec h0], Below.refl _ _⟩
set_option maxHeartbeats 4000000 in
theorem rText_any (h : HN) (w : World) (hl : h.fit) : Calls Tryd.prog 14 #[hval h] w fun e w' => e = .returned (.tuple #[.string (if h.valid then bs (textP h) else bs []), .int .i64 (if h.valid then 0 else 1)]) ∧ Below w.heap.size w w' := by
  have HX := hide (HBox.new w h)
  have HB := hide ((Below.refl w.heap.size w).alloc (Nat.le_refl _) (.cells #[.int .i64 h.n, .string ⟨h.l.toArray⟩, .int .i64 h.num, .int .i64 h.den] 23))
  have CV := fun w => rValid_any h w hl
  clear hl
  obtain ⟨S, HS⟩ : ∃ S, Hid ((if h.valid then bs (textP h) else bs []) = S) := ⟨_, rfl⟩
  obtain ⟨E, HE⟩ : ∃ E : Int, Hid ((if h.valid then 0 else 1) = E) := ⟨_, rfl⟩
  rw [HS.out, HE.out]
  go_enter Tryd.func14, Tryd.ntmps14
  unfold hval
  go_wp2_with fail
  generalize w.alloc (.cells #[.int .i64 h.n, .string ⟨h.l.toArray⟩, .int .i64 h.num, .int .i64 h.den] 23) = w1 at *
  obtain ⟨U, hU, g, u0, rfl, hgu, hi⟩ := cls w1
  obtain ⟨x0, x1, x2, x3⟩ := box_all hgu HX.out
  have CA := cls_call hgu hi (fun w _ => CV w)
  unfold hval at CA
  cases h1 : h.valid
  · rw [h1] at CA HS HE
    clear h1
    go_wp2_with (first | ((with_reducible refine (CA _).mono ?_); rintro e w' ⟨rfl, u, rfl⟩))
    go_ret2
    exact ⟨ret_si HS.out HE.out, HB.out.trans ((hgu _).mono HB.out.size)⟩
  · obtain ⟨n1, n2, l1, p1⟩ := (valid_iff h).1 h1
    obtain ⟨d1, d2, d3, d4, d5⟩ := place_den p1
    simp only at d1 d2 d3 d4 d5
    have z1 : ¬ 9223372036854775807 < (bs (Lib.itoa h.n)).size + (ByteArray.mk h.l.toArray).size := by have := bs_fit n1 n2 l1; omega
    have z1' : (bs (Lib.itoa h.n)).size + h.l.length ≤ 10001 := bs_fit' n1 n2 l1
    have z2 := itoa_size d4 (by omega)
    have z3 := itoa_size d2 (by omega)
    have CN := cls_call hgu hi (fun w _ => rItoa_any h.n (by omega) (by omega) w)
    have CM := cls_call hgu hi (fun w _ => rItoa_any h.num (by omega) (by omega) w)
    have CD := cls_call hgu hi (fun w _ => rItoa_any h.den (by omega) (by omega) w)
    have HGU := hide hgu
    have HHI := hide hi
    rw [h1] at CA HS HE
    clear h1 hgu hi d1 l1 p1 CV
    by_cases hd : 0 < h.den
    · have HV : Hid (textP h = Lib.itoa h.n ++ h.l ++ ([32] ++ Lib.itoa h.num ++ [47] ++ Lib.itoa h.den)) := by show _ = _; unfold textP fracP; rw [if_pos hd]
      have e1 : decide (0 < h.den) = true := decide_eq_true hd
      clear hd
      go_wp2_with (first | ((with_reducible refine (CA _).mono ?_); rintro e w' ⟨rfl, u, rfl⟩))
      refine wp_region_class g (by kernel_rfl) (by kernel_rfl) (HHI.out _ (HGU.out _).drew) ?_
      repeat (go_big_quiet_step (first | with_reducible exact CN _))
      refine wpQuiet_nil ?_
      intro w2 hw2
      obtain ⟨u, rfl⟩ := hw2
      go_wp2_with fail
      refine wp_region_class g (by kernel_rfl) (by kernel_rfl) (HHI.out _ (HGU.out _).drew) ?_
      repeat (go_big_quiet_step (first | with_reducible exact CM _ | with_reducible exact CD _))
      refine wpQuiet_nil ?_
      intro w2 hw2
      obtain ⟨u, rfl⟩ := hw2
      go_wp2_with fail
      go_ret2
      refine ⟨ret_si (Eq.trans ?_ HS.out) HE.out, HB.out.trans ((HGU.out _).mono HB.out.size)⟩
      show _ = bs (textP h)
      rw [HV.out]
      simp only [← List.append_assoc, ← bs_app]
      rfl
    · have HV : Hid (textP h = Lib.itoa h.n ++ h.l) := by show _ = _; unfold textP fracP; rw [if_neg hd]; simp
      have e1 : decide (0 < h.den) = false := decide_eq_false hd
      clear hd
      go_wp2_with (first | ((with_reducible refine (CA _).mono ?_); rintro e w' ⟨rfl, u, rfl⟩))
      refine wp_region_class g (by kernel_rfl) (by kernel_rfl) (HHI.out _ (HGU.out _).drew) ?_
      repeat (go_big_quiet_step (first | with_reducible exact CN _))
      refine wpQuiet_nil ?_
      intro w2 hw2
      obtain ⟨u, rfl⟩ := hw2
      go_wp2_with fail
      go_ret2
      refine ⟨ret_si (Eq.trans ?_ HS.out) HE.out, HB.out.trans ((HGU.out _).mono HB.out.size)⟩
      show _ = bs (textP h)
      rw [HV.out]
      simp only [← List.append_assoc, ← bs_app]
      rfl
theorem index_bs (l : List UInt8) (k : Nat) (c : UInt8) (hc : l[k]? = some c) (w : World) : (Instr.index 9 (.string (bs l)) (.int .i64 (k : Int))).run Tryd.prog w = .ok (.int .u8 (c.toNat : Int)) w := by
  obtain ⟨hlt, rfl⟩ := List.getElem?_eq_some_iff.1 hc
  have hz : (bs l).size = l.length := bs_size l
  have h1 : ((k : Int) < 0) = False := by simp
  go_simp
  simp [hz, hlt, bs]
  rfl
theorem drop_at' {α : Type} {l : List α} {k : Nat} {x : α} (h : l[k]? = some x) : l.drop k = x :: l.drop (k + 1) := by
  obtain ⟨hlt, e⟩ := List.getElem?_eq_some_iff.1 h
  rw [List.drop_eq_getElem_cons hlt, e]
theorem candR_at {t : List UInt8} {k : Nat} {L T : List UInt8} (ha : (t.take k).all dgB = true) (hn : ∀ c r, t.drop k = c :: r → dgB c = false) (hr : restR (t.drop k) = (L, T)) :
    candR t = ⟨val 0 (t.take k), L, (tailR T).1, (tailR T).2⟩ := by
  have h := takeW_app (l := t.take k) (r := t.drop k) (fun c hc => List.all_eq_true.1 ha c hc) hn
  rw [List.take_append_drop] at h
  unfold candR
  rw [h.1, h.2, hr]
theorem tail_not {T : List UInt8} (h : T.length ≠ 4) : tailR T = (0, 0) := by
  unfold tailR
  split
  · simp at h
  · rfl
theorem val_pow : ∀ (l : List UInt8), l.all dgB = true → val 0 l < 10 ^ l.length := by
  have h : ∀ (l : List UInt8) (acc : Nat), l.all dgB = true → val acc l < (acc + 1) * 10 ^ l.length := by
    intro l
    induction l with
    | nil => intro acc _; simp [val]
    | cons c l ih =>
      intro acc ha
      rw [List.all_cons, Bool.and_eq_true] at ha
      have h1 := (dgB_iff c).1 ha.1
      unfold isDg at h1
      have h2 := ih (acc * 10 + (c.toNat - 48)) ha.2
      show val (acc * 10 + (c.toNat - 48)) l < _
      refine Nat.lt_of_lt_of_le h2 ?_
      rw [List.length_cons, Nat.pow_succ, Nat.mul_comm (10 ^ l.length) 10, ← Nat.mul_assoc]
      exact Nat.mul_le_mul_right _ (by omega)
  intro l ha
  have := h l 0 ha
  simpa using this
def PaI (t : List UInt8) (w wr : World) (i : Value) : Prop := ∃ (k : Nat) (v : Nat), i = .int .i64 (k : Int) ∧ k ≤ t.length ∧ v < 1000000000 ∧ Hid (val 0 (t.take k) = v) ∧ Hid (HBox wr (w.heap.size + 1) ⟨v, [], 0, 0⟩) ∧ Hid (HBox wr w.heap.size ⟨0, [], 0, 0⟩) ∧ Hid (Below w.heap.size w wr) ∧ Hid ((t.take k).all dgB = true)
theorem parseR_bad {t : List UInt8} {c : HN} (h : candR t = c) (hv : c.valid = false) : outP t = ⟨0, [], 0, 0⟩ ∧ errP t = 5 := by
  unfold outP errP
  rw [parse_R, h, hv]; exact ⟨rfl, rfl⟩
theorem parseR_ne {t : List UInt8} {c : HN} (h : candR t = c) (hv : c.valid = true) (he : ¬ textP c = t) : outP t = ⟨0, [], 0, 0⟩ ∧ errP t = 5 := by
  unfold outP errP
  rw [parse_R, h, hv]; simp [he]
theorem parseR_ok {t : List UInt8} {c : HN} (h : candR t = c) (hv : c.valid = true) (he : textP c = t) : outP t = c ∧ errP t = 0 := by
  unfold outP errP
  rw [parse_R, h, hv]; simp [he]
theorem parseR_long {t : List UInt8} (h : 9 < t.length) : outP t = ⟨0, [], 0, 0⟩ ∧ errP t = 5 := by
  unfold outP errP
  rw [parse_long h]; exact ⟨rfl, rfl⟩
set_option maxRecDepth 100000 in
set_option maxHeartbeats 8000000 in
theorem rParse_any (t : List UInt8) (w : World) (ht : t.length ≤ 100000) : Calls Tryd.prog 16 #[.string (bs t)] w fun e w' => e = .returned (.tuple #[hval (outP t), .int .i64 (errP t)]) ∧ Below w.heap.size w w' := by
  have hsz : (bs t).size = t.length := bs_size t
  by_cases hlong : 9 < t.length
  · have HV := hide (parseR_long hlong)
    have e1 : decide ((9 : Int) < (t.length : Int)) = true := decide_eq_true (by omega)
    have HX := hide (HBox.new w ⟨0, [], 0, 0⟩)
    have HB := hide ((Below.refl w.heap.size w).alloc (Nat.le_refl _) (.cells #[.int .i64 (⟨0, [], 0, 0⟩ : HN).n, .string ⟨(⟨0, [], 0, 0⟩ : HN).l.toArray⟩, .int .i64 (⟨0, [], 0, 0⟩ : HN).num, .int .i64 (⟨0, [], 0, 0⟩ : HN).den] 23))
    clear hlong
    go_enter Tryd.func16, Tryd.ntmps16
    go_wp2_with fail
    exact bodyPost_ret (results_cell_tmp (p := 2) (u := 3) rfl _ _ w.heap.size 23 _ _ rfl HX.out.blk Tryd.underlying23 rfl (by kernel_rfl)) rfl ⟨ret_hn HV.out.1.symm HV.out.2.symm, HB.out⟩
  have e1 : decide ((9 : Int) < (t.length : Int)) = false := decide_eq_false (by omega)
  have HA := hide (hNew2 w ⟨0, [], 0, 0⟩ ⟨0, [], 0, 0⟩).1
  have HB := hide (hNew2 w ⟨0, [], 0, 0⟩ ⟨0, [], 0, 0⟩).2
  have HB0 := hide (((Below.refl w.heap.size w).alloc (Nat.le_refl _) (.cells #[.int .i64 (⟨0, [], 0, 0⟩ : HN).n, .string ⟨(⟨0, [], 0, 0⟩ : HN).l.toArray⟩, .int .i64 (⟨0, [], 0, 0⟩ : HN).num, .int .i64 (⟨0, [], 0, 0⟩ : HN).den] 23)).alloc (by simp) (.cells #[.int .i64 (⟨0, [], 0, 0⟩ : HN).n, .string ⟨(⟨0, [], 0, 0⟩ : HN).l.toArray⟩, .int .i64 (⟨0, [], 0, 0⟩ : HN).num, .int .i64 (⟨0, [], 0, 0⟩ : HN).den] 23))
  go_enter Tryd.func16, Tryd.ntmps16
  go_wp2_with fail
  go_loopw [5] (fun i wr => PaI t w wr i) (fun i _ => t.length - (intOf i).toNat)
  case atStart => exact ⟨0, 0, rfl, by omega, by decide, rfl, HB.out, HA.out, HB0.out, rfl⟩
  case round =>
    obtain ⟨k, v, rfl, hk, hv9, HVv, HNb, HR, HBl, HAl⟩ := hrel
    by_cases hlt : k < t.length
    · have e2 : decide ((k : Int) < (t.length : Int)) = true := decide_eq_true (by omega)
      obtain ⟨c, hc⟩ : ∃ c, t[k]? = some c := ⟨_, List.getElem?_eq_getElem hlt⟩
      have ci := index_bs t k c hc
      have HD := hide (drop_at' hc)
      cases hdg : dgB c
      · have hnd : ¬ (48 ≤ c.toNat ∧ c.toNat ≤ 57) := fun h => by rw [(dgB_iff c).2 h] at hdg; cases hdg
        have HND : Hid (∀ c' r, t.drop k = c' :: r → dgB c' = false) := fun c' r h => by rw [HD.out] at h; injection h with h _; rw [← h]; exact hdg
        obtain ⟨f0, f1, f2, f3⟩ := HNb.out.facts
        have z1 := HNb.out.blk.frozen 1
        have z2 := HNb.out.blk.frozen 2
        have z3 := HNb.out.blk.frozen 3
        clear HA HB HB0 hdg
        by_cases h32 : c = 32
        · subst h32
          have HRS : Hid (restR (t.drop k) = ([], 32 :: t.drop (k + 1))) := by show _ = _; rw [HD.out]; rfl
          have HC0 : Hid (candR t = ⟨v, [], (tailR (32 :: t.drop (k + 1))).1, (tailR (32 :: t.drop (k + 1))).2⟩) := by show _ = _; rw [candR_at HAl.out HND.out HRS.out, HVv.out]
          clear hnd
          by_cases h4 : t.length = k + 4
          · obtain ⟨x, hx⟩ : ∃ x, t[k + 1]? = some x := ⟨_, List.getElem?_eq_getElem (by omega)⟩
            obtain ⟨y, hy⟩ : ∃ y, t[k + 2]? = some y := ⟨_, List.getElem?_eq_getElem (by omega)⟩
            obtain ⟨z, hz⟩ : ∃ z, t[k + 3]? = some z := ⟨_, List.getElem?_eq_getElem (by omega)⟩
            have HC : Hid (candR t = ⟨v, [], (x.toNat : Int) - 48, (z.toNat : Int) - 48⟩) := by
              show _ = _
              rw [HC0.out, drop_at' hx, drop_at' hy, drop_at' hz, List.drop_of_length_le (by omega)]; rfl
            have ix := index_bs t (k + 1) x hx
            have iz := index_bs t (k + 3) z hz
            rw [show ((k + 1 : Nat) : Int) = (k : Int) + 1 by omega] at ix
            rw [show ((k + 3 : Nat) : Int) = (k : Int) + 3 by omega] at iz
            have e4 : ((t.length : Int) - (k : Int) == 4) = true := by rw [beq_iff_eq]; omega
            have b1 := x.toNat_lt
            have b2 := z.toNat_lt
            clear hx hy hz hc h4 HC0
            generalize x.toNat = xn at *
            generalize z.toNat = zn at *
            have HN5 : Hid (HBox ((wr.setCell ⟨w.heap.size + 1, 2, none⟩ (.int .i64 ((xn : Int) - 48))).setCell ⟨w.heap.size + 1, 3, none⟩ (.int .i64 ((zn : Int) - 48))) (w.heap.size + 1) (⟨(v : Int), [], (xn : Int) - 48, (zn : Int) - 48⟩ : HN)) := ⟨((HNb.out.blk.set_ 2 (.int .i64 ((xn : Int) - 48))).set_ 3 (.int .i64 ((zn : Int) - 48)))⟩
            have HR5 : Hid (HBox ((wr.setCell ⟨w.heap.size + 1, 2, none⟩ (.int .i64 ((xn : Int) - 48))).setCell ⟨w.heap.size + 1, 3, none⟩ (.int .i64 ((zn : Int) - 48))) w.heap.size ⟨0, [], 0, 0⟩) := ⟨((HR.out.blk.far (p := ⟨w.heap.size + 1, 2, none⟩) (Nat.ne_of_lt (Nat.lt_succ_self _)) (.int .i64 ((xn : Int) - 48))).far (p := ⟨w.heap.size + 1, 3, none⟩) (Nat.ne_of_lt (Nat.lt_succ_self _)) (.int .i64 ((zn : Int) - 48)))⟩
            have HB5 : Hid (Below w.heap.size w ((wr.setCell ⟨w.heap.size + 1, 2, none⟩ (.int .i64 ((xn : Int) - 48))).setCell ⟨w.heap.size + 1, 3, none⟩ (.int .i64 ((zn : Int) - 48)))) := ((HBl.out.setCell (p := ⟨w.heap.size + 1, 2, none⟩) (Nat.le_succ _) (.int .i64 ((xn : Int) - 48))).setCell (p := ⟨w.heap.size + 1, 3, none⟩) (Nat.le_succ _) (.int .i64 ((zn : Int) - 48)))
            clear HNb HR HBl
            go_wp2_with fail
            generalize (wr.setCell ⟨w.heap.size + 1, 2, none⟩ (.int .i64 ((xn : Int) - 48))).setCell ⟨w.heap.size + 1, 3, none⟩ (.int .i64 ((zn : Int) - 48)) = w5 at *
            have HFI : Hid (HN.fit (⟨(v : Int), [], (xn : Int) - 48, (zn : Int) - 48⟩ : HN)) := by show (bs _).size ≤ maxLen; rw [bs_size]; unfold maxLen; first | decide | (simp)
            refine (rText_any (⟨(v : Int), [], (xn : Int) - 48, (zn : Int) - 48⟩ : HN) _ HFI.out).mono ?_
            rintro e w6 ⟨rfl, hb⟩
            have HB6 := hide (HB5.out.trans (hb.mono HB5.out.size))
            have HR6 := hide (HR5.out.to hb)
            have HN6 := hide (HN5.out.to hb)
            clear hb HB5 HR5 HN5
            obtain ⟨cc, hc⟩ : ∃ cx, (⟨(v : Int), [], (xn : Int) - 48, (zn : Int) - 48⟩ : HN) = cx := ⟨_, rfl⟩
            rw [hc] at HN6 HC ⊢
            clear hc
            obtain ⟨x0, x1, x2, x3⟩ := HN6.out.facts
            obtain ⟨r0, r1, r2, r3⟩ := HR6.out.facts
            have s0 := HR6.out.blk.frozen 0
            have s1 := HR6.out.blk.frozen 1
            have s2 := HR6.out.blk.frozen 2
            have s3 := HR6.out.blk.frozen 3
            cases hv : cc.valid
            · have HV := hide (parseR_bad HC.out hv)
              clear hv
              go_wp2_with fail
              have hbk : Blk ((((w6.setCell ⟨w.heap.size, 0, none⟩ (.int .i64 (⟨0, [], 0, 0⟩ : HN).n)).setCell ⟨w.heap.size, 1, none⟩ (.string ⟨(⟨0, [], 0, 0⟩ : HN).l.toArray⟩)).setCell ⟨w.heap.size, 2, none⟩ (.int .i64 (⟨0, [], 0, 0⟩ : HN).num)).setCell ⟨w.heap.size, 3, none⟩ (.int .i64 (⟨0, [], 0, 0⟩ : HN).den)) w.heap.size 23 (hCells (⟨0, [], 0, 0⟩ : HN)) := ((((HR6.out.blk.set_ 0 (.int .i64 (⟨0, [], 0, 0⟩ : HN).n)).set_ 1 (.string ⟨(⟨0, [], 0, 0⟩ : HN).l.toArray⟩)).set_ 2 (.int .i64 (⟨0, [], 0, 0⟩ : HN).num)).set_ 3 (.int .i64 (⟨0, [], 0, 0⟩ : HN).den))
              refine bodyPost_ret (results_cell_tmp (p := 2) (u := 3) rfl _ _ w.heap.size 23 _ _ rfl hbk Tryd.underlying23 rfl (by kernel_rfl)) rfl ⟨ret_hn HV.out.1.symm HV.out.2.symm, ?_⟩
              exact ((((HB6.out.setCell (p := ⟨w.heap.size, 0, none⟩) (Nat.le_refl _) _).setCell (p := ⟨w.heap.size, 1, none⟩) (Nat.le_refl _) _).setCell (p := ⟨w.heap.size, 2, none⟩) (Nat.le_refl _) _).setCell (p := ⟨w.heap.size, 3, none⟩) (Nat.le_refl _) _)
            · by_cases he : textP cc = t
              · have HV := hide (parseR_ok HC.out hv he)
                rw [he]
                clear hv he
                go_wp2_with fail
                have hbk : Blk ((((w6.setCell ⟨w.heap.size, 0, none⟩ (.int .i64 cc.n)).setCell ⟨w.heap.size, 1, none⟩ (.string ⟨cc.l.toArray⟩)).setCell ⟨w.heap.size, 2, none⟩ (.int .i64 cc.num)).setCell ⟨w.heap.size, 3, none⟩ (.int .i64 cc.den)) w.heap.size 23 (hCells cc) := ((((HR6.out.blk.set_ 0 (.int .i64 cc.n)).set_ 1 (.string ⟨cc.l.toArray⟩)).set_ 2 (.int .i64 cc.num)).set_ 3 (.int .i64 cc.den))
                refine bodyPost_ret (results_cell_tmp (p := 2) (u := 3) rfl _ _ w.heap.size 23 _ _ rfl hbk Tryd.underlying23 rfl (by kernel_rfl)) rfl ⟨ret_hn HV.out.1.symm HV.out.2.symm, ?_⟩
                exact ((((HB6.out.setCell (p := ⟨w.heap.size, 0, none⟩) (Nat.le_refl _) _).setCell (p := ⟨w.heap.size, 1, none⟩) (Nat.le_refl _) _).setCell (p := ⟨w.heap.size, 2, none⟩) (Nat.le_refl _) _).setCell (p := ⟨w.heap.size, 3, none⟩) (Nat.le_refl _) _)
              · have HV := hide (parseR_ne HC.out hv he)
                have hne : ((bs (textP cc)).toList == (bs t).toList) = false := by rw [bs_toList, bs_toList, beq_eq_false_iff_ne]; exact he
                clear hv he
                generalize bs (textP cc) = S at *
                go_wp2_with fail
                have hbk : Blk ((((w6.setCell ⟨w.heap.size, 0, none⟩ (.int .i64 (⟨0, [], 0, 0⟩ : HN).n)).setCell ⟨w.heap.size, 1, none⟩ (.string ⟨(⟨0, [], 0, 0⟩ : HN).l.toArray⟩)).setCell ⟨w.heap.size, 2, none⟩ (.int .i64 (⟨0, [], 0, 0⟩ : HN).num)).setCell ⟨w.heap.size, 3, none⟩ (.int .i64 (⟨0, [], 0, 0⟩ : HN).den)) w.heap.size 23 (hCells (⟨0, [], 0, 0⟩ : HN)) := ((((HR6.out.blk.set_ 0 (.int .i64 (⟨0, [], 0, 0⟩ : HN).n)).set_ 1 (.string ⟨(⟨0, [], 0, 0⟩ : HN).l.toArray⟩)).set_ 2 (.int .i64 (⟨0, [], 0, 0⟩ : HN).num)).set_ 3 (.int .i64 (⟨0, [], 0, 0⟩ : HN).den))
                refine bodyPost_ret (results_cell_tmp (p := 2) (u := 3) rfl _ _ w.heap.size 23 _ _ rfl hbk Tryd.underlying23 rfl (by kernel_rfl)) rfl ⟨ret_hn HV.out.1.symm HV.out.2.symm, ?_⟩
                exact ((((HB6.out.setCell (p := ⟨w.heap.size, 0, none⟩) (Nat.le_refl _) _).setCell (p := ⟨w.heap.size, 1, none⟩) (Nat.le_refl _) _).setCell (p := ⟨w.heap.size, 2, none⟩) (Nat.le_refl _) _).setCell (p := ⟨w.heap.size, 3, none⟩) (Nat.le_refl _) _)
          · have HC : Hid (candR t = ⟨v, [], 0, 0⟩) := by
              show _ = _
              rw [HC0.out, tail_not (by rw [List.length_cons, List.length_drop]; omega)]
            have e4 : ((t.length : Int) - (k : Int) == 4) = false := by rw [beq_eq_false_iff_ne]; omega
            have HN5 := HNb
            have HR5 := HR
            have HB5 := HBl
            clear HNb HR HBl HC0 hc h4 f0 f1 f2 f3 z1 z2 z3
            have HFI : Hid (HN.fit (⟨(v : Int), [], 0, 0⟩ : HN)) := by show (bs _).size ≤ maxLen; rw [bs_size]; unfold maxLen; first | decide | (simp)
            obtain ⟨x0, x1, x2, x3⟩ := HN5.out.facts
            go_wp2_with fail
            refine (rText_any (⟨(v : Int), [], 0, 0⟩ : HN) _ HFI.out).mono ?_
            rintro e w6 ⟨rfl, hb⟩
            have HB6 := hide (HB5.out.trans (hb.mono HB5.out.size))
            have HR6 := hide (HR5.out.to hb)
            have HN6 := hide (HN5.out.to hb)
            clear hb HB5 HR5 HN5 x0 x1 x2 x3
            obtain ⟨cc, hc⟩ : ∃ cx, (⟨(v : Int), [], 0, 0⟩ : HN) = cx := ⟨_, rfl⟩
            rw [hc] at HN6 HC ⊢
            clear hc
            obtain ⟨x0, x1, x2, x3⟩ := HN6.out.facts
            obtain ⟨r0, r1, r2, r3⟩ := HR6.out.facts
            have s0 := HR6.out.blk.frozen 0
            have s1 := HR6.out.blk.frozen 1
            have s2 := HR6.out.blk.frozen 2
            have s3 := HR6.out.blk.frozen 3
            cases hv : cc.valid
            · have HV := hide (parseR_bad HC.out hv)
              clear hv
              go_wp2_with fail
              have hbk : Blk ((((w6.setCell ⟨w.heap.size, 0, none⟩ (.int .i64 (⟨0, [], 0, 0⟩ : HN).n)).setCell ⟨w.heap.size, 1, none⟩ (.string ⟨(⟨0, [], 0, 0⟩ : HN).l.toArray⟩)).setCell ⟨w.heap.size, 2, none⟩ (.int .i64 (⟨0, [], 0, 0⟩ : HN).num)).setCell ⟨w.heap.size, 3, none⟩ (.int .i64 (⟨0, [], 0, 0⟩ : HN).den)) w.heap.size 23 (hCells (⟨0, [], 0, 0⟩ : HN)) := ((((HR6.out.blk.set_ 0 (.int .i64 (⟨0, [], 0, 0⟩ : HN).n)).set_ 1 (.string ⟨(⟨0, [], 0, 0⟩ : HN).l.toArray⟩)).set_ 2 (.int .i64 (⟨0, [], 0, 0⟩ : HN).num)).set_ 3 (.int .i64 (⟨0, [], 0, 0⟩ : HN).den))
              refine bodyPost_ret (results_cell_tmp (p := 2) (u := 3) rfl _ _ w.heap.size 23 _ _ rfl hbk Tryd.underlying23 rfl (by kernel_rfl)) rfl ⟨ret_hn HV.out.1.symm HV.out.2.symm, ?_⟩
              exact ((((HB6.out.setCell (p := ⟨w.heap.size, 0, none⟩) (Nat.le_refl _) _).setCell (p := ⟨w.heap.size, 1, none⟩) (Nat.le_refl _) _).setCell (p := ⟨w.heap.size, 2, none⟩) (Nat.le_refl _) _).setCell (p := ⟨w.heap.size, 3, none⟩) (Nat.le_refl _) _)
            · by_cases he : textP cc = t
              · have HV := hide (parseR_ok HC.out hv he)
                rw [he]
                clear hv he
                go_wp2_with fail
                have hbk : Blk ((((w6.setCell ⟨w.heap.size, 0, none⟩ (.int .i64 cc.n)).setCell ⟨w.heap.size, 1, none⟩ (.string ⟨cc.l.toArray⟩)).setCell ⟨w.heap.size, 2, none⟩ (.int .i64 cc.num)).setCell ⟨w.heap.size, 3, none⟩ (.int .i64 cc.den)) w.heap.size 23 (hCells cc) := ((((HR6.out.blk.set_ 0 (.int .i64 cc.n)).set_ 1 (.string ⟨cc.l.toArray⟩)).set_ 2 (.int .i64 cc.num)).set_ 3 (.int .i64 cc.den))
                refine bodyPost_ret (results_cell_tmp (p := 2) (u := 3) rfl _ _ w.heap.size 23 _ _ rfl hbk Tryd.underlying23 rfl (by kernel_rfl)) rfl ⟨ret_hn HV.out.1.symm HV.out.2.symm, ?_⟩
                exact ((((HB6.out.setCell (p := ⟨w.heap.size, 0, none⟩) (Nat.le_refl _) _).setCell (p := ⟨w.heap.size, 1, none⟩) (Nat.le_refl _) _).setCell (p := ⟨w.heap.size, 2, none⟩) (Nat.le_refl _) _).setCell (p := ⟨w.heap.size, 3, none⟩) (Nat.le_refl _) _)
              · have HV := hide (parseR_ne HC.out hv he)
                have hne : ((bs (textP cc)).toList == (bs t).toList) = false := by rw [bs_toList, bs_toList, beq_eq_false_iff_ne]; exact he
                clear hv he
                generalize bs (textP cc) = S at *
                go_wp2_with fail
                have hbk : Blk ((((w6.setCell ⟨w.heap.size, 0, none⟩ (.int .i64 (⟨0, [], 0, 0⟩ : HN).n)).setCell ⟨w.heap.size, 1, none⟩ (.string ⟨(⟨0, [], 0, 0⟩ : HN).l.toArray⟩)).setCell ⟨w.heap.size, 2, none⟩ (.int .i64 (⟨0, [], 0, 0⟩ : HN).num)).setCell ⟨w.heap.size, 3, none⟩ (.int .i64 (⟨0, [], 0, 0⟩ : HN).den)) w.heap.size 23 (hCells (⟨0, [], 0, 0⟩ : HN)) := ((((HR6.out.blk.set_ 0 (.int .i64 (⟨0, [], 0, 0⟩ : HN).n)).set_ 1 (.string ⟨(⟨0, [], 0, 0⟩ : HN).l.toArray⟩)).set_ 2 (.int .i64 (⟨0, [], 0, 0⟩ : HN).num)).set_ 3 (.int .i64 (⟨0, [], 0, 0⟩ : HN).den))
                refine bodyPost_ret (results_cell_tmp (p := 2) (u := 3) rfl _ _ w.heap.size 23 _ _ rfl hbk Tryd.underlying23 rfl (by kernel_rfl)) rfl ⟨ret_hn HV.out.1.symm HV.out.2.symm, ?_⟩
                exact ((((HB6.out.setCell (p := ⟨w.heap.size, 0, none⟩) (Nat.le_refl _) _).setCell (p := ⟨w.heap.size, 1, none⟩) (Nat.le_refl _) _).setCell (p := ⟨w.heap.size, 2, none⟩) (Nat.le_refl _) _).setCell (p := ⟨w.heap.size, 3, none⟩) (Nat.le_refl _) _)
        · have hne : ((c.toNat : Int) != 32) = true := by rw [bne_iff_ne]; intro h; exact h32 (UInt8.toNat_inj.1 (by simp; omega))
          have ex : (bs t).extract k (k + 1) = bs [c] := by rw [bs_cut, HD.out, show k + 1 - k = 1 by omega]; rfl
          have HRS : Hid (restR (t.drop k) = ([c], t.drop (k + 1))) := by show _ = _; rw [HD.out]; unfold restR; simp only; rw [if_neg h32]
          have HC0 : Hid (candR t = ⟨v, [c], (tailR (t.drop (k + 1))).1, (tailR (t.drop (k + 1))).2⟩) := by show _ = _; rw [candR_at HAl.out HND.out HRS.out, HVv.out]
          have b0 := c.toNat_lt
          have HTW : (48 ≤ c.toNat → ¬ c.toNat ≤ 57) := fun h h' => hnd ⟨h, h'⟩
          clear hnd h32
          by_cases h4 : t.length = k + 5
          · obtain ⟨x0, hx0⟩ : ∃ x, t[k + 1]? = some x := ⟨_, List.getElem?_eq_getElem (by omega)⟩
            obtain ⟨x, hx⟩ : ∃ x, t[k + 2]? = some x := ⟨_, List.getElem?_eq_getElem (by omega)⟩
            obtain ⟨y, hy⟩ : ∃ y, t[k + 3]? = some y := ⟨_, List.getElem?_eq_getElem (by omega)⟩
            obtain ⟨z, hz⟩ : ∃ z, t[k + 4]? = some z := ⟨_, List.getElem?_eq_getElem (by omega)⟩
            have HC : Hid (candR t = ⟨v, [c], (x.toNat : Int) - 48, (z.toNat : Int) - 48⟩) := by
              show _ = _
              rw [HC0.out, drop_at' hx0, drop_at' hx, drop_at' hy, drop_at' hz, List.drop_of_length_le (by omega)]; rfl
            have ix := index_bs t (k + 2) x hx
            have iz := index_bs t (k + 4) z hz
            rw [show ((k + 2 : Nat) : Int) = (k : Int) + 1 + 1 by omega] at ix
            rw [show ((k + 4 : Nat) : Int) = (k : Int) + 1 + 3 by omega] at iz
            have e4 : ((t.length : Int) - ((k : Int) + 1) == 4) = true := by rw [beq_iff_eq]; omega
            have b1 := x.toNat_lt
            have b2 := z.toNat_lt
            clear hx0 hx hy hz hc h4 HC0 HRS HD HND
            generalize x.toNat = xn at *
            generalize z.toNat = zn at *
            have HN5 : Hid (HBox (((wr.setCell ⟨w.heap.size + 1, 1, none⟩ (.string (bs [c]))).setCell ⟨w.heap.size + 1, 2, none⟩ (.int .i64 ((xn : Int) - 48))).setCell ⟨w.heap.size + 1, 3, none⟩ (.int .i64 ((zn : Int) - 48))) (w.heap.size + 1) (⟨(v : Int), [c], (xn : Int) - 48, (zn : Int) - 48⟩ : HN)) := ⟨(((HNb.out.blk.set_ 1 (.string (bs [c]))).set_ 2 (.int .i64 ((xn : Int) - 48))).set_ 3 (.int .i64 ((zn : Int) - 48)))⟩
            have HR5 : Hid (HBox (((wr.setCell ⟨w.heap.size + 1, 1, none⟩ (.string (bs [c]))).setCell ⟨w.heap.size + 1, 2, none⟩ (.int .i64 ((xn : Int) - 48))).setCell ⟨w.heap.size + 1, 3, none⟩ (.int .i64 ((zn : Int) - 48))) w.heap.size ⟨0, [], 0, 0⟩) := ⟨(((HR.out.blk.far (p := ⟨w.heap.size + 1, 1, none⟩) (Nat.ne_of_lt (Nat.lt_succ_self _)) (.string (bs [c]))).far (p := ⟨w.heap.size + 1, 2, none⟩) (Nat.ne_of_lt (Nat.lt_succ_self _)) (.int .i64 ((xn : Int) - 48))).far (p := ⟨w.heap.size + 1, 3, none⟩) (Nat.ne_of_lt (Nat.lt_succ_self _)) (.int .i64 ((zn : Int) - 48)))⟩
            have HB5 : Hid (Below w.heap.size w (((wr.setCell ⟨w.heap.size + 1, 1, none⟩ (.string (bs [c]))).setCell ⟨w.heap.size + 1, 2, none⟩ (.int .i64 ((xn : Int) - 48))).setCell ⟨w.heap.size + 1, 3, none⟩ (.int .i64 ((zn : Int) - 48)))) := (((HBl.out.setCell (p := ⟨w.heap.size + 1, 1, none⟩) (Nat.le_succ _) (.string (bs [c]))).setCell (p := ⟨w.heap.size + 1, 2, none⟩) (Nat.le_succ _) (.int .i64 ((xn : Int) - 48))).setCell (p := ⟨w.heap.size + 1, 3, none⟩) (Nat.le_succ _) (.int .i64 ((zn : Int) - 48)))
            clear HNb HR HBl
            by_cases h48 : 48 ≤ c.toNat
            · have g1 : decide (48 ≤ (c.toNat : Int)) = true := decide_eq_true (by omega)
              have g2 : decide ((c.toNat : Int) ≤ 57) = false := decide_eq_false (by have := HTW h48; omega)
              clear h48 HTW
              generalize c.toNat = cn at *
              go_wp2_with fail
              generalize ((wr.setCell ⟨w.heap.size + 1, 1, none⟩ (.string (bs [c]))).setCell ⟨w.heap.size + 1, 2, none⟩ (.int .i64 ((xn : Int) - 48))).setCell ⟨w.heap.size + 1, 3, none⟩ (.int .i64 ((zn : Int) - 48)) = w5 at *
              have HFI : Hid (HN.fit (⟨(v : Int), [c], (xn : Int) - 48, (zn : Int) - 48⟩ : HN)) := by show (bs _).size ≤ maxLen; rw [bs_size]; unfold maxLen; first | decide | (simp)
              refine (rText_any (⟨(v : Int), [c], (xn : Int) - 48, (zn : Int) - 48⟩ : HN) _ HFI.out).mono ?_
              rintro e w6 ⟨rfl, hb⟩
              have HB6 := hide (HB5.out.trans (hb.mono HB5.out.size))
              have HR6 := hide (HR5.out.to hb)
              have HN6 := hide (HN5.out.to hb)
              clear hb HB5 HR5 HN5
              obtain ⟨cc, hc⟩ : ∃ cx, (⟨(v : Int), [c], (xn : Int) - 48, (zn : Int) - 48⟩ : HN) = cx := ⟨_, rfl⟩
              rw [hc] at HN6 HC ⊢
              clear hc
              obtain ⟨x0, x1, x2, x3⟩ := HN6.out.facts
              obtain ⟨r0, r1, r2, r3⟩ := HR6.out.facts
              have s0 := HR6.out.blk.frozen 0
              have s1 := HR6.out.blk.frozen 1
              have s2 := HR6.out.blk.frozen 2
              have s3 := HR6.out.blk.frozen 3
              cases hv : cc.valid
              · have HV := hide (parseR_bad HC.out hv)
                clear hv
                go_wp2_with fail
                have hbk : Blk ((((w6.setCell ⟨w.heap.size, 0, none⟩ (.int .i64 (⟨0, [], 0, 0⟩ : HN).n)).setCell ⟨w.heap.size, 1, none⟩ (.string ⟨(⟨0, [], 0, 0⟩ : HN).l.toArray⟩)).setCell ⟨w.heap.size, 2, none⟩ (.int .i64 (⟨0, [], 0, 0⟩ : HN).num)).setCell ⟨w.heap.size, 3, none⟩ (.int .i64 (⟨0, [], 0, 0⟩ : HN).den)) w.heap.size 23 (hCells (⟨0, [], 0, 0⟩ : HN)) := ((((HR6.out.blk.set_ 0 (.int .i64 (⟨0, [], 0, 0⟩ : HN).n)).set_ 1 (.string ⟨(⟨0, [], 0, 0⟩ : HN).l.toArray⟩)).set_ 2 (.int .i64 (⟨0, [], 0, 0⟩ : HN).num)).set_ 3 (.int .i64 (⟨0, [], 0, 0⟩ : HN).den))
                refine bodyPost_ret (results_cell_tmp (p := 2) (u := 3) rfl _ _ w.heap.size 23 _ _ rfl hbk Tryd.underlying23 rfl (by kernel_rfl)) rfl ⟨ret_hn HV.out.1.symm HV.out.2.symm, ?_⟩
                exact ((((HB6.out.setCell (p := ⟨w.heap.size, 0, none⟩) (Nat.le_refl _) _).setCell (p := ⟨w.heap.size, 1, none⟩) (Nat.le_refl _) _).setCell (p := ⟨w.heap.size, 2, none⟩) (Nat.le_refl _) _).setCell (p := ⟨w.heap.size, 3, none⟩) (Nat.le_refl _) _)
              · by_cases he : textP cc = t
                · have HV := hide (parseR_ok HC.out hv he)
                  rw [he]
                  clear hv he
                  go_wp2_with fail
                  have hbk : Blk ((((w6.setCell ⟨w.heap.size, 0, none⟩ (.int .i64 cc.n)).setCell ⟨w.heap.size, 1, none⟩ (.string ⟨cc.l.toArray⟩)).setCell ⟨w.heap.size, 2, none⟩ (.int .i64 cc.num)).setCell ⟨w.heap.size, 3, none⟩ (.int .i64 cc.den)) w.heap.size 23 (hCells cc) := ((((HR6.out.blk.set_ 0 (.int .i64 cc.n)).set_ 1 (.string ⟨cc.l.toArray⟩)).set_ 2 (.int .i64 cc.num)).set_ 3 (.int .i64 cc.den))
                  refine bodyPost_ret (results_cell_tmp (p := 2) (u := 3) rfl _ _ w.heap.size 23 _ _ rfl hbk Tryd.underlying23 rfl (by kernel_rfl)) rfl ⟨ret_hn HV.out.1.symm HV.out.2.symm, ?_⟩
                  exact ((((HB6.out.setCell (p := ⟨w.heap.size, 0, none⟩) (Nat.le_refl _) _).setCell (p := ⟨w.heap.size, 1, none⟩) (Nat.le_refl _) _).setCell (p := ⟨w.heap.size, 2, none⟩) (Nat.le_refl _) _).setCell (p := ⟨w.heap.size, 3, none⟩) (Nat.le_refl _) _)
                · have HV := hide (parseR_ne HC.out hv he)
                  have hne : ((bs (textP cc)).toList == (bs t).toList) = false := by rw [bs_toList, bs_toList, beq_eq_false_iff_ne]; exact he
                  clear hv he
                  generalize bs (textP cc) = S at *
                  go_wp2_with fail
                  have hbk : Blk ((((w6.setCell ⟨w.heap.size, 0, none⟩ (.int .i64 (⟨0, [], 0, 0⟩ : HN).n)).setCell ⟨w.heap.size, 1, none⟩ (.string ⟨(⟨0, [], 0, 0⟩ : HN).l.toArray⟩)).setCell ⟨w.heap.size, 2, none⟩ (.int .i64 (⟨0, [], 0, 0⟩ : HN).num)).setCell ⟨w.heap.size, 3, none⟩ (.int .i64 (⟨0, [], 0, 0⟩ : HN).den)) w.heap.size 23 (hCells (⟨0, [], 0, 0⟩ : HN)) := ((((HR6.out.blk.set_ 0 (.int .i64 (⟨0, [], 0, 0⟩ : HN).n)).set_ 1 (.string ⟨(⟨0, [], 0, 0⟩ : HN).l.toArray⟩)).set_ 2 (.int .i64 (⟨0, [], 0, 0⟩ : HN).num)).set_ 3 (.int .i64 (⟨0, [], 0, 0⟩ : HN).den))
                  refine bodyPost_ret (results_cell_tmp (p := 2) (u := 3) rfl _ _ w.heap.size 23 _ _ rfl hbk Tryd.underlying23 rfl (by kernel_rfl)) rfl ⟨ret_hn HV.out.1.symm HV.out.2.symm, ?_⟩
                  exact ((((HB6.out.setCell (p := ⟨w.heap.size, 0, none⟩) (Nat.le_refl _) _).setCell (p := ⟨w.heap.size, 1, none⟩) (Nat.le_refl _) _).setCell (p := ⟨w.heap.size, 2, none⟩) (Nat.le_refl _) _).setCell (p := ⟨w.heap.size, 3, none⟩) (Nat.le_refl _) _)
            · have g1 : decide (48 ≤ (c.toNat : Int)) = false := decide_eq_false (by omega)
              clear h48 HTW
              generalize c.toNat = cn at *
              go_wp2_with fail
              generalize ((wr.setCell ⟨w.heap.size + 1, 1, none⟩ (.string (bs [c]))).setCell ⟨w.heap.size + 1, 2, none⟩ (.int .i64 ((xn : Int) - 48))).setCell ⟨w.heap.size + 1, 3, none⟩ (.int .i64 ((zn : Int) - 48)) = w5 at *
              have HFI : Hid (HN.fit (⟨(v : Int), [c], (xn : Int) - 48, (zn : Int) - 48⟩ : HN)) := by show (bs _).size ≤ maxLen; rw [bs_size]; unfold maxLen; first | decide | (simp)
              refine (rText_any (⟨(v : Int), [c], (xn : Int) - 48, (zn : Int) - 48⟩ : HN) _ HFI.out).mono ?_
              rintro e w6 ⟨rfl, hb⟩
              have HB6 := hide (HB5.out.trans (hb.mono HB5.out.size))
              have HR6 := hide (HR5.out.to hb)
              have HN6 := hide (HN5.out.to hb)
              clear hb HB5 HR5 HN5
              obtain ⟨cc, hc⟩ : ∃ cx, (⟨(v : Int), [c], (xn : Int) - 48, (zn : Int) - 48⟩ : HN) = cx := ⟨_, rfl⟩
              rw [hc] at HN6 HC ⊢
              clear hc
              obtain ⟨x0, x1, x2, x3⟩ := HN6.out.facts
              obtain ⟨r0, r1, r2, r3⟩ := HR6.out.facts
              have s0 := HR6.out.blk.frozen 0
              have s1 := HR6.out.blk.frozen 1
              have s2 := HR6.out.blk.frozen 2
              have s3 := HR6.out.blk.frozen 3
              cases hv : cc.valid
              · have HV := hide (parseR_bad HC.out hv)
                clear hv
                go_wp2_with fail
                have hbk : Blk ((((w6.setCell ⟨w.heap.size, 0, none⟩ (.int .i64 (⟨0, [], 0, 0⟩ : HN).n)).setCell ⟨w.heap.size, 1, none⟩ (.string ⟨(⟨0, [], 0, 0⟩ : HN).l.toArray⟩)).setCell ⟨w.heap.size, 2, none⟩ (.int .i64 (⟨0, [], 0, 0⟩ : HN).num)).setCell ⟨w.heap.size, 3, none⟩ (.int .i64 (⟨0, [], 0, 0⟩ : HN).den)) w.heap.size 23 (hCells (⟨0, [], 0, 0⟩ : HN)) := ((((HR6.out.blk.set_ 0 (.int .i64 (⟨0, [], 0, 0⟩ : HN).n)).set_ 1 (.string ⟨(⟨0, [], 0, 0⟩ : HN).l.toArray⟩)).set_ 2 (.int .i64 (⟨0, [], 0, 0⟩ : HN).num)).set_ 3 (.int .i64 (⟨0, [], 0, 0⟩ : HN).den))
                refine bodyPost_ret (results_cell_tmp (p := 2) (u := 3) rfl _ _ w.heap.size 23 _ _ rfl hbk Tryd.underlying23 rfl (by kernel_rfl)) rfl ⟨ret_hn HV.out.1.symm HV.out.2.symm, ?_⟩
                exact ((((HB6.out.setCell (p := ⟨w.heap.size, 0, none⟩) (Nat.le_refl _) _).setCell (p := ⟨w.heap.size, 1, none⟩) (Nat.le_refl _) _).setCell (p := ⟨w.heap.size, 2, none⟩) (Nat.le_refl _) _).setCell (p := ⟨w.heap.size, 3, none⟩) (Nat.le_refl _) _)
              · by_cases he : textP cc = t
                · have HV := hide (parseR_ok HC.out hv he)
                  rw [he]
                  clear hv he
                  go_wp2_with fail
                  have hbk : Blk ((((w6.setCell ⟨w.heap.size, 0, none⟩ (.int .i64 cc.n)).setCell ⟨w.heap.size, 1, none⟩ (.string ⟨cc.l.toArray⟩)).setCell ⟨w.heap.size, 2, none⟩ (.int .i64 cc.num)).setCell ⟨w.heap.size, 3, none⟩ (.int .i64 cc.den)) w.heap.size 23 (hCells cc) := ((((HR6.out.blk.set_ 0 (.int .i64 cc.n)).set_ 1 (.string ⟨cc.l.toArray⟩)).set_ 2 (.int .i64 cc.num)).set_ 3 (.int .i64 cc.den))
                  refine bodyPost_ret (results_cell_tmp (p := 2) (u := 3) rfl _ _ w.heap.size 23 _ _ rfl hbk Tryd.underlying23 rfl (by kernel_rfl)) rfl ⟨ret_hn HV.out.1.symm HV.out.2.symm, ?_⟩
                  exact ((((HB6.out.setCell (p := ⟨w.heap.size, 0, none⟩) (Nat.le_refl _) _).setCell (p := ⟨w.heap.size, 1, none⟩) (Nat.le_refl _) _).setCell (p := ⟨w.heap.size, 2, none⟩) (Nat.le_refl _) _).setCell (p := ⟨w.heap.size, 3, none⟩) (Nat.le_refl _) _)
                · have HV := hide (parseR_ne HC.out hv he)
                  have hne : ((bs (textP cc)).toList == (bs t).toList) = false := by rw [bs_toList, bs_toList, beq_eq_false_iff_ne]; exact he
                  clear hv he
                  generalize bs (textP cc) = S at *
                  go_wp2_with fail
                  have hbk : Blk ((((w6.setCell ⟨w.heap.size, 0, none⟩ (.int .i64 (⟨0, [], 0, 0⟩ : HN).n)).setCell ⟨w.heap.size, 1, none⟩ (.string ⟨(⟨0, [], 0, 0⟩ : HN).l.toArray⟩)).setCell ⟨w.heap.size, 2, none⟩ (.int .i64 (⟨0, [], 0, 0⟩ : HN).num)).setCell ⟨w.heap.size, 3, none⟩ (.int .i64 (⟨0, [], 0, 0⟩ : HN).den)) w.heap.size 23 (hCells (⟨0, [], 0, 0⟩ : HN)) := ((((HR6.out.blk.set_ 0 (.int .i64 (⟨0, [], 0, 0⟩ : HN).n)).set_ 1 (.string ⟨(⟨0, [], 0, 0⟩ : HN).l.toArray⟩)).set_ 2 (.int .i64 (⟨0, [], 0, 0⟩ : HN).num)).set_ 3 (.int .i64 (⟨0, [], 0, 0⟩ : HN).den))
                  refine bodyPost_ret (results_cell_tmp (p := 2) (u := 3) rfl _ _ w.heap.size 23 _ _ rfl hbk Tryd.underlying23 rfl (by kernel_rfl)) rfl ⟨ret_hn HV.out.1.symm HV.out.2.symm, ?_⟩
                  exact ((((HB6.out.setCell (p := ⟨w.heap.size, 0, none⟩) (Nat.le_refl _) _).setCell (p := ⟨w.heap.size, 1, none⟩) (Nat.le_refl _) _).setCell (p := ⟨w.heap.size, 2, none⟩) (Nat.le_refl _) _).setCell (p := ⟨w.heap.size, 3, none⟩) (Nat.le_refl _) _)
          · have HC : Hid (candR t = ⟨v, [c], 0, 0⟩) := by
              show _ = _
              rw [HC0.out, tail_not (by rw [List.length_drop]; omega)]
            have e4 : ((t.length : Int) - ((k : Int) + 1) == 4) = false := by rw [beq_eq_false_iff_ne]; omega
            have HN5 : Hid (HBox (wr.setCell ⟨w.heap.size + 1, 1, none⟩ (.string (bs [c]))) (w.heap.size + 1) (⟨(v : Int), [c], 0, 0⟩ : HN)) := ⟨(HNb.out.blk.set_ 1 (.string (bs [c])))⟩
            have HR5 : Hid (HBox (wr.setCell ⟨w.heap.size + 1, 1, none⟩ (.string (bs [c]))) w.heap.size ⟨0, [], 0, 0⟩) := ⟨(HR.out.blk.far (p := ⟨w.heap.size + 1, 1, none⟩) (Nat.ne_of_lt (Nat.lt_succ_self _)) (.string (bs [c])))⟩
            have HB5 : Hid (Below w.heap.size w (wr.setCell ⟨w.heap.size + 1, 1, none⟩ (.string (bs [c])))) := (HBl.out.setCell (p := ⟨w.heap.size + 1, 1, none⟩) (Nat.le_succ _) (.string (bs [c])))
            clear HNb HR HBl HC0 hc h4 z2 z3 HRS HD HND
            by_cases h48 : 48 ≤ c.toNat
            · have g1 : decide (48 ≤ (c.toNat : Int)) = true := decide_eq_true (by omega)
              have g2 : decide ((c.toNat : Int) ≤ 57) = false := decide_eq_false (by have := HTW h48; omega)
              clear h48 HTW
              generalize c.toNat = cn at *
              go_wp2_with fail
              generalize wr.setCell ⟨w.heap.size + 1, 1, none⟩ (.string (bs [c])) = w5 at *
              have HFI : Hid (HN.fit (⟨(v : Int), [c], 0, 0⟩ : HN)) := by show (bs _).size ≤ maxLen; rw [bs_size]; unfold maxLen; first | decide | (simp)
              refine (rText_any (⟨(v : Int), [c], 0, 0⟩ : HN) _ HFI.out).mono ?_
              rintro e w6 ⟨rfl, hb⟩
              have HB6 := hide (HB5.out.trans (hb.mono HB5.out.size))
              have HR6 := hide (HR5.out.to hb)
              have HN6 := hide (HN5.out.to hb)
              clear hb HB5 HR5 HN5
              obtain ⟨cc, hc⟩ : ∃ cx, (⟨(v : Int), [c], 0, 0⟩ : HN) = cx := ⟨_, rfl⟩
              rw [hc] at HN6 HC ⊢
              clear hc
              obtain ⟨x0, x1, x2, x3⟩ := HN6.out.facts
              obtain ⟨r0, r1, r2, r3⟩ := HR6.out.facts
              have s0 := HR6.out.blk.frozen 0
              have s1 := HR6.out.blk.frozen 1
              have s2 := HR6.out.blk.frozen 2
              have s3 := HR6.out.blk.frozen 3
              cases hv : cc.valid
              · have HV := hide (parseR_bad HC.out hv)
                clear hv
                go_wp2_with fail
                have hbk : Blk ((((w6.setCell ⟨w.heap.size, 0, none⟩ (.int .i64 (⟨0, [], 0, 0⟩ : HN).n)).setCell ⟨w.heap.size, 1, none⟩ (.string ⟨(⟨0, [], 0, 0⟩ : HN).l.toArray⟩)).setCell ⟨w.heap.size, 2, none⟩ (.int .i64 (⟨0, [], 0, 0⟩ : HN).num)).setCell ⟨w.heap.size, 3, none⟩ (.int .i64 (⟨0, [], 0, 0⟩ : HN).den)) w.heap.size 23 (hCells (⟨0, [], 0, 0⟩ : HN)) := ((((HR6.out.blk.set_ 0 (.int .i64 (⟨0, [], 0, 0⟩ : HN).n)).set_ 1 (.string ⟨(⟨0, [], 0, 0⟩ : HN).l.toArray⟩)).set_ 2 (.int .i64 (⟨0, [], 0, 0⟩ : HN).num)).set_ 3 (.int .i64 (⟨0, [], 0, 0⟩ : HN).den))
                refine bodyPost_ret (results_cell_tmp (p := 2) (u := 3) rfl _ _ w.heap.size 23 _ _ rfl hbk Tryd.underlying23 rfl (by kernel_rfl)) rfl ⟨ret_hn HV.out.1.symm HV.out.2.symm, ?_⟩
                exact ((((HB6.out.setCell (p := ⟨w.heap.size, 0, none⟩) (Nat.le_refl _) _).setCell (p := ⟨w.heap.size, 1, none⟩) (Nat.le_refl _) _).setCell (p := ⟨w.heap.size, 2, none⟩) (Nat.le_refl _) _).setCell (p := ⟨w.heap.size, 3, none⟩) (Nat.le_refl _) _)
              · by_cases he : textP cc = t
                · have HV := hide (parseR_ok HC.out hv he)
                  rw [he]
                  clear hv he
                  go_wp2_with fail
                  have hbk : Blk ((((w6.setCell ⟨w.heap.size, 0, none⟩ (.int .i64 cc.n)).setCell ⟨w.heap.size, 1, none⟩ (.string ⟨cc.l.toArray⟩)).setCell ⟨w.heap.size, 2, none⟩ (.int .i64 cc.num)).setCell ⟨w.heap.size, 3, none⟩ (.int .i64 cc.den)) w.heap.size 23 (hCells cc) := ((((HR6.out.blk.set_ 0 (.int .i64 cc.n)).set_ 1 (.string ⟨cc.l.toArray⟩)).set_ 2 (.int .i64 cc.num)).set_ 3 (.int .i64 cc.den))
                  refine bodyPost_ret (results_cell_tmp (p := 2) (u := 3) rfl _ _ w.heap.size 23 _ _ rfl hbk Tryd.underlying23 rfl (by kernel_rfl)) rfl ⟨ret_hn HV.out.1.symm HV.out.2.symm, ?_⟩
                  exact ((((HB6.out.setCell (p := ⟨w.heap.size, 0, none⟩) (Nat.le_refl _) _).setCell (p := ⟨w.heap.size, 1, none⟩) (Nat.le_refl _) _).setCell (p := ⟨w.heap.size, 2, none⟩) (Nat.le_refl _) _).setCell (p := ⟨w.heap.size, 3, none⟩) (Nat.le_refl _) _)
                · have HV := hide (parseR_ne HC.out hv he)
                  have hne : ((bs (textP cc)).toList == (bs t).toList) = false := by rw [bs_toList, bs_toList, beq_eq_false_iff_ne]; exact he
                  clear hv he
                  generalize bs (textP cc) = S at *
                  go_wp2_with fail
                  have hbk : Blk ((((w6.setCell ⟨w.heap.size, 0, none⟩ (.int .i64 (⟨0, [], 0, 0⟩ : HN).n)).setCell ⟨w.heap.size, 1, none⟩ (.string ⟨(⟨0, [], 0, 0⟩ : HN).l.toArray⟩)).setCell ⟨w.heap.size, 2, none⟩ (.int .i64 (⟨0, [], 0, 0⟩ : HN).num)).setCell ⟨w.heap.size, 3, none⟩ (.int .i64 (⟨0, [], 0, 0⟩ : HN).den)) w.heap.size 23 (hCells (⟨0, [], 0, 0⟩ : HN)) := ((((HR6.out.blk.set_ 0 (.int .i64 (⟨0, [], 0, 0⟩ : HN).n)).set_ 1 (.string ⟨(⟨0, [], 0, 0⟩ : HN).l.toArray⟩)).set_ 2 (.int .i64 (⟨0, [], 0, 0⟩ : HN).num)).set_ 3 (.int .i64 (⟨0, [], 0, 0⟩ : HN).den))
                  refine bodyPost_ret (results_cell_tmp (p := 2) (u := 3) rfl _ _ w.heap.size 23 _ _ rfl hbk Tryd.underlying23 rfl (by kernel_rfl)) rfl ⟨ret_hn HV.out.1.symm HV.out.2.symm, ?_⟩
                  exact ((((HB6.out.setCell (p := ⟨w.heap.size, 0, none⟩) (Nat.le_refl _) _).setCell (p := ⟨w.heap.size, 1, none⟩) (Nat.le_refl _) _).setCell (p := ⟨w.heap.size, 2, none⟩) (Nat.le_refl _) _).setCell (p := ⟨w.heap.size, 3, none⟩) (Nat.le_refl _) _)
            · have g1 : decide (48 ≤ (c.toNat : Int)) = false := decide_eq_false (by omega)
              clear h48 HTW
              generalize c.toNat = cn at *
              go_wp2_with fail
              generalize wr.setCell ⟨w.heap.size + 1, 1, none⟩ (.string (bs [c])) = w5 at *
              have HFI : Hid (HN.fit (⟨(v : Int), [c], 0, 0⟩ : HN)) := by show (bs _).size ≤ maxLen; rw [bs_size]; unfold maxLen; first | decide | (simp)
              refine (rText_any (⟨(v : Int), [c], 0, 0⟩ : HN) _ HFI.out).mono ?_
              rintro e w6 ⟨rfl, hb⟩
              have HB6 := hide (HB5.out.trans (hb.mono HB5.out.size))
              have HR6 := hide (HR5.out.to hb)
              have HN6 := hide (HN5.out.to hb)
              clear hb HB5 HR5 HN5
              obtain ⟨cc, hc⟩ : ∃ cx, (⟨(v : Int), [c], 0, 0⟩ : HN) = cx := ⟨_, rfl⟩
              rw [hc] at HN6 HC ⊢
              clear hc
              obtain ⟨x0, x1, x2, x3⟩ := HN6.out.facts
              obtain ⟨r0, r1, r2, r3⟩ := HR6.out.facts
              have s0 := HR6.out.blk.frozen 0
              have s1 := HR6.out.blk.frozen 1
              have s2 := HR6.out.blk.frozen 2
              have s3 := HR6.out.blk.frozen 3
              cases hv : cc.valid
              · have HV := hide (parseR_bad HC.out hv)
                clear hv
                go_wp2_with fail
                have hbk : Blk ((((w6.setCell ⟨w.heap.size, 0, none⟩ (.int .i64 (⟨0, [], 0, 0⟩ : HN).n)).setCell ⟨w.heap.size, 1, none⟩ (.string ⟨(⟨0, [], 0, 0⟩ : HN).l.toArray⟩)).setCell ⟨w.heap.size, 2, none⟩ (.int .i64 (⟨0, [], 0, 0⟩ : HN).num)).setCell ⟨w.heap.size, 3, none⟩ (.int .i64 (⟨0, [], 0, 0⟩ : HN).den)) w.heap.size 23 (hCells (⟨0, [], 0, 0⟩ : HN)) := ((((HR6.out.blk.set_ 0 (.int .i64 (⟨0, [], 0, 0⟩ : HN).n)).set_ 1 (.string ⟨(⟨0, [], 0, 0⟩ : HN).l.toArray⟩)).set_ 2 (.int .i64 (⟨0, [], 0, 0⟩ : HN).num)).set_ 3 (.int .i64 (⟨0, [], 0, 0⟩ : HN).den))
                refine bodyPost_ret (results_cell_tmp (p := 2) (u := 3) rfl _ _ w.heap.size 23 _ _ rfl hbk Tryd.underlying23 rfl (by kernel_rfl)) rfl ⟨ret_hn HV.out.1.symm HV.out.2.symm, ?_⟩
                exact ((((HB6.out.setCell (p := ⟨w.heap.size, 0, none⟩) (Nat.le_refl _) _).setCell (p := ⟨w.heap.size, 1, none⟩) (Nat.le_refl _) _).setCell (p := ⟨w.heap.size, 2, none⟩) (Nat.le_refl _) _).setCell (p := ⟨w.heap.size, 3, none⟩) (Nat.le_refl _) _)
              · by_cases he : textP cc = t
                · have HV := hide (parseR_ok HC.out hv he)
                  rw [he]
                  clear hv he
                  go_wp2_with fail
                  have hbk : Blk ((((w6.setCell ⟨w.heap.size, 0, none⟩ (.int .i64 cc.n)).setCell ⟨w.heap.size, 1, none⟩ (.string ⟨cc.l.toArray⟩)).setCell ⟨w.heap.size, 2, none⟩ (.int .i64 cc.num)).setCell ⟨w.heap.size, 3, none⟩ (.int .i64 cc.den)) w.heap.size 23 (hCells cc) := ((((HR6.out.blk.set_ 0 (.int .i64 cc.n)).set_ 1 (.string ⟨cc.l.toArray⟩)).set_ 2 (.int .i64 cc.num)).set_ 3 (.int .i64 cc.den))
                  refine bodyPost_ret (results_cell_tmp (p := 2) (u := 3) rfl _ _ w.heap.size 23 _ _ rfl hbk Tryd.underlying23 rfl (by kernel_rfl)) rfl ⟨ret_hn HV.out.1.symm HV.out.2.symm, ?_⟩
                  exact ((((HB6.out.setCell (p := ⟨w.heap.size, 0, none⟩) (Nat.le_refl _) _).setCell (p := ⟨w.heap.size, 1, none⟩) (Nat.le_refl _) _).setCell (p := ⟨w.heap.size, 2, none⟩) (Nat.le_refl _) _).setCell (p := ⟨w.heap.size, 3, none⟩) (Nat.le_refl _) _)
                · have HV := hide (parseR_ne HC.out hv he)
                  have hne : ((bs (textP cc)).toList == (bs t).toList) = false := by rw [bs_toList, bs_toList, beq_eq_false_iff_ne]; exact he
                  clear hv he
                  generalize bs (textP cc) = S at *
                  go_wp2_with fail
                  have hbk : Blk ((((w6.setCell ⟨w.heap.size, 0, none⟩ (.int .i64 (⟨0, [], 0, 0⟩ : HN).n)).setCell ⟨w.heap.size, 1, none⟩ (.string ⟨(⟨0, [], 0, 0⟩ : HN).l.toArray⟩)).setCell ⟨w.heap.size, 2, none⟩ (.int .i64 (⟨0, [], 0, 0⟩ : HN).num)).setCell ⟨w.heap.size, 3, none⟩ (.int .i64 (⟨0, [], 0, 0⟩ : HN).den)) w.heap.size 23 (hCells (⟨0, [], 0, 0⟩ : HN)) := ((((HR6.out.blk.set_ 0 (.int .i64 (⟨0, [], 0, 0⟩ : HN).n)).set_ 1 (.string ⟨(⟨0, [], 0, 0⟩ : HN).l.toArray⟩)).set_ 2 (.int .i64 (⟨0, [], 0, 0⟩ : HN).num)).set_ 3 (.int .i64 (⟨0, [], 0, 0⟩ : HN).den))
                  refine bodyPost_ret (results_cell_tmp (p := 2) (u := 3) rfl _ _ w.heap.size 23 _ _ rfl hbk Tryd.underlying23 rfl (by kernel_rfl)) rfl ⟨ret_hn HV.out.1.symm HV.out.2.symm, ?_⟩
                  exact ((((HB6.out.setCell (p := ⟨w.heap.size, 0, none⟩) (Nat.le_refl _) _).setCell (p := ⟨w.heap.size, 1, none⟩) (Nat.le_refl _) _).setCell (p := ⟨w.heap.size, 2, none⟩) (Nat.le_refl _) _).setCell (p := ⟨w.heap.size, 3, none⟩) (Nat.le_refl _) _)
      · obtain ⟨g1, g2⟩ := (dgB_iff c).1 hdg
        have HT : Hid (t.take (k + 1) = t.take k ++ [c]) := by show _ = _; rw [List.take_add_one, hc]; rfl
        have HN1 : Hid (val 0 (t.take (k + 1)) = v * 10 + (c.toNat - 48)) := by show _ = _; rw [HT.out, val_snoc, HVv.out]
        have HA1 : Hid ((t.take (k + 1)).all dgB = true) := by show _ = _; rw [HT.out, List.all_append, HAl.out]; simp [hdg]
        have hv1 : v * 10 + (c.toNat - 48) < 1000000000 := by
          have := val_pow _ HA1.out
          rw [HN1.out] at this
          refine Nat.lt_of_lt_of_le this (Nat.le_trans (Nat.pow_le_pow_right (by decide) (show (t.take (k + 1)).length ≤ 9 by rw [List.length_take]; omega)) (by decide))
        have f1 : decide (48 ≤ (c.toNat : Int)) = true := decide_eq_true (by omega)
        have f2 : decide ((c.toNat : Int) ≤ 57) = true := decide_eq_true (by omega)
        have t1 : IntKind.i64.wrap (10 * (v : Int)) = 10 * (v : Int) := IntWalk.i64_in _ (by omega)
        have t2 : IntKind.u8.wrap ((c.toNat : Int) - 48) = (c.toNat : Int) - 48 := by simp [IntKind.wrap, IntKind.signed, IntKind.bits]; omega
        have t3 : IntKind.i64.wrap ((c.toNat : Int) - 48) = (c.toNat : Int) - 48 := IntWalk.i64_in _ (by omega)
        have t4 : IntKind.i64.wrap (10 * (v : Int) + ((c.toNat : Int) - 48)) = 10 * (v : Int) + ((c.toNat : Int) - 48) := IntWalk.i64_in _ (by omega)
        have HVC : Hid (10 * (v : Int) + ((c.toNat : Int) - 48) = ((v * 10 + (c.toNat - 48) : Nat) : Int)) := by show _ = _; omega
        obtain ⟨U, hU, g, u0, rfl, hgu, hi⟩ := cls wr
        obtain ⟨x0, x1, x2, x3⟩ := box_all hgu HNb.out
        have s0 := fun u => ((HNb.out.to (hgu u)).blk).frozen 0
        have HGU := hide hgu
        have HHI := hide hi
        clear hgu hi hc hdg
        go_wp2_with fail
        refine wp_region_class_tail g 10 (by kernel_rfl) (by kernel_rfl) (HHI.out _ (HGU.out _).drew) ?_
        simp only [List.take_succ_cons, List.take_zero, List.drop_succ_cons, List.drop_zero]
        repeat (go_big_quiet_step (fail))
        refine wpQuiet_nil ?_
        intro w2 hw2
        obtain ⟨u, rfl⟩ := hw2
        go_wp2_with fail
        rw [HVC.out]
        have HN2 : Hid (HBox ((g u).setCell ⟨w.heap.size + 1, 0, none⟩ (.int .i64 ((v * 10 + (c.toNat - 48) : Nat) : Int))) (w.heap.size + 1) ⟨((v * 10 + (c.toNat - 48) : Nat) : Int), [], 0, 0⟩) := ⟨(HNb.out.to (HGU.out u)).blk.set_ 0 _⟩
        have HR2 : Hid (HBox ((g u).setCell ⟨w.heap.size + 1, 0, none⟩ (.int .i64 ((v * 10 + (c.toNat - 48) : Nat) : Int))) w.heap.size ⟨0, [], 0, 0⟩) := ⟨(HR.out.to (HGU.out u)).blk.far (p := ⟨w.heap.size + 1, 0, none⟩) (Nat.ne_of_lt (Nat.lt_succ_self _)) _⟩
        have HB2 : Hid (Below w.heap.size w ((g u).setCell ⟨w.heap.size + 1, 0, none⟩ (.int .i64 ((v * 10 + (c.toNat - 48) : Nat) : Int)))) := (HBl.out.trans ((HGU.out u).mono HBl.out.size)).setCell (p := ⟨w.heap.size + 1, 0, none⟩) (Nat.le_succ _) _
        refine ⟨⟨k + 1, v * 10 + (c.toNat - 48), by go_num, by omega, hv1, HN1.out, HN2.out, HR2.out, HB2.out, HA1.out⟩, ?_⟩
        simp [intOf]; omega
    · obtain rfl : k = t.length := by omega
      have e2 : decide ((t.length : Int) < (t.length : Int)) = false := by simp
      have HC : Hid (candR t = ⟨v, [], 0, 0⟩) := by
        show _ = _
        have h1 : t.drop t.length = [] := List.drop_of_length_le (Nat.le_refl _)
        have := candR_at (L := []) (T := []) HAl.out (fun c r h => by rw [h1] at h; cases h) (by rw [h1]; rfl)
        rw [this, HVv.out]; rfl
      have HN5 := HNb
      have HR5 := HR
      have HB5 := HBl
      clear HNb HR HBl HA HB HB0
      have HFI : Hid (HN.fit (⟨(v : Int), [], 0, 0⟩ : HN)) := by show (bs _).size ≤ maxLen; rw [bs_size]; unfold maxLen; first | decide | (simp)
      obtain ⟨x0, x1, x2, x3⟩ := HN5.out.facts
      go_wp2_with fail
      refine (rText_any (⟨(v : Int), [], 0, 0⟩ : HN) _ HFI.out).mono ?_
      rintro e w6 ⟨rfl, hb⟩
      have HB6 := hide (HB5.out.trans (hb.mono HB5.out.size))
      have HR6 := hide (HR5.out.to hb)
      have HN6 := hide (HN5.out.to hb)
      clear hb HB5 HR5 HN5 x0 x1 x2 x3
      obtain ⟨cc, hc⟩ : ∃ cx, (⟨(v : Int), [], 0, 0⟩ : HN) = cx := ⟨_, rfl⟩
      rw [hc] at HN6 HC ⊢
      clear hc
      obtain ⟨x0, x1, x2, x3⟩ := HN6.out.facts
      obtain ⟨r0, r1, r2, r3⟩ := HR6.out.facts
      have s0 := HR6.out.blk.frozen 0
      have s1 := HR6.out.blk.frozen 1
      have s2 := HR6.out.blk.frozen 2
      have s3 := HR6.out.blk.frozen 3
      cases hv : cc.valid
      · have HV := hide (parseR_bad HC.out hv)
        clear hv
        go_wp2_with fail
        have hbk : Blk ((((w6.setCell ⟨w.heap.size, 0, none⟩ (.int .i64 (⟨0, [], 0, 0⟩ : HN).n)).setCell ⟨w.heap.size, 1, none⟩ (.string ⟨(⟨0, [], 0, 0⟩ : HN).l.toArray⟩)).setCell ⟨w.heap.size, 2, none⟩ (.int .i64 (⟨0, [], 0, 0⟩ : HN).num)).setCell ⟨w.heap.size, 3, none⟩ (.int .i64 (⟨0, [], 0, 0⟩ : HN).den)) w.heap.size 23 (hCells (⟨0, [], 0, 0⟩ : HN)) := ((((HR6.out.blk.set_ 0 (.int .i64 (⟨0, [], 0, 0⟩ : HN).n)).set_ 1 (.string ⟨(⟨0, [], 0, 0⟩ : HN).l.toArray⟩)).set_ 2 (.int .i64 (⟨0, [], 0, 0⟩ : HN).num)).set_ 3 (.int .i64 (⟨0, [], 0, 0⟩ : HN).den))
        refine bodyPost_ret (results_cell_tmp (p := 2) (u := 3) rfl _ _ w.heap.size 23 _ _ rfl hbk Tryd.underlying23 rfl (by kernel_rfl)) rfl ⟨ret_hn HV.out.1.symm HV.out.2.symm, ?_⟩
        exact ((((HB6.out.setCell (p := ⟨w.heap.size, 0, none⟩) (Nat.le_refl _) _).setCell (p := ⟨w.heap.size, 1, none⟩) (Nat.le_refl _) _).setCell (p := ⟨w.heap.size, 2, none⟩) (Nat.le_refl _) _).setCell (p := ⟨w.heap.size, 3, none⟩) (Nat.le_refl _) _)
      · by_cases he : textP cc = t
        · have HV := hide (parseR_ok HC.out hv he)
          rw [he]
          clear hv he
          go_wp2_with fail
          have hbk : Blk ((((w6.setCell ⟨w.heap.size, 0, none⟩ (.int .i64 cc.n)).setCell ⟨w.heap.size, 1, none⟩ (.string ⟨cc.l.toArray⟩)).setCell ⟨w.heap.size, 2, none⟩ (.int .i64 cc.num)).setCell ⟨w.heap.size, 3, none⟩ (.int .i64 cc.den)) w.heap.size 23 (hCells cc) := ((((HR6.out.blk.set_ 0 (.int .i64 cc.n)).set_ 1 (.string ⟨cc.l.toArray⟩)).set_ 2 (.int .i64 cc.num)).set_ 3 (.int .i64 cc.den))
          refine bodyPost_ret (results_cell_tmp (p := 2) (u := 3) rfl _ _ w.heap.size 23 _ _ rfl hbk Tryd.underlying23 rfl (by kernel_rfl)) rfl ⟨ret_hn HV.out.1.symm HV.out.2.symm, ?_⟩
          exact ((((HB6.out.setCell (p := ⟨w.heap.size, 0, none⟩) (Nat.le_refl _) _).setCell (p := ⟨w.heap.size, 1, none⟩) (Nat.le_refl _) _).setCell (p := ⟨w.heap.size, 2, none⟩) (Nat.le_refl _) _).setCell (p := ⟨w.heap.size, 3, none⟩) (Nat.le_refl _) _)
        · have HV := hide (parseR_ne HC.out hv he)
          have hne : ((bs (textP cc)).toList == (bs t).toList) = false := by rw [bs_toList, bs_toList, beq_eq_false_iff_ne]; exact he
          clear hv he
          generalize bs (textP cc) = S at *
          go_wp2_with fail
          have hbk : Blk ((((w6.setCell ⟨w.heap.size, 0, none⟩ (.int .i64 (⟨0, [], 0, 0⟩ : HN).n)).setCell ⟨w.heap.size, 1, none⟩ (.string ⟨(⟨0, [], 0, 0⟩ : HN).l.toArray⟩)).setCell ⟨w.heap.size, 2, none⟩ (.int .i64 (⟨0, [], 0, 0⟩ : HN).num)).setCell ⟨w.heap.size, 3, none⟩ (.int .i64 (⟨0, [], 0, 0⟩ : HN).den)) w.heap.size 23 (hCells (⟨0, [], 0, 0⟩ : HN)) := ((((HR6.out.blk.set_ 0 (.int .i64 (⟨0, [], 0, 0⟩ : HN).n)).set_ 1 (.string ⟨(⟨0, [], 0, 0⟩ : HN).l.toArray⟩)).set_ 2 (.int .i64 (⟨0, [], 0, 0⟩ : HN).num)).set_ 3 (.int .i64 (⟨0, [], 0, 0⟩ : HN).den))
          refine bodyPost_ret (results_cell_tmp (p := 2) (u := 3) rfl _ _ w.heap.size 23 _ _ rfl hbk Tryd.underlying23 rfl (by kernel_rfl)) rfl ⟨ret_hn HV.out.1.symm HV.out.2.symm, ?_⟩
          exact ((((HB6.out.setCell (p := ⟨w.heap.size, 0, none⟩) (Nat.le_refl _) _).setCell (p := ⟨w.heap.size, 1, none⟩) (Nat.le_refl _) _).setCell (p := ⟨w.heap.size, 2, none⟩) (Nat.le_refl _) _).setCell (p := ⟨w.heap.size, 3, none⟩) (Nat.le_refl _) _)
end Go.Proofs.YtabphhclnboknaaDoor
