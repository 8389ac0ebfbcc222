/- Several texts as one, in build order. -/
import Derived.Test.YtdcafoekbnacnaaGreatDoorMD
import Derived.Test.YtdcafoekbnacnaaGreatDoorMC
import Derived.Deep.DeepCutAuto
import Derived.BigQuiet
import Derived.Test.YtdcafoekbnacnaaGreatDoorMA
import Derived.ChangeKeysEq
import Derived.Test.YtdcafoekbnacnaaGreatDoorMB
/- The reference of layer 23: the reader: fault, sees, take. -/
set_option linter.unusedVariables false
set_option linter.unusedSimpArgs false
namespace Go.Proofs.YtdcafoekbnacnaaGreatDoor
open Go.RowKit Go.Shelf
attribute [local go_sem] Oper.semAt_some

theorem TksAt.at9 {w : World} {v : Value} {l : List Tk} (h : TksAt w v l) {k : Nat} {x : Tk} (hp : l[k]? = some x) :
    ∃ a c, v = .slice (some a) l.length c ∧ l.length ≤ c ∧ a.block < w.heap.size ∧ w.cell? (a.add (k * 4)) = some (.int .i64 x.k) ∧ w.cell? ⟨(a.add (k * 4)).block, (a.add (k * 4)).off + 1, none⟩ = some (.int .i64 x.a) ∧
      w.cell? ⟨(a.add (k * 4)).block, (a.add (k * 4)).off + 2, none⟩ = some (.int .i64 x.n) ∧ w.cell? ⟨(a.add (k * 4)).block, (a.add (k * 4)).off + 3, none⟩ = some (.string (bs x.s)) := by
  obtain ⟨a, c, h1, h2, h3, _, h4⟩ := RowsAt.at_ h (k := k) (x := tkV x) (by rw [List.getElem?_map, hp]; rfl)
  rw [List.length_map] at h1 h2
  refine ⟨a, c, h1, h2, h3, h4 0 _ rfl, ?_, ?_, ?_⟩
  · have := h4 1 _ rfl; unfold Addr.add at this ⊢; simpa using this
  · have := h4 2 _ rfl; unfold Addr.add at this ⊢; simpa using this
  · have := h4 3 _ rfl; unfold Addr.add at this ⊢; simpa using this
/-- the reader in memory: its box bR behind the world w0, in which the tokens lie -/
structure Rdr (w0 : World) (bR : Nat) (v : Value) (en : Int) (L : List Tk) (q : RQ) (w : World) : Prop where
  bel : Below w0.heap.size w0 w
  st : ∃ i : Nat, i ≤ L.length ∧ q.r = L.drop i ∧ Blk w bR 77 #[v, .int .i64 (i : Int), .int .i64 en, .int .i64 q.e, .int .i64 q.a]
theorem only_drewN (w : World) (n g : Nat) : Only w (w.drewN n) g := ⟨rfl, rfl, rfl, Nat.le_refl _, fun _ _ _ => rfl⟩
theorem Rdr.drewN {w0 : World} {bR : Nat} {v : Value} {en : Int} {L : List Tk} {q : RQ} {w : World} (h : Rdr w0 bR v en L q w) (n : Nat) : Rdr w0 bR v en L q (w.drewN n) := ⟨below_drewN h.bel n, h.st⟩
theorem Rdr.to {w0 : World} {bR : Nat} {v : Value} {en : Int} {L : List Tk} {q : RQ} {w w' : World} (h : Rdr w0 bR v en L q w) (hb : Below w.heap.size w w') : Rdr w0 bR v en L q w' := by
  obtain ⟨i, h1, h2, h3⟩ := h.st
  exact ⟨below_to h.bel (Nat.le_refl _) hb, i, h1, h2, h3.to hb⟩
theorem fault_any {w0 : World} {bR : Nat} (hR : w0.heap.size ≤ bR) (v : Value) (en : Int) (L : List Tk) (q : RQ) (e a : Int) (w : World) (h : Rdr w0 bR v en L q w) :
    Calls Tryz.prog 49 #[.pointer (some ⟨bR, 0, none⟩), .int .i64 e, .int .i64 a] w fun r w' => r = .returned (.tuple #[]) ∧ Only w w' bR ∧ Rdr w0 bR v en L (faultQ e a q) w' := by
  obtain ⟨hb, i, hi, hr, hB⟩ := h
  have HB := hide hB
  have HW := hide hb
  have c3 : w.cell? ⟨bR, 3, none⟩ = some (.int .i64 q.e) := hB.cell 3
  have c4 : w.cell? ⟨bR, 4, none⟩ = some (.int .i64 q.a) := hB.cell 4
  have f3 : w.frozen? ⟨bR, 3, none⟩ = false := hB.frozen 3
  have f4 : ∀ u, (w.setCell ⟨bR, 3, none⟩ u).frozen? ⟨bR, 4, none⟩ = false := fun u => (HB.out.set_ 3 u).frozen 4
  have f4' : w.frozen? ⟨bR, 4, none⟩ = false := hB.frozen 4
  have HRR := hide hr
  clear hB hb hr
  go_enter Tryz.func49, Tryz.ntmps49
  by_cases h0 : q.e = 0
  · have e1 : (q.e == 0) = true := by rw [h0]; rfl
    have HF : Hid (faultQ e a q = ⟨q.r, e, a⟩) := by show _ = _; unfold faultQ; rw [if_pos h0]
    clear h0
    go_wp2_with fail
    go_end0
    refine ⟨rfl, ((Only.refl _ _).set_ 3 _).set_ 4 _, ?_⟩
    rw [HF.out]
    exact ⟨(HW.out.setCell (p := ⟨bR, 3, none⟩) hR _).setCell (p := ⟨bR, 4, none⟩) hR _, i, hi, HRR.out, (HB.out.set_ 3 (.int .i64 e)).set_ 4 (.int .i64 a)⟩
  · have e1 : (q.e == 0) = false := by rw [beq_eq_false_iff_ne]; exact h0
    have HF : Hid (faultQ e a q = q) := by show _ = _; unfold faultQ; rw [if_neg h0]
    clear h0
    go_wp2_with fail
    go_end0
    refine ⟨rfl, Only.refl _ _, ?_⟩
    rw [HF.out]
    exact ⟨HW.out, i, hi, HRR.out, HB.out⟩
theorem sees_nil {k : Int} {s : List UInt8} {q : RQ} (h : q.r = []) : seesQ k s q = false := by unfold seesQ; rw [h]; simp [seesP]
theorem sees_cons {k : Int} {s : List UInt8} {q : RQ} {t : Tk} {r : List Tk} (h : q.r = t :: r) : seesQ k s q = (decide (q.e = 0) && (decide (t.k = k) && decide (t.s = s))) := by unfold seesQ; rw [h]; rfl
set_option maxRecDepth 100000 in
set_option maxHeartbeats 4000000 in
theorem rsees_any {w0 : World} {bR : Nat} (v : Value) (en : Int) (L : List Tk) (hL : L.length ≤ 1000000) (hT : TksAt w0 v L) (q : RQ) (k : Int) (s : List UInt8) (w : World) (h : Rdr w0 bR v en L q w) :
    Calls Tryz.prog 47 #[.pointer (some ⟨bR, 0, none⟩), .int .i64 k, .string (bs s)] w fun r w' => r = .returned (.bool (seesQ k s q)) ∧ ∃ n, w' = w.drewN n := by
  have HTT := hide hT
  obtain ⟨A, cp, rfl, hcp⟩ := hT.slice
  obtain ⟨hb, i, hi, hr, hB⟩ := h
  have HW := hide hb
  have b0 : w.cell? ⟨bR, 0, none⟩ = some (.slice A L.length cp) := hB.cell 0
  have b1 : w.cell? ⟨bR, 1, none⟩ = some (.int .i64 (i : Int)) := hB.cell 1
  have b3 : w.cell? ⟨bR, 3, none⟩ = some (.int .i64 q.e) := hB.cell 3
  clear hB hT hb
  by_cases h0 : q.e = 0
  · have e1 : (q.e == 0) = true := by rw [h0]; rfl
    by_cases hil : i < L.length
    · have e2 : decide ((i : Int) < (L.length : Int)) = true := decide_eq_true (by omega)
      obtain ⟨t, ht⟩ : ∃ t, L[i]? = some t := ⟨_, List.getElem?_eq_getElem hil⟩
      have HS := hide (sees_cons (k := k) (s := s) (hr.trans (drop_hd ht)))
      obtain ⟨ad, cp', ea, _, hab, c0, c1, c2, c3⟩ := (HTT.out.to HW.out).at9 ht
      injection ea with ea _ ec
      subst ec
      obtain rfl := ea
      have k0 : (0 : Int) ≤ (i : Int) := by omega
      have k1 : (i : Int) < (L.length : Int) := by omega
      rw [decide_eq_true h0, Bool.true_and] at HS
      by_cases hk : t.k = k
      · have e3 : (t.k == k) = true := by rw [beq_iff_eq]; exact hk
        rw [decide_eq_true hk, Bool.true_and] at HS
        have e4 : ((bs t.s).toList == (bs s).toList) = decide (t.s = s) := by
          rw [bs_toList, bs_toList, Bool.eq_iff_iff, beq_iff_eq, decide_eq_true_eq]
        clear h0 hk hr ht hab
        generalize decide (t.s = s) = d at *
        go_enter Tryz.func47, Tryz.ntmps47
        go_wp2_with fail
        go_quiet (fail)
        go_wp2_with fail
        go_ret
        exact ⟨ret_bool (by rw [HS.out]), _, rfl⟩
      · have e3 : (t.k == k) = false := by rw [beq_eq_false_iff_ne]; exact hk
        rw [decide_eq_false hk, Bool.false_and] at HS
        clear h0 hk hr ht hab
        go_enter Tryz.func47, Tryz.ntmps47
        go_wp2_with fail
        go_quiet (fail)
        go_wp2_with fail
        go_ret
        exact ⟨ret_bool (by rw [HS.out]), _, rfl⟩
    · have e2 : decide ((i : Int) < (L.length : Int)) = false := decide_eq_false (by omega)
      have HS := hide (sees_nil (k := k) (s := s) (hr.trans (List.drop_eq_nil_of_le (by omega))))
      clear h0 hr
      go_enter Tryz.func47, Tryz.ntmps47
      go_wp2_with fail
      go_quiet (fail)
      go_wp2_with fail
      go_ret
      exact ⟨ret_bool (by rw [HS.out]), _, rfl⟩
  · have e1 : (q.e == 0) = false := by rw [beq_eq_false_iff_ne]; exact h0
    have HS := hide (sees_err h0 k s)
    clear h0 hr
    go_enter Tryz.func47, Tryz.ntmps47
    go_wp2_with fail
    go_quiet (fail)
    go_wp2_with fail
    go_ret
    exact ⟨ret_bool (by rw [HS.out]), _, rfl⟩
end Go.Proofs.YtdcafoekbnacnaaGreatDoor

/- The reference of layer 23: the reader: take. -/
set_option linter.unusedVariables false
set_option linter.unusedSimpArgs false
namespace Go.Proofs.YtdcafoekbnacnaaGreatDoor
open Go.RowKit Go.Shelf
attribute [local go_sem] Oper.semAt_some

set_option maxRecDepth 100000 in
set_option maxHeartbeats 4000000 in
theorem rtake_any {w0 : World} {bR : Nat} (hR : w0.heap.size ≤ bR) (v : Value) (en : Int) (L : List Tk) (hL : L.length ≤ 1000000) (hT : TksAt w0 v L) (q : RQ) (k : Int) (s : List UInt8) (w : World) (h : Rdr w0 bR v en L q w) :
    Calls Tryz.prog 46 #[.pointer (some ⟨bR, 0, none⟩), .int .i64 k, .string (bs s)] w fun r w' => r = .returned (.agg (tcells (takeQ en k s q).1)) ∧ Only w w' bR ∧ Rdr w0 bR v en L (takeQ en k s q).2 w' := by
  have HTT := hide hT
  obtain ⟨A, cp, rfl, hcp⟩ := hT.slice
  have H0 := hide h
  obtain ⟨hb, i, hi, hr, hB⟩ := h
  have HRR := hide hr
  have hlt := hB.lt
  have HLT : Hid (bR < w.heap.size) := hB.lt
  have HX := hide (Blk.new w 50 #[.int .i64 0, .int .i64 0, .int .i64 0, .string ⟨#[]⟩])
  have HO := hide (Only.of_below bR (below_one w (.cells #[.int .i64 0, .int .i64 0, .int .i64 0, .string ⟨#[]⟩] 50)))
  have HR1 := hide (H0.out.to (below_one w (.cells #[.int .i64 0, .int .i64 0, .int .i64 0, .string ⟨#[]⟩] 50)))
  have HB1 := hide (hB.to (below_one w (.cells #[.int .i64 0, .int .i64 0, .int .i64 0, .string ⟨#[]⟩] 50)))
  have HW1 := hide (below_alloc hb (Nat.le_refl _) (.cells #[.int .i64 0, .int .i64 0, .int .i64 0, .string ⟨#[]⟩] 50))
  clear hB hT hb hr
  go_enter Tryz.func46, Tryz.ntmps46
  go_upto_region 1 with fail
  generalize w.alloc (.cells #[.int .i64 0, .int .i64 0, .int .i64 0, .string ⟨#[]⟩] 50) = w1 at *
  have b0 : w1.cell? ⟨bR, 0, none⟩ = some (.slice A L.length cp) := HB1.out.cell 0
  have b1 : w1.cell? ⟨bR, 1, none⟩ = some (.int .i64 (i : Int)) := HB1.out.cell 1
  have b2 : w1.cell? ⟨bR, 2, none⟩ = some (.int .i64 en) := HB1.out.cell 2
  by_cases hil : i < L.length
  · have e2 : decide ((L.length : Int) ≤ (i : Int)) = false := decide_eq_false (by omega)
    obtain ⟨t, ht⟩ : ∃ t, L[i]? = some t := ⟨_, List.getElem?_eq_getElem hil⟩
    have HQ := hide (HRR.out.trans (drop_hd ht))
    obtain ⟨ad, cp', ea, _, hab, c0, c1, c2, c3⟩ := (HTT.out.to HW1.out).at9 ht
    injection ea with ea _ ec
    subst ec
    obtain rfl := ea
    have k0 : (0 : Int) ≤ (i : Int) := by omega
    have k1 : (i : Int) < (L.length : Int) := by omega
    clear hab c0 c1 c2 c3
    go_wp2_with fail
    go_quiet (fail)
    clear b0 b1 b2
    have HX2 := hide (HX.out.drewN nq)
    have HR2 := hide (HR1.out.drewN nq)
    have HO2 := hide (HO.out.trans (only_drewN w1 nq bR))
    have HB2 := hide (HB1.out.drewN nq)
    have HW2 := hide (below_drewN HW1.out nq)
    clear HX HR1 HO HB1 HW1
    generalize w1.drewN nq = w2 at *
    obtain ⟨ad9, cp9, ea, _, hab, c0, c1, c2, c3⟩ := (HTT.out.to HW2.out).at9 ht
    injection ea with ea _ ec
    injection ea with ea
    subst ea
    clear ec
    have b0 : w2.cell? ⟨bR, 0, none⟩ = some (.slice (some ad) L.length cp) := HB2.out.cell 0
    have b1 : w2.cell? ⟨bR, 1, none⟩ = some (.int .i64 (i : Int)) := HB2.out.cell 1
    have HA : Hid (Below w2.heap.size w2 (w2.alloc (.cells #[.int .i64 0, .int .i64 0, .int .i64 0, .string ⟨#[]⟩] 50))) := below_alloc (Below.refl _ _) (Nat.le_refl _) _
    have HT3 := (HTT.out.to (below_to HW2.out (Nat.le_refl _) HA.out)).at9 ht
    obtain ⟨ad9, cp9, ea, _, hab3, g0, g1, g2, g3⟩ := HT3
    injection ea with ea _ ec
    injection ea with ea
    subst ea
    clear ec
    have d0 : (w2.alloc (.cells #[.int .i64 0, .int .i64 0, .int .i64 0, .string ⟨#[]⟩] 50)).cell? ⟨bR, 0, none⟩ = some (.slice (some ad) L.length cp) := (HB2.out.to HA.out).cell 0
    have d1 : (w2.alloc (.cells #[.int .i64 0, .int .i64 0, .int .i64 0, .string ⟨#[]⟩] 50)).cell? ⟨bR, 1, none⟩ = some (.int .i64 (i : Int)) := (HB2.out.to HA.out).cell 1
    have HY : Hid (Blk (w2.alloc (.cells #[.int .i64 0, .int .i64 0, .int .i64 0, .string ⟨#[]⟩] 50)) w2.heap.size 50 #[.int .i64 0, .int .i64 0, .int .i64 0, .string ⟨#[]⟩]) := Blk.new w2 _ _
    have y0 : (w2.alloc (.cells #[.int .i64 0, .int .i64 0, .int .i64 0, .string ⟨#[]⟩] 50)).cell? ⟨w2.heap.size, 0, none⟩ = some (.int .i64 0) := HY.out.cell 0
    have y1 : (w2.alloc (.cells #[.int .i64 0, .int .i64 0, .int .i64 0, .string ⟨#[]⟩] 50)).cell? ⟨w2.heap.size, 1, none⟩ = some (.int .i64 0) := HY.out.cell 1
    have y2 : (w2.alloc (.cells #[.int .i64 0, .int .i64 0, .int .i64 0, .string ⟨#[]⟩] 50)).cell? ⟨w2.heap.size, 2, none⟩ = some (.int .i64 0) := HY.out.cell 2
    have y3 : (w2.alloc (.cells #[.int .i64 0, .int .i64 0, .int .i64 0, .string ⟨#[]⟩] 50)).cell? ⟨w2.heap.size, 3, none⟩ = some (.string ⟨#[]⟩) := HY.out.cell 3
    have fy : ∀ j, (w2.alloc (.cells #[.int .i64 0, .int .i64 0, .int .i64 0, .string ⟨#[]⟩] 50)).frozen? ⟨w2.heap.size, j, none⟩ = false := fun j => HY.out.frozen j
    clear ht hab hab3
    go_upto_region 4 with fail
    go_region
    clear b0 b1 c0 c1 c2 c3 d0 d1 g0 g1 g2 g3 y0 y1 y2 y3 fy HA HY
    have HA4 : Hid (Below w2.heap.size w2 ((w2.alloc (.cells #[.int .i64 t.k, .int .i64 t.a, .int .i64 t.n, .string (bs t.s)] 50)).drew)) := (below_one w2 _).drew
    have HY4 : Hid (Blk ((w2.alloc (.cells #[.int .i64 t.k, .int .i64 t.a, .int .i64 t.n, .string (bs t.s)] 50)).drew) w2.heap.size 50 #[.int .i64 t.k, .int .i64 t.a, .int .i64 t.n, .string (bs t.s)]) := (Blk.new w2 _ _).drew
    have HX4 := hide (HX2.out.to HA4.out)
    have HR4 := hide (HR2.out.to HA4.out)
    have HO4 := hide (HO2.out.trans (Only.of_below bR HA4.out))
    have HB4 := hide (HB2.out.to HA4.out)
    have HL7 : Hid (bR < w2.heap.size) := HB2.out.lt
    have HL8 : Hid (w.heap.size < w2.heap.size) := HX2.out.lt
    clear HA4
    generalize ((w2.alloc (.cells #[.int .i64 t.k, .int .i64 t.a, .int .i64 t.n, .string (bs t.s)] 50)).drew) = w4 at *
    generalize w2.heap.size = b7 at *
    have y0 : w4.cell? ⟨b7, 0, none⟩ = some (.int .i64 t.k) := HY4.out.cell 0
    have y3 : w4.cell? ⟨b7, 3, none⟩ = some (.string (bs t.s)) := HY4.out.cell 3
    by_cases hk : t.k = k
    · have e3 : (t.k != k) = false := by rw [hk]; simp
      by_cases hs : s = []
      · have e4 : (bs s).toList.isEmpty = true := by rw [bs_toList, hs]; rfl
        have HC : Hid (¬ (t.k ≠ k ∨ (s ≠ [] ∧ t.s ≠ s))) := by
          rintro (h | h)
          · exact h hk
          · exact h.1 hs
        clear hk hs
        have HV : Hid (takeQ en k s q = (t, ⟨L.drop (i + 1), q.e, q.a⟩)) := by show _ = _; unfold takeQ; rw [HQ.out]; dsimp only; rw [if_neg HC.out]
        have HRI : Hid (q.r = L.drop i) := HRR.out
        have HRW := HR4
        have HXW := HX4
        have HYW := HY4
        have HOW := HO4
        clear HR4 HX4 HY4 HO4 HB4 HX2 HR2 HO2 HB2 HW2
        clear y0 y3
        obtain ⟨hbW, j, hj, hrj, hBW⟩ := HRW.out
        obtain rfl : j = i := by
          have h1 : (L.drop j).length = (L.drop i).length := by rw [← hrj, ← HRI.out]
          rw [List.length_drop, List.length_drop] at h1
          omega
        have HBW := hide hBW
        have HWW := hide hbW
        clear hbW hBW hrj HRW
        have b1 : w4.cell? ⟨bR, 1, none⟩ = some (.int .i64 (j : Int)) := HBW.out.cell 1
        have fb : w4.frozen? ⟨bR, 1, none⟩ = false := HBW.out.frozen 1
        have x0 : w4.cell? ⟨w.heap.size, 0, none⟩ = some (.int .i64 0) := HXW.out.cell 0
        have x1 : w4.cell? ⟨w.heap.size, 1, none⟩ = some (.int .i64 0) := HXW.out.cell 1
        have x2 : w4.cell? ⟨w.heap.size, 2, none⟩ = some (.int .i64 0) := HXW.out.cell 2
        have x3 : w4.cell? ⟨w.heap.size, 3, none⟩ = some (.string ⟨#[]⟩) := HXW.out.cell 3
        have fx : ∀ j, w4.frozen? ⟨w.heap.size, j, none⟩ = false := fun j => HXW.out.frozen j
        have y0 : w4.cell? ⟨b7, 0, none⟩ = some (.int .i64 t.k) := HYW.out.cell 0
        have y1 : w4.cell? ⟨b7, 1, none⟩ = some (.int .i64 t.a) := HYW.out.cell 1
        have y2 : w4.cell? ⟨b7, 2, none⟩ = some (.int .i64 t.n) := HYW.out.cell 2
        have y3 : w4.cell? ⟨b7, 3, none⟩ = some (.string (bs t.s)) := HYW.out.cell 3
        have n1 : bR ≠ w.heap.size := by have := HLT.out; omega
        have n2 : bR ≠ b7 := by have := HL7.out; omega
        have n3 : w.heap.size ≠ b7 := by have := HL8.out; omega
        have n4 : w.heap.size ≠ bR := Ne.symm n1
        have n5 : b7 ≠ bR := Ne.symm n2
        have n6 : b7 ≠ w.heap.size := Ne.symm n3
        go_wp2_with fail
        have hbk := ((((HXW.out.far (p := ⟨bR, 1, none⟩) n4 (.int .i64 ((j : Int) + 1))).set_ 0 (.int .i64 t.k)).set_ 1 (.int .i64 t.a)).set_ 2 (.int .i64 t.n)).set_ 3 (.string (bs t.s))
        have hbr := ((((HBW.out.set_ 1 (.int .i64 ((j : Int) + 1))).far (p := ⟨w.heap.size, 0, none⟩) n1 (.int .i64 t.k)).far (p := ⟨w.heap.size, 1, none⟩) n1 (.int .i64 t.a)).far (p := ⟨w.heap.size, 2, none⟩) n1 (.int .i64 t.n)).far (p := ⟨w.heap.size, 3, none⟩) n1 (.string (bs t.s))
        refine bodyPost_ret (results_cell_blk rfl _ _ w.heap.size 50 _ _ rfl hbk Tryz.underlying50 rfl (by kernel_rfl)) rfl ⟨by rw [HV.out]; rfl, ?_, ?_⟩
        · exact ((((HOW.out.set_ 1 _).set_new (Nat.le_refl _) 0 _).set_new (Nat.le_refl _) 1 _).set_new (Nat.le_refl _) 2 _).set_new (Nat.le_refl _) 3 _
        · rw [HV.out]
          have hz := H0.out.bel.size
          exact ⟨((((HWW.out.setCell (p := ⟨bR, 1, none⟩) hR _).setCell (p := ⟨w.heap.size, 0, none⟩) hz _).setCell (p := ⟨w.heap.size, 1, none⟩) hz _).setCell (p := ⟨w.heap.size, 2, none⟩) hz _).setCell (p := ⟨w.heap.size, 3, none⟩) hz _, j + 1, by omega, rfl, by rw [show (((j + 1 : Nat)) : Int) = (j : Int) + 1 by omega]; exact hbr⟩
      · have e4 : (bs s).toList.isEmpty = false := by rw [bs_toList]; cases s with | nil => exact absurd rfl hs | cons a l => rfl
        by_cases hts : t.s = s
        · have e5 : ((bs t.s).toList != (bs s).toList) = false := by rw [bs_toList, bs_toList, hts]; simp
          have e6 : ((bs t.s).toList == (bs s).toList) = true := by rw [bs_toList, bs_toList, hts]; simp
          have HC : Hid (¬ (t.k ≠ k ∨ (s ≠ [] ∧ t.s ≠ s))) := by
            rintro (h | h)
            · exact h hk
            · exact h.2 hts
          clear hk hs hts
          have HV : Hid (takeQ en k s q = (t, ⟨L.drop (i + 1), q.e, q.a⟩)) := by show _ = _; unfold takeQ; rw [HQ.out]; dsimp only; rw [if_neg HC.out]
          have HRI : Hid (q.r = L.drop i) := HRR.out
          have HRW := HR4
          have HXW := HX4
          have HYW := HY4
          have HOW := HO4
          clear HR4 HX4 HY4 HO4 HB4 HX2 HR2 HO2 HB2 HW2
          clear y0 y3
          obtain ⟨hbW, j, hj, hrj, hBW⟩ := HRW.out
          obtain rfl : j = i := by
            have h1 : (L.drop j).length = (L.drop i).length := by rw [← hrj, ← HRI.out]
            rw [List.length_drop, List.length_drop] at h1
            omega
          have HBW := hide hBW
          have HWW := hide hbW
          clear hbW hBW hrj HRW
          have b1 : w4.cell? ⟨bR, 1, none⟩ = some (.int .i64 (j : Int)) := HBW.out.cell 1
          have fb : w4.frozen? ⟨bR, 1, none⟩ = false := HBW.out.frozen 1
          have x0 : w4.cell? ⟨w.heap.size, 0, none⟩ = some (.int .i64 0) := HXW.out.cell 0
          have x1 : w4.cell? ⟨w.heap.size, 1, none⟩ = some (.int .i64 0) := HXW.out.cell 1
          have x2 : w4.cell? ⟨w.heap.size, 2, none⟩ = some (.int .i64 0) := HXW.out.cell 2
          have x3 : w4.cell? ⟨w.heap.size, 3, none⟩ = some (.string ⟨#[]⟩) := HXW.out.cell 3
          have fx : ∀ j, w4.frozen? ⟨w.heap.size, j, none⟩ = false := fun j => HXW.out.frozen j
          have y0 : w4.cell? ⟨b7, 0, none⟩ = some (.int .i64 t.k) := HYW.out.cell 0
          have y1 : w4.cell? ⟨b7, 1, none⟩ = some (.int .i64 t.a) := HYW.out.cell 1
          have y2 : w4.cell? ⟨b7, 2, none⟩ = some (.int .i64 t.n) := HYW.out.cell 2
          have y3 : w4.cell? ⟨b7, 3, none⟩ = some (.string (bs t.s)) := HYW.out.cell 3
          have n1 : bR ≠ w.heap.size := by have := HLT.out; omega
          have n2 : bR ≠ b7 := by have := HL7.out; omega
          have n3 : w.heap.size ≠ b7 := by have := HL8.out; omega
          have n4 : w.heap.size ≠ bR := Ne.symm n1
          have n5 : b7 ≠ bR := Ne.symm n2
          have n6 : b7 ≠ w.heap.size := Ne.symm n3
          go_wp2_with fail
          have hbk := ((((HXW.out.far (p := ⟨bR, 1, none⟩) n4 (.int .i64 ((j : Int) + 1))).set_ 0 (.int .i64 t.k)).set_ 1 (.int .i64 t.a)).set_ 2 (.int .i64 t.n)).set_ 3 (.string (bs t.s))
          have hbr := ((((HBW.out.set_ 1 (.int .i64 ((j : Int) + 1))).far (p := ⟨w.heap.size, 0, none⟩) n1 (.int .i64 t.k)).far (p := ⟨w.heap.size, 1, none⟩) n1 (.int .i64 t.a)).far (p := ⟨w.heap.size, 2, none⟩) n1 (.int .i64 t.n)).far (p := ⟨w.heap.size, 3, none⟩) n1 (.string (bs t.s))
          refine bodyPost_ret (results_cell_blk rfl _ _ w.heap.size 50 _ _ rfl hbk Tryz.underlying50 rfl (by kernel_rfl)) rfl ⟨by rw [HV.out]; rfl, ?_, ?_⟩
          · exact ((((HOW.out.set_ 1 _).set_new (Nat.le_refl _) 0 _).set_new (Nat.le_refl _) 1 _).set_new (Nat.le_refl _) 2 _).set_new (Nat.le_refl _) 3 _
          · rw [HV.out]
            have hz := H0.out.bel.size
            exact ⟨((((HWW.out.setCell (p := ⟨bR, 1, none⟩) hR _).setCell (p := ⟨w.heap.size, 0, none⟩) hz _).setCell (p := ⟨w.heap.size, 1, none⟩) hz _).setCell (p := ⟨w.heap.size, 2, none⟩) hz _).setCell (p := ⟨w.heap.size, 3, none⟩) hz _, j + 1, by omega, rfl, by rw [show (((j + 1 : Nat)) : Int) = (j : Int) + 1 by omega]; exact hbr⟩
        · have e5 : ((bs t.s).toList != (bs s).toList) = true := by rw [bs_toList, bs_toList, bne_iff_ne]; exact hts
          have e6 : ((bs t.s).toList == (bs s).toList) = false := by rw [bs_toList, bs_toList, beq_eq_false_iff_ne]; exact hts
          have HC : Hid (t.k ≠ k ∨ (s ≠ [] ∧ t.s ≠ s)) := .inr ⟨hs, hts⟩
          clear hk hs hts
          have HV : Hid (takeQ en k s q = (t, ⟨L.drop (i + 1), (faultQ 5 t.a q).e, (faultQ 5 t.a q).a⟩)) := by show _ = _; unfold takeQ; rw [HQ.out]; dsimp only; rw [if_pos HC.out]
          have y1 : w4.cell? ⟨b7, 1, none⟩ = some (.int .i64 t.a) := HY4.out.cell 1
          go_wp2_with fail
          refine (fault_any hR (.slice (some ad) L.length cp) en L q 5 t.a w4 HR4.out).mono ?_
          rintro e w5 ⟨rfl, hO5, hR5⟩
          have HRI : Hid ((faultQ 5 t.a q).r = L.drop i) := by show _ = _; rw [← HRR.out]; unfold faultQ; split <;> rfl
          have HRW := hide hR5
          have HXW := hide (hO5.blk HX4.out (by have := HLT.out; omega))
          have HYW := hide (hO5.blk HY4.out (by have := HL7.out; omega))
          have HOW := hide (HO4.out.trans hO5)
          clear hR5 hO5 HR4 HX4 HY4 HO4 HB4 HX2 HR2 HO2 HB2 HW2 y0 y1 y3 e3 e4 e5
          obtain ⟨hbW, j, hj, hrj, hBW⟩ := HRW.out
          obtain rfl : j = i := by
            have h1 : (L.drop j).length = (L.drop i).length := by rw [← hrj, ← HRI.out]
            rw [List.length_drop, List.length_drop] at h1
            omega
          have HBW := hide hBW
          have HWW := hide hbW
          clear hbW hBW hrj HRW
          have b1 : w5.cell? ⟨bR, 1, none⟩ = some (.int .i64 (j : Int)) := HBW.out.cell 1
          have fb : w5.frozen? ⟨bR, 1, none⟩ = false := HBW.out.frozen 1
          have x0 : w5.cell? ⟨w.heap.size, 0, none⟩ = some (.int .i64 0) := HXW.out.cell 0
          have x1 : w5.cell? ⟨w.heap.size, 1, none⟩ = some (.int .i64 0) := HXW.out.cell 1
          have x2 : w5.cell? ⟨w.heap.size, 2, none⟩ = some (.int .i64 0) := HXW.out.cell 2
          have x3 : w5.cell? ⟨w.heap.size, 3, none⟩ = some (.string ⟨#[]⟩) := HXW.out.cell 3
          have fx : ∀ j, w5.frozen? ⟨w.heap.size, j, none⟩ = false := fun j => HXW.out.frozen j
          have y0 : w5.cell? ⟨b7, 0, none⟩ = some (.int .i64 t.k) := HYW.out.cell 0
          have y1 : w5.cell? ⟨b7, 1, none⟩ = some (.int .i64 t.a) := HYW.out.cell 1
          have y2 : w5.cell? ⟨b7, 2, none⟩ = some (.int .i64 t.n) := HYW.out.cell 2
          have y3 : w5.cell? ⟨b7, 3, none⟩ = some (.string (bs t.s)) := HYW.out.cell 3
          have n1 : bR ≠ w.heap.size := by have := HLT.out; omega
          have n2 : bR ≠ b7 := by have := HL7.out; omega
          have n3 : w.heap.size ≠ b7 := by have := HL8.out; omega
          have n4 : w.heap.size ≠ bR := Ne.symm n1
          have n5 : b7 ≠ bR := Ne.symm n2
          have n6 : b7 ≠ w.heap.size := Ne.symm n3
          go_wp2_with fail
          have hbk := ((((HXW.out.far (p := ⟨bR, 1, none⟩) n4 (.int .i64 ((j : Int) + 1))).set_ 0 (.int .i64 t.k)).set_ 1 (.int .i64 t.a)).set_ 2 (.int .i64 t.n)).set_ 3 (.string (bs t.s))
          have hbr := ((((HBW.out.set_ 1 (.int .i64 ((j : Int) + 1))).far (p := ⟨w.heap.size, 0, none⟩) n1 (.int .i64 t.k)).far (p := ⟨w.heap.size, 1, none⟩) n1 (.int .i64 t.a)).far (p := ⟨w.heap.size, 2, none⟩) n1 (.int .i64 t.n)).far (p := ⟨w.heap.size, 3, none⟩) n1 (.string (bs t.s))
          refine bodyPost_ret (results_cell_blk rfl _ _ w.heap.size 50 _ _ rfl hbk Tryz.underlying50 rfl (by kernel_rfl)) rfl ⟨by rw [HV.out]; rfl, ?_, ?_⟩
          · exact ((((HOW.out.set_ 1 _).set_new (Nat.le_refl _) 0 _).set_new (Nat.le_refl _) 1 _).set_new (Nat.le_refl _) 2 _).set_new (Nat.le_refl _) 3 _
          · rw [HV.out]
            have hz := H0.out.bel.size
            exact ⟨((((HWW.out.setCell (p := ⟨bR, 1, none⟩) hR _).setCell (p := ⟨w.heap.size, 0, none⟩) hz _).setCell (p := ⟨w.heap.size, 1, none⟩) hz _).setCell (p := ⟨w.heap.size, 2, none⟩) hz _).setCell (p := ⟨w.heap.size, 3, none⟩) hz _, j + 1, by omega, rfl, by rw [show (((j + 1 : Nat)) : Int) = (j : Int) + 1 by omega]; exact hbr⟩
    · have e3 : (t.k != k) = true := by rw [bne_iff_ne]; exact hk
      have HC : Hid (t.k ≠ k ∨ (s ≠ [] ∧ t.s ≠ s)) := .inl hk
      clear hk
      have HV : Hid (takeQ en k s q = (t, ⟨L.drop (i + 1), (faultQ 5 t.a q).e, (faultQ 5 t.a q).a⟩)) := by show _ = _; unfold takeQ; rw [HQ.out]; dsimp only; rw [if_pos HC.out]
      have y1 : w4.cell? ⟨b7, 1, none⟩ = some (.int .i64 t.a) := HY4.out.cell 1
      go_wp2_with fail
      refine (fault_any hR (.slice (some ad) L.length cp) en L q 5 t.a w4 HR4.out).mono ?_
      rintro e w5 ⟨rfl, hO5, hR5⟩
      have HRI : Hid ((faultQ 5 t.a q).r = L.drop i) := by show _ = _; rw [← HRR.out]; unfold faultQ; split <;> rfl
      have HRW := hide hR5
      have HXW := hide (hO5.blk HX4.out (by have := HLT.out; omega))
      have HYW := hide (hO5.blk HY4.out (by have := HL7.out; omega))
      have HOW := hide (HO4.out.trans hO5)
      clear hR5 hO5 HR4 HX4 HY4 HO4 HB4 HX2 HR2 HO2 HB2 HW2 y0 y1 y3 e3
      obtain ⟨hbW, j, hj, hrj, hBW⟩ := HRW.out
      obtain rfl : j = i := by
        have h1 : (L.drop j).length = (L.drop i).length := by rw [← hrj, ← HRI.out]
        rw [List.length_drop, List.length_drop] at h1
        omega
      have HBW := hide hBW
      have HWW := hide hbW
      clear hbW hBW hrj HRW
      have b1 : w5.cell? ⟨bR, 1, none⟩ = some (.int .i64 (j : Int)) := HBW.out.cell 1
      have fb : w5.frozen? ⟨bR, 1, none⟩ = false := HBW.out.frozen 1
      have x0 : w5.cell? ⟨w.heap.size, 0, none⟩ = some (.int .i64 0) := HXW.out.cell 0
      have x1 : w5.cell? ⟨w.heap.size, 1, none⟩ = some (.int .i64 0) := HXW.out.cell 1
      have x2 : w5.cell? ⟨w.heap.size, 2, none⟩ = some (.int .i64 0) := HXW.out.cell 2
      have x3 : w5.cell? ⟨w.heap.size, 3, none⟩ = some (.string ⟨#[]⟩) := HXW.out.cell 3
      have fx : ∀ j, w5.frozen? ⟨w.heap.size, j, none⟩ = false := fun j => HXW.out.frozen j
      have y0 : w5.cell? ⟨b7, 0, none⟩ = some (.int .i64 t.k) := HYW.out.cell 0
      have y1 : w5.cell? ⟨b7, 1, none⟩ = some (.int .i64 t.a) := HYW.out.cell 1
      have y2 : w5.cell? ⟨b7, 2, none⟩ = some (.int .i64 t.n) := HYW.out.cell 2
      have y3 : w5.cell? ⟨b7, 3, none⟩ = some (.string (bs t.s)) := HYW.out.cell 3
      have n1 : bR ≠ w.heap.size := by have := HLT.out; omega
      have n2 : bR ≠ b7 := by have := HL7.out; omega
      have n3 : w.heap.size ≠ b7 := by have := HL8.out; omega
      have n4 : w.heap.size ≠ bR := Ne.symm n1
      have n5 : b7 ≠ bR := Ne.symm n2
      have n6 : b7 ≠ w.heap.size := Ne.symm n3
      go_wp2_with fail
      have hbk := ((((HXW.out.far (p := ⟨bR, 1, none⟩) n4 (.int .i64 ((j : Int) + 1))).set_ 0 (.int .i64 t.k)).set_ 1 (.int .i64 t.a)).set_ 2 (.int .i64 t.n)).set_ 3 (.string (bs t.s))
      have hbr := ((((HBW.out.set_ 1 (.int .i64 ((j : Int) + 1))).far (p := ⟨w.heap.size, 0, none⟩) n1 (.int .i64 t.k)).far (p := ⟨w.heap.size, 1, none⟩) n1 (.int .i64 t.a)).far (p := ⟨w.heap.size, 2, none⟩) n1 (.int .i64 t.n)).far (p := ⟨w.heap.size, 3, none⟩) n1 (.string (bs t.s))
      refine bodyPost_ret (results_cell_blk rfl _ _ w.heap.size 50 _ _ rfl hbk Tryz.underlying50 rfl (by kernel_rfl)) rfl ⟨by rw [HV.out]; rfl, ?_, ?_⟩
      · exact ((((HOW.out.set_ 1 _).set_new (Nat.le_refl _) 0 _).set_new (Nat.le_refl _) 1 _).set_new (Nat.le_refl _) 2 _).set_new (Nat.le_refl _) 3 _
      · rw [HV.out]
        have hz := H0.out.bel.size
        exact ⟨((((HWW.out.setCell (p := ⟨bR, 1, none⟩) hR _).setCell (p := ⟨w.heap.size, 0, none⟩) hz _).setCell (p := ⟨w.heap.size, 1, none⟩) hz _).setCell (p := ⟨w.heap.size, 2, none⟩) hz _).setCell (p := ⟨w.heap.size, 3, none⟩) hz _, j + 1, by omega, rfl, by rw [show (((j + 1 : Nat)) : Int) = (j : Int) + 1 by omega]; exact hbr⟩
  · have e2 : decide ((L.length : Int) ≤ (i : Int)) = true := decide_eq_true (by omega)
    have HQ : Hid (q.r = []) := HRR.out.trans (List.drop_eq_nil_of_le (by omega))
    have HV : Hid (takeQ en k s q = (zTk, faultQ 6 en q)) := by show _ = _; unfold takeQ; rw [HQ.out]
    go_wp2_with fail
    go_quiet (fail)
    clear b0 b1
    have HX2 := hide (HX.out.drewN nq)
    have HR2 := hide (HR1.out.drewN nq)
    have HO2 := hide (HO.out.trans (only_drewN w1 nq bR))
    have HB2 := hide (HB1.out.drewN nq)
    clear b2
    generalize w1.drewN nq = w2 at *
    have b2 : w2.cell? ⟨bR, 2, none⟩ = some (.int .i64 en) := HB2.out.cell 2
    go_wp2_with fail
    refine (fault_any hR (.slice A L.length cp) en L q 6 en w2 HR2.out).mono ?_
    rintro e w3 ⟨rfl, hO3, hR3⟩
    have HX3 := hide (hO3.blk HX2.out (by have := HLT.out; omega))
    have HO3 := hide (HO2.out.trans hO3)
    have HR3 := hide hR3
    clear hO3 hR3 b2
    have x0 : w3.cell? ⟨w.heap.size, 0, none⟩ = some (.int .i64 0) := HX3.out.cell 0
    have x1 : w3.cell? ⟨w.heap.size, 1, none⟩ = some (.int .i64 0) := HX3.out.cell 1
    have x2 : w3.cell? ⟨w.heap.size, 2, none⟩ = some (.int .i64 0) := HX3.out.cell 2
    have x3 : w3.cell? ⟨w.heap.size, 3, none⟩ = some (.string ⟨#[]⟩) := HX3.out.cell 3
    have fx : ∀ j, w3.frozen? ⟨w.heap.size, j, none⟩ = false := fun j => HX3.out.frozen j
    go_wp2_with fail
    have hbk := (((HX3.out.set_ 0 (.int .i64 0)).set_ 1 (.int .i64 0)).set_ 2 (.int .i64 0)).set_ 3 (.string ⟨#[]⟩)
    have n1 : bR ≠ w.heap.size := by have := HLT.out; omega
    obtain ⟨hbW, j, hj, hrj, hBW⟩ := HR3.out
    have hbr := ((((hBW.far (p := ⟨w.heap.size, 0, none⟩) n1 (.int .i64 0)).far (p := ⟨w.heap.size, 1, none⟩) n1 (.int .i64 0)).far (p := ⟨w.heap.size, 2, none⟩) n1 (.int .i64 0)).far (p := ⟨w.heap.size, 3, none⟩) n1 (.string ⟨#[]⟩))
    refine bodyPost_ret (results_cell_blk rfl _ _ w.heap.size 50 _ _ rfl hbk Tryz.underlying50 rfl (by kernel_rfl)) rfl ⟨by rw [HV.out]; rfl, ?_, ?_⟩
    · exact (((HO3.out.set_new (Nat.le_refl _) 0 _).set_new (Nat.le_refl _) 1 _).set_new (Nat.le_refl _) 2 _).set_new (Nat.le_refl _) 3 _
    · rw [HV.out]
      have hz := H0.out.bel.size
      exact ⟨(((hbW.setCell (p := ⟨w.heap.size, 0, none⟩) hz _).setCell (p := ⟨w.heap.size, 1, none⟩) hz _).setCell (p := ⟨w.heap.size, 2, none⟩) hz _).setCell (p := ⟨w.heap.size, 3, none⟩) hz _, j, hj, hrj, hbr⟩
end Go.Proofs.YtdcafoekbnacnaaGreatDoor

/- A copy of parts: append to an empty row. -/
set_option linter.unusedVariables false
set_option linter.unusedSimpArgs false
namespace Go.Proofs.YtdcafoekbnacnaaGreatDoor
open Go.RowKit Go.Shelf
attribute [local go_sem] Oper.semAt_some

/-- a row of parts that the call has made, all of its own -/
def OwnP (w : World) (B : Nat) (v : Value) (ps : List Prt) : Prop := w.ownsRow B 41 4 v ps.length (ps.map ptV).flatten
theorem ptV_len {ps : List Prt} : ∀ x ∈ ps.map ptV, x.length = 4 := fun x hx => by obtain ⟨y, _, rfl⟩ := List.mem_map.1 hx; rfl
theorem OwnP.parts {w : World} {B : Nat} {v : Value} {ps : List Prt} (h : OwnP w B v ps) : PartsAt w v ps := by
  unfold OwnP at h
  exact RowsAt.of_own ptV_len (by rw [List.length_map]; exact h)
theorem flat_cell : ∀ (ps : List Prt) (j : Nat) (u : Value), (ps.map ptV).flatten[j]? = some u → ∃ k i p, j = k * 4 + i ∧ ps[k]? = some p ∧ (ptV p)[i]? = some u
  | [], j, u, h => by simp at h
  | p :: l, j, u, h => by
    rw [List.map_cons, List.flatten_cons] at h
    rcases Nat.lt_or_ge j 4 with hj | hj
    · rw [List.getElem?_append_left (by simpa [ptV] using hj)] at h
      exact ⟨0, j, p, by omega, rfl, h⟩
    · rw [List.getElem?_append_right (by simpa [ptV] using hj)] at h
      obtain ⟨k, i, q, h1, h2, h3⟩ := flat_cell l _ u h
      have h1 : j - 4 = k * 4 + i := by simpa [ptV] using h1
      exact ⟨k + 1, i, q, by omega, by simpa using h2, h3⟩
theorem wpList_append_parts {ops : Array Oper} {rest : List Oper} {o : Oper} {a : Act} {w : World} {Q : Exit → Act → World → Prop} (hgd : o.guard = none) (s x : Operand) (hop : o.op = Op.call { callee := Callee.builtin Builtin.append, args := #[s, x], argTypes := #[22, 22] })
    (B : Nat) (v : Value) (hs : a.eval s = v) (hown : OwnP w B v []) (xv : Value) (q : List Prt) (hx : a.eval x = xv) (hq : PartsAt w xv q) (h0 : 0 < q.length) (hn : q.length ≤ 1000000000) (hB : B ≤ w.heap.size)
    (h : ∀ g c w', OwnP w' B (.slice (some ⟨g, 0, none⟩) q.length c) q → B ≤ g → Below B w w' → w.grownBy w' v.ownBlock → wpList Tryz.prog ops Q rest (a.put o.dst (.slice (some ⟨g, 0, none⟩) q.length c)) w') : wpList Tryz.prog ops Q (o :: rest) a w := by
  obtain ⟨i0, hi0, hz0, hz1, hz2⟩ := info_parts (show (Tryz.prog.info? 41).map (fun i => (i.zero, i.size, i.bytes)) = some (some (.agg #[.int .i64 0, .string ⟨#[]⟩, .string ⟨#[]⟩, .bool false]), 4, 48) by kernel_rfl)
  obtain ⟨A, c, rfl, hc⟩ := hq.slice
  obtain ⟨p0, hp0⟩ : ∃ p, q[0]? = some p := ⟨_, List.getElem?_eq_getElem h0⟩
  obtain ⟨ad, c', e, _⟩ := hq.at_ hp0
  injection e with e1 _ _
  subst e1
  have hcells : ∀ j u, (q.map ptV).flatten[j]? = some u → w.cell? (ad.add j) = some u := fun j u hj => by
    obtain ⟨k, i, p, rfl, hk, hi⟩ := flat_cell q j u hj
    obtain ⟨a', c2, e, _, _, _, hcell⟩ := RowsAt.at_ hq (k := k) (x := ptV p) (by rw [List.getElem?_map, hk]; rfl)
    have e9 : ad = a' := Option.some.inj (Value.slice.inj e).1
    subst e9
    have := hcell i u hi
    rwa [add_of_add] at this
  refine wpList_append_keep w hgd s x 22 hop B 41 i0 _ 4 48 Tryz.underlying22 hi0 hz0 hz1 hz2 rfl (by decide) v 0 [] hs hown ad q.length c (q.map ptV).flatten hx (by rw [flat_len _ ptV_len, List.length_map]) hcells (fun u hu => by
      obtain ⟨l, hl, hu⟩ := List.mem_flatten.1 hu
      obtain ⟨p, _, rfl⟩ := List.mem_map.1 hl
      simp only [ptV, List.mem_cons, List.not_mem_nil, or_false] at hu
      rcases hu with rfl | rfl | rfl | rfl <;> rfl) (by unfold maxLen; omega) (by omega) hB ?_
  intro v' w' h2 h3 _ _
  rw [Nat.zero_add, List.nil_append] at h2
  obtain ⟨A', c', rfl⟩ := own_slice h2
  obtain ⟨_, hh⟩ := id h2
  rcases hh with ⟨_, hz⟩ | ⟨g, cap, cur, hv, hBg, _⟩
  · omega
  · injection hv with e1 _ e3
    subst e1 e3
    exact h g c' w' h2 hBg (below_grown h3 hB (fun k e => (World.ownsRow.lt hown k e).1)) h3
end Go.Proofs.YtdcafoekbnacnaaGreatDoor

/- Chapter 23: plain facts for the walks of the laws; values compared. -/
set_option linter.unusedVariables false
set_option linter.unusedSimpArgs false
namespace Go.Proofs.YtdcafoekbnacnaaGreatDoor
open Go.RowKit Go.Shelf
attribute [local go_sem] Oper.semAt_some

theorem few_facts {s : Sch} (h : fewB s = true) : s.ps.length ≤ 10 ∧ (∀ p ∈ s.ps, p.b.length ≤ 60 ∧ p.a.length ≤ 60) ∧ s.c.length ≤ 60 := by
  unfold fewB at h
  simp only [Bool.and_eq_true, decide_eq_true_eq, List.all_eq_true] at h
  obtain ⟨h1, h2, h3⟩ := h
  rw [List.take_of_length_le h2] at h1
  refine ⟨h2, fun p hp => ?_, h3⟩
  have := h1 p hp
  unfold smP at this
  simpa using this
theorem fits_kinds {s : Sch} {f : List (List UInt8)} (hl : f.length = 9) (h : fitsB isNm numB s f = true) : ∀ p ∈ s.ps, 1 ≤ p.k ∧ p.k ≤ 8 := fun p hp => (((fitsB_iff isNm numB s f hl).1 h).valid.part p hp).1
theorem bs_ne {a b : List UInt8} (h : a ≠ b) : ((bs a).toList == (bs b).toList) = false := by rw [beq_eq_false_iff_ne, bs_toList, bs_toList]; exact h
theorem bs_same (a : List UInt8) : ((bs a).toList == (bs a).toList) = true := by simp
set_option maxRecDepth 100000 in
set_option maxHeartbeats 2000000 in
theorem fields_eq (f0 f1 f2 f3 f4 f5 f6 f7 f8 g0 g1 g2 g3 g4 g5 g6 g7 g8 : List UInt8) (w : World) : (binOp .eql 26 (.agg #[.string (bs f0), .string (bs f1), .string (bs f2), .string (bs f3), .string (bs f4), .string (bs f5), .string (bs f6), .string (bs f7), .string (bs f8)]) (.agg #[.string (bs g0), .string (bs g1), .string (bs g2), .string (bs g3), .string (bs g4), .string (bs g5), .string (bs g6), .string (bs g7), .string (bs g8)])).run Tryz.prog w = .ok (.bool (decide ([f0, f1, f2, f3, f4, f5, f6, f7, f8] = [g0, g1, g2, g3, g4, g5, g6, g7, g8]))) w := by
  have hi : (Tryz.prog.info? 9).isSome = true := by kernel_rfl
  obtain ⟨i, hi⟩ := Option.isSome_iff_exists.1 hi
  rw [run_eql_struct, show (10000 : Nat) = 9999 + 1 from rfl, run_equalIn_array w 9999 _ _ Tryz.underlying26 hi, show Tryz.prog.cellsOf 9 = 1 by kernel_rfl, show List.range 9 = [0, 1, 2, 3, 4, 5, 6, 7, 8] from rfl]
  simp only [Op.eqItems]
  by_cases e0 : f0 = g0
  rotate_left
  · have t0 := bs_ne e0
    rw [decide_eq_false (by simp [e0])]
    go_simp
  subst e0
  by_cases e1 : f1 = g1
  rotate_left
  · have t1 := bs_ne e1
    rw [decide_eq_false (by simp [e1])]
    go_simp
  subst e1
  by_cases e2 : f2 = g2
  rotate_left
  · have t2 := bs_ne e2
    rw [decide_eq_false (by simp [e2])]
    go_simp
  subst e2
  by_cases e3 : f3 = g3
  rotate_left
  · have t3 := bs_ne e3
    rw [decide_eq_false (by simp [e3])]
    go_simp
  subst e3
  by_cases e4 : f4 = g4
  rotate_left
  · have t4 := bs_ne e4
    rw [decide_eq_false (by simp [e4])]
    go_simp
  subst e4
  by_cases e5 : f5 = g5
  rotate_left
  · have t5 := bs_ne e5
    rw [decide_eq_false (by simp [e5])]
    go_simp
  subst e5
  by_cases e6 : f6 = g6
  rotate_left
  · have t6 := bs_ne e6
    rw [decide_eq_false (by simp [e6])]
    go_simp
  subst e6
  by_cases e7 : f7 = g7
  rotate_left
  · have t7 := bs_ne e7
    rw [decide_eq_false (by simp [e7])]
    go_simp
  subst e7
  by_cases e8 : f8 = g8
  rotate_left
  · have t8 := bs_ne e8
    rw [decide_eq_false (by simp [e8])]
    go_simp
  subst e8
  rw [decide_eq_true rfl]
  go_simp
end Go.Proofs.YtdcafoekbnacnaaGreatDoor

/- Walks of the references of layers 1 and 4: letters, words, names, decimal digits. -/
set_option linter.unusedVariables false
set_option linter.unusedSimpArgs false
namespace Go.Proofs.YtdcafoekbnacnaaGreatDoor
open Go.RowKit

theorem isLet_iff (c : UInt8) : isLet c = true ↔ (97 ≤ c.toNat ∧ c.toNat ≤ 122) ∨ (65 ≤ c.toNat ∧ c.toNat ≤ 90) := by
  unfold isLet clsB clsN
  split
  · simp; omega
  · rename_i h
    constructor
    · intro h'
      exfalso
      revert h'
      (repeat' split) <;> decide
    · intro h'; exact absurd (by omega) h
theorem isWd_eq (c : UInt8) : isWd c = (isLet c || isDi c || (c == 95)) := by
  have h95 : (c == 95) = decide (c.toNat = 95) := by
    by_cases h : c = 95
    · subst h; rfl
    · rw [beq_eq_false_iff_ne.2 h, decide_eq_false]; intro h'; exact h (UInt8.toNat_inj.1 h')
  rw [h95]
  unfold isWd isLet isDi clsB clsN
  by_cases h1 : 97 ≤ c.toNat ∧ c.toNat ≤ 122 ∨ 65 ≤ c.toNat ∧ c.toNat ≤ 90
  · rw [if_pos h1]; simp
  · rw [if_neg h1]
    by_cases h2 : 48 ≤ c.toNat ∧ c.toNat ≤ 57
    · rw [if_pos h2]; simp [h2]
    · rw [if_neg h2]
      by_cases h3 : c.toNat = 95
      · rw [if_pos h3]; simp [h3]
      · rw [if_neg h3]
        have h2' : (decide (48 ≤ c.toNat) && decide (c.toNat ≤ 57)) = false := by rw [Bool.and_eq_false_iff]; rcases Nat.lt_or_ge c.toNat 48 with h | h; exact .inl (decide_eq_false (by omega)); exact .inr (decide_eq_false (by omega))
        rw [h2', decide_eq_false h3]
        (repeat' split) <;> decide
set_option maxHeartbeats 1000000 in
theorem rletter_any (c : UInt8) (w : World) : Calls Tryz.prog 90 #[.int .u8 (c.toNat : Int)] w fun e w' => e = .returned (.bool (isLet c)) ∧ w' = w := by
  have hv : Hid (isLet c = true ↔ (97 ≤ c.toNat ∧ c.toNat ≤ 122) ∨ (65 ≤ c.toNat ∧ c.toNat ≤ 90)) := isLet_iff c
  have hi : ∀ {b : Bool}, (b = true ↔ (97 ≤ c.toNat ∧ c.toNat ≤ 122) ∨ (65 ≤ c.toNat ∧ c.toNat ≤ 90)) → Ending.returned (.bool b) = .returned (.bool (isLet c)) := fun h => ret_bool (by rw [Bool.eq_iff_iff]; exact h.trans hv.out.symm)
  by_cases h1 : 97 ≤ c.toNat
  · have e1 : decide ((97 : Int) ≤ (c.toNat : Int)) = true := by simp; omega
    by_cases h2 : c.toNat ≤ 122
    · have e2 : decide ((c.toNat : Int) ≤ 122) = true := by simp; omega
      have HF : Hid (Ending.returned (.bool true) = .returned (.bool (isLet c))) := hi (by simp; omega)
      go_enter Tryz.func90, Tryz.ntmps90
      go_wp2_with fail
      go_ret
      exact ⟨HF.out, rfl⟩
    · have e2 : decide ((c.toNat : Int) ≤ 122) = false := by simp; omega
      have e3 : decide ((65 : Int) ≤ (c.toNat : Int)) = true := by simp; omega
      have e4 : decide ((c.toNat : Int) ≤ 90) = false := by simp; omega
      have HF : Hid (Ending.returned (.bool false) = .returned (.bool (isLet c))) := hi (by simp; omega)
      go_enter Tryz.func90, Tryz.ntmps90
      go_wp2_with fail
      go_ret
      exact ⟨HF.out, rfl⟩
  · have e1 : decide ((97 : Int) ≤ (c.toNat : Int)) = false := by simp; omega
    by_cases h3 : 65 ≤ c.toNat
    · have e3 : decide ((65 : Int) ≤ (c.toNat : Int)) = true := by simp; omega
      by_cases h4 : c.toNat ≤ 90
      · have e4 : decide ((c.toNat : Int) ≤ 90) = true := by simp; omega
        have HF : Hid (Ending.returned (.bool true) = .returned (.bool (isLet c))) := hi (by simp; omega)
        go_enter Tryz.func90, Tryz.ntmps90
        go_wp2_with fail
        go_ret
        exact ⟨HF.out, rfl⟩
      · have e4 : decide ((c.toNat : Int) ≤ 90) = false := by simp; omega
        have HF : Hid (Ending.returned (.bool false) = .returned (.bool (isLet c))) := hi (by simp; omega)
        go_enter Tryz.func90, Tryz.ntmps90
        go_wp2_with fail
        go_ret
        exact ⟨HF.out, rfl⟩
    · have e3 : decide ((65 : Int) ≤ (c.toNat : Int)) = false := by simp; omega
      have HF : Hid (Ending.returned (.bool false) = .returned (.bool (isLet c))) := hi (by simp; omega)
      go_enter Tryz.func90, Tryz.ntmps90
      go_wp2_with fail
      go_ret
      exact ⟨HF.out, rfl⟩
set_option maxHeartbeats 1000000 in
theorem rdigit_any (c : UInt8) (w : World) : Calls Tryz.prog 120 #[.int .u8 (c.toNat : Int)] w fun e w' => e = .returned (.bool (isDi c)) ∧ w' = w := by
  have HD : Hid (isDi c = (decide (48 ≤ c.toNat) && decide (c.toNat ≤ 57))) := rfl
  by_cases h1 : 48 ≤ c.toNat
  · have e1 : decide ((48 : Int) ≤ (c.toNat : Int)) = true := by simp; omega
    have HE : Hid (decide ((c.toNat : Int) ≤ 57) = isDi c) := by show _ = _; rw [HD.out, decide_eq_true h1, Bool.true_and]; by_cases h : c.toNat ≤ 57 <;> simp [h] <;> omega
    go_enter Tryz.func120, Tryz.ntmps120
    go_wp2_with fail
    go_ret
    exact ⟨ret_bool HE.out, rfl⟩
  · have e1 : decide ((48 : Int) ≤ (c.toNat : Int)) = false := by simp; omega
    have HE : Hid (isDi c = false) := by show _ = _; rw [HD.out, decide_eq_false h1]; rfl
    go_enter Tryz.func120, Tryz.ntmps120
    go_wp2_with fail
    go_ret
    exact ⟨ret_bool (by rw [HE.out]), rfl⟩
set_option maxHeartbeats 1000000 in
theorem rword_any (c : UInt8) (w : World) : Calls Tryz.prog 89 #[.int .u8 (c.toNat : Int)] w fun e w' => e = .returned (.bool (isWd c)) ∧ w' = w := by
  have HW := hide (isWd_eq c)
  have CL := fun w => rletter_any c w
  have CD := fun w => rdigit_any c w
  have h95 : ((c.toNat : Int) == 95) = (c == 95) := by
    by_cases h : c = 95
    · subst h; rfl
    · rw [beq_eq_false_iff_ne.2 h, beq_eq_false_iff_ne]; intro h'; exact h (UInt8.toNat_inj.1 (by show c.toNat = 95; omega))
  generalize (c == 95) = C at *
  generalize isLet c = A at *
  generalize isDi c = B at *
  cases A with
  | true =>
    go_enter Tryz.func89, Tryz.ntmps89
    go_wp2_with (first | ((with_reducible refine (CL _).mono ?_); rintro e w' ⟨rfl, rfl⟩) | ((with_reducible refine (CD _).mono ?_); rintro e w' ⟨rfl, rfl⟩))
    go_ret
    exact ⟨ret_bool (by rw [HW.out]; rfl), rfl⟩
  | false =>
    cases B with
    | true =>
      go_enter Tryz.func89, Tryz.ntmps89
      go_wp2_with (first | ((with_reducible refine (CL _).mono ?_); rintro e w' ⟨rfl, rfl⟩) | ((with_reducible refine (CD _).mono ?_); rintro e w' ⟨rfl, rfl⟩))
      go_ret
      exact ⟨ret_bool (by rw [HW.out]; rfl), rfl⟩
    | false =>
      go_enter Tryz.func89, Tryz.ntmps89
      go_wp2_with (first | ((with_reducible refine (CL _).mono ?_); rintro e w' ⟨rfl, rfl⟩) | ((with_reducible refine (CD _).mono ?_); rintro e w' ⟨rfl, rfl⟩))
      go_ret
      exact ⟨ret_bool (by rw [HW.out]; rfl), rfl⟩
def hdLet : List UInt8 → Bool
  | c :: _ => isLet c
  | [] => false
theorem hdLet_at {s : List UInt8} {c : UInt8} (h : s[0]? = some c) : hdLet s = isLet c := by
  cases s with
  | nil => simp at h
  | cons a r => simp at h; subst h; rfl
theorem isNm_eq (s : List UInt8) : isNm s = (s.all isWd && decide (0 < s.length) && decide (s.length ≤ 24) && hdLet s) := by
  unfold isNm
  cases s with
  | nil => rfl
  | cons c r =>
    rw [decide_eq_true (show 0 < (c :: r).length by simp)]
    show (isLet c && (c :: r).all isWd && decide ((c :: r).length ≤ 24)) = ((c :: r).all isWd && true && decide ((c :: r).length ≤ 24) && isLet c)
    generalize isLet c = A
    generalize (c :: r).all isWd = B
    generalize decide ((c :: r).length ≤ 24) = D
    cases A <;> cases B <;> cases D <;> rfl
set_option maxRecDepth 100000 in
set_option maxHeartbeats 2000000 in
theorem rName_any (s : List UInt8) (hs : s.length ≤ 140737488355328) (w : World) : Calls Tryz.prog 54 #[.string (bs s)] w fun e w' => e = .returned (.bool (isNm s)) ∧ w' = w := by
  have hsz : (bs s).size = s.length := bs_size s
  have HNM := hide (isNm_eq s)
  go_enter Tryz.func54, Tryz.ntmps54
  go_wp2_with fail
  go_loopw [3] (fun i wr => ∃ k : Nat, i = .int .i64 (k : Int) ∧ (k ≤ s.length ∧ s.all isWd = (s.drop k).all isWd) ∧ wr = w) (fun i _ => s.length - (intOf i).toNat)
  case atStart => exact ⟨0, rfl, ⟨by omega, rfl⟩, rfl⟩
  case round =>
    obtain ⟨k, rfl, ⟨hk, hall⟩, rfl⟩ := hrel
    have HA := hide hall
    clear hall
    by_cases hlt : k < s.length
    · have e1 : decide ((k : Int) < (s.length : Int)) = true := by simp; omega
      obtain ⟨c, hc⟩ : ∃ c, s[k]? = some c := ⟨_, List.getElem?_eq_getElem hlt⟩
      have ci := index_bs s k c hc
      have CV := fun w => rword_any c w
      have HD := hide (drop_at hc)
      clear hc
      cases hv : isWd c with
      | false =>
        rw [hv] at CV
        have HV := hide hv
        clear hv
        go_wp2_with ((with_reducible refine (CV _).mono ?_); rintro e w' ⟨rfl, rfl⟩)
        go_ret
        exact ⟨ret_bool (by rw [HNM.out, HA.out, HD.out, List.all_cons, HV.out]; rfl), rfl⟩
      | true =>
        rw [hv] at CV
        have HV := hide hv
        clear hv
        go_wp2_with ((with_reducible refine (CV _).mono ?_); rintro e w' ⟨rfl, rfl⟩)
        refine ⟨⟨k + 1, by go_num, ⟨by omega, by rw [HA.out, HD.out, List.all_cons, HV.out]; rfl⟩, (by first | rfl | trivial)⟩, ?_⟩
        simp [intOf]; omega
    · obtain rfl : k = s.length := by omega
      have e1 : decide ((s.length : Int) < (s.length : Int)) = false := by simp
      have HT : Hid (s.all isWd = true) := by show _ = _; rw [HA.out, List.drop_length]; rfl
      clear HA
      by_cases h0 : 0 < s.length
      · have e2 : decide ((0 : Int) < (s.length : Int)) = true := decide_eq_true (by omega)
        obtain ⟨c, hc⟩ : ∃ c, s[0]? = some c := ⟨_, List.getElem?_eq_getElem h0⟩
        have ci : ∀ w, (Instr.index 9 (.string (bs s)) (.int .i64 0)).run Tryz.prog w = .ok (.int .u8 (c.toNat : Int)) w := index_bs s 0 c hc
        have CV := fun w => rletter_any c w
        have HL := hide (hdLet_at hc)
        clear hc
        by_cases h24 : s.length ≤ 24
        · have e3 : decide ((s.length : Int) ≤ 24) = true := by simp; omega
          have HF : Hid (isNm s = isLet c) := by show _ = _; rw [HNM.out, HT.out, HL.out, decide_eq_true h0, decide_eq_true h24]; simp
          go_wp2_with ((with_reducible refine (CV _).mono ?_); rintro e w' ⟨rfl, rfl⟩)
          go_ret
          exact ⟨ret_bool (by rw [HF.out]), rfl⟩
        · have e3 : decide ((s.length : Int) ≤ 24) = false := by simp; omega
          have HF : Hid (isNm s = false) := by show _ = _; rw [HNM.out, decide_eq_false h24]; simp
          go_wp2_with fail
          go_ret
          exact ⟨ret_bool (by rw [HF.out]), rfl⟩
      · have e2 : decide ((0 : Int) < (s.length : Int)) = false := decide_eq_false (by omega)
        have HF : Hid (isNm s = false) := by show _ = _; rw [HNM.out, decide_eq_false h0]; simp
        go_wp2_with fail
        go_ret
        exact ⟨ret_bool (by rw [HF.out]), rfl⟩
end Go.Proofs.YtdcafoekbnacnaaGreatDoor

/- The reference of layer 23: small, begins, Word, kind, Mark, Next. -/
set_option linter.unusedVariables false
set_option linter.unusedSimpArgs false
namespace Go.Proofs.YtdcafoekbnacnaaGreatDoor
open Go.RowKit Go.Shelf
attribute [local go_sem] Oper.semAt_some

def okcB (c : UInt8) : Bool := decide (32 ≤ c.toNat) && (decide (c.toNat ≤ 126) && !(c == 34))
theorem small_ok (s : List UInt8) : smallB s = (s.all okcB && decide (s.length ≤ 4)) := by
  unfold smallB
  have h : (prn s && !s.contains 34) = s.all okcB := by
    unfold prn
    induction s with
    | nil => rfl
    | cons c r ih =>
      rw [List.all_cons, List.all_cons, List.contains_cons, ← ih]
      unfold okcB
      have e : ((34 : UInt8) == c) = (c == 34) := by rw [Bool.eq_iff_iff]; simp; exact eq_comm
      rw [e]
      cases decide (32 ≤ c.toNat) <;> cases decide (c.toNat ≤ 126) <;> cases (c == 34) <;> simp
  rw [h, Bool.and_comm]
theorem rsmall_any (s : List UInt8) (hs : s.length ≤ 140737488355328) (w : World) : Calls Tryz.prog 55 #[.string (bs s)] w fun e w' => e = .returned (.bool (smallB s)) ∧ w' = w := by
  have hsz := bs_size s
  have HSM := hide (small_ok s)
  go_enter Tryz.func55, Tryz.ntmps55
  go_wp2_with fail
  go_loopw [3] (fun i wr => ∃ k : Nat, i = .int .i64 (k : Int) ∧ (k ≤ s.length ∧ s.all okcB = (s.drop k).all okcB) ∧ wr = w) (fun i _ => s.length - (intOf i).toNat)
  case atStart => exact ⟨0, rfl, ⟨by omega, rfl⟩, rfl⟩
  case round =>
    obtain ⟨k, rfl, ⟨hk, hall⟩, hwr⟩ := hrel
    have hwr := hwr.symm
    subst hwr
    have HA := hide hall
    clear hall
    by_cases hlt : k < s.length
    · have e1 : decide ((k : Int) < (s.length : Int)) = true := by simp; omega
      obtain ⟨c, hc⟩ : ∃ c, s[k]? = some c := ⟨_, List.getElem?_eq_getElem hlt⟩
      have ci := index_bs s k c hc
      have HD := hide (drop_at hc)
      clear hc
      have HF : Hid (okcB c = false → smallB s = false) := fun h => by rw [HSM.out, HA.out, HD.out, List.all_cons, h]; rfl
      have HT : Hid (okcB c = true → s.all okcB = (s.drop (k + 1)).all okcB) := fun h => by rw [HA.out, HD.out, List.all_cons, h]; rfl
      by_cases h1 : c.toNat < 32
      · have e2 : decide ((c.toNat : Int) < 32) = true := decide_eq_true (by omega)
        have HR := hide (HF.out (by unfold okcB; rw [decide_eq_false (by omega)]; rfl))
        clear h1
        go_wp2_with fail
        go_ret
        exact ⟨ret_bool (by rw [HR.out]), rfl⟩
      have e2 : decide ((c.toNat : Int) < 32) = false := decide_eq_false (by omega)
      by_cases h2 : 126 < c.toNat
      · have e3 : decide ((126 : Int) < (c.toNat : Int)) = true := decide_eq_true (by omega)
        have HR := hide (HF.out (by unfold okcB; rw [decide_eq_false (show ¬ c.toNat ≤ 126 by omega)]; simp))
        clear h1 h2
        go_wp2_with fail
        go_ret
        exact ⟨ret_bool (by rw [HR.out]), rfl⟩
      have e3 : decide ((126 : Int) < (c.toNat : Int)) = false := decide_eq_false (by omega)
      by_cases h3 : c = 34
      · have e4 : ((c.toNat : Int) == 34) = true := by rw [h3]; rfl
        have HR := hide (HF.out (by unfold okcB; rw [h3]; rfl))
        clear h1 h2 h3
        go_wp2_with fail
        go_ret
        exact ⟨ret_bool (by rw [HR.out]), rfl⟩
      have e4 : ((c.toNat : Int) == 34) = false := by rw [beq_eq_false_iff_ne]; intro h; exact h3 (UInt8.toNat_inj.1 (by simp; omega))
      have HR := hide (HT.out (by unfold okcB; rw [decide_eq_true (by omega), decide_eq_true (show c.toNat ≤ 126 by omega)]; simp [h3]))
      clear h1 h2 h3
      go_wp2_with fail
      refine ⟨⟨k + 1, by go_num, ⟨by omega, HR.out⟩, (by first | rfl | trivial)⟩, ?_⟩
      simp [intOf]; omega
    · obtain rfl : k = s.length := by omega
      have e1 : decide ((s.length : Int) < (s.length : Int)) = false := by simp
      have HR : Hid (smallB s = decide (s.length ≤ 4)) := by show _ = _; rw [HSM.out, HA.out, List.drop_length]; rfl
      by_cases h4 : s.length ≤ 4
      · have e2 : decide ((s.length : Int) ≤ 4) = true := decide_eq_true (by omega)
        have HV : Hid (smallB s = true) := HR.out.trans (decide_eq_true h4)
        clear h4
        go_wp2_with fail
        go_ret
        exact ⟨ret_bool (by rw [HV.out]), rfl⟩
      · have e2 : decide ((s.length : Int) ≤ 4) = false := decide_eq_false (by omega)
        have HV : Hid (smallB s = false) := HR.out.trans (decide_eq_false h4)
        clear h4
        go_wp2_with fail
        go_ret
        exact ⟨ret_bool (by rw [HV.out]), rfl⟩
theorem rbegins_any (s p : List UInt8) (w : World) : Calls Tryz.prog 57 #[.string (bs s), .string (bs p)] w fun e w' => e = .returned (.bool (decide (p <+: s))) ∧ w' = w := by
  have hsz := bs_size s
  have hsp := bs_size p
  obtain ⟨R, hR⟩ : ∃ R, decide (p <+: s) = R := ⟨_, rfl⟩
  rw [hR]
  by_cases h : p.length ≤ s.length
  · have e1 : decide ((p.length : Int) ≤ (s.length : Int)) = true := decide_eq_true (by omega)
    have e1' : decide (p.length ≤ s.length) = true := decide_eq_true h
    have hx : (bs s).extract 0 p.length = bs (s.take p.length) := by rw [bs_cut]; simp
    have HE : Hid (((bs (s.take p.length)).toList == (bs p).toList) = R) := by
      show _ = _
      rw [bs_toList, bs_toList, ← hR, Bool.eq_iff_iff, beq_iff_eq, decide_eq_true_eq]
      constructor
      · intro h; rw [← h]; exact List.take_prefix _ _
      · intro h; exact (List.prefix_iff_eq_take.1 h).symm
    have he := HE.out
    clear hR
    generalize bs (s.take p.length) = sp at *
    go_enter Tryz.func57, Tryz.ntmps57
    go_wp2_with fail
    go_ret
    exact ⟨rfl, rfl⟩
  · have e1 : decide ((p.length : Int) ≤ (s.length : Int)) = false := decide_eq_false (by omega)
    have e1' : decide (p.length ≤ s.length) = false := decide_eq_false h
    have HR : Hid (R = false) := by show _ = _; rw [← hR]; exact decide_eq_false (fun h' => h h'.length_le)
    clear hR h
    go_enter Tryz.func57, Tryz.ntmps57
    go_wp2_with fail
    go_ret
    exact ⟨ret_bool HR.out.symm, rfl⟩
def wordsA : Array Value := #[.string ⟨#[]⟩, .string ⟨#[117, 110, 105, 116]⟩, .string ⟨#[102, 108, 111, 111, 114]⟩, .string ⟨#[110, 117, 109, 98, 101, 114]⟩, .string ⟨#[115, 116, 114, 101, 101, 116]⟩, .string ⟨#[98, 108, 111, 99, 107]⟩, .string ⟨#[100, 105, 115, 116, 114, 105, 99, 116]⟩, .string ⟨#[99, 105, 116, 121]⟩, .string ⟨#[99, 111, 100, 101]⟩]
theorem wordsA_at : ∀ k : Nat, k < 9 → wordsA[k]? = some (.string (bs (wordK (k : Int))))
  | 0, _ => rfl
  | 1, _ => rfl
  | 2, _ => rfl
  | 3, _ => rfl
  | 4, _ => rfl
  | 5, _ => rfl
  | 6, _ => rfl
  | 7, _ => rfl
  | 8, _ => rfl
theorem rWord_any (k : Nat) (hk : k < 9) (w : World) : Calls Tryz.prog 42 #[.int .i64 (k : Int)] w fun e w' => e = .returned (.string (bs (wordK (k : Int)))) ∧ Below w.heap.size w w' := by
  have HX := hide (Blk.new w 9 wordsA)
  have HB := hide (below_one w (.cells wordsA 9))
  have HW := hide (wordsA_at k hk)
  go_enter Tryz.func42, Tryz.ntmps42
  go_upto_region 2 with fail
  generalize hw1 : w.alloc (.cells #[.string ⟨#[]⟩, .string ⟨#[117, 110, 105, 116]⟩, .string ⟨#[102, 108, 111, 111, 114]⟩, .string ⟨#[110, 117, 109, 98, 101, 114]⟩, .string ⟨#[115, 116, 114, 101, 101, 116]⟩, .string ⟨#[98, 108, 111, 99, 107]⟩, .string ⟨#[100, 105, 115, 116, 114, 105, 99, 116]⟩, .string ⟨#[99, 105, 116, 121]⟩, .string ⟨#[99, 111, 100, 101]⟩] 9) = w1 at *
  have HX1 : Hid (Blk w1 w.heap.size 9 wordsA) := by show Blk _ _ _ _; rw [← hw1]; exact HX.out
  have HB1 : Hid (Below w.heap.size w w1) := by show Below _ _ _; rw [← hw1]; exact HB.out
  clear hw1 HX HB
  have ck := (HX1.out.cell k).trans HW.out
  obtain ⟨wv, hwv⟩ : ∃ x, Value.string (bs (wordK (k : Int))) = x := ⟨_, rfl⟩
  have HWV := hide hwv
  rw [hwv] at ck
  clear hwv HW
  have hk9 : (k : Int) < 9 := by omega
  go_wp2_with fail
  go_ret
  exact ⟨by rw [HWV.out]; rfl, HB1.out⟩
theorem kindR_at {k : Nat} (h1 : 1 ≤ k) (h8 : k ≤ 8) {s : List UInt8} (e : wordK (k : Int) = s) : kindR s = (k : Int) := by
  have := (word_k (k := (k : Int)) ⟨by omega, by omega⟩).2.1
  rw [e] at this
  rw [kindR_yes (by omega), this]
theorem kindR_none {s : List UInt8} (h : ∀ k : Nat, 1 ≤ k → k ≤ 8 → wordK (k : Int) ≠ s) : kindR s = 0 := by
  refine kindR_no ?_
  unfold kindW
  split
  · rename_i k hk
    obtain ⟨hlt, hp, _⟩ := List.findIdx?_eq_some_iff_getElem.1 hk
    have h9 : wordsL.length = 9 := rfl
    rcases Nat.eq_zero_or_pos k with h0 | h0
    · subst h0; decide
    · exfalso
      refine h k h0 (by omega) ?_
      unfold wordK
      rw [show ((k : Nat) : Int).toNat = k by omega, List.getD_eq_getElem?_getD, List.getElem?_eq_getElem hlt]
      simpa using hp
  · decide
theorem rkind_any (s : List UInt8) (w : World) : Calls Tryz.prog 48 #[.string (bs s)] w fun e w' => e = .returned (.int .i64 (kindR s)) ∧ Below w.heap.size w w' := by
  go_enter Tryz.func48, Tryz.ntmps48
  go_wp2_with fail
  go_loopw [3] (fun i wr => ∃ k : Nat, i = .int .i64 (k : Int) ∧ (1 ≤ k ∧ k ≤ 9 ∧ ∀ j : Nat, 1 ≤ j → j < k → wordK (j : Int) ≠ s) ∧ Below w.heap.size w wr) (fun i _ => 9 - (intOf i).toNat)
  case atStart => exact ⟨1, rfl, ⟨by omega, by omega, fun j h1 h2 => by omega⟩, Below.refl _ _⟩
  case round =>
    obtain ⟨k, rfl, ⟨h1, h9, hno⟩, hB⟩ := hrel
    have HB := hide hB
    have HNO := hide hno
    clear hB hno
    by_cases hlt : k ≤ 8
    · have e1 : decide ((k : Int) ≤ 8) = true := decide_eq_true (by omega)
      have CW := rWord_any k (by omega) wr
      by_cases he : wordK (k : Int) = s
      · have HR := hide (kindR_at h1 hlt he)
        rw [he] at CW
        clear he
        go_wp2_with fail
        refine CW.mono ?_
        rintro e w2 ⟨rfl, hb⟩
        have HB2 := hide (below_to HB.out (Nat.le_refl _) hb)
        clear hb
        go_wp2_with fail
        go_ret
        exact ⟨by rw [HR.out]; rfl, HB2.out⟩
      · have e2 := bs_ne he
        have HN : Hid (∀ j : Nat, 1 ≤ j → j < k + 1 → wordK (j : Int) ≠ s) := fun j h1 h2 => by
          rcases Nat.lt_or_ge j k with h | h
          · exact HNO.out j h1 h
          · obtain rfl : j = k := by omega
            exact he
        generalize bs (wordK (k : Int)) = wk at *
        clear he
        go_wp2_with fail
        refine CW.mono ?_
        rintro e w2 ⟨rfl, hb⟩
        have HB2 := hide (below_to HB.out (Nat.le_refl _) hb)
        clear hb
        go_wp2_with fail
        refine ⟨⟨k + 1, by go_num, ⟨by omega, by omega, HN.out⟩, HB2.out⟩, ?_⟩
        simp [intOf]; omega
    · have e1 : decide ((k : Int) ≤ 8) = false := decide_eq_false (by omega)
      have HR : Hid (kindR s = 0) := kindR_none (fun j h1 h2 => HNO.out j h1 (by omega))
      go_wp2_with fail
      go_ret
      exact ⟨by rw [HR.out]; rfl, HB.out⟩
end Go.Proofs.YtdcafoekbnacnaaGreatDoor

/- The reference of layer 23: the reader: between. -/
set_option linter.unusedVariables false
set_option linter.unusedSimpArgs false
namespace Go.Proofs.YtdcafoekbnacnaaGreatDoor
open Go.RowKit Go.Shelf
attribute [local go_sem] Oper.semAt_some

theorem take_text {en k : Int} {s : List UInt8} {q : RQ} {n : Nat} (h : ∀ x ∈ q.r, x.s.length ≤ n) : (takeQ en k s q).1.s.length ≤ n := by
  unfold takeQ
  split
  · exact Nat.zero_le _
  · rename_i t r e
    exact h t (by rw [e]; exact List.mem_cons_self ..)
set_option maxRecDepth 100000 in
set_option maxHeartbeats 4000000 in
theorem rbetween_any {w0 : World} {bR : Nat} (hR : w0.heap.size ≤ bR) (v : Value) (en : Int) (L : List Tk) (hL : L.length ≤ 1000000) (hTL : ∀ x ∈ L, x.s.length ≤ 1000000) (hT : TksAt w0 v L) (q : RQ) (wd : List UInt8) (w : World) (h : Rdr w0 bR v en L q w) :
    Calls Tryz.prog 50 #[.pointer (some ⟨bR, 0, none⟩), .string (bs wd)] w fun r w' => r = .returned (.string (bs (betwQ en wd q).1)) ∧ Only w w' bR ∧ Rdr w0 bR v en L (betwQ en wd q).2 w' := by
  have H0 := hide h
  have CS := rsees_any v en L hL hT q 1 wd w h
  have HTT := hide hT
  clear hT
  go_enter Tryz.func50, Tryz.ntmps50
  cases hs : seesQ 1 wd q with
  | false =>
    have HV : Hid (betwQ en wd q = ([], q)) := by show _ = _; unfold betwQ; rw [hs]; rfl
    rw [hs] at CS
    clear hs
    go_wp2_with fail
    refine CS.mono ?_
    rintro e w1 ⟨rfl, n, rfl⟩
    go_wp2_with fail
    go_ret
    exact ⟨by rw [HV.out]; rfl, only_drewN w n bR, by rw [HV.out]; exact H0.out.drewN n⟩
  | true =>
    have HV : Hid (betwQ en wd q = ((takeQ en 3 [] ⟨q.r.tail, q.e, q.a⟩).1.s, if (takeQ en 3 [] ⟨q.r.tail, q.e, q.a⟩).1.s = [] ∨ smallB (takeQ en 3 [] ⟨q.r.tail, q.e, q.a⟩).1.s = false then faultQ 1 (takeQ en 3 [] ⟨q.r.tail, q.e, q.a⟩).1.a (takeQ en 3 [] ⟨q.r.tail, q.e, q.a⟩).2 else (takeQ en 3 [] ⟨q.r.tail, q.e, q.a⟩).2)) := by show _ = _; unfold betwQ; rw [hs]; rfl
    obtain ⟨hb, i, hi, hr, hB⟩ := h
    have hil : i < L.length := by
      rcases Nat.lt_or_ge i L.length with h | h
      · exact h
      · rw [sees_nil (hr.trans (List.drop_eq_nil_of_le h))] at hs; cases hs
    have htl : q.r.tail = L.drop (i + 1) := by rw [hr, List.tail_drop]
    have HTX : Hid ((takeQ en 3 [] ⟨q.r.tail, q.e, q.a⟩).1.s.length ≤ 1000000) := take_text (fun x hx => hTL x (by dsimp only at hx; rw [htl] at hx; exact List.mem_of_mem_drop hx))
    rw [hs] at CS
    have HB := hide hB
    have HW := hide hb
    have HTLL := hide htl
    clear hs hB hb hr htl
    go_wp2_with fail
    refine CS.mono ?_
    rintro e w1 ⟨rfl, n, rfl⟩
    have HB1 := hide (HB.out.drewN n)
    have HW1 := hide (below_drewN HW.out n)
    have HO1 := hide (only_drewN w n bR)
    have HLT : Hid (bR < w.heap.size) := HB.out.lt
    clear HB HW CS
    generalize w.drewN n = w1 at *
    have b1 : w1.cell? ⟨bR, 1, none⟩ = some (.int .i64 (i : Int)) := HB1.out.cell 1
    have fb : w1.frozen? ⟨bR, 1, none⟩ = false := HB1.out.frozen 1
    have hi6 : (i : Int) < 1000000 := by omega
    go_upto_region 4 with fail
    have HR2 : Hid (Rdr w0 bR v en L ⟨q.r.tail, q.e, q.a⟩ (w1.setCell ⟨bR, 1, none⟩ (.int .i64 ((i : Int) + 1)))) := ⟨HW1.out.setCell (p := ⟨bR, 1, none⟩) hR _, i + 1, by omega, HTLL.out, by
      have := HB1.out.set_ 1 (.int .i64 ((i : Int) + 1))
      rw [show (((i + 1 : Nat)) : Int) = (i : Int) + 1 by omega]; exact this⟩
    have HO2 := hide (HO1.out.set_ 1 (.int .i64 ((i : Int) + 1)))
    clear b1 fb HB1 HW1 HO1
    generalize w1.setCell ⟨bR, 1, none⟩ (.int .i64 ((i : Int) + 1)) = w2 at *
    have CT : Calls Tryz.prog 46 #[.pointer (some ⟨bR, 0, none⟩), .int .i64 3, .string ⟨#[]⟩] w2 fun r w' => r = .returned (.agg (tcells (takeQ en 3 [] ⟨q.r.tail, q.e, q.a⟩).1)) ∧ Only w2 w' bR ∧ Rdr w0 bR v en L (takeQ en 3 [] ⟨q.r.tail, q.e, q.a⟩).2 w' := rtake_any hR v en L hL HTT.out ⟨q.r.tail, q.e, q.a⟩ 3 [] w2 HR2.out
    generalize takeQ en 3 [] ⟨q.r.tail, q.e, q.a⟩ = z at *
    obtain ⟨t, q2⟩ := z
    dsimp only at HV HTX
    have CT' : Calls Tryz.prog 46 #[.pointer (some ⟨bR, 0, none⟩), .int .i64 3, .string ⟨#[]⟩] w2 fun r w' => r = .returned (.agg #[.int .i64 t.k, .int .i64 t.a, .int .i64 t.n, .string (bs t.s)]) ∧ Only w2 w' bR ∧ Rdr w0 bR v en L q2 w' := CT
    clear CT
    go_upto_region 5 with ((with_reducible refine CT'.mono ?_); rintro e w3 ⟨rfl, hO3, hR3⟩)
    have HR4 := hide (hR3.to (below_one w3 (.cells #[.int .i64 t.k, .int .i64 t.a, .int .i64 t.n, .string (bs t.s)] 50)))
    have HO4 := hide ((HO2.out.trans hO3).alloc (.cells #[.int .i64 t.k, .int .i64 t.a, .int .i64 t.n, .string (bs t.s)] 50))
    have HY4 := hide (Blk.new w3 50 #[.int .i64 t.k, .int .i64 t.a, .int .i64 t.n, .string (bs t.s)])
    have HL7 : Hid (bR < w3.heap.size) := by
      obtain ⟨_, _, _, _, h⟩ := hR3
      exact h.lt
    clear hO3 hR3 CT' HO2 HR2
    generalize w3.alloc (.cells #[.int .i64 t.k, .int .i64 t.a, .int .i64 t.n, .string (bs t.s)] 50) = w4 at *
    generalize w3.heap.size = b5 at *
    have CM := fun w => rsmall_any t.s (by have := HTX.out; omega) w
    have y3 : w4.cell? ⟨b5, 3, none⟩ = some (.string (bs t.s)) := HY4.out.cell 3
    have y1 : w4.cell? ⟨b5, 1, none⟩ = some (.int .i64 t.a) := HY4.out.cell 1
    cases he : t.s.isEmpty with
    | true =>
      have e1 : (bs t.s).toList.isEmpty = true := by rw [bs_toList]; exact he
      have he2 := List.isEmpty_iff.1 he
      rw [if_pos (.inl he2)] at HV
      clear he he2
      go_wp2_with fail
      refine (fault_any hR v en L q2 1 t.a w4 HR4.out).mono ?_
      rintro e w5 ⟨rfl, hO5, hR5⟩
      have HY5 := hide (hO5.blk HY4.out (by have := HL7.out; omega))
      have HO5 := hide (HO4.out.trans hO5)
      have HR5 := hide hR5
      clear hO5 hR5
      have y3 : w5.cell? ⟨b5, 3, none⟩ = some (.string (bs t.s)) := HY5.out.cell 3
      go_wp2_with fail
      go_ret
      exact ⟨by rw [HV.out]; rfl, HO5.out, by rw [HV.out]; exact HR5.out⟩
    | false =>
      have e1 : (bs t.s).toList.isEmpty = false := by rw [bs_toList]; exact he
      have he2 : t.s ≠ [] := fun e => by rw [e] at he; cases he
      cases hsm : smallB t.s with
      | false =>
        rw [if_pos (.inr hsm)] at HV
        rw [hsm] at CM
        clear he he2 hsm
        go_wp2_with ((with_reducible refine (CM _).mono ?_); rintro e' w' ⟨rfl, hw⟩; have hw := hw.symm; subst hw)
        refine (fault_any hR v en L q2 1 t.a w4 HR4.out).mono ?_
        rintro e w5 ⟨rfl, hO5, hR5⟩
        have HY5 := hide (hO5.blk HY4.out (by have := HL7.out; omega))
        have HO5 := hide (HO4.out.trans hO5)
        have HR5 := hide hR5
        clear hO5 hR5
        have y3 : w5.cell? ⟨b5, 3, none⟩ = some (.string (bs t.s)) := HY5.out.cell 3
        go_wp2_with fail
        go_ret
        exact ⟨by rw [HV.out]; rfl, HO5.out, by rw [HV.out]; exact HR5.out⟩
      | true =>
        rw [if_neg (by rintro (h | h); exact he2 h; rw [hsm] at h; cases h)] at HV
        rw [hsm] at CM
        clear he he2 hsm
        go_wp2_with ((with_reducible refine (CM _).mono ?_); rintro e' w' ⟨rfl, hw⟩; have hw := hw.symm; subst hw)
        go_ret
        exact ⟨by rw [HV.out]; rfl, HO4.out, by rw [HV.out]; exact HR4.out⟩
end Go.Proofs.YtdcafoekbnacnaaGreatDoor

/- The reference of layer 23: Mark, Next. -/
set_option linter.unusedVariables false
set_option linter.unusedSimpArgs false
namespace Go.Proofs.YtdcafoekbnacnaaGreatDoor
open Go.RowKit Go.Shelf
attribute [local go_sem] Oper.semAt_some

set_option maxRecDepth 100000 in
set_option maxHeartbeats 4000000 in
theorem rMark_any (c : List UInt8) (ps : List Prt) (hl0 : ps.length ≤ 8796093022208) (v : Value) (d : UInt8) (w : World) (hP : PartsAt w v ps) :
    Calls Tryz.prog 78 #[.agg #[.string (bs c), v], .int .u8 (d.toNat : Int)] w fun e w' => e = .returned (.bool (mrk ps d)) ∧ Below w.heap.size w w' := by
  obtain ⟨A, cp, rfl, hcp⟩ := hP.slice
  have HB := hide (below_one w (.cells #[.string (bs c), .slice A ps.length cp] 24))
  have HS := hide (Blk.new w 24 #[.string (bs c), .slice A ps.length cp])
  have HP := hide (hP.to HB.out)
  clear hP
  go_enter Tryz.func78, Tryz.ntmps78
  go_wp2_with fail
  generalize w.alloc (.cells #[.string (bs c), .slice A ps.length cp] 24) = w1 at *
  go_loopw [5] (fun i wr => ∃ k : Nat, k ≤ ps.length ∧ i = .int .i64 (k : Int) ∧ (∀ j p, j < k → ps[j]? = some p → hitB p d = false) ∧ Below w1.heap.size w1 wr) (fun i _ => ps.length - (intOf i).toNat)
  case atStart => exact ⟨0, by omega, rfl, fun j p h => absurd h (by omega), Below.refl _ _⟩
  case round =>
    obtain ⟨k, hk, rfl, hH, hB⟩ := hrel
    have HBw := hide hB
    have HH := hide hH
    have s1 : wr.cell? ⟨w.heap.size, 1, none⟩ = some (.slice A ps.length cp) := (HS.out.to hB).cell 1
    clear hB hH
    by_cases hkt : k < ps.length
    · obtain ⟨p, hp⟩ : ∃ p, ps[k]? = some p := ⟨_, List.getElem?_eq_getElem hkt⟩
      obtain ⟨a, cp', ea, _, hab, c0, c1, c2, c3⟩ := (HP.out.to HBw.out).at_ hp
      injection ea with ea _ ec
      subst ec
      obtain rfl := ea
      have HYES : Hid (hitB p d = true → mrk ps d = true) := fun h => mrk_yes hp h
      have HNO : Hid (hitB p d = false → ∀ j q, j < k + 1 → ps[j]? = some q → hitB q d = false) := fun h j q hj hq => by
        rcases Nat.lt_or_ge j k with h' | h'
        · exact HH.out j q h' hq
        · obtain rfl : j = k := by omega
          rw [hp] at hq; cases hq; exact h
      have HHB : Hid (hitB p d = ((p.b.head? == some d) || (p.a.head? == some d))) := rfl
      have HBX := hide (below_alloc HBw.out (Nat.le_refl _) (.cells #[.int .i64 p.k, .string (bs p.b), .string (bs p.a), .bool p.need] 41))
      have HBP := hide (Blk.new wr 41 #[.int .i64 p.k, .string (bs p.b), .string (bs p.a), .bool p.need])
      clear hp
      go_upto_region 5 with fail
      clear c0 c1 c2 c3 s1 hab
      generalize wr.alloc (.cells #[.int .i64 p.k, .string (bs p.b), .string (bs p.a), .bool p.need] 41) = w5 at *
      have p1 : w5.cell? ⟨wr.heap.size, 1, none⟩ = some (.string (bs p.b)) := HBP.out.cell 1
      have p2 : w5.cell? ⟨wr.heap.size, 2, none⟩ = some (.string (bs p.a)) := HBP.out.cell 2
      generalize wr.heap.size = bx at *
      generalize p.b = pb at *
      generalize p.a = pa at *
      cases pb with
      | nil =>
        have e1 : (bs ([] : List UInt8)).toList.isEmpty = true := by rw [bs_toList]; rfl
        cases pa with
        | nil =>
          have e2 : (bs ([] : List UInt8)).toList.isEmpty = true := by rw [bs_toList]; rfl
          have HF := hide (HNO.out (by rw [HHB.out]; simp []))
          go_wp2_with fail
          go_roundw
          case rel => exact ⟨k + 1, by omega, by go_num, HF.out, HBX.out⟩
          case measure => simp [intOf]; omega
        | cons a0 ar =>
          have e2 : (bs (a0 :: ar)).toList.isEmpty = false := by rw [bs_toList]; rfl
          have i2 := idx0 a0 ar
          by_cases ha : a0 = d
          · have HF := hide (HYES.out (by rw [HHB.out]; simp [ha]))
            have e4 : ((a0.toNat : Int) == (d.toNat : Int)) = true := by rw [ha]; simp
            clear ha 
            go_wp2_with fail
            go_ret
            exact ⟨ret_bool (by rw [HF.out]), HB.out.trans (HBX.out.mono HB.out.size)⟩
          · have e4 : ((a0.toNat : Int) == (d.toNat : Int)) = false := by rw [beq_eq_false_iff_ne]; intro h; exact ha (UInt8.toNat_inj.1 (by omega))
            have HF := hide (HNO.out (by rw [HHB.out]; simp [ha]))
            clear ha 
            go_wp2_with fail
            go_roundw
            case rel => exact ⟨k + 1, by omega, by go_num, HF.out, HBX.out⟩
            case measure => simp [intOf]; omega
      | cons b0 br =>
        have e1 : (bs (b0 :: br)).toList.isEmpty = false := by rw [bs_toList]; rfl
        have i1 := idx0 b0 br
        by_cases hb : b0 = d
        · have HF := hide (HYES.out (by rw [HHB.out]; simp [hb]))
          have e3 : ((b0.toNat : Int) == (d.toNat : Int)) = true := by rw [hb]; simp
          clear hb
          go_wp2_with fail
          go_ret
          exact ⟨ret_bool (by rw [HF.out]), HB.out.trans (HBX.out.mono HB.out.size)⟩
        · have e3 : ((b0.toNat : Int) == (d.toNat : Int)) = false := by rw [beq_eq_false_iff_ne]; intro h; exact hb (UInt8.toNat_inj.1 (by omega))
          cases pa with
          | nil =>
            have e2 : (bs ([] : List UInt8)).toList.isEmpty = true := by rw [bs_toList]; rfl
            have HF := hide (HNO.out (by rw [HHB.out]; simp [hb]))
            clear hb
            go_wp2_with fail
            go_roundw
            case rel => exact ⟨k + 1, by omega, by go_num, HF.out, HBX.out⟩
            case measure => simp [intOf]; omega
          | cons a0 ar =>
            have e2 : (bs (a0 :: ar)).toList.isEmpty = false := by rw [bs_toList]; rfl
            have i2 := idx0 a0 ar
            by_cases ha : a0 = d
            · have HF := hide (HYES.out (by rw [HHB.out]; simp [ha]))
              have e4 : ((a0.toNat : Int) == (d.toNat : Int)) = true := by rw [ha]; simp
              clear ha hb
              go_wp2_with fail
              go_ret
              exact ⟨ret_bool (by rw [HF.out]), HB.out.trans (HBX.out.mono HB.out.size)⟩
            · have e4 : ((a0.toNat : Int) == (d.toNat : Int)) = false := by rw [beq_eq_false_iff_ne]; intro h; exact ha (UInt8.toNat_inj.1 (by omega))
              have HF := hide (HNO.out (by rw [HHB.out]; simp [ha, hb]))
              clear ha hb
              go_wp2_with fail
              go_roundw
              case rel => exact ⟨k + 1, by omega, by go_num, HF.out, HBX.out⟩
              case measure => simp [intOf]; omega
    · obtain rfl : k = ps.length := by omega
      have HF : Hid (mrk ps d = false) := by
        show _ = _
        rw [mrk_hit, List.any_eq_false]
        intro q hq
        obtain ⟨n, hn, rfl⟩ := List.getElem_of_mem hq
        rw [HH.out n _ hn (List.getElem?_eq_getElem hn)]; decide
      go_wp2_with fail
      go_ret
      exact ⟨ret_bool (by rw [HF.out]), HB.out.trans (HBw.out.mono HB.out.size)⟩
/-- the indices of the parts that may be next -/
def idxR : List Prt → Nat → List Int
  | [], _ => []
  | p :: r, a => if p.need then [(a : Int)] else (a : Int) :: idxR r (a + 1)
def OwnI (w : World) (B : Nat) (v : Value) (l : List Int) : Prop := w.ownsRow B 3 1 v l.length (l.map (Value.int .i64))
theorem OwnI.to {w w' : World} {B : Nat} {v : Value} {l : List Int} (h : OwnI w B v l) (hb : Below w.heap.size w w') : OwnI w' B v l :=
  own_to' h hb
theorem cells_newI {W : World} {xs : List Value} {ty : TypeId} {b : Nat} (hb : b = W.heap.size) : ∀ (j : Nat) (u : Value), xs[j]? = some u → (W.alloc (.cells xs.toArray ty)).cell? ((⟨b, 0, none⟩ : Addr).add j) = some u := by
  subst hb
  intro j u hu
  rw [show (⟨W.heap.size, 0, none⟩ : Addr).add j = ⟨W.heap.size, j, none⟩ by unfold Addr.add; split <;> simp_all]
  refine ((Blk.new W ty xs.toArray).cell j).trans ?_
  simpa using hu
theorem own_weak {w : World} {B B' : Nat} {v : Value} {l : List Int} (h : OwnI w B v l) (hB : B' ≤ B) : OwnI w B' v l := by
  obtain ⟨h1, h2⟩ := h
  refine ⟨h1, h2.imp id ?_⟩
  rintro ⟨g, cap, cur, a1, a2, a3⟩
  exact ⟨g, cap, cur, a1, Nat.le_trans hB a2, a3⟩
theorem OwnI.slice {w : World} {B : Nat} {v : Value} {l : List Int} (h : OwnI w B v l) : ∃ A c, v = .slice A l.length c := own_slice h
theorem OwnI.at_ {w : World} {B n c : Nat} {A : Option Addr} {l : List Int} (h : OwnI w B (.slice A n c) l) {k : Nat} {x : Int} (hx : l[k]? = some x) : ∃ g, A = some ⟨g, 0, none⟩ ∧ w.cell? ⟨g, k, none⟩ = some (.int .i64 x) ∧ g < w.heap.size ∧ l.length ≤ c := by
  obtain ⟨_, h⟩ := h
  rcases h with ⟨_, h0⟩ | ⟨g, cap, cur, hv, hB, hg, hn, _, hs, ht⟩
  · rw [List.eq_nil_of_length_eq_zero h0] at hx; cases hx
  · injection hv with e1 _ e3
    subst e1 e3
    have hb : Blk w g 3 cur := hg
    refine ⟨g, rfl, (hb.cell k).trans ?_, hb.lt, hn⟩
    have h1 : (l.map (Value.int .i64))[k]? = some (.int .i64 x) := by rw [List.getElem?_map, hx]; rfl
    rw [← ht, List.getElem?_take] at h1
    split at h1
    · simpa using h1
    · cases h1
theorem idx_need {ps : List Prt} {k : Nat} {p : Prt} (hp : ps[k]? = some p) : idxR (ps.drop k) k = if p.need then [(k : Int)] else (k : Int) :: idxR (ps.drop (k + 1)) (k + 1) := by
  obtain ⟨hlt, e⟩ := List.getElem?_eq_some_iff.1 hp
  rw [List.drop_eq_getElem_cons hlt, e, idxR]
theorem idx_len : ∀ (r : List Prt) (a : Nat), (idxR r a).length = (nxtL r).length
  | [], _ => rfl
  | p :: r, a => by
    rw [idxR, nxtL]
    split
    · rfl
    · rw [List.length_cons, List.length_cons, idx_len r]
theorem idx_at : ∀ (r : List Prt) (a m : Nat), m < (nxtL r).length → (idxR r a)[m]? = some ((a + m : Nat) : Int)
  | [], _, m, h => absurd h (Nat.not_lt_zero _)
  | p :: r, a, m, h => by
    rw [idxR]
    rw [nxtL] at h
    cases hn : p.need with
    | true =>
      rw [if_pos rfl]
      rw [hn] at h
      have : m = 0 := by simpa using h
      subst this; rfl
    | false =>
      rw [if_neg (by simp)]
      rw [hn, if_neg (by simp)] at h
      cases m with
      | zero => rfl
      | succ m =>
        rw [List.getElem?_cons_succ, idx_at r (a + 1) m (by simpa using h)]
        congr 2; omega
theorem nxt_at : ∀ (r : List Prt) (m : Nat), m < (nxtL r).length → (nxtL r)[m]? = r[m]?
  | [], m, h => absurd h (Nat.not_lt_zero _)
  | p :: r, m, h => by
    rw [nxtL] at h ⊢
    cases hn : p.need with
    | true =>
      rw [hn] at h
      have : m = 0 := by simpa using h
      subst this; rfl
    | false =>
      rw [hn, if_neg (by simp)] at h
      rw [if_neg (by simp)]
      cases m with
      | zero => rfl
      | succ m => rw [List.getElem?_cons_succ, List.getElem?_cons_succ]; exact nxt_at r m (by simpa using h)
theorem nxt_len : ∀ r : List Prt, (nxtL r).length ≤ r.length
  | [] => Nat.le_refl _
  | p :: r => by
    rw [nxtL]
    split
    · simp
    · have := nxt_len r; simp; exact this
set_option maxRecDepth 100000 in
set_option maxHeartbeats 4000000 in
theorem rNext_any (c : List UInt8) (ps : List Prt) (hl0 : ps.length ≤ 1000000) (v : Value) (i : Int) (a : Nat) (hi : i + 1 = (a : Int)) (ha : a ≤ ps.length) (w : World) (hP : PartsAt w v ps) :
    Calls Tryz.prog 56 #[.agg #[.string (bs c), v], .int .i64 i] w fun e w' => ∃ v, e = .returned v ∧ OwnI w' w.heap.size v (idxR (ps.drop a) a) ∧ Below w.heap.size w w' := by
  obtain ⟨i0, hi0, hz0, hz1, hz2⟩ := info_parts (show (Tryz.prog.info? 3).map (fun i => (i.zero, i.size, i.bytes)) = some (some (.int .i64 0), 1, 8) by kernel_rfl)
  obtain ⟨A, cp, rfl, hcp⟩ := hP.slice
  have HB := hide (below_one w (.cells #[.string (bs c), .slice A ps.length cp] 24))
  have HS := hide (Blk.new w 24 #[.string (bs c), .slice A ps.length cp])
  have HP := hide (hP.to HB.out)
  clear hP
  have hi9 : -9223372036854775808 ≤ i := by omega
  go_enter Tryz.func56, Tryz.ntmps56
  go_wp2_with fail
  generalize w.alloc (.cells #[.string (bs c), .slice A ps.length cp] 24) = w1 at *
  go_loopw [5, 6] (fun o t wr => ∃ (k : Nat) (acc : List Int), t = .int .i64 (k : Int) ∧ (a ≤ k ∧ k ≤ ps.length ∧ acc.length ≤ k ∧ acc ++ idxR (ps.drop k) k = idxR (ps.drop a) a) ∧ OwnI wr w1.heap.size o acc ∧ Below w1.heap.size w1 wr) (fun _ t _ => ps.length - (intOf t).toNat)
  case atStart => exact ⟨a, [], by go_num, ⟨Nat.le_refl _, ha, Nat.zero_le _, rfl⟩, World.ownsRow_nil _ _ _ _, Below.refl _ _⟩
  case round =>
    obtain ⟨k, acc, rfl, ⟨hak, hk, hacc, heq⟩, hO, hB⟩ := hrel
    have HEQ := hide heq
    have HBw := hide hB
    have HO := hide hO
    have s1 : wr.cell? ⟨w.heap.size, 1, none⟩ = some (.slice A ps.length cp) := (HS.out.to hB).cell 1
    have HSZ : Hid (w1.heap.size ≤ wr.heap.size) := hB.size
    clear hB hO heq
    obtain ⟨Ao, co, rfl⟩ := HO.out.slice
    by_cases hkt : k < ps.length
    · obtain ⟨p, hp⟩ : ∃ p, ps[k]? = some p := ⟨_, List.getElem?_eq_getElem hkt⟩
      have HIX := hide (idx_need hp)
      have HPP := hide hp
      clear hp
      go_wp2_with (at_builtin; refine wpList_append_own _ rfl (.tmp 16) (.tmp 18) _ rfl w1.heap.size 3 i0 (.int .i64 0) 1 8 Tryz.underlying85 hi0 hz0 hz1 hz2 rfl (by omega) _ acc.length (acc.map (Value.int .i64)) rfl ?c0 ⟨_, 0, none⟩ 1 1 [.int .i64 (k : Int)] rfl rfl ?c1 ?c2 ?c4 ?c5 ?c3 ?_)
      case c0 => exact own_to' HO.out (below_one _ _)
      case c1 => exact cells_newI (xs := [.int .i64 (k : Int)]) rfl
      case c2 => intro u hu; simp only [List.mem_cons, List.not_mem_nil, or_false] at hu; rcases hu with rfl; rfl
      case c4 => simp only [maxLen]; omega
      case c5 => omega
      case c3 => have := HSZ.out; simp; omega
      intro v' w6 hown6 hgr6 _
      have HB6 := hide ((below_alloc HBw.out (Nat.le_refl _) _).grown hgr6 (by have := HSZ.out; simp; omega) (fun b hb => (World.ownsRow.lt HO.out b hb).1))
      have HO6 : Hid (OwnI w6 w1.heap.size v' (acc ++ [(k : Int)])) := by
        show World.ownsRow _ _ _ _ _ _ _
        rw [List.map_append, List.length_append]
        exact hown6
      have s2 : w6.cell? ⟨w.heap.size, 1, none⟩ = some (.slice A ps.length cp) := (HS.out.to HB6.out).cell 1
      obtain ⟨ad, cp', ea, _, hab, c0, c1, c2, c3⟩ := (HP.out.to HB6.out).at_ HPP.out
      injection ea with ea _ ec
      subst ec
      obtain rfl := ea
      clear s1 hown6 hgr6 c0 c1 c2
      cases hn : p.need with
      | true =>
        rw [hn] at c3 HIX
        clear hn
        go_wp2_with fail
        go_ret
        exact ⟨_, rfl, own_weak (by rw [← HEQ.out, HIX.out]; exact HO6.out) HB.out.size, HB.out.trans (HB6.out.mono HB.out.size)⟩
      | false =>
        rw [hn] at c3 HIX
        clear hn
        go_wp2_with fail
        go_roundw
        case rel => exact ⟨k + 1, acc ++ [(k : Int)], by go_num, ⟨by omega, by omega, by simp; omega, by rw [← HEQ.out, HIX.out, List.append_assoc]; rfl⟩, HO6.out, HB6.out⟩
        case measure => simp [intOf]; omega
    · obtain rfl : k = ps.length := by omega
      have e1 : decide ((ps.length : Int) < (ps.length : Int)) = false := by simp
      have HE : Hid (idxR (ps.drop a) a = acc) := by show _ = _; rw [← HEQ.out, List.drop_length, idxR, List.append_nil]
      go_wp2_with fail
      go_ret
      exact ⟨_, rfl, own_weak (by rw [HE.out]; exact HO.out) HB.out.size, HB.out.trans (HBw.out.mono HB.out.size)⟩
end Go.Proofs.YtdcafoekbnacnaaGreatDoor

/- The reference of layer 23: Valid. -/
set_option linter.unusedVariables false
set_option linter.unusedSimpArgs false
namespace Go.Proofs.YtdcafoekbnacnaaGreatDoor
open Go.RowKit Go.Shelf
attribute [local go_sem] Oper.semAt_some

theorem validB_c {c : List UInt8} {ps : List Prt} (h : isNm c = false) : validB isNm ⟨c, ps⟩ = false := by unfold validB; rw [h]; simp
theorem validB_n {c : List UInt8} {ps : List Prt} (h : ps.length < 1 ∨ 8 < ps.length) : validB isNm ⟨c, ps⟩ = false := by
  unfold validB
  dsimp only
  rcases h with h | h
  · rw [decide_eq_false (by omega : ¬ 1 ≤ ps.length)]; simp
  · rw [decide_eq_false (by omega : ¬ ps.length ≤ 8)]; simp
theorem validB_t {c : List UInt8} {ps : List Prt} {a : Nat} (ha : a ≤ ps.length) (h : toldB (afterAt ps a) (nxtL (ps.drop a)) = false) : validB isNm ⟨c, ps⟩ = false := by
  unfold validB
  dsimp only
  have : ((List.range (ps.length + 1)).all fun i => toldB (afterAt ps i) (nxtL (ps.drop i))) = false := by
    rw [List.all_eq_false]
    exact ⟨a, List.mem_range.2 (by omega), by rw [h]; decide⟩
  rw [this]; simp
theorem validB_yes {c : List UInt8} {ps : List Prt} (h1 : isNm c = true) (h2 : 1 ≤ ps.length) (h3 : ps.length ≤ 8) (h4 : partsB [] ps = true) (h5 : ∀ n, n < ps.length + 1 → toldB (afterAt ps n) (nxtL (ps.drop n)) = true) : validB isNm ⟨c, ps⟩ = true := by
  unfold validB
  dsimp only
  have : ((List.range (ps.length + 1)).all fun i => toldB (afterAt ps i) (nxtL (ps.drop i))) = true := by
    rw [List.all_eq_true]
    intro n hn
    exact h5 n (List.mem_range.1 hn)
  rw [this, h4, h1, decide_eq_true h2, decide_eq_true h3]; rfl
/-- one of the parts that may be next, beside another one -/
def pairB (l : List Prt) (p : Prt) (k j : Nat) : Bool := match l[j]? with
  | none => true
  | some q => decide (j = k) || !p.b.isPrefixOf q.b
def tellB (after : List UInt8) (l : List Prt) (k : Nat) : Bool := match l[k]? with
  | none => true
  | some p => !(after.isEmpty && p.b.isEmpty) && (List.range l.length).all (pairB l p k)
theorem told_all (after : List UInt8) (l : List Prt) : toldB after l = (List.range l.length).all (tellB after l) := rfl
theorem tell_some {after : List UInt8} {l : List Prt} {k : Nat} {p : Prt} (h : l[k]? = some p) : tellB after l k = (!(after.isEmpty && p.b.isEmpty) && (List.range l.length).all (pairB l p k)) := by
  unfold tellB; rw [h]
theorem pair_some {l : List Prt} {p q : Prt} {k j : Nat} (h : l[j]? = some q) : pairB l p k j = (decide (j = k) || !p.b.isPrefixOf q.b) := by
  unfold pairB; rw [h]
theorem told_no {after : List UInt8} {l : List Prt} {k : Nat} (hk : k < l.length) (h : tellB after l k = false) : toldB after l = false := by
  rw [told_all, List.all_eq_false]
  exact ⟨k, List.mem_range.2 hk, by rw [h]; decide⟩
theorem told_yes {after : List UInt8} {l : List Prt} (h : ∀ k, k < l.length → tellB after l k = true) : toldB after l = true := by
  rw [told_all, List.all_eq_true]
  exact fun k hk => h k (List.mem_range.1 hk)
theorem pre_dec (p s : List UInt8) : decide (p <+: s) = p.isPrefixOf s := by
  rw [Bool.eq_iff_iff, decide_eq_true_eq, List.isPrefixOf_iff_prefix]
theorem empT {x : List UInt8} {b : Bool} (h : x.isEmpty = b) : (bs x).toList.isEmpty = b := by rw [bs_toList]; exact h
set_option maxRecDepth 100000 in
set_option maxHeartbeats 8000000 in
theorem rValid23_any (c : List UInt8) (ps : List Prt) (hl0 : ps.length ≤ 1000000) (hc0 : c.length ≤ 140737488355328) (hb0 : ∀ p ∈ ps, p.b.length ≤ 1000000 ∧ p.a.length ≤ 1000000) (v : Value) (w : World) (hP : PartsAt w v ps) :
    Calls Tryz.prog 23 #[.agg #[.string (bs c), v]] w fun e w' => e = .returned (.bool (validB isNm ⟨c, ps⟩)) ∧ Below w.heap.size w w' := by
  obtain ⟨A, cp, rfl, hcp⟩ := hP.slice
  have HB := hide (below_one w (.cells #[.string (bs c), .slice A ps.length cp] 24))
  have HS := hide (Blk.new w 24 #[.string (bs c), .slice A ps.length cp])
  have HP := hide (hP.to HB.out)
  have H0 := hide hb0
  have HL0 := hide hl0
  have CN := fun w => rName_any c hc0 w
  clear hP hb0 hc0
  have q0 : (w.alloc (.cells #[.string (bs c), .slice A ps.length cp] 24)).cell? ⟨w.heap.size, 0, none⟩ = some (.string (bs c)) := HS.out.cell 0
  have q1 : (w.alloc (.cells #[.string (bs c), .slice A ps.length cp] 24)).cell? ⟨w.heap.size, 1, none⟩ = some (.slice A ps.length cp) := HS.out.cell 1
  go_enter Tryz.func23, Tryz.ntmps23
  cases hn : isNm c with
  | false =>
    rw [hn] at CN
    have HF := hide (validB_c (ps := ps) hn)
    clear hn
    go_wp2_with ((with_reducible refine (CN _).mono ?_); rintro e w' ⟨rfl, hw⟩; have hw := hw.symm; subst hw)
    go_ret
    exact ⟨ret_bool (by rw [HF.out]), HB.out⟩
  | true =>
  rw [hn] at CN
  have HN := hide hn
  clear hn
  by_cases h1 : ps.length < 1
  · have HF := hide (validB_n (c := c) (Or.inl h1))
    have e1 : decide ((ps.length : Int) < 1) = true := decide_eq_true (by omega)
    clear h1
    go_wp2_with ((with_reducible refine (CN _).mono ?_); rintro e w' ⟨rfl, hw⟩; have hw := hw.symm; subst hw)
    go_ret
    exact ⟨ret_bool (by rw [HF.out]), HB.out⟩
  have e1 : decide ((ps.length : Int) < 1) = false := decide_eq_false (by omega)
  by_cases h8 : 8 < ps.length
  · have HF := hide (validB_n (c := c) (Or.inr h8))
    have e2 : decide ((8 : Int) < (ps.length : Int)) = true := decide_eq_true (by omega)
    clear h1 h8
    go_wp2_with ((with_reducible refine (CN _).mono ?_); rintro e w' ⟨rfl, hw⟩; have hw := hw.symm; subst hw)
    go_ret
    exact ⟨ret_bool (by rw [HF.out]), HB.out⟩
  have e2 : decide ((8 : Int) < (ps.length : Int)) = false := decide_eq_false (by omega)
  have H1 := hide h1
  have H8 := hide h8
  clear h1 h8
  go_wp2_with ((with_reducible refine (CN _).mono ?_); rintro e w' ⟨rfl, hw⟩; have hw := hw.symm; subst hw)
  clear e1 e2 q0 q1 CN
  generalize w.alloc (.cells #[.string (bs c), .slice A ps.length cp] 24) = w1 at *
  go_loopw [3] (fun i wr => ∃ k : Nat, i = .int .i64 (k : Int) ∧ (k ≤ ps.length ∧ partsB [] ps = partsB (seenK ps k) (ps.drop k)) ∧ Below w1.heap.size w1 wr) (fun i _ => ps.length - (intOf i).toNat)
  case atStart => exact ⟨0, rfl, ⟨by omega, rfl⟩, Below.refl _ _⟩
  case round =>
    obtain ⟨k, rfl, ⟨hk, hpb⟩, hB⟩ := hrel
    have HBw := hide hB
    have HPB := hide hpb
    have s1 : wr.cell? ⟨w.heap.size, 1, none⟩ = some (.slice A ps.length cp) := (HS.out.to hB).cell 1
    clear hB hpb
    by_cases hkt : k < ps.length
    · obtain ⟨p, hp⟩ : ∃ p, ps[k]? = some p := ⟨_, List.getElem?_eq_getElem hkt⟩
      obtain ⟨a, cp', ea, _, hab, c0, c1, c2, c3⟩ := (HP.out.to HBw.out).at_ hp
      injection ea with ea _ ec
      subst ec
      obtain rfl := ea
      have HST : Hid (partsB [] ps = (decide (1 ≤ p.k) && (decide (p.k ≤ 8) && (!(seenK ps k).contains p.k && (smallB p.b && (smallB p.a && partsB (seenK ps (k + 1)) (ps.drop (k + 1)))))))) := by
        show _ = _
        rw [HPB.out, drop_hd hp, seenK_succ hp]; rfl
      have HPP := hide hp
      have CB := fun w => rsmall_any p.b (by have := (H0.out p (List.mem_of_getElem? hp)).1; omega) w
      have CA := fun w => rsmall_any p.a (by have := (H0.out p (List.mem_of_getElem? hp)).2; omega) w
      have HBX := hide (below_alloc HBw.out (Nat.le_refl _) (.cells #[.int .i64 p.k, .string (bs p.b), .string (bs p.a), .bool p.need] 41))
      have HBP := hide (Blk.new wr 41 #[.int .i64 p.k, .string (bs p.b), .string (bs p.a), .bool p.need])
      clear hp
      go_upto_region 7 with fail
      clear c0 c1 c2 c3 s1 hab
      generalize wr.alloc (.cells #[.int .i64 p.k, .string (bs p.b), .string (bs p.a), .bool p.need] 41) = w5 at *
      have p0 : w5.cell? ⟨wr.heap.size, 0, none⟩ = some (.int .i64 p.k) := HBP.out.cell 0
      have p1 : w5.cell? ⟨wr.heap.size, 1, none⟩ = some (.string (bs p.b)) := HBP.out.cell 1
      have p2 : w5.cell? ⟨wr.heap.size, 2, none⟩ = some (.string (bs p.a)) := HBP.out.cell 2
      generalize wr.heap.size = bx at *
      by_cases h1 : p.k < 1
      · have HF : Hid (validB isNm ⟨c, ps⟩ = false) := validB_parts (by rw [HST.out, decide_eq_false (by omega : ¬ 1 ≤ p.k)]; rfl)
        have e1 : decide (p.k < 1) = true := decide_eq_true h1
        clear h1
        go_wp2_with fail
        go_ret
        exact ⟨ret_bool (by rw [HF.out]), HB.out.trans (HBX.out.mono HB.out.size)⟩
      have e1 : decide (p.k < 1) = false := decide_eq_false h1
      by_cases h2 : 8 < p.k
      · have HF : Hid (validB isNm ⟨c, ps⟩ = false) := validB_parts (by rw [HST.out, decide_eq_false (by omega : ¬ p.k ≤ 8)]; simp)
        have e2 : decide (8 < p.k) = true := decide_eq_true h2
        clear h1 h2
        go_wp2_with fail
        go_ret
        exact ⟨ret_bool (by rw [HF.out]), HB.out.trans (HBX.out.mono HB.out.size)⟩
      have e2 : decide (8 < p.k) = false := decide_eq_false h2
      rw [decide_eq_true (by omega : 1 ≤ p.k), decide_eq_true (by omega : p.k ≤ 8), Bool.true_and, Bool.true_and] at HST
      clear h1 h2
      cases hsb : smallB p.b with
      | false =>
        have HF : Hid (validB isNm ⟨c, ps⟩ = false) := validB_parts (by rw [HST.out, hsb]; simp)
        rw [hsb] at CB
        clear hsb
        go_wp2_with ((with_reducible refine (CB _).mono ?_); rintro e w' ⟨rfl, hw⟩; have hw := hw.symm; subst hw)
        go_ret
        exact ⟨ret_bool (by rw [HF.out]), HB.out.trans (HBX.out.mono HB.out.size)⟩
      | true =>
      rw [hsb] at CB HST
      clear hsb
      cases hsb : smallB p.a with
      | false =>
        have HF : Hid (validB isNm ⟨c, ps⟩ = false) := validB_parts (by rw [HST.out, hsb]; simp)
        rw [hsb] at CA
        clear hsb
        go_wp2_with (first | ((with_reducible refine (CB _).mono ?_); rintro e w' ⟨rfl, hw⟩; have hw := hw.symm; subst hw) | ((with_reducible refine (CA _).mono ?_); rintro e w' ⟨rfl, hw⟩; have hw := hw.symm; subst hw))
        go_ret
        exact ⟨ret_bool (by rw [HF.out]), HB.out.trans (HBX.out.mono HB.out.size)⟩
      | true =>
      rw [hsb] at CA HST
      clear hsb
      rw [Bool.true_and, Bool.true_and] at HST
      go_wp2_with (first | ((with_reducible refine (CB _).mono ?_); rintro e w' ⟨rfl, hw⟩; have hw := hw.symm; subst hw) | ((with_reducible refine (CA _).mono ?_); rintro e w' ⟨rfl, hw⟩; have hw := hw.symm; subst hw))
      clear e1 e2 p0 p1 p2 CA CB
      go_loopw [5] (fun i wr => ∃ m : Nat, i = .int .i64 (m : Int) ∧ (m ≤ k ∧ ∀ j q, j < m → ps[j]? = some q → q.k ≠ p.k) ∧ Below w1.heap.size w1 wr ∧ Blk wr bx 41 #[.int .i64 p.k, .string (bs p.b), .string (bs p.a), .bool p.need]) (fun i _ => k - (intOf i).toNat)
      case atStart => exact ⟨0, rfl, ⟨by omega, fun j q h => absurd h (by omega)⟩, HBX.out, HBP.out⟩
      case round =>
        obtain ⟨m, rfl, ⟨hm, hne⟩, hB, hX⟩ := hrel
        have HB2 := hide hB
        have HX2 := hide hX
        have HNE := hide hne
        clear hB hX hne HBX HBP HBw
        by_cases hmk : m < k
        · obtain ⟨q, hq⟩ : ∃ q, ps[m]? = some q := ⟨_, List.getElem?_eq_getElem (by omega)⟩
          obtain ⟨a2, cp2, ea, _, hab, c0, c1, c2, c3⟩ := (HP.out.to HB2.out).at_ hq
          injection ea with ea _ ec
          subst ec
          injection ea with ea
          subst ea
          have s1 : wr.cell? ⟨w.heap.size, 1, none⟩ = some (.slice (some a) ps.length cp) := (HS.out.to HB2.out).cell 1
          have p0 : wr.cell? ⟨bx, 0, none⟩ = some (.int .i64 p.k) := HX2.out.cell 0
          have k0 : (0 : Int) ≤ (m : Int) := by omega
          have k1 : (m : Int) < (ps.length : Int) := by omega
          have k2 : decide ((m : Int) < (k : Int)) = true := decide_eq_true (by omega)
          by_cases hqp : q.k = p.k
          · have HF : Hid (validB isNm ⟨c, ps⟩ = false) := validB_parts (by
              have : (seenK ps k).contains p.k = true := by
                rw [List.contains_iff_mem, ← hqp]
                unfold seenK
                rw [List.mem_reverse, List.mem_map]
                exact ⟨q, List.mem_of_getElem? (i := m) (by rw [List.getElem?_take, if_pos hmk, hq]), rfl⟩
              rw [HST.out, this]; rfl)
            have e3 : (q.k == p.k) = true := by rw [hqp]; simp
            clear hqp hq
            generalize q.k = qk at *
            generalize p.k = pk at *
            go_wp2_with fail
            go_quiet (fail)
            go_wp2_with fail
            go_ret
            exact ⟨ret_bool (by rw [HF.out]), below_drewN (HB.out.trans (HB2.out.mono HB.out.size)) _⟩
          · have e3 : (q.k == p.k) = false := by rw [beq_eq_false_iff_ne]; exact hqp
            have HNE2 : Hid (∀ j x, j < m + 1 → ps[j]? = some x → x.k ≠ p.k) := fun j x hj hx => by
              rcases Nat.lt_or_ge j m with h | h
              · exact HNE.out j x h hx
              · obtain rfl : j = m := by omega
                rw [hq] at hx; cases hx; exact hqp
            clear hqp hq
            generalize hqk : q.k = qk at *
            generalize hpk : p.k = pk at *
            have HQ := hide hqk
            have HK := hide hpk
            clear hqk hpk
            go_wp2_with fail
            go_quiet (fail)
            go_wp2_with fail
            go_roundw
            case rel => exact ⟨m + 1, by go_num, ⟨by omega, HNE2.out⟩, below_drewN HB2.out _, HX2.out.drewN _⟩
            case measure => simp [intOf]; omega
        · obtain rfl : m = k := by omega
          have k2 : decide ((m : Int) < (m : Int)) = false := by simp
          have HRE : Hid (partsB [] ps = partsB (seenK ps (m + 1)) (ps.drop (m + 1))) := by
            have : (seenK ps m).contains p.k = false := by
              rw [← Bool.not_eq_true, List.contains_iff_mem]
              unfold seenK
              rw [List.mem_reverse, List.mem_map]
              rintro ⟨q, hq, e⟩
              obtain ⟨n, hn, rfl⟩ := List.getElem_of_mem hq
              rw [List.length_take] at hn
              refine HNE.out n _ (by omega) (List.getElem?_eq_getElem (by omega)) ?_
              rw [List.getElem_take] at e
              exact e
            show _ = _
            rw [HST.out, this]; rfl
          go_wp2_with fail
          go_roundw
          case rel => exact ⟨m + 1, by go_num, ⟨by omega, HRE.out⟩, HB2.out⟩
          case measure => simp [intOf]; omega
    · obtain rfl : k = ps.length := by omega
      have HPT : Hid (partsB [] ps = true) := by show _ = _; rw [HPB.out, List.drop_length]; rfl
      have e1 : decide ((ps.length : Int) < (ps.length : Int)) = false := by simp
      go_wp2_with fail
      clear s1 e1 HPB hk hkt
      go_loopw [6] (fun i wr => ∃ (a : Nat) (i0 : Int), i = .int .i64 i0 ∧ (i0 + 1 = (a : Int) ∧ a ≤ ps.length + 1 ∧ ∀ n, n < a → toldB (afterAt ps n) (nxtL (ps.drop n)) = true) ∧ Below w1.heap.size w1 wr) (fun i _ => ((ps.length : Int) - intOf i).toNat)
      case atStart => exact ⟨0, -1, rfl, ⟨by omega, by omega, fun n h => absurd h (by omega)⟩, HBw.out⟩
      case round =>
        obtain ⟨a, i, rfl, ⟨hia, ha, htl⟩, hB⟩ := hrel
        have HB2 := hide hB
        have HTL := hide htl
        clear hB htl
        have s0 : wr.cell? ⟨w.heap.size, 0, none⟩ = some (.string (bs c)) := (HS.out.to HB2.out).cell 0
        have s1 : wr.cell? ⟨w.heap.size, 1, none⟩ = some (.slice A ps.length cp) := (HS.out.to HB2.out).cell 1
        by_cases hil : i < (ps.length : Int)
        · have e1 : decide (i < (ps.length : Int)) = true := decide_eq_true hil
          have hal : a ≤ ps.length := by omega
          have HAL := hide hal
          have CX := rNext_any c ps HL0.out _ i a hia hal wr (HP.out.to HB2.out)
          go_wp2_with fail
          refine CX.mono ?_
          rintro e w6 ⟨v6, rfl, hO, hb⟩
          have HB6 := hide (below_to HB2.out (Nat.le_refl _) hb)
          clear hb s0 s1 e1 CX HB2
          have HO := hide hO
          clear hO
          have HLN : Hid ((idxR (ps.drop a) a).length = (nxtL (ps.drop a)).length) := idx_len _ _
          have HIX : Hid (∀ m, m < (idxR (ps.drop a) a).length → (idxR (ps.drop a) a)[m]? = some ((a + m : Nat) : Int) ∧ ∃ q, ps[a + m]? = some q ∧ (nxtL (ps.drop a))[m]? = some q) := fun m hm => by
            have hm2 : m < (nxtL (ps.drop a)).length := by rw [← HLN.out]; exact hm
            have hm3 := Nat.lt_of_lt_of_le hm2 (nxt_len (ps.drop a))
            rw [List.length_drop] at hm3
            refine ⟨idx_at _ _ _ hm2, ps[a + m], List.getElem?_eq_getElem (by omega), ?_⟩
            rw [nxt_at _ _ hm2, List.getElem?_drop, List.getElem?_eq_getElem (by omega)]
          have HLL : Hid ((idxR (ps.drop a) a).length ≤ 1000000) := by
            have h1 := nxt_len (ps.drop a)
            rw [List.length_drop] at h1
            have h2 := HLN.out
            have h3 := HL0.out
            show _ ≤ _
            omega
          generalize idxR (ps.drop a) a = L at *
          obtain ⟨Al, cl, rfl⟩ := HO.out.slice
          have hll := HLL.out
          go_wp2_with fail
          go_loopw [8] (fun t wr => ∃ m : Nat, t = .int .i64 (m : Int) ∧ (m ≤ L.length ∧ ∀ n, n < m → tellB (afterAt ps a) (nxtL (ps.drop a)) n = true) ∧ Below w6.heap.size w6 wr) (fun t _ => L.length - (intOf t).toNat)
          case atStart => exact ⟨0, rfl, ⟨by omega, fun n h => absurd h (by omega)⟩, Below.refl _ _⟩
          case round =>
            obtain ⟨m, rfl, ⟨hm, htm⟩, hB⟩ := hrel
            have HB7 := hide hB
            have HTM := hide htm
            clear hB htm
            by_cases hmL : m < L.length
            · obtain ⟨hLm, q, hq, hnq⟩ := HIX.out m hmL
              obtain ⟨Ag, eA, cL, _, hcl⟩ := (HO.out.to HB7.out).at_ hLm
              subst eA
              obtain ⟨ad, cp2, ea, _, hab, c0, c1, c2, c3⟩ := (HP.out.to (below_to HB6.out (Nat.le_refl _) HB7.out)).at_ hq
              injection ea with ea _ ec
              subst ec
              obtain rfl := ea
              have s1 : wr.cell? ⟨w.heap.size, 1, none⟩ = some (.slice (some ad) ps.length cp) := (HS.out.to (below_to HB6.out (Nat.le_refl _) HB7.out)).cell 1
              have HTS := hide (tell_some (after := afterAt ps a) hnq)
              have HQ := hide hq
              have hzl : a + m < ps.length := (List.getElem?_eq_some_iff.1 hq).1
              clear hq hnq hLm
              generalize hz : a + m = z at *
              have HZ := hide hz
              clear hz
              have k0 : (0 : Int) ≤ (m : Int) := by omega
              have k1 : (m : Int) < (L.length : Int) := by omega
              have k2 : (0 : Int) ≤ (z : Int) := by omega
              have k3 : (z : Int) < (ps.length : Int) := by omega
              have k4 : decide ((m : Int) < (L.length : Int)) = true := decide_eq_true k1
              go_wp2_with fail
              go_quiet (fail)
              have HB8 := hide (below_drewN HB7.out nq)
              clear HB7 c0 c1 c2 c3 s1 cL k0 k1 k2 k3 k4 hab
              generalize wr.drewN nq = w8 at *
              have s1 : w8.cell? ⟨w.heap.size, 1, none⟩ = some (.slice (some ad) ps.length cp) := (HS.out.to (below_to HB6.out (Nat.le_refl _) HB8.out)).cell 1
              rcases Nat.eq_zero_or_pos a with ha0 | ha0
              · obtain rfl : i = -1 := by omega
                have HNE : Hid (tellB (afterAt ps a) (nxtL (ps.drop a)) m = (List.range (nxtL (ps.drop a)).length).all (pairB (nxtL (ps.drop a)) q m)) := by
                  show _ = _
                  rw [HTS.out, show (afterAt ps a).isEmpty = false by rw [ha0]; rfl]; rfl
                have HA0 := hide ha0
                clear ha0
                go_wp2_with fail
                clear s1
                go_loopw [10] (fun t wr => ∃ j : Nat, t = .int .i64 (j : Int) ∧ (j ≤ L.length ∧ ∀ n, n < j → pairB (nxtL (ps.drop a)) q m n = true) ∧ Below w6.heap.size w6 wr) (fun t _ => L.length - (intOf t).toNat)
                case atStart => exact ⟨0, rfl, ⟨by omega, fun n h => absurd h (by omega)⟩, HB8.out⟩
                case round =>
                  obtain ⟨j, rfl, ⟨hj, hpr⟩, hB⟩ := hrel
                  have HB9 := hide hB
                  have HPR := hide hpr
                  clear hB hpr HB8
                  by_cases hjL : j < L.length
                  · obtain ⟨hLm, x, hx, hnx⟩ := HIX.out j hjL
                    have HPS := hide (pair_some (p := q) (k := m) hnx)
                    have k4 : decide ((j : Int) < (L.length : Int)) = true := decide_eq_true (by omega)
                    have HP2 : Hid (pairB (nxtL (ps.drop a)) q m j = true → ∀ n, n < j + 1 → pairB (nxtL (ps.drop a)) q m n = true) := fun h n hn => by
                      rcases Nat.lt_or_ge n j with h1 | h1
                      · exact HPR.out n h1
                      · obtain rfl : n = j := by omega
                        exact h
                    by_cases hjm : j = m
                    · have e5 : ((m : Int) != (j : Int)) = false := by rw [hjm]; simp
                      have HP3 := hide (HP2.out (by rw [HPS.out, decide_eq_true hjm]; rfl))
                      clear hLm hx hnx hjm
                      go_wp2_with fail
                      go_quiet (fail)
                      go_wp2_with fail
                      go_roundw
                      case rel => exact ⟨j + 1, by go_num, ⟨by omega, HP3.out⟩, below_drewN HB9.out _⟩
                      case measure => simp [intOf]; omega
                    · have e5 : ((m : Int) != (j : Int)) = true := by rw [bne_iff_ne]; omega
                      obtain ⟨Ag9, eA, cL, _, hcl⟩ := (HO.out.to HB9.out).at_ hLm
                      injection eA with eA
                      injection eA with eA
                      subst eA
                      obtain ⟨ad9, cp9, ea, _, hab, c0, c1, c2, c3⟩ := (HP.out.to (below_to HB6.out (Nat.le_refl _) HB9.out)).at_ hx
                      injection ea with ea _ ec
                      injection ea with ea
                      subst ea
                      have s1 : wr.cell? ⟨w.heap.size, 1, none⟩ = some (.slice (some ad) ps.length cp) := (HS.out.to (below_to HB6.out (Nat.le_refl _) HB9.out)).cell 1
                      have hzl : a + j < ps.length := (List.getElem?_eq_some_iff.1 hx).1
                      have CG := fun w => rbegins_any x.b q.b w
                      rw [pre_dec] at CG
                      rw [decide_eq_false hjm, Bool.false_or] at HPS
                      clear hx hnx hLm hjm ec
                      generalize hz : a + j = z9 at *
                      have HZ9 := hide hz
                      clear hz
                      have k0 : (0 : Int) ≤ (j : Int) := by omega
                      have k1 : (j : Int) < (L.length : Int) := by omega
                      have k2 : (0 : Int) ≤ (z9 : Int) := by omega
                      have k3 : (z9 : Int) < (ps.length : Int) := by omega
                      cases hpx : q.b.isPrefixOf x.b with
                      | true =>
                        have HF : Hid (validB isNm ⟨c, ps⟩ = false) := validB_t HAL.out (told_no (k := m) (by rw [← HLN.out]; exact hmL) (by
                          rw [HNE.out, List.all_eq_false]
                          exact ⟨j, List.mem_range.2 (by rw [← HLN.out]; exact hjL), by rw [HPS.out, hpx]; decide⟩))
                        rw [hpx] at CG
                        clear hpx
                        go_wp2_with fail
                        go_quiet ((go_at_call 57; exact Calls.quiet_of_same (CG _)))
                        go_wp2_with fail
                        go_ret
                        exact ⟨ret_bool (by rw [HF.out]), below_drewN (HB.out.trans ((below_to HB6.out (Nat.le_refl _) HB9.out).mono HB.out.size)) _⟩
                      | false =>
                        have HP3 := hide (HP2.out (by rw [HPS.out, hpx]; rfl))
                        rw [hpx] at CG
                        clear hpx
                        go_wp2_with fail
                        go_quiet ((go_at_call 57; exact Calls.quiet_of_same (CG _)))
                        go_wp2_with fail
                        go_roundw
                        case rel => exact ⟨j + 1, by go_num, ⟨by omega, HP3.out⟩, below_drewN HB9.out _⟩
                        case measure => simp [intOf]; omega
                  · obtain rfl : j = L.length := by omega
                    have k4 : decide ((L.length : Int) < (L.length : Int)) = false := by simp
                    have HT2 : Hid (∀ n, n < m + 1 → tellB (afterAt ps a) (nxtL (ps.drop a)) n = true) := fun n hn => by
                      rcases Nat.lt_or_ge n m with h1 | h1
                      · exact HTM.out n h1
                      · obtain rfl : n = m := by omega
                        rw [HNE.out, List.all_eq_true]
                        exact fun y hy => HPR.out y (by rw [HLN.out]; exact List.mem_range.1 hy)
                    go_wp2_with fail
                    go_roundw
                    case rel => exact ⟨m + 1, by go_num, ⟨by omega, HT2.out⟩, HB9.out⟩
                    case measure => simp [intOf]; omega
              · obtain ⟨a1, ha1⟩ : ∃ a1 : Nat, a = a1 + 1 := ⟨a - 1, by omega⟩
                obtain rfl : i = (a1 : Int) := by omega
                obtain ⟨r, hr⟩ : ∃ r, ps[a1]? = some r := ⟨_, List.getElem?_eq_getElem (by omega)⟩
                obtain ⟨ad8, cp8, ea, _, hab, c0, c1, c2, c3⟩ := (HP.out.to (below_to HB6.out (Nat.le_refl _) HB8.out)).at_ hr
                injection ea with ea _ ec
                injection ea with ea
                subst ea
                have HAF : Hid (afterAt ps a = r.a) := by
                  show _ = _
                  rw [ha1]
                  show (match ps[a1]? with | some p => p.a | none => []) = _
                  rw [hr]
                have k0 : (0 : Int) ≤ (a1 : Int) := by omega
                have k1 : (a1 : Int) < (ps.length : Int) := by omega
                have k2 : decide ((0 : Int) ≤ (a1 : Int)) = true := decide_eq_true k0
                have HA1 := hide ha1
                clear hr ha0 ha1 ec hab
                cases hra : r.a.isEmpty with
                | false =>
                  have e3 := empT hra
                  have HNE : Hid (tellB (afterAt ps a) (nxtL (ps.drop a)) m = (List.range (nxtL (ps.drop a)).length).all (pairB (nxtL (ps.drop a)) q m)) := by
                    show _ = _
                    rw [HTS.out, HAF.out, hra]; rfl
                  clear hra
                  go_wp2_with fail
                  clear s1
                  go_loopw [10] (fun t wr => ∃ j : Nat, t = .int .i64 (j : Int) ∧ (j ≤ L.length ∧ ∀ n, n < j → pairB (nxtL (ps.drop a)) q m n = true) ∧ Below w6.heap.size w6 wr) (fun t _ => L.length - (intOf t).toNat)
                  case atStart => exact ⟨0, rfl, ⟨by omega, fun n h => absurd h (by omega)⟩, HB8.out⟩
                  case round =>
                    obtain ⟨j, rfl, ⟨hj, hpr⟩, hB⟩ := hrel
                    have HB9 := hide hB
                    have HPR := hide hpr
                    clear hB hpr HB8
                    by_cases hjL : j < L.length
                    · obtain ⟨hLm, x, hx, hnx⟩ := HIX.out j hjL
                      have HPS := hide (pair_some (p := q) (k := m) hnx)
                      have k4 : decide ((j : Int) < (L.length : Int)) = true := decide_eq_true (by omega)
                      have HP2 : Hid (pairB (nxtL (ps.drop a)) q m j = true → ∀ n, n < j + 1 → pairB (nxtL (ps.drop a)) q m n = true) := fun h n hn => by
                        rcases Nat.lt_or_ge n j with h1 | h1
                        · exact HPR.out n h1
                        · obtain rfl : n = j := by omega
                          exact h
                      by_cases hjm : j = m
                      · have e5 : ((m : Int) != (j : Int)) = false := by rw [hjm]; simp
                        have HP3 := hide (HP2.out (by rw [HPS.out, decide_eq_true hjm]; rfl))
                        clear hLm hx hnx hjm
                        go_wp2_with fail
                        go_quiet (fail)
                        go_wp2_with fail
                        go_roundw
                        case rel => exact ⟨j + 1, by go_num, ⟨by omega, HP3.out⟩, below_drewN HB9.out _⟩
                        case measure => simp [intOf]; omega
                      · have e5 : ((m : Int) != (j : Int)) = true := by rw [bne_iff_ne]; omega
                        obtain ⟨Ag9, eA, cL, _, hcl⟩ := (HO.out.to HB9.out).at_ hLm
                        injection eA with eA
                        injection eA with eA
                        subst eA
                        obtain ⟨ad9, cp9, ea, _, hab, c0, c1, c2, c3⟩ := (HP.out.to (below_to HB6.out (Nat.le_refl _) HB9.out)).at_ hx
                        injection ea with ea _ ec
                        injection ea with ea
                        subst ea
                        have s1 : wr.cell? ⟨w.heap.size, 1, none⟩ = some (.slice (some ad) ps.length cp) := (HS.out.to (below_to HB6.out (Nat.le_refl _) HB9.out)).cell 1
                        have hzl : a + j < ps.length := (List.getElem?_eq_some_iff.1 hx).1
                        have CG := fun w => rbegins_any x.b q.b w
                        rw [pre_dec] at CG
                        rw [decide_eq_false hjm, Bool.false_or] at HPS
                        clear hx hnx hLm hjm ec
                        generalize hz : a + j = z9 at *
                        have HZ9 := hide hz
                        clear hz
                        have k0 : (0 : Int) ≤ (j : Int) := by omega
                        have k1 : (j : Int) < (L.length : Int) := by omega
                        have k2 : (0 : Int) ≤ (z9 : Int) := by omega
                        have k3 : (z9 : Int) < (ps.length : Int) := by omega
                        cases hpx : q.b.isPrefixOf x.b with
                        | true =>
                          have HF : Hid (validB isNm ⟨c, ps⟩ = false) := validB_t HAL.out (told_no (k := m) (by rw [← HLN.out]; exact hmL) (by
                            rw [HNE.out, List.all_eq_false]
                            exact ⟨j, List.mem_range.2 (by rw [← HLN.out]; exact hjL), by rw [HPS.out, hpx]; decide⟩))
                          rw [hpx] at CG
                          clear hpx
                          go_wp2_with fail
                          go_quiet ((go_at_call 57; exact Calls.quiet_of_same (CG _)))
                          go_wp2_with fail
                          go_ret
                          exact ⟨ret_bool (by rw [HF.out]), below_drewN (HB.out.trans ((below_to HB6.out (Nat.le_refl _) HB9.out).mono HB.out.size)) _⟩
                        | false =>
                          have HP3 := hide (HP2.out (by rw [HPS.out, hpx]; rfl))
                          rw [hpx] at CG
                          clear hpx
                          go_wp2_with fail
                          go_quiet ((go_at_call 57; exact Calls.quiet_of_same (CG _)))
                          go_wp2_with fail
                          go_roundw
                          case rel => exact ⟨j + 1, by go_num, ⟨by omega, HP3.out⟩, below_drewN HB9.out _⟩
                          case measure => simp [intOf]; omega
                    · obtain rfl : j = L.length := by omega
                      have k4 : decide ((L.length : Int) < (L.length : Int)) = false := by simp
                      have HT2 : Hid (∀ n, n < m + 1 → tellB (afterAt ps a) (nxtL (ps.drop a)) n = true) := fun n hn => by
                        rcases Nat.lt_or_ge n m with h1 | h1
                        · exact HTM.out n h1
                        · obtain rfl : n = m := by omega
                          rw [HNE.out, List.all_eq_true]
                          exact fun y hy => HPR.out y (by rw [HLN.out]; exact List.mem_range.1 hy)
                      go_wp2_with fail
                      go_roundw
                      case rel => exact ⟨m + 1, by go_num, ⟨by omega, HT2.out⟩, HB9.out⟩
                      case measure => simp [intOf]; omega
                | true =>
                  have e3 := empT hra
                  cases hqb : q.b.isEmpty with
                  | false =>
                    have e4 := empT hqb
                    have HNE : Hid (tellB (afterAt ps a) (nxtL (ps.drop a)) m = (List.range (nxtL (ps.drop a)).length).all (pairB (nxtL (ps.drop a)) q m)) := by
                      show _ = _
                      rw [HTS.out, hqb, Bool.and_false]; rfl
                    clear hra hqb
                    go_wp2_with fail
                    clear s1
                    go_loopw [10] (fun t wr => ∃ j : Nat, t = .int .i64 (j : Int) ∧ (j ≤ L.length ∧ ∀ n, n < j → pairB (nxtL (ps.drop a)) q m n = true) ∧ Below w6.heap.size w6 wr) (fun t _ => L.length - (intOf t).toNat)
                    case atStart => exact ⟨0, rfl, ⟨by omega, fun n h => absurd h (by omega)⟩, HB8.out⟩
                    case round =>
                      obtain ⟨j, rfl, ⟨hj, hpr⟩, hB⟩ := hrel
                      have HB9 := hide hB
                      have HPR := hide hpr
                      clear hB hpr HB8
                      by_cases hjL : j < L.length
                      · obtain ⟨hLm, x, hx, hnx⟩ := HIX.out j hjL
                        have HPS := hide (pair_some (p := q) (k := m) hnx)
                        have k4 : decide ((j : Int) < (L.length : Int)) = true := decide_eq_true (by omega)
                        have HP2 : Hid (pairB (nxtL (ps.drop a)) q m j = true → ∀ n, n < j + 1 → pairB (nxtL (ps.drop a)) q m n = true) := fun h n hn => by
                          rcases Nat.lt_or_ge n j with h1 | h1
                          · exact HPR.out n h1
                          · obtain rfl : n = j := by omega
                            exact h
                        by_cases hjm : j = m
                        · have e5 : ((m : Int) != (j : Int)) = false := by rw [hjm]; simp
                          have HP3 := hide (HP2.out (by rw [HPS.out, decide_eq_true hjm]; rfl))
                          clear hLm hx hnx hjm
                          go_wp2_with fail
                          go_quiet (fail)
                          go_wp2_with fail
                          go_roundw
                          case rel => exact ⟨j + 1, by go_num, ⟨by omega, HP3.out⟩, below_drewN HB9.out _⟩
                          case measure => simp [intOf]; omega
                        · have e5 : ((m : Int) != (j : Int)) = true := by rw [bne_iff_ne]; omega
                          obtain ⟨Ag9, eA, cL, _, hcl⟩ := (HO.out.to HB9.out).at_ hLm
                          injection eA with eA
                          injection eA with eA
                          subst eA
                          obtain ⟨ad9, cp9, ea, _, hab, c0, c1, c2, c3⟩ := (HP.out.to (below_to HB6.out (Nat.le_refl _) HB9.out)).at_ hx
                          injection ea with ea _ ec
                          injection ea with ea
                          subst ea
                          have s1 : wr.cell? ⟨w.heap.size, 1, none⟩ = some (.slice (some ad) ps.length cp) := (HS.out.to (below_to HB6.out (Nat.le_refl _) HB9.out)).cell 1
                          have hzl : a + j < ps.length := (List.getElem?_eq_some_iff.1 hx).1
                          have CG := fun w => rbegins_any x.b q.b w
                          rw [pre_dec] at CG
                          rw [decide_eq_false hjm, Bool.false_or] at HPS
                          clear hx hnx hLm hjm ec
                          generalize hz : a + j = z9 at *
                          have HZ9 := hide hz
                          clear hz
                          have k0 : (0 : Int) ≤ (j : Int) := by omega
                          have k1 : (j : Int) < (L.length : Int) := by omega
                          have k2 : (0 : Int) ≤ (z9 : Int) := by omega
                          have k3 : (z9 : Int) < (ps.length : Int) := by omega
                          cases hpx : q.b.isPrefixOf x.b with
                          | true =>
                            have HF : Hid (validB isNm ⟨c, ps⟩ = false) := validB_t HAL.out (told_no (k := m) (by rw [← HLN.out]; exact hmL) (by
                              rw [HNE.out, List.all_eq_false]
                              exact ⟨j, List.mem_range.2 (by rw [← HLN.out]; exact hjL), by rw [HPS.out, hpx]; decide⟩))
                            rw [hpx] at CG
                            clear hpx
                            go_wp2_with fail
                            go_quiet ((go_at_call 57; exact Calls.quiet_of_same (CG _)))
                            go_wp2_with fail
                            go_ret
                            exact ⟨ret_bool (by rw [HF.out]), below_drewN (HB.out.trans ((below_to HB6.out (Nat.le_refl _) HB9.out).mono HB.out.size)) _⟩
                          | false =>
                            have HP3 := hide (HP2.out (by rw [HPS.out, hpx]; rfl))
                            rw [hpx] at CG
                            clear hpx
                            go_wp2_with fail
                            go_quiet ((go_at_call 57; exact Calls.quiet_of_same (CG _)))
                            go_wp2_with fail
                            go_roundw
                            case rel => exact ⟨j + 1, by go_num, ⟨by omega, HP3.out⟩, below_drewN HB9.out _⟩
                            case measure => simp [intOf]; omega
                      · obtain rfl : j = L.length := by omega
                        have k4 : decide ((L.length : Int) < (L.length : Int)) = false := by simp
                        have HT2 : Hid (∀ n, n < m + 1 → tellB (afterAt ps a) (nxtL (ps.drop a)) n = true) := fun n hn => by
                          rcases Nat.lt_or_ge n m with h1 | h1
                          · exact HTM.out n h1
                          · obtain rfl : n = m := by omega
                            rw [HNE.out, List.all_eq_true]
                            exact fun y hy => HPR.out y (by rw [HLN.out]; exact List.mem_range.1 hy)
                        go_wp2_with fail
                        go_roundw
                        case rel => exact ⟨m + 1, by go_num, ⟨by omega, HT2.out⟩, HB9.out⟩
                        case measure => simp [intOf]; omega
                  | true =>
                    have e4 := empT hqb
                    have HF : Hid (validB isNm ⟨c, ps⟩ = false) := validB_t HAL.out (told_no (k := m) (by rw [← HLN.out]; exact hmL) (by rw [HTS.out, HAF.out, hra, hqb]; rfl))
                    clear hra hqb
                    go_wp2_with fail
                    go_ret
                    exact ⟨ret_bool (by rw [HF.out]), HB.out.trans ((below_to HB6.out (Nat.le_refl _) HB8.out).mono HB.out.size)⟩
            · obtain rfl : m = L.length := by omega
              have k4 : decide ((L.length : Int) < (L.length : Int)) = false := by simp
              have HTA : Hid (∀ n, n < a + 1 → toldB (afterAt ps n) (nxtL (ps.drop n)) = true) := fun n hn => by
                rcases Nat.lt_or_ge n a with h | h
                · exact HTL.out n h
                · obtain rfl : n = a := by omega
                  exact told_yes fun j hj => HTM.out j (by rw [HLN.out]; exact hj)
              go_wp2_with fail
              go_roundw
              case rel => exact ⟨a + 1, i + 1, by go_num, ⟨by omega, by omega, HTA.out⟩, below_to HB6.out (Nat.le_refl _) HB7.out⟩
              case measure => simp [intOf]; omega
        · have e1 : decide (i < (ps.length : Int)) = false := decide_eq_false hil
          obtain rfl : a = ps.length + 1 := by omega
          have HF : Hid (validB isNm ⟨c, ps⟩ = true) := validB_yes HN.out (by have := H1.out; omega) (by have := H8.out; omega) HPT.out HTL.out
          go_wp2_with fail
          go_ret
          exact ⟨ret_bool (by rw [HF.out]), HB.out.trans (HB2.out.mono HB.out.size)⟩
end Go.Proofs.YtdcafoekbnacnaaGreatDoor

/- The reference's lexer: has, gap. -/
set_option linter.unusedVariables false
set_option linter.unusedSimpArgs false
namespace Go.Proofs.YtdcafoekbnacnaaGreatDoor
open Go.RowKit

theorem cls_nat : ∀ n : Nat, n < 256 →
    ([32, 9, 10] : List UInt8).contains (UInt8.ofNat n) = decide (clsB (UInt8.ofNat n) = 1) ∧ ([33, 60, 62] : List UInt8).contains (UInt8.ofNat n) = decide (clsB (UInt8.ofNat n) = 7 ∨ clsB (UInt8.ofNat n) = 8) ∧
    ([59, 44, 46, 58, 40, 41, 91, 93, 123, 125, 61, 60, 62, 43, 45] : List UInt8).contains (UInt8.ofNat n) = decide (clsB (UInt8.ofNat n) = 8 ∨ clsB (UInt8.ofNat n) = 9) ∧
    (UInt8.ofNat n = 35 ↔ clsB (UInt8.ofNat n) = 2) ∧ (UInt8.ofNat n = 34 ↔ clsB (UInt8.ofNat n) = 6) ∧ (isLet (UInt8.ofNat n) = decide (clsB (UInt8.ofNat n) = 3)) ∧ (isDi (UInt8.ofNat n) = decide (clsB (UInt8.ofNat n) = 4)) ∧
    (isWd (UInt8.ofNat n) = decide (clsB (UInt8.ofNat n) = 3 ∨ clsB (UInt8.ofNat n) = 4 ∨ clsB (UInt8.ofNat n) = 5)) := by decide +kernel
theorem cls_all (c : UInt8) :
    ([32, 9, 10] : List UInt8).contains c = decide (clsB c = 1) ∧ ([33, 60, 62] : List UInt8).contains c = decide (clsB c = 7 ∨ clsB c = 8) ∧
    ([59, 44, 46, 58, 40, 41, 91, 93, 123, 125, 61, 60, 62, 43, 45] : List UInt8).contains c = decide (clsB c = 8 ∨ clsB c = 9) ∧
    (c = 35 ↔ clsB c = 2) ∧ (c = 34 ↔ clsB c = 6) ∧ (isLet c = decide (clsB c = 3)) ∧ (isDi c = decide (clsB c = 4)) ∧
    (isWd c = decide (clsB c = 3 ∨ clsB c = 4 ∨ clsB c = 5)) := by
  have := cls_nat c.toNat c.toNat_lt
  rw [show UInt8.ofNat c.toNat = c from UInt8.toNat_inj.1 (by simp)] at this
  exact this
theorem rhas_any (s : List UInt8) (c : UInt8) (hs : s.length ≤ 140737488355328) (w : World) : Calls Tryz.prog 119 #[.string (bs s), .int .u8 (c.toNat : Int)] w fun e w' => e = .returned (.bool (s.contains c)) ∧ w' = w := by
  have hsz : (bs s).size = s.length := bs_size s
  go_enter Tryz.func119, Tryz.ntmps119
  go_wp2_with fail
  go_loopw [5] (fun i wr => ∃ k : Nat, i = .int .i64 (k : Int) ∧ (k ≤ s.length ∧ s.contains c = (s.drop k).contains c) ∧ wr = w) (fun i _ => s.length - (intOf i).toNat)
  case atStart => exact ⟨0, rfl, ⟨by omega, rfl⟩, rfl⟩
  case round =>
    obtain ⟨k, rfl, ⟨hk, hall⟩, rfl⟩ := hrel
    have HA := hide hall
    clear hall
    by_cases hlt : k < s.length
    · have e1 : decide ((k : Int) < (s.length : Int)) = true := by simp; omega
      obtain ⟨d, hd⟩ : ∃ d, s[k]? = some d := ⟨_, List.getElem?_eq_getElem hlt⟩
      have ci := index_bs s k d hd
      have HD := hide (drop_at hd)
      clear hd
      by_cases hdc : d = c
      · subst hdc
        have HF : Hid (s.contains d = true) := by show _ = _; rw [HA.out, HD.out]; simp
        have e2 : ((d.toNat : Int) == (d.toNat : Int)) = true := by simp
        go_wp2_with fail
        go_ret
        exact ⟨ret_bool (by rw [HF.out]), rfl⟩
      · have e2 : ((d.toNat : Int) == (c.toNat : Int)) = false := by rw [beq_eq_false_iff_ne]; intro h; exact hdc (UInt8.toNat_inj.1 (by omega))
        have HF : Hid (s.contains c = (s.drop (k + 1)).contains c) := by
          show _ = _
          rw [HA.out, HD.out, List.contains_cons, show (c == d) = false by rw [beq_eq_false_iff_ne]; exact fun h => hdc h.symm]; rfl
        clear hdc HA
        go_wp2_with fail
        refine ⟨⟨k + 1, by go_num, ⟨by omega, HF.out⟩, (by first | rfl | trivial)⟩, ?_⟩
        simp [intOf]; omega
    · obtain rfl : k = s.length := by omega
      have e1 : decide ((s.length : Int) < (s.length : Int)) = false := by simp
      have HF : Hid (s.contains c = false) := by show _ = _; rw [HA.out, List.drop_length]; rfl
      go_wp2_with fail
      go_ret
      exact ⟨ret_bool (by rw [HF.out]), rfl⟩
theorem gap_one {t : List UInt8} {k : Nat} {c : UInt8} (h : t[k]? = some c) (hc : clsB c = 1) : gapP t (k + 1) = gapP t k := by
  unfold gapP
  rw [drop_at h, gapS, if_pos hc]; omega
theorem gap_stop {t : List UInt8} {k : Nat} {c : UInt8} (h : t[k]? = some c) (h1 : clsB c ≠ 1) (h2 : clsB c ≠ 2) : gapP t k = k := by
  unfold gapP
  rw [drop_at h, gapS, if_neg h1, if_neg h2]; rfl
theorem gap_end {t : List UInt8} : gapP t t.length = t.length := by
  unfold gapP
  rw [List.drop_length]; rfl
/-- in a comment -/
def comP (t : List UInt8) (j : Nat) : Nat := j + gapS true (t.drop j)
theorem com_start {t : List UInt8} {k : Nat} {c : UInt8} (h : t[k]? = some c) (hc : clsB c = 2) : comP t k = gapP t k := by
  unfold gapP comP
  rw [drop_at h]
  have e1 : gapS true (c :: t.drop (k + 1)) = gapS true (t.drop (k + 1)) + 1 := by rw [gapS, if_neg (hash_c hc)]
  have e2 : gapS false (c :: t.drop (k + 1)) = gapS true (t.drop (k + 1)) + 1 := by rw [gapS, if_neg (by rw [hc]; decide), if_pos hc]
  rw [e1, e2]
theorem com_step {t : List UInt8} {k : Nat} {c : UInt8} (h : t[k]? = some c) (hc : c ≠ 10) : comP t (k + 1) = comP t k := by
  unfold comP
  rw [drop_at h, gapS, if_neg hc]; omega
theorem com_line {t : List UInt8} {k : Nat} (h : t[k]? = some 10) : gapP t k = comP t k := by
  unfold gapP comP
  rw [drop_at h]
  have e1 : gapS true (10 :: t.drop (k + 1)) = gapS false (t.drop (k + 1)) + 1 := by rw [gapS, if_pos rfl]
  have e2 : gapS false (10 :: t.drop (k + 1)) = gapS false (t.drop (k + 1)) + 1 := by rw [gapS, if_pos (by decide)]
  rw [e1, e2]
theorem com_end {t : List UInt8} : gapP t t.length = comP t t.length := by
  unfold gapP comP
  rw [List.drop_length]; rfl
set_option maxHeartbeats 2000000 in
theorem rgap_any (t : List UInt8) (i : Nat) (hi : i ≤ t.length) (ht : t.length ≤ 140737488355328) (w : World) : Calls Tryz.prog 84 #[.string (bs t), .int .i64 (i : Int)] w fun e w' => e = .returned (.int .i64 (gapP t i : Nat)) ∧ w' = w := by
  have hsz : (bs t).size = t.length := bs_size t
  go_enter Tryz.func84, Tryz.ntmps84
  go_wp2_with fail
  go_loopw [1] (fun v wr => ∃ k : Nat, v = .int .i64 (k : Int) ∧ (k ≤ t.length ∧ gapP t k = gapP t i) ∧ wr = w) (fun v _ => t.length - (intOf v).toNat)
  case atStart => exact ⟨i, rfl, ⟨hi, rfl⟩, rfl⟩
  case round =>
    obtain ⟨k, rfl, ⟨hk, hall⟩, rfl⟩ := hrel
    have HA := hide hall
    clear hall
    by_cases hlt : k < t.length
    · have e1 : decide ((k : Int) < (t.length : Int)) = true := by simp; omega
      obtain ⟨c, hc⟩ : ∃ c, t[k]? = some c := ⟨_, List.getElem?_eq_getElem hlt⟩
      have ci := index_bs t k c hc
      have CH : ∀ w, Calls Tryz.prog 119 #[.string ⟨#[32, 9, 10]⟩, .int .u8 (c.toNat : Int)] w fun e w' => e = .returned (.bool (decide (clsB c = 1))) ∧ w' = w := fun w => by
        have := rhas_any [32, 9, 10] c (by decide) w
        rw [(cls_all c).1] at this
        exact this
      by_cases h1 : clsB c = 1
      · have HF := hide ((gap_one hc h1).trans HA.out)
        rw [decide_eq_true h1] at CH
        clear hc h1 HA
        go_wp2_with ((with_reducible refine (CH _).mono ?_); rintro e w' ⟨rfl, e9⟩; have e9 := e9.symm; subst e9)
        refine ⟨⟨k + 1, by go_num, ⟨by omega, HF.out⟩, (by first | rfl | trivial)⟩, ?_⟩
        simp [intOf]; omega
      · rw [decide_eq_false h1] at CH
        by_cases h2 : clsB c = 2
        · have h35 : c = 35 := (cls_all c).2.2.2.1.2 h2
          have HS := hide ((com_start hc h2).trans HA.out)
          have HC := hide hc
          have h35' : ((c.toNat : Int) == 35) = true := by rw [h35]; rfl
          have HN10 : Hid (c ≠ 10) := hash_c h2
          clear hc h1 h2 HA h35
          go_wp2_with ((with_reducible refine (CH _).mono ?_); rintro e w' ⟨rfl, e9⟩; have e9 := e9.symm; subst e9)
          obtain ⟨wo, hwo⟩ : ∃ wo : World, wo = wr := ⟨_, rfl⟩
          subst hwo
          go_loopw [1] (fun v wr => ∃ j : Nat, v = .int .i64 (j : Int) ∧ (k ≤ j ∧ j ≤ t.length ∧ comP t j = gapP t i) ∧ wr = wo) (fun v _ => t.length - (intOf v).toNat)
          case atStart => exact ⟨k, rfl, ⟨by omega, by omega, HS.out⟩, (by first | rfl | trivial)⟩
          case round =>
            obtain ⟨j, rfl, ⟨hkj, hj, hcm⟩, rfl⟩ := hrel
            have HM := hide hcm
            clear hcm
            by_cases hjl : j < t.length
            · have e3 : decide ((j : Int) < (t.length : Int)) = true := by simp; omega
              obtain ⟨d, hd⟩ : ∃ d, t[j]? = some d := ⟨_, List.getElem?_eq_getElem hjl⟩
              have di := index_bs t j d hd
              by_cases h10 : d = 10
              · subst h10
                have di' : ∀ w, (Instr.index 9 (.string (bs t)) (.int .i64 (j : Int))).run Tryz.prog w = .ok (.int .u8 10) w := fun w => di w
                have hkj' : k < j := by
                  rcases Nat.lt_or_ge k j with h | h
                  · exact h
                  · obtain rfl : k = j := by omega
                    rw [HC.out] at hd; exact absurd (Option.some.inj hd) HN10.out
                have HG := hide ((com_line hd).trans HM.out)
                clear hd di
                go_wp2_with fail
                go_roundw
                case rel => exact ⟨j, rfl, ⟨by omega, HG.out⟩, (by first | rfl | trivial)⟩
                case measure => simp [intOf]; omega
              · have e4 : ((d.toNat : Int) != 10) = true := by rw [bne_iff_ne]; intro h; exact h10 (UInt8.toNat_inj.1 (by simp; omega))
                have HG := hide ((com_step hd h10).trans HM.out)
                clear hd h10
                go_wp2_with fail
                go_roundw
                case rel => exact ⟨j + 1, by go_num, ⟨by omega, by omega, HG.out⟩, (by first | rfl | trivial)⟩
                case measure => simp [intOf]; omega
            · obtain rfl : j = t.length := by omega
              have e3 : decide ((t.length : Int) < (t.length : Int)) = false := by simp
              have HG := hide (com_end.trans HM.out)
              go_wp2_with fail
              go_roundw
              case rel => exact ⟨t.length, rfl, ⟨by omega, HG.out⟩, (by first | rfl | trivial)⟩
              case measure => simp [intOf]; omega
        · have h35 : ((c.toNat : Int) == 35) = false := by rw [beq_eq_false_iff_ne]; intro h; exact h2 ((cls_all c).2.2.2.1.1 (UInt8.toNat_inj.1 (by simp; omega)))
          have HF := hide ((gap_stop hc h1 h2).symm.trans HA.out)
          clear hc h1 h2 HA
          go_wp2_with ((with_reducible refine (CH _).mono ?_); rintro e w' ⟨rfl, e9⟩; have e9 := e9.symm; subst e9)
          go_ret
          exact ⟨by rw [← HF.out]; rfl, rfl⟩
    · obtain rfl : k = t.length := by omega
      have e1 : decide ((t.length : Int) < (t.length : Int)) = false := by simp
      have HF := hide (gap_end.symm.trans HA.out)
      clear HA
      go_wp2_with fail
      go_ret
      exact ⟨by rw [← HF.out]; rfl, rfl⟩
end Go.Proofs.YtdcafoekbnacnaaGreatDoor

/- The reference's lexer: next. -/
set_option linter.unusedVariables false
set_option linter.unusedSimpArgs false
namespace Go.Proofs.YtdcafoekbnacnaaGreatDoor
open Go.RowKit Go.Shelf
attribute [local go_sem] Oper.semAt_some

set_option maxRecDepth 100000 in
set_option maxHeartbeats 8000000 in
theorem rnext_word (t : List UInt8) (ht : t.length ≤ 1000000) (i : Nat) (c : UInt8) (hc : t[i]? = some c) (h3 : clsB c = 3) (w : World) :
    Calls Tryz.prog 85 #[.string (bs t), .int .i64 (i : Int)] w fun r w' => r = .returned (.tuple #[tval (nextP t i).2.1, .int .i64 (nextP t i).1]) ∧ Below w.heap.size w w' := by
  have hil : i < t.length := (List.getElem?_eq_some_iff.1 hc).1
  have hsz : (bs t).size = t.length := bs_size t
  have ci := index_bs t i c hc
  have HAT : Hid (atP t i = clsB c) := by show _ = _; unfold atP; rw [hc]
  have k0 : (0 : Int) ≤ (i : Int) := by omega
  have k1 : (i : Int) < (t.length : Int) := by omega
  obtain ⟨XR, XY, B0⟩ := box2 w 50 #[.int .i64 0, .int .i64 0, .int .i64 0, .string ⟨#[]⟩] 50 #[.int .i64 0, .int .i64 (i : Int), .int .i64 0, .string ⟨#[]⟩]
  have HR := hide XR
  have HY := hide XY
  have HB := hide B0
  clear XR XY B0
  go_enter Tryz.func85, Tryz.ntmps85
  go_upto_region 3 with fail
  generalize (w.alloc (.cells #[.int .i64 0, .int .i64 0, .int .i64 0, .string ⟨#[]⟩] 50)).alloc (.cells #[.int .i64 0, .int .i64 (i : Int), .int .i64 0, .string ⟨#[]⟩] 50) = w1 at *
  have r0 : w1.cell? ⟨w.heap.size, 0, none⟩ = some (.int .i64 0) := HR.out.cell 0
  have r1 : w1.cell? ⟨w.heap.size, 1, none⟩ = some (.int .i64 0) := HR.out.cell 1
  have r2 : w1.cell? ⟨w.heap.size, 2, none⟩ = some (.int .i64 0) := HR.out.cell 2
  have r3 : w1.cell? ⟨w.heap.size, 3, none⟩ = some (.string ⟨#[]⟩) := HR.out.cell 3
  have y0 : w1.cell? ⟨w.heap.size + 1, 0, none⟩ = some (.int .i64 0) := HY.out.cell 0
  have y1 : w1.cell? ⟨w.heap.size + 1, 1, none⟩ = some (.int .i64 (i : Int)) := HY.out.cell 1
  have y2 : w1.cell? ⟨w.heap.size + 1, 2, none⟩ = some (.int .i64 0) := HY.out.cell 2
  have y3 : w1.cell? ⟨w.heap.size + 1, 3, none⟩ = some (.string ⟨#[]⟩) := HY.out.cell 3
  have fr : ∀ j, w1.frozen? ⟨w.heap.size, j, none⟩ = false := fun j => HR.out.frozen j
  have fy : ∀ j, w1.frozen? ⟨w.heap.size + 1, j, none⟩ = false := fun j => HY.out.frozen j
  have CL := fun w => rletter_any c w
  rw [show isLet c = true by unfold isLet; rw [h3]; rfl] at CL
  have HW : Hid (whP t i [3, 4, 5] = whP t (i + 1) [3, 4, 5]) := by show _ = _; rw [whP_step hc, h3]; rfl
  clear hc
  go_wp2_with ((with_reducible refine (CL _).mono ?_); rintro e' w' ⟨rfl, hw⟩; have hw := hw.symm; subst hw)
  clear ci CL
  go_loopw [6] (fun z wr => ∃ e : Nat, z = .int .i64 (e : Int) ∧ (i < e ∧ e ≤ t.length ∧ whP t i [3, 4, 5] = whP t e [3, 4, 5]) ∧ wr = w1) (fun z _ => t.length - (intOf z).toNat)
  case atStart => exact ⟨i + 1, by go_num, ⟨by omega, by omega, HW.out⟩, rfl⟩
  case round =>
    obtain ⟨e, rfl, ⟨he, hel, hwe⟩, hwr⟩ := hrel
    have hwr := hwr.symm
    subst hwr
    have HWE := hide hwe
    clear hwe
    by_cases hlt : e < t.length
    · have e1 : decide ((e : Int) < (t.length : Int)) = true := decide_eq_true (by omega)
      obtain ⟨d, hd⟩ : ∃ d, t[e]? = some d := ⟨_, List.getElem?_eq_getElem hlt⟩
      have ci := index_bs t e d hd
      have k2 : (0 : Int) ≤ (e : Int) := by omega
      have k3 : (e : Int) < (t.length : Int) := by omega
      have CW := fun w => rword_any d w
      have HST := hide (whP_step (K := [3, 4, 5]) hd)
      cases hwd : isWd d with
      | true =>
        have HW2 : Hid (whP t i [3, 4, 5] = whP t (e + 1) [3, 4, 5]) := by
          show _ = _
          rw [HWE.out, HST.out, if_pos (show ([3, 4, 5] : List Int).contains (clsB d) = true from hwd)]
        rw [hwd] at CW
        clear hd hwd
        go_wp2_with ((with_reducible refine (CW _).mono ?_); rintro e' w' ⟨rfl, hw⟩; have hw := hw.symm; subst hw)
        refine ⟨⟨e + 1, by go_num, ⟨by omega, by omega, HW2.out⟩, (by first | rfl | trivial)⟩, ?_⟩
        simp [intOf]; omega
      | false =>
        have HE : Hid (whP t i [3, 4, 5] = e) := by
          show _ = _
          rw [HWE.out, HST.out, if_neg (by rw [show ([3, 4, 5] : List Int).contains (clsB d) = false from hwd]; decide)]
        rw [hwd] at CW
        clear hd hwd
        go_upto_region 7 with ((with_reducible refine (CW _).mono ?_); rintro e' w' ⟨rfl, hw⟩; have hw := hw.symm; subst hw)
        clear CW ci e1 k2 k3
        have hie : i ≤ e := by omega
        by_cases h24 : 24 < e - i
        · have HV : Hid (nextP t i = (2, zTk, 0)) := by show _ = _; unfold nextP; rw [HAT.out, if_pos h3, HE.out, if_pos h24]
          have e5 : decide ((24 : Int) < (e : Int) - (i : Int)) = true := decide_eq_true (by omega)
          clear h24 h3
          go_wp2_with fail
          have hbk := (((((HR.out.far (p := ⟨w.heap.size + 1, 0, none⟩) (by simp) (.int .i64 1)).set_ 0 (.int .i64 0)).set_ 1 (.int .i64 0)).set_ 2 (.int .i64 0)).set_ 3 (.string ⟨#[]⟩))
          refine bodyPost_ret (results_c1 (p := 4) (u := 5) rfl _ _ w.heap.size 50 _ _ rfl hbk Tryz.underlying50 rfl (by kernel_rfl)) rfl ⟨by rw [HV.out]; rfl, ?_⟩
          exact (((((HB.out.setCell (p := ⟨w.heap.size + 1, 0, none⟩) (by simp) _).setCell (p := ⟨w.heap.size, 0, none⟩) (Nat.le_refl _) _).setCell (p := ⟨w.heap.size, 1, none⟩) (Nat.le_refl _) _).setCell (p := ⟨w.heap.size, 2, none⟩) (Nat.le_refl _) _).setCell (p := ⟨w.heap.size, 3, none⟩) (Nat.le_refl _) _)
        · have HV : Hid (nextP t i = (0, ⟨1, i, 0, sub t i e⟩, e)) := by show _ = _; unfold nextP; rw [HAT.out, if_pos h3, HE.out, if_neg h24]
          have e5 : decide ((24 : Int) < (e : Int) - (i : Int)) = false := decide_eq_false (by omega)
          have hx : (bs t).extract i e = bs (sub t i e) := bs_cut t i e
          clear h24 h3
          go_wp2_with fail
          have hbk := ((((((HR.out.far (p := ⟨w.heap.size + 1, 0, none⟩) (by simp) (.int .i64 1)).far (p := ⟨w.heap.size + 1, 3, none⟩) (by simp) (.string (bs (sub t i e)))).set_ 0 (.int .i64 1)).set_ 1 (.int .i64 (i : Int))).set_ 2 (.int .i64 0)).set_ 3 (.string (bs (sub t i e))))
          refine bodyPost_ret (results_c1 (p := 4) (u := 5) rfl _ _ w.heap.size 50 _ _ rfl hbk Tryz.underlying50 rfl (by kernel_rfl)) rfl ⟨by rw [HV.out]; rfl, ?_⟩
          exact ((((((HB.out.setCell (p := ⟨w.heap.size + 1, 0, none⟩) (by simp) _).setCell (p := ⟨w.heap.size + 1, 3, none⟩) (by simp) _).setCell (p := ⟨w.heap.size, 0, none⟩) (Nat.le_refl _) _).setCell (p := ⟨w.heap.size, 1, none⟩) (Nat.le_refl _) _).setCell (p := ⟨w.heap.size, 2, none⟩) (Nat.le_refl _) _).setCell (p := ⟨w.heap.size, 3, none⟩) (Nat.le_refl _) _)
    · obtain rfl : e = t.length := by omega
      have e1 : decide ((t.length : Int) < (t.length : Int)) = false := by simp
      have HE : Hid (whP t i [3, 4, 5] = t.length) := by show _ = _; rw [HWE.out, whP_end (Nat.le_refl _)]
      go_upto_region 7 with fail
      clear e1
      have hie : i ≤ t.length := by omega
      by_cases h24 : 24 < t.length - i
      · have HV : Hid (nextP t i = (2, zTk, 0)) := by show _ = _; unfold nextP; rw [HAT.out, if_pos h3, HE.out, if_pos h24]
        have e5 : decide ((24 : Int) < (t.length : Int) - (i : Int)) = true := decide_eq_true (by omega)
        clear h24 h3
        go_wp2_with fail
        have hbk := (((((HR.out.far (p := ⟨w.heap.size + 1, 0, none⟩) (by simp) (.int .i64 1)).set_ 0 (.int .i64 0)).set_ 1 (.int .i64 0)).set_ 2 (.int .i64 0)).set_ 3 (.string ⟨#[]⟩))
        refine bodyPost_ret (results_c1 (p := 4) (u := 5) rfl _ _ w.heap.size 50 _ _ rfl hbk Tryz.underlying50 rfl (by kernel_rfl)) rfl ⟨by rw [HV.out]; rfl, ?_⟩
        exact (((((HB.out.setCell (p := ⟨w.heap.size + 1, 0, none⟩) (by simp) _).setCell (p := ⟨w.heap.size, 0, none⟩) (Nat.le_refl _) _).setCell (p := ⟨w.heap.size, 1, none⟩) (Nat.le_refl _) _).setCell (p := ⟨w.heap.size, 2, none⟩) (Nat.le_refl _) _).setCell (p := ⟨w.heap.size, 3, none⟩) (Nat.le_refl _) _)
      · have HV : Hid (nextP t i = (0, ⟨1, i, 0, sub t i t.length⟩, t.length)) := by show _ = _; unfold nextP; rw [HAT.out, if_pos h3, HE.out, if_neg h24]
        have e5 : decide ((24 : Int) < (t.length : Int) - (i : Int)) = false := decide_eq_false (by omega)
        have hx : (bs t).extract i t.length = bs (sub t i t.length) := bs_cut t i t.length
        clear h24 h3
        go_wp2_with fail
        have hbk := ((((((HR.out.far (p := ⟨w.heap.size + 1, 0, none⟩) (by simp) (.int .i64 1)).far (p := ⟨w.heap.size + 1, 3, none⟩) (by simp) (.string (bs (sub t i t.length)))).set_ 0 (.int .i64 1)).set_ 1 (.int .i64 (i : Int))).set_ 2 (.int .i64 0)).set_ 3 (.string (bs (sub t i t.length))))
        refine bodyPost_ret (results_c1 (p := 4) (u := 5) rfl _ _ w.heap.size 50 _ _ rfl hbk Tryz.underlying50 rfl (by kernel_rfl)) rfl ⟨by rw [HV.out]; rfl, ?_⟩
        exact ((((((HB.out.setCell (p := ⟨w.heap.size + 1, 0, none⟩) (by simp) _).setCell (p := ⟨w.heap.size + 1, 3, none⟩) (by simp) _).setCell (p := ⟨w.heap.size, 0, none⟩) (Nat.le_refl _) _).setCell (p := ⟨w.heap.size, 1, none⟩) (Nat.le_refl _) _).setCell (p := ⟨w.heap.size, 2, none⟩) (Nat.le_refl _) _).setCell (p := ⟨w.heap.size, 3, none⟩) (Nat.le_refl _) _)
end Go.Proofs.YtdcafoekbnacnaaGreatDoor

/- The reference's lexer: next, symbols. -/
set_option linter.unusedVariables false
set_option linter.unusedSimpArgs false
namespace Go.Proofs.YtdcafoekbnacnaaGreatDoor
open Go.RowKit Go.Shelf
attribute [local go_sem] Oper.semAt_some

theorem pre61 (l : List UInt8) : Lib.hasPrefix l [61] = (l.head? == some 61) := by
  cases l with
  | nil => rfl
  | cons a r =>
    rw [show Lib.hasPrefix (a :: r) [61] = (61 == a && [].isPrefixOf r) from rfl, Bool.eq_iff_iff]
    simp
    exact eq_comm
set_option maxRecDepth 100000 in
set_option maxHeartbeats 8000000 in
theorem rnext_sym (t : List UInt8) (ht : t.length ≤ 1000000) (i : Nat) (c : UInt8) (hc : t[i]? = some c) (hn : clsB c ≠ 3 ∧ clsB c ≠ 4 ∧ clsB c ≠ 6) (w : World) :
    Calls Tryz.prog 85 #[.string (bs t), .int .i64 (i : Int)] w fun r w' => r = .returned (.tuple #[tval (nextP t i).2.1, .int .i64 (nextP t i).1]) ∧ Below w.heap.size w w' := by
  have hil : i < t.length := (List.getElem?_eq_some_iff.1 hc).1
  have hsz : (bs t).size = t.length := bs_size t
  have ci := index_bs t i c hc
  have HAT : Hid (atP t i = clsB c) := by show _ = _; unfold atP; rw [hc]
  have k0 : (0 : Int) ≤ (i : Int) := by omega
  have k1 : (i : Int) < (t.length : Int) := by omega
  obtain ⟨XR, XY, B0⟩ := box2 w 50 #[.int .i64 0, .int .i64 0, .int .i64 0, .string ⟨#[]⟩] 50 #[.int .i64 0, .int .i64 (i : Int), .int .i64 0, .string ⟨#[]⟩]
  have HR := hide XR
  have HY := hide XY
  have HB := hide B0
  clear XR XY B0
  go_enter Tryz.func85, Tryz.ntmps85
  go_upto_region 3 with fail
  generalize (w.alloc (.cells #[.int .i64 0, .int .i64 0, .int .i64 0, .string ⟨#[]⟩] 50)).alloc (.cells #[.int .i64 0, .int .i64 (i : Int), .int .i64 0, .string ⟨#[]⟩] 50) = w1 at *
  have r0 : w1.cell? ⟨w.heap.size, 0, none⟩ = some (.int .i64 0) := HR.out.cell 0
  have r1 : w1.cell? ⟨w.heap.size, 1, none⟩ = some (.int .i64 0) := HR.out.cell 1
  have r2 : w1.cell? ⟨w.heap.size, 2, none⟩ = some (.int .i64 0) := HR.out.cell 2
  have r3 : w1.cell? ⟨w.heap.size, 3, none⟩ = some (.string ⟨#[]⟩) := HR.out.cell 3
  have y0 : w1.cell? ⟨w.heap.size + 1, 0, none⟩ = some (.int .i64 0) := HY.out.cell 0
  have y1 : w1.cell? ⟨w.heap.size + 1, 1, none⟩ = some (.int .i64 (i : Int)) := HY.out.cell 1
  have y2 : w1.cell? ⟨w.heap.size + 1, 2, none⟩ = some (.int .i64 0) := HY.out.cell 2
  have y3 : w1.cell? ⟨w.heap.size + 1, 3, none⟩ = some (.string ⟨#[]⟩) := HY.out.cell 3
  have fr : ∀ j, w1.frozen? ⟨w.heap.size, j, none⟩ = false := fun j => HR.out.frozen j
  have fy : ∀ j, w1.frozen? ⟨w.heap.size + 1, j, none⟩ = false := fun j => HY.out.frozen j
  have HN := hide hn
  have hall := cls_all c
  have CL := fun w => rletter_any c w
  rw [hall.2.2.2.2.2.1, decide_eq_false hn.1] at CL
  have CD := fun w => rdigit_any c w
  rw [hall.2.2.2.2.2.2.1, decide_eq_false hn.2.1] at CD
  have hq : ((c.toNat : Int) == 34) = false := by
    rw [beq_eq_false_iff_ne]
    intro h
    exact hn.2.2 (hall.2.2.2.2.1.1 (UInt8.toNat_inj.1 (by simp; omega)))
  have CH : ∀ w, Calls Tryz.prog 119 #[.string ⟨#[33, 60, 62]⟩, .int .u8 (c.toNat : Int)] w fun e w' => e = .returned (.bool (([33, 60, 62] : List UInt8).contains c)) ∧ w' = w := fun w => rhas_any [33, 60, 62] c (by simp) w
  have CS : ∀ w, Calls Tryz.prog 119 #[.string ⟨#[59, 44, 46, 58, 40, 41, 91, 93, 123, 125, 61, 60, 62, 43, 45]⟩, .int .u8 (c.toNat : Int)] w fun e w' => e = .returned (.bool (([59, 44, 46, 58, 40, 41, 91, 93, 123, 125, 61, 60, 62, 43, 45] : List UInt8).contains c)) ∧ w' = w := fun w => rhas_any [59, 44, 46, 58, 40, 41, 91, 93, 123, 125, 61, 60, 62, 43, 45] c (by simp) w
  rw [hall.2.1] at CH
  rw [hall.2.2.1] at CS
  clear hall hn hc
  have HPR := hide (pre61 (t.drop (i + 1)))
  by_cases h78 : clsB c = 7 ∨ clsB c = 8
  · rw [decide_eq_true h78] at CH
    by_cases hl : i + 1 < t.length
    · obtain ⟨d, hd⟩ : ∃ d, t[i + 1]? = some d := ⟨_, List.getElem?_eq_getElem hl⟩
      have ci2 := index_bs t (i + 1) d hd
      rw [show (((i + 1 : Nat)) : Int) = (i : Int) + 1 by omega] at ci2
      have e1 : decide ((i : Int) + 1 < (t.length : Int)) = true := decide_eq_true (by omega)
      have k2 : (0 : Int) ≤ (i : Int) + 1 := by omega
      have k3 : (i : Int) + 1 < (t.length : Int) := by omega
      have HPD : Hid (Lib.hasPrefix (t.drop (i + 1)) [61] = (d == 61)) := by
        show _ = _
        rw [HPR.out, List.head?_drop, hd]; rfl
      clear hd
      by_cases h61 : d = 61
      · have e2 : ((d.toNat : Int) == 61) = true := by rw [h61]; rfl
        have HV : Hid (nextP t i = (0, ⟨4, i, 0, sub t i (i + 2)⟩, i + 2)) := by
          show _ = _
          unfold nextP
          rw [HAT.out, if_neg HN.out.1, if_neg HN.out.2.1, if_neg HN.out.2.2, if_pos ⟨h78, by rw [HPD.out, h61]; rfl⟩]
        have hx : (bs t).extract i (i + 2) = bs (sub t i (i + 2)) := bs_cut t i (i + 2)
        have k4 : (i : Int) + 2 ≤ (t.length : Int) := by omega
        clear h61 h78
        go_wp2_with (first | ((with_reducible refine (CL _).mono ?_); rintro e' w' ⟨rfl, hw⟩; have hw := hw.symm; subst hw) | ((with_reducible refine (CD _).mono ?_); rintro e' w' ⟨rfl, hw⟩; have hw := hw.symm; subst hw) | ((with_reducible refine (CH _).mono ?_); rintro e' w' ⟨rfl, hw⟩; have hw := hw.symm; subst hw) | ((with_reducible refine (CS _).mono ?_); rintro e' w' ⟨rfl, hw⟩; have hw := hw.symm; subst hw))
        have hbk := ((((((HR.out.far (p := ⟨w.heap.size + 1, 0, none⟩) (by simp) (.int .i64 4)).far (p := ⟨w.heap.size + 1, 3, none⟩) (by simp) (.string (bs (sub t i (i + 2))))).set_ 0 (.int .i64 4)).set_ 1 (.int .i64 (i : Int))).set_ 2 (.int .i64 0)).set_ 3 (.string (bs (sub t i (i + 2)))))
        refine bodyPost_ret (results_c1 (p := 4) (u := 5) rfl _ _ w.heap.size 50 _ _ rfl hbk Tryz.underlying50 rfl (by kernel_rfl)) rfl ⟨by rw [HV.out]; rfl, ?_⟩
        exact ((((((HB.out.setCell (p := ⟨w.heap.size + 1, 0, none⟩) (by simp) _).setCell (p := ⟨w.heap.size + 1, 3, none⟩) (by simp) _).setCell (p := ⟨w.heap.size, 0, none⟩) (Nat.le_refl _) _).setCell (p := ⟨w.heap.size, 1, none⟩) (Nat.le_refl _) _).setCell (p := ⟨w.heap.size, 2, none⟩) (Nat.le_refl _) _).setCell (p := ⟨w.heap.size, 3, none⟩) (Nat.le_refl _) _)
      · have e2 : ((d.toNat : Int) == 61) = false := by rw [beq_eq_false_iff_ne]; intro h; exact h61 (UInt8.toNat_inj.1 (by simp; omega))
        have HNP : Hid (¬ ((clsB c = 7 ∨ clsB c = 8) ∧ Lib.hasPrefix (t.drop (i + 1)) [61] = true)) := fun h => by
          have := h.2
          rw [HPD.out] at this
          exact h61 (by simpa using this)
        clear h61 h78
        by_cases h89 : clsB c = 8 ∨ clsB c = 9
        · have HV : Hid (nextP t i = (0, ⟨4, i, 0, sub t i (i + 1)⟩, i + 1)) := by
            show _ = _
            unfold nextP
            rw [HAT.out, if_neg HN.out.1, if_neg HN.out.2.1, if_neg HN.out.2.2, if_neg HNP.out, if_pos h89]
          rw [decide_eq_true h89] at CS
          have hx : (bs t).extract i (i + 1) = bs (sub t i (i + 1)) := bs_cut t i (i + 1)
          clear h89
          go_wp2_with (first | ((with_reducible refine (CL _).mono ?_); rintro e' w' ⟨rfl, hw⟩; have hw := hw.symm; subst hw) | ((with_reducible refine (CD _).mono ?_); rintro e' w' ⟨rfl, hw⟩; have hw := hw.symm; subst hw) | ((with_reducible refine (CH _).mono ?_); rintro e' w' ⟨rfl, hw⟩; have hw := hw.symm; subst hw) | ((with_reducible refine (CS _).mono ?_); rintro e' w' ⟨rfl, hw⟩; have hw := hw.symm; subst hw))
          have hbk := ((((((HR.out.far (p := ⟨w.heap.size + 1, 0, none⟩) (by simp) (.int .i64 4)).far (p := ⟨w.heap.size + 1, 3, none⟩) (by simp) (.string (bs (sub t i (i + 1))))).set_ 0 (.int .i64 4)).set_ 1 (.int .i64 (i : Int))).set_ 2 (.int .i64 0)).set_ 3 (.string (bs (sub t i (i + 1)))))
          refine bodyPost_ret (results_c1 (p := 4) (u := 5) rfl _ _ w.heap.size 50 _ _ rfl hbk Tryz.underlying50 rfl (by kernel_rfl)) rfl ⟨by rw [HV.out]; rfl, ?_⟩
          exact ((((((HB.out.setCell (p := ⟨w.heap.size + 1, 0, none⟩) (by simp) _).setCell (p := ⟨w.heap.size + 1, 3, none⟩) (by simp) _).setCell (p := ⟨w.heap.size, 0, none⟩) (Nat.le_refl _) _).setCell (p := ⟨w.heap.size, 1, none⟩) (Nat.le_refl _) _).setCell (p := ⟨w.heap.size, 2, none⟩) (Nat.le_refl _) _).setCell (p := ⟨w.heap.size, 3, none⟩) (Nat.le_refl _) _)
        · have HV : Hid (nextP t i = (3, zTk, 0)) := by
            show _ = _
            unfold nextP
            rw [HAT.out, if_neg HN.out.1, if_neg HN.out.2.1, if_neg HN.out.2.2, if_neg HNP.out, if_neg h89]
          rw [decide_eq_false h89] at CS
          clear h89
          go_wp2_with (first | ((with_reducible refine (CL _).mono ?_); rintro e' w' ⟨rfl, hw⟩; have hw := hw.symm; subst hw) | ((with_reducible refine (CD _).mono ?_); rintro e' w' ⟨rfl, hw⟩; have hw := hw.symm; subst hw) | ((with_reducible refine (CH _).mono ?_); rintro e' w' ⟨rfl, hw⟩; have hw := hw.symm; subst hw) | ((with_reducible refine (CS _).mono ?_); rintro e' w' ⟨rfl, hw⟩; have hw := hw.symm; subst hw))
          have hbk := (((((HR.out.far (p := ⟨w.heap.size + 1, 0, none⟩) (by simp) (.int .i64 4)).set_ 0 (.int .i64 0)).set_ 1 (.int .i64 0)).set_ 2 (.int .i64 0)).set_ 3 (.string ⟨#[]⟩))
          refine bodyPost_ret (results_c1 (p := 4) (u := 5) rfl _ _ w.heap.size 50 _ _ rfl hbk Tryz.underlying50 rfl (by kernel_rfl)) rfl ⟨by rw [HV.out]; rfl, ?_⟩
          exact (((((HB.out.setCell (p := ⟨w.heap.size + 1, 0, none⟩) (by simp) _).setCell (p := ⟨w.heap.size, 0, none⟩) (Nat.le_refl _) _).setCell (p := ⟨w.heap.size, 1, none⟩) (Nat.le_refl _) _).setCell (p := ⟨w.heap.size, 2, none⟩) (Nat.le_refl _) _).setCell (p := ⟨w.heap.size, 3, none⟩) (Nat.le_refl _) _)
    · have e1 : decide ((i : Int) + 1 < (t.length : Int)) = false := decide_eq_false (by omega)
      have HNP : Hid (¬ ((clsB c = 7 ∨ clsB c = 8) ∧ Lib.hasPrefix (t.drop (i + 1)) [61] = true)) := fun h => by
        have := h.2
        rw [HPR.out, List.head?_drop, List.getElem?_eq_none (by omega)] at this
        cases this
      clear h78
      by_cases h89 : clsB c = 8 ∨ clsB c = 9
      · have HV : Hid (nextP t i = (0, ⟨4, i, 0, sub t i (i + 1)⟩, i + 1)) := by
          show _ = _
          unfold nextP
          rw [HAT.out, if_neg HN.out.1, if_neg HN.out.2.1, if_neg HN.out.2.2, if_neg HNP.out, if_pos h89]
        rw [decide_eq_true h89] at CS
        have hx : (bs t).extract i (i + 1) = bs (sub t i (i + 1)) := bs_cut t i (i + 1)
        clear h89
        go_wp2_with (first | ((with_reducible refine (CL _).mono ?_); rintro e' w' ⟨rfl, hw⟩; have hw := hw.symm; subst hw) | ((with_reducible refine (CD _).mono ?_); rintro e' w' ⟨rfl, hw⟩; have hw := hw.symm; subst hw) | ((with_reducible refine (CH _).mono ?_); rintro e' w' ⟨rfl, hw⟩; have hw := hw.symm; subst hw) | ((with_reducible refine (CS _).mono ?_); rintro e' w' ⟨rfl, hw⟩; have hw := hw.symm; subst hw))
        have hbk := ((((((HR.out.far (p := ⟨w.heap.size + 1, 0, none⟩) (by simp) (.int .i64 4)).far (p := ⟨w.heap.size + 1, 3, none⟩) (by simp) (.string (bs (sub t i (i + 1))))).set_ 0 (.int .i64 4)).set_ 1 (.int .i64 (i : Int))).set_ 2 (.int .i64 0)).set_ 3 (.string (bs (sub t i (i + 1)))))
        refine bodyPost_ret (results_c1 (p := 4) (u := 5) rfl _ _ w.heap.size 50 _ _ rfl hbk Tryz.underlying50 rfl (by kernel_rfl)) rfl ⟨by rw [HV.out]; rfl, ?_⟩
        exact ((((((HB.out.setCell (p := ⟨w.heap.size + 1, 0, none⟩) (by simp) _).setCell (p := ⟨w.heap.size + 1, 3, none⟩) (by simp) _).setCell (p := ⟨w.heap.size, 0, none⟩) (Nat.le_refl _) _).setCell (p := ⟨w.heap.size, 1, none⟩) (Nat.le_refl _) _).setCell (p := ⟨w.heap.size, 2, none⟩) (Nat.le_refl _) _).setCell (p := ⟨w.heap.size, 3, none⟩) (Nat.le_refl _) _)
      · have HV : Hid (nextP t i = (3, zTk, 0)) := by
          show _ = _
          unfold nextP
          rw [HAT.out, if_neg HN.out.1, if_neg HN.out.2.1, if_neg HN.out.2.2, if_neg HNP.out, if_neg h89]
        rw [decide_eq_false h89] at CS
        clear h89
        go_wp2_with (first | ((with_reducible refine (CL _).mono ?_); rintro e' w' ⟨rfl, hw⟩; have hw := hw.symm; subst hw) | ((with_reducible refine (CD _).mono ?_); rintro e' w' ⟨rfl, hw⟩; have hw := hw.symm; subst hw) | ((with_reducible refine (CH _).mono ?_); rintro e' w' ⟨rfl, hw⟩; have hw := hw.symm; subst hw) | ((with_reducible refine (CS _).mono ?_); rintro e' w' ⟨rfl, hw⟩; have hw := hw.symm; subst hw))
        have hbk := (((((HR.out.far (p := ⟨w.heap.size + 1, 0, none⟩) (by simp) (.int .i64 4)).set_ 0 (.int .i64 0)).set_ 1 (.int .i64 0)).set_ 2 (.int .i64 0)).set_ 3 (.string ⟨#[]⟩))
        refine bodyPost_ret (results_c1 (p := 4) (u := 5) rfl _ _ w.heap.size 50 _ _ rfl hbk Tryz.underlying50 rfl (by kernel_rfl)) rfl ⟨by rw [HV.out]; rfl, ?_⟩
        exact (((((HB.out.setCell (p := ⟨w.heap.size + 1, 0, none⟩) (by simp) _).setCell (p := ⟨w.heap.size, 0, none⟩) (Nat.le_refl _) _).setCell (p := ⟨w.heap.size, 1, none⟩) (Nat.le_refl _) _).setCell (p := ⟨w.heap.size, 2, none⟩) (Nat.le_refl _) _).setCell (p := ⟨w.heap.size, 3, none⟩) (Nat.le_refl _) _)
  · rw [decide_eq_false h78] at CH
    have HNP : Hid (¬ ((clsB c = 7 ∨ clsB c = 8) ∧ Lib.hasPrefix (t.drop (i + 1)) [61] = true)) := fun h => h78 h.1
    clear h78
    by_cases h89 : clsB c = 8 ∨ clsB c = 9
    · have HV : Hid (nextP t i = (0, ⟨4, i, 0, sub t i (i + 1)⟩, i + 1)) := by
        show _ = _
        unfold nextP
        rw [HAT.out, if_neg HN.out.1, if_neg HN.out.2.1, if_neg HN.out.2.2, if_neg HNP.out, if_pos h89]
      rw [decide_eq_true h89] at CS
      have hx : (bs t).extract i (i + 1) = bs (sub t i (i + 1)) := bs_cut t i (i + 1)
      clear h89
      go_wp2_with (first | ((with_reducible refine (CL _).mono ?_); rintro e' w' ⟨rfl, hw⟩; have hw := hw.symm; subst hw) | ((with_reducible refine (CD _).mono ?_); rintro e' w' ⟨rfl, hw⟩; have hw := hw.symm; subst hw) | ((with_reducible refine (CH _).mono ?_); rintro e' w' ⟨rfl, hw⟩; have hw := hw.symm; subst hw) | ((with_reducible refine (CS _).mono ?_); rintro e' w' ⟨rfl, hw⟩; have hw := hw.symm; subst hw))
      have hbk := ((((((HR.out.far (p := ⟨w.heap.size + 1, 0, none⟩) (by simp) (.int .i64 4)).far (p := ⟨w.heap.size + 1, 3, none⟩) (by simp) (.string (bs (sub t i (i + 1))))).set_ 0 (.int .i64 4)).set_ 1 (.int .i64 (i : Int))).set_ 2 (.int .i64 0)).set_ 3 (.string (bs (sub t i (i + 1)))))
      refine bodyPost_ret (results_c1 (p := 4) (u := 5) rfl _ _ w.heap.size 50 _ _ rfl hbk Tryz.underlying50 rfl (by kernel_rfl)) rfl ⟨by rw [HV.out]; rfl, ?_⟩
      exact ((((((HB.out.setCell (p := ⟨w.heap.size + 1, 0, none⟩) (by simp) _).setCell (p := ⟨w.heap.size + 1, 3, none⟩) (by simp) _).setCell (p := ⟨w.heap.size, 0, none⟩) (Nat.le_refl _) _).setCell (p := ⟨w.heap.size, 1, none⟩) (Nat.le_refl _) _).setCell (p := ⟨w.heap.size, 2, none⟩) (Nat.le_refl _) _).setCell (p := ⟨w.heap.size, 3, none⟩) (Nat.le_refl _) _)
    · have HV : Hid (nextP t i = (3, zTk, 0)) := by
        show _ = _
        unfold nextP
        rw [HAT.out, if_neg HN.out.1, if_neg HN.out.2.1, if_neg HN.out.2.2, if_neg HNP.out, if_neg h89]
      rw [decide_eq_false h89] at CS
      clear h89
      go_wp2_with (first | ((with_reducible refine (CL _).mono ?_); rintro e' w' ⟨rfl, hw⟩; have hw := hw.symm; subst hw) | ((with_reducible refine (CD _).mono ?_); rintro e' w' ⟨rfl, hw⟩; have hw := hw.symm; subst hw) | ((with_reducible refine (CH _).mono ?_); rintro e' w' ⟨rfl, hw⟩; have hw := hw.symm; subst hw) | ((with_reducible refine (CS _).mono ?_); rintro e' w' ⟨rfl, hw⟩; have hw := hw.symm; subst hw))
      have hbk := (((((HR.out.far (p := ⟨w.heap.size + 1, 0, none⟩) (by simp) (.int .i64 4)).set_ 0 (.int .i64 0)).set_ 1 (.int .i64 0)).set_ 2 (.int .i64 0)).set_ 3 (.string ⟨#[]⟩))
      refine bodyPost_ret (results_c1 (p := 4) (u := 5) rfl _ _ w.heap.size 50 _ _ rfl hbk Tryz.underlying50 rfl (by kernel_rfl)) rfl ⟨by rw [HV.out]; rfl, ?_⟩
      exact (((((HB.out.setCell (p := ⟨w.heap.size + 1, 0, none⟩) (by simp) _).setCell (p := ⟨w.heap.size, 0, none⟩) (Nat.le_refl _) _).setCell (p := ⟨w.heap.size, 1, none⟩) (Nat.le_refl _) _).setCell (p := ⟨w.heap.size, 2, none⟩) (Nat.le_refl _) _).setCell (p := ⟨w.heap.size, 3, none⟩) (Nat.le_refl _) _)
end Go.Proofs.YtdcafoekbnacnaaGreatDoor

/- The reference's lexer: next, texts. -/
set_option linter.unusedVariables false
set_option linter.unusedSimpArgs false
namespace Go.Proofs.YtdcafoekbnacnaaGreatDoor
open Go.RowKit Go.Shelf
attribute [local go_sem] Oper.semAt_some

theorem iaT_no : ∀ {s chars : List UInt8}, (∀ b ∈ s, chars.contains b = false) → Lib.indexAny s chars = -1
  | [], _, _ => rfl
  | b :: l, chars, h => by
    unfold Lib.indexAny
    rw [if_neg (by rw [h b (List.mem_cons_self ..)]; decide), iaT_no (fun x hx => h x (List.mem_cons_of_mem _ hx))]; rfl
theorem iaT_at : ∀ {s chars : List UInt8} {n : Nat} {c : UInt8}, s[n]? = some c → chars.contains c = true → (∀ k, k < n → ∀ b, s[k]? = some b → chars.contains b = false) → Lib.indexAny s chars = (n : Int)
  | [], _, _, _, h, _, _ => by cases h
  | b :: l, chars, 0, c, h, hc, _ => by
    obtain rfl : b = c := by simpa using h
    unfold Lib.indexAny
    rw [if_pos hc]; rfl
  | b :: l, chars, n + 1, c, h, hc, hn => by
    have ih := iaT_at (s := l) (chars := chars) (n := n) (c := c) (by simpa using h) hc (fun k hk x hx => hn (k + 1) (by omega) x (by simpa using hx))
    unfold Lib.indexAny
    rw [if_neg (by rw [hn 0 (by omega) b rfl]; decide), ih, if_neg (by simp)]
    omega
theorem strT_no {t : List UInt8} {i : Nat} (h : ∀ k b, i + 1 ≤ k → k < t.length → t[k]? = some b → b ≠ 34 ∧ b ≠ 10) : strN t i = -1 := by
  unfold strN
  refine iaT_no fun b hb => ?_
  obtain ⟨n, hn, rfl⟩ := List.getElem_of_mem hb
  rw [List.length_drop] at hn
  have := h (i + 1 + n) _ (by omega) (by omega) (List.getElem?_eq_getElem (by omega))
  rw [List.getElem_drop]
  simpa [List.contains_cons] using this
theorem strT_at {t : List UInt8} {i e : Nat} {c : UInt8} (hie : i < e) (hc : t[e]? = some c) (h34 : c = 34 ∨ c = 10) (h : ∀ k b, i + 1 ≤ k → k < e → t[k]? = some b → b ≠ 34 ∧ b ≠ 10) : strN t i = ((e - (i + 1) : Nat) : Int) := by
  unfold strN
  refine iaT_at (c := c) (by rw [List.getElem?_drop, show i + 1 + (e - (i + 1)) = e by omega]; exact hc) (by rcases h34 with rfl | rfl <;> rfl) fun k hk b hb => ?_
  rw [List.getElem?_drop] at hb
  have := h (i + 1 + k) b (by omega) (by omega) hb
  simpa [List.contains_cons] using this
set_option maxRecDepth 100000 in
set_option maxHeartbeats 8000000 in
theorem rnext_text (t : List UInt8) (ht : t.length ≤ 1000000) (i : Nat) (c : UInt8) (hc : t[i]? = some c) (h6 : clsB c = 6) (w : World) :
    Calls Tryz.prog 85 #[.string (bs t), .int .i64 (i : Int)] w fun r w' => r = .returned (.tuple #[tval (nextP t i).2.1, .int .i64 (nextP t i).1]) ∧ Below w.heap.size w w' := by
  have hil : i < t.length := (List.getElem?_eq_some_iff.1 hc).1
  have hsz : (bs t).size = t.length := bs_size t
  have ci := index_bs t i c hc
  have HAT : Hid (atP t i = clsB c) := by show _ = _; unfold atP; rw [hc]
  have k0 : (0 : Int) ≤ (i : Int) := by omega
  have k1 : (i : Int) < (t.length : Int) := by omega
  obtain ⟨XR, XY, B0⟩ := box2 w 50 #[.int .i64 0, .int .i64 0, .int .i64 0, .string ⟨#[]⟩] 50 #[.int .i64 0, .int .i64 (i : Int), .int .i64 0, .string ⟨#[]⟩]
  have HR := hide XR
  have HY := hide XY
  have HB := hide B0
  clear XR XY B0
  go_enter Tryz.func85, Tryz.ntmps85
  go_upto_region 3 with fail
  generalize (w.alloc (.cells #[.int .i64 0, .int .i64 0, .int .i64 0, .string ⟨#[]⟩] 50)).alloc (.cells #[.int .i64 0, .int .i64 (i : Int), .int .i64 0, .string ⟨#[]⟩] 50) = w1 at *
  have r0 : w1.cell? ⟨w.heap.size, 0, none⟩ = some (.int .i64 0) := HR.out.cell 0
  have r1 : w1.cell? ⟨w.heap.size, 1, none⟩ = some (.int .i64 0) := HR.out.cell 1
  have r2 : w1.cell? ⟨w.heap.size, 2, none⟩ = some (.int .i64 0) := HR.out.cell 2
  have r3 : w1.cell? ⟨w.heap.size, 3, none⟩ = some (.string ⟨#[]⟩) := HR.out.cell 3
  have y0 : w1.cell? ⟨w.heap.size + 1, 0, none⟩ = some (.int .i64 0) := HY.out.cell 0
  have y1 : w1.cell? ⟨w.heap.size + 1, 1, none⟩ = some (.int .i64 (i : Int)) := HY.out.cell 1
  have y2 : w1.cell? ⟨w.heap.size + 1, 2, none⟩ = some (.int .i64 0) := HY.out.cell 2
  have y3 : w1.cell? ⟨w.heap.size + 1, 3, none⟩ = some (.string ⟨#[]⟩) := HY.out.cell 3
  have fr : ∀ j, w1.frozen? ⟨w.heap.size, j, none⟩ = false := fun j => HR.out.frozen j
  have fy : ∀ j, w1.frozen? ⟨w.heap.size + 1, j, none⟩ = false := fun j => HY.out.frozen j
  have hall := cls_all c
  have CL := fun w => rletter_any c w
  rw [hall.2.2.2.2.2.1, h6, show decide ((6 : Int) = 3) = false from rfl] at CL
  have CD := fun w => rdigit_any c w
  rw [hall.2.2.2.2.2.2.1, h6, show decide ((6 : Int) = 4) = false from rfl] at CD
  have hq : ((c.toNat : Int) == 34) = true := by rw [hall.2.2.2.2.1.2 h6]; rfl
  have H6 : Hid (atP t i = 6) := by show _ = _; rw [HAT.out, h6]
  clear hall hc h6
  go_wp2_with (first | ((with_reducible refine (CL _).mono ?_); rintro e' w' ⟨rfl, hw⟩; have hw := hw.symm; subst hw) | ((with_reducible refine (CD _).mono ?_); rintro e' w' ⟨rfl, hw⟩; have hw := hw.symm; subst hw))
  clear ci CL CD hq
  go_loopw [6] (fun z wr => ∃ e : Nat, z = .int .i64 (e : Int) ∧ (i < e ∧ e ≤ t.length ∧ ∀ k b, i + 1 ≤ k → k < e → t[k]? = some b → b ≠ 34 ∧ b ≠ 10) ∧ wr = w1) (fun z _ => t.length - (intOf z).toNat)
  case atStart => exact ⟨i + 1, by go_num, ⟨by omega, by omega, fun k b h1 h2 => absurd h2 (by omega)⟩, rfl⟩
  case round =>
    obtain ⟨e, rfl, ⟨he, hel, hnn⟩, hwr⟩ := hrel
    have hwr := hwr.symm
    subst hwr
    have HNN := hide hnn
    clear hnn
    by_cases hlt : e < t.length
    · have e1 : decide ((e : Int) < (t.length : Int)) = true := decide_eq_true (by omega)
      obtain ⟨d, hd⟩ : ∃ d, t[e]? = some d := ⟨_, List.getElem?_eq_getElem hlt⟩
      have ci := index_bs t e d hd
      have k2 : (0 : Int) ≤ (e : Int) := by omega
      have k3 : (e : Int) < (t.length : Int) := by omega
      have e4 : ((e : Int) == (t.length : Int)) = false := by rw [beq_eq_false_iff_ne]; omega
      by_cases h34 : d = 34
      · have HS := hide (strT_at he hd (.inl h34) HNN.out)
        have hnl : (t.drop (i + 1))[e - (i + 1)]? = some d := by rw [List.getElem?_drop, show i + 1 + (e - (i + 1)) = e by omega]; exact hd
        have e2 : ((d.toNat : Int) != 34) = false := by rw [h34]; rfl
        have e3 : ((d.toNat : Int) == 10) = false := by rw [h34]; rfl
        have hno : ¬ (strN t i < 0 ∨ (t.drop (i + 1))[(strN t i).toNat]? = some 10) := by
          rw [HS.out]
          rintro (h | h)
          · omega
          · rw [Int.toNat_natCast, hnl, h34] at h; cases h
        by_cases h400 : 400 < e - (i + 1)
        · have HV : Hid (nextP t i = (2, zTk, 0)) := by
            show _ = _
            unfold nextP
            rw [H6.out, if_neg (by decide), if_neg (by decide), if_pos rfl, if_neg hno, if_pos (by rw [HS.out]; omega)]
          have e5 : decide ((400 : Int) < (e : Int) - (i : Int) - 1) = true := decide_eq_true (by omega)
          clear hd h34 hnl hno h400
          go_wp2_with fail
          have hbk := ((((HR.out.set_ 0 (.int .i64 0)).set_ 1 (.int .i64 0)).set_ 2 (.int .i64 0)).set_ 3 (.string ⟨#[]⟩))
          refine bodyPost_ret (results_c1 (p := 4) (u := 5) rfl _ _ w.heap.size 50 _ _ rfl hbk Tryz.underlying50 rfl (by kernel_rfl)) rfl ⟨by rw [HV.out]; rfl, ?_⟩
          exact ((((HB.out.setCell (p := ⟨w.heap.size, 0, none⟩) (Nat.le_refl _) _).setCell (p := ⟨w.heap.size, 1, none⟩) (Nat.le_refl _) _).setCell (p := ⟨w.heap.size, 2, none⟩) (Nat.le_refl _) _).setCell (p := ⟨w.heap.size, 3, none⟩) (Nat.le_refl _) _)
        · have HV : Hid (nextP t i = (0, ⟨3, i, 0, (t.drop (i + 1)).take (e - (i + 1))⟩, i + (e - (i + 1)) + 2)) := by
            show _ = _
            unfold nextP
            rw [H6.out, if_neg (by decide), if_neg (by decide), if_pos rfl, if_neg hno, if_neg (by rw [HS.out]; omega), HS.out, Int.toNat_natCast]
          have e5 : decide ((400 : Int) < (e : Int) - (i : Int) - 1) = false := decide_eq_false (by omega)
          have hx : (bs t).extract (i + 1) e = bs ((t.drop (i + 1)).take (e - (i + 1))) := bs_cut t (i + 1) e
          have k4 : (0 : Int) ≤ (i : Int) + 1 := by omega
          have k5 : (i : Int) + 1 ≤ (e : Int) := by omega
          generalize (t.drop (i + 1)).take (e - (i + 1)) = x at *
          clear hd h34 hnl hno h400
          go_wp2_with fail
          have hbk := ((((HR.out.set_ 0 (.int .i64 3)).set_ 1 (.int .i64 (i : Int))).set_ 2 (.int .i64 0)).set_ 3 (.string (bs x)))
          refine bodyPost_ret (results_c1 (p := 4) (u := 5) rfl _ _ w.heap.size 50 _ _ rfl hbk Tryz.underlying50 rfl (by kernel_rfl)) rfl ⟨by rw [HV.out]; rfl, ?_⟩
          exact ((((HB.out.setCell (p := ⟨w.heap.size, 0, none⟩) (Nat.le_refl _) _).setCell (p := ⟨w.heap.size, 1, none⟩) (Nat.le_refl _) _).setCell (p := ⟨w.heap.size, 2, none⟩) (Nat.le_refl _) _).setCell (p := ⟨w.heap.size, 3, none⟩) (Nat.le_refl _) _)
      · have e2 : ((d.toNat : Int) != 34) = true := by rw [bne_iff_ne]; intro h; exact h34 (UInt8.toNat_inj.1 (by simp; omega))
        by_cases h10 : d = 10
        · have HS := hide (strT_at he hd (.inr h10) HNN.out)
          have hnl : (t.drop (i + 1))[e - (i + 1)]? = some d := by rw [List.getElem?_drop, show i + 1 + (e - (i + 1)) = e by omega]; exact hd
          have e3 : ((d.toNat : Int) == 10) = true := by rw [h10]; rfl
          have e3' : ((d.toNat : Int) != 10) = false := by rw [h10]; rfl
          have HV : Hid (nextP t i = (6, zTk, 0)) := by
            show _ = _
            unfold nextP
            rw [H6.out, if_neg (by decide), if_neg (by decide), if_pos rfl, if_pos (.inr (by rw [HS.out, Int.toNat_natCast, hnl, h10]))]
          clear hd h34 h10 hnl
          go_wp2_with fail
          have hbk := ((((HR.out.set_ 0 (.int .i64 0)).set_ 1 (.int .i64 0)).set_ 2 (.int .i64 0)).set_ 3 (.string ⟨#[]⟩))
          refine bodyPost_ret (results_c1 (p := 4) (u := 5) rfl _ _ w.heap.size 50 _ _ rfl hbk Tryz.underlying50 rfl (by kernel_rfl)) rfl ⟨by rw [HV.out]; rfl, ?_⟩
          exact ((((HB.out.setCell (p := ⟨w.heap.size, 0, none⟩) (Nat.le_refl _) _).setCell (p := ⟨w.heap.size, 1, none⟩) (Nat.le_refl _) _).setCell (p := ⟨w.heap.size, 2, none⟩) (Nat.le_refl _) _).setCell (p := ⟨w.heap.size, 3, none⟩) (Nat.le_refl _) _)
        · have e3 : ((d.toNat : Int) != 10) = true := by rw [bne_iff_ne]; intro h; exact h10 (UInt8.toNat_inj.1 (by simp; omega))
          have HN2 : Hid (∀ k b, i + 1 ≤ k → k < e + 1 → t[k]? = some b → b ≠ 34 ∧ b ≠ 10) := fun k b h1 h2 hb => by
            rcases Nat.lt_or_ge k e with h | h
            · exact HNN.out k b h1 h hb
            · obtain rfl : k = e := by omega
              rw [hd] at hb; cases hb; exact ⟨h34, h10⟩
          clear hd h34 h10
          go_wp2_with fail
          refine ⟨⟨e + 1, by go_num, ⟨by omega, by omega, HN2.out⟩, (by first | rfl | trivial)⟩, ?_⟩
          simp [intOf]; omega
    · obtain rfl : e = t.length := by omega
      have e1 : decide ((t.length : Int) < (t.length : Int)) = false := by simp
      have e4 : ((t.length : Int) == (t.length : Int)) = true := by simp
      have HV : Hid (nextP t i = (6, zTk, 0)) := by
        show _ = _
        unfold nextP
        rw [H6.out, if_neg (by decide), if_neg (by decide), if_pos rfl, if_pos (.inl (by rw [strT_no HNN.out]; decide))]
      go_wp2_with fail
      have hbk := ((((HR.out.set_ 0 (.int .i64 0)).set_ 1 (.int .i64 0)).set_ 2 (.int .i64 0)).set_ 3 (.string ⟨#[]⟩))
      refine bodyPost_ret (results_c1 (p := 4) (u := 5) rfl _ _ w.heap.size 50 _ _ rfl hbk Tryz.underlying50 rfl (by kernel_rfl)) rfl ⟨by rw [HV.out]; rfl, ?_⟩
      exact ((((HB.out.setCell (p := ⟨w.heap.size, 0, none⟩) (Nat.le_refl _) _).setCell (p := ⟨w.heap.size, 1, none⟩) (Nat.le_refl _) _).setCell (p := ⟨w.heap.size, 2, none⟩) (Nat.le_refl _) _).setCell (p := ⟨w.heap.size, 3, none⟩) (Nat.le_refl _) _)
end Go.Proofs.YtdcafoekbnacnaaGreatDoor

/- The reference's lexer: next, numbers. -/
set_option linter.unusedVariables false
set_option linter.unusedSimpArgs false
namespace Go.Proofs.YtdcafoekbnacnaaGreatDoor
open Go.RowKit Go.Shelf
attribute [local go_sem] Oper.semAt_some

theorem numD_snoc (l : List UInt8) (d : UInt8) : numD (l ++ [d]) = numD l * 10 + (d.toNat - 48) := by unfold numD; rw [List.foldl_append]; rfl
theorem sub_snoc {t : List UInt8} {i k : Nat} {d : UInt8} (hik : i ≤ k) (hd : t[k]? = some d) : sub t i (k + 1) = sub t i k ++ [d] := by
  unfold sub
  rw [show k + 1 - i = (k - i) + 1 by omega, List.take_add_one, List.getElem?_drop, show i + (k - i) = k by omega, hd]; rfl
theorem dig_of {c : UInt8} (h : ([4] : List Int).contains (clsB c) = true) : isDi c = true := by
  have := (cls_all c).2.2.2.2.2.2.1
  rw [this]
  simpa using h
set_option maxRecDepth 100000 in
set_option maxHeartbeats 8000000 in
theorem rnext_num (t : List UInt8) (ht : t.length ≤ 1000000) (i : Nat) (c : UInt8) (hc : t[i]? = some c) (h4 : clsB c = 4) (w : World) :
    Calls Tryz.prog 85 #[.string (bs t), .int .i64 (i : Int)] w fun r w' => r = .returned (.tuple #[tval (nextP t i).2.1, .int .i64 (nextP t i).1]) ∧ Below w.heap.size w w' := by
  have hil : i < t.length := (List.getElem?_eq_some_iff.1 hc).1
  have hsz : (bs t).size = t.length := bs_size t
  have ci := index_bs t i c hc
  have HAT : Hid (atP t i = clsB c) := by show _ = _; unfold atP; rw [hc]
  have k0 : (0 : Int) ≤ (i : Int) := by omega
  have k1 : (i : Int) < (t.length : Int) := by omega
  obtain ⟨XR, XY, B0⟩ := box2 w 50 #[.int .i64 0, .int .i64 0, .int .i64 0, .string ⟨#[]⟩] 50 #[.int .i64 0, .int .i64 (i : Int), .int .i64 0, .string ⟨#[]⟩]
  have HR := hide XR
  have HY := hide XY
  have HB := hide B0
  clear XR XY B0
  go_enter Tryz.func85, Tryz.ntmps85
  go_upto_region 3 with fail
  generalize (w.alloc (.cells #[.int .i64 0, .int .i64 0, .int .i64 0, .string ⟨#[]⟩] 50)).alloc (.cells #[.int .i64 0, .int .i64 (i : Int), .int .i64 0, .string ⟨#[]⟩] 50) = w1 at *
  have r0 : w1.cell? ⟨w.heap.size, 0, none⟩ = some (.int .i64 0) := HR.out.cell 0
  have r1 : w1.cell? ⟨w.heap.size, 1, none⟩ = some (.int .i64 0) := HR.out.cell 1
  have r2 : w1.cell? ⟨w.heap.size, 2, none⟩ = some (.int .i64 0) := HR.out.cell 2
  have r3 : w1.cell? ⟨w.heap.size, 3, none⟩ = some (.string ⟨#[]⟩) := HR.out.cell 3
  have y0 : w1.cell? ⟨w.heap.size + 1, 0, none⟩ = some (.int .i64 0) := HY.out.cell 0
  have y1 : w1.cell? ⟨w.heap.size + 1, 1, none⟩ = some (.int .i64 (i : Int)) := HY.out.cell 1
  have y2 : w1.cell? ⟨w.heap.size + 1, 2, none⟩ = some (.int .i64 0) := HY.out.cell 2
  have y3 : w1.cell? ⟨w.heap.size + 1, 3, none⟩ = some (.string ⟨#[]⟩) := HY.out.cell 3
  have fr : ∀ j, w1.frozen? ⟨w.heap.size, j, none⟩ = false := fun j => HR.out.frozen j
  have fy : ∀ j, w1.frozen? ⟨w.heap.size + 1, j, none⟩ = false := fun j => HY.out.frozen j
  have hcl := cls_all c
  have CL := fun w => rletter_any c w
  rw [hcl.2.2.2.2.2.1, h4, show decide ((4 : Int) = 3) = false from rfl] at CL
  have CD := fun w => rdigit_any c w
  rw [hcl.2.2.2.2.2.2.1, h4, show decide ((4 : Int) = 4) = true from rfl] at CD
  have HW : Hid (whP t i [4] = whP t (i + 1) [4]) := by show _ = _; rw [whP_step hc, h4]; rfl
  clear hcl hc
  go_wp2_with (first | ((with_reducible refine (CL _).mono ?_); rintro e' w' ⟨rfl, hw⟩; have hw := hw.symm; subst hw) | ((with_reducible refine (CD _).mono ?_); rintro e' w' ⟨rfl, hw⟩; have hw := hw.symm; subst hw))
  clear ci CL CD
  go_loopw [6] (fun z wr => ∃ e : Nat, z = .int .i64 (e : Int) ∧ (i < e ∧ e ≤ t.length ∧ whP t i [4] = whP t e [4]) ∧ wr = w1) (fun z _ => t.length - (intOf z).toNat)
  case atStart => exact ⟨i + 1, by go_num, ⟨by omega, by omega, HW.out⟩, rfl⟩
  case round =>
    obtain ⟨e, rfl, ⟨he, hel, hwe⟩, hwr⟩ := hrel
    have hwr := hwr.symm
    subst hwr
    have HWE := hide hwe
    clear hwe
    by_cases hlt : e < t.length
    · have e1 : decide ((e : Int) < (t.length : Int)) = true := decide_eq_true (by omega)
      obtain ⟨d, hd⟩ : ∃ d, t[e]? = some d := ⟨_, List.getElem?_eq_getElem hlt⟩
      have ci := index_bs t e d hd
      have k2 : (0 : Int) ≤ (e : Int) := by omega
      have k3 : (e : Int) < (t.length : Int) := by omega
      have CD := fun w => rdigit_any d w
      have HST := hide (whP_step (K := [4]) hd)
      have HDI : Hid (isDi d = decide (clsB d = 4)) := (cls_all d).2.2.2.2.2.2.1
      cases hwd : isDi d with
      | true =>
        have HW2 : Hid (whP t i [4] = whP t (e + 1) [4]) := by
          show _ = _
          rw [HWE.out, HST.out, if_pos]
          rw [HDI.out, decide_eq_true_eq] at hwd
          rw [hwd]; rfl
        rw [hwd] at CD
        clear hd hwd
        go_wp2_with ((with_reducible refine (CD _).mono ?_); rintro e' w' ⟨rfl, hw⟩; have hw := hw.symm; subst hw)
        refine ⟨⟨e + 1, by go_num, ⟨by omega, by omega, HW2.out⟩, (by first | rfl | trivial)⟩, ?_⟩
        simp [intOf]; omega
      | false =>
        have HD4 : Hid (clsB d ≠ 4) := fun h => by rw [HDI.out, h] at hwd; cases hwd
        have HE : Hid (whP t i [4] = e) := by
          show _ = _
          rw [HWE.out, HST.out, if_neg]
          intro h
          exact HD4.out (by simpa using h)
        have HDD := hide hd
        rw [hwd] at CD
        clear hd hwd
        go_upto_region 13 with ((with_reducible refine (CD _).mono ?_); rintro e' w' ⟨rfl, hw⟩; have hw := hw.symm; subst hw)
        clear CD
        have hie : i ≤ e := by omega
        by_cases h13 : 13 < e - i
        · have HV : Hid (nextP t i = (4, zTk, 0)) := by
            show _ = _
            unfold nextP
            rw [HAT.out, if_neg (by rw [h4]; decide), if_pos h4, HE.out, if_pos (.inl h13)]
          have e5 : decide ((13 : Int) < (e : Int) - (i : Int)) = true := decide_eq_true (by omega)
          clear h13 h4
          go_wp2_with fail
          have hbk := (((((HR.out.far (p := ⟨w.heap.size + 1, 0, none⟩) (by simp) (.int .i64 2)).set_ 0 (.int .i64 0)).set_ 1 (.int .i64 0)).set_ 2 (.int .i64 0)).set_ 3 (.string ⟨#[]⟩))
          refine bodyPost_ret (results_c1 (p := 4) (u := 5) rfl _ _ w.heap.size 50 _ _ rfl hbk Tryz.underlying50 rfl (by kernel_rfl)) rfl ⟨by rw [HV.out]; rfl, ?_⟩
          exact (((((HB.out.setCell (p := ⟨w.heap.size + 1, 0, none⟩) (by simp) _).setCell (p := ⟨w.heap.size, 0, none⟩) (Nat.le_refl _) _).setCell (p := ⟨w.heap.size, 1, none⟩) (Nat.le_refl _) _).setCell (p := ⟨w.heap.size, 2, none⟩) (Nat.le_refl _) _).setCell (p := ⟨w.heap.size, 3, none⟩) (Nat.le_refl _) _)
        · have e5 : decide ((13 : Int) < (e : Int) - (i : Int)) = false := decide_eq_false (by omega)
          have H13 := hide h13
          have HV0 : Hid (isWd d = true → nextP t i = (4, zTk, 0)) := fun h => by
            unfold nextP
            rw [HAT.out, if_neg (by rw [h4]; decide), if_pos h4, HE.out, if_pos]
            refine .inr ?_
            rw [(cls_all d).2.2.2.2.2.2.2, decide_eq_true_eq] at h
            rw [show atP t e = clsB d by unfold atP; rw [HDD.out]]
            rcases h with h | h | h
            · exact .inl h
            · exact absurd h HD4.out
            · exact .inr h
          have HV1 : Hid (isWd d = false → nextP t i = (0, ⟨2, i, (numD (sub t i e) : Nat), sub t i e⟩, e)) := fun h => by
            unfold nextP
            rw [HAT.out, if_neg (by rw [h4]; decide), if_pos h4, HE.out, if_neg]
            rw [(cls_all d).2.2.2.2.2.2.2, decide_eq_false_iff_not] at h
            rw [show atP t e = clsB d by unfold atP; rw [HDD.out]]
            rintro (h1 | h1 | h1)
            · exact H13.out h1
            · exact h (.inl h1)
            · exact h (.inr (.inr h1))
          cases hwd : isWd d with
          | true =>
            have HV := hide (HV0.out hwd)
            have CW := fun w => rword_any d w
            rw [hwd] at CW
            clear hwd h4 h13
            go_wp2_with ((with_reducible refine (CW _).mono ?_); rintro e' w' ⟨rfl, hw⟩; have hw := hw.symm; subst hw)
            have hbk := (((((HR.out.far (p := ⟨w.heap.size + 1, 0, none⟩) (by simp) (.int .i64 2)).set_ 0 (.int .i64 0)).set_ 1 (.int .i64 0)).set_ 2 (.int .i64 0)).set_ 3 (.string ⟨#[]⟩))
            refine bodyPost_ret (results_c1 (p := 4) (u := 5) rfl _ _ w.heap.size 50 _ _ rfl hbk Tryz.underlying50 rfl (by kernel_rfl)) rfl ⟨by rw [HV.out]; rfl, ?_⟩
            exact (((((HB.out.setCell (p := ⟨w.heap.size + 1, 0, none⟩) (by simp) _).setCell (p := ⟨w.heap.size, 0, none⟩) (Nat.le_refl _) _).setCell (p := ⟨w.heap.size, 1, none⟩) (Nat.le_refl _) _).setCell (p := ⟨w.heap.size, 2, none⟩) (Nat.le_refl _) _).setCell (p := ⟨w.heap.size, 3, none⟩) (Nat.le_refl _) _)
          | false =>
            have HV := hide (HV1.out hwd)
            have CW := fun w => rword_any d w
            rw [hwd] at CW
            clear hwd h4 h13
            go_upto_region 16 with ((with_reducible refine (CW _).mono ?_); rintro e' w' ⟨rfl, hw⟩; have hw := hw.symm; subst hw)
            clear CW ci e1 e5
            have HY2 := hide (HY.out.set_ 0 (.int .i64 2))
            have HR2 := hide (HR.out.far (p := ⟨w.heap.size + 1, 0, none⟩) (by simp) (.int .i64 2))
            have HB2 := hide (HB.out.setCell (p := ⟨w.heap.size + 1, 0, none⟩) (by simp) (.int .i64 2))
            clear r0 r1 r2 r3 y0 y1 y2 y3 fr fy HY HR HB
            generalize w1.setCell ⟨w.heap.size + 1, 0, none⟩ (.int .i64 2) = w2 at *
            have hall : ∀ d ∈ sub t i e, isDi d = true := by
              have := wh_all t i [4]
              rw [HE.out] at this
              exact fun d hd => dig_of (this d hd)
            have HALL := hide hall
            have HIE := hide hie
            have HEL : Hid (e ≤ t.length) := by show _ ≤ _; omega
            clear hall
            go_wp2_with fail
            go_loopw [9] (fun z wr => ∃ k : Nat, z = .int .i64 (k : Int) ∧ (i ≤ k ∧ k ≤ e) ∧ Below w.heap.size w wr ∧ Blk wr w.heap.size 50 #[.int .i64 0, .int .i64 0, .int .i64 0, .string ⟨#[]⟩] ∧ Blk wr (w.heap.size + 1) 50 #[.int .i64 2, .int .i64 (i : Int), .int .i64 (numD (sub t i k) : Nat), .string ⟨#[]⟩]) (fun z _ => e - (intOf z).toNat)
            case atStart => exact ⟨i, rfl, ⟨by omega, hie⟩, HB2.out, HR2.out, by rw [show sub t i i = [] by unfold sub; rw [Nat.sub_self, List.take_zero]]; exact HY2.out⟩
            case round =>
              obtain ⟨k, rfl, ⟨hik, hke⟩, hB, hR, hY⟩ := hrel
              have HB3 := hide hB
              have HR3 := hide hR
              have HY3 := hide hY
              clear hB hR hY HB2 HR2 HY2
              have y0 : wr.cell? ⟨w.heap.size + 1, 0, none⟩ = some (.int .i64 2) := HY3.out.cell 0
              have y1 : wr.cell? ⟨w.heap.size + 1, 1, none⟩ = some (.int .i64 (i : Int)) := HY3.out.cell 1
              have y2 : wr.cell? ⟨w.heap.size + 1, 2, none⟩ = some (.int .i64 (numD (sub t i k) : Nat)) := HY3.out.cell 2
              have y3 : wr.cell? ⟨w.heap.size + 1, 3, none⟩ = some (.string ⟨#[]⟩) := HY3.out.cell 3
              have fy : ∀ j, wr.frozen? ⟨w.heap.size + 1, j, none⟩ = false := fun j => HY3.out.frozen j
              have hkl : k ≤ t.length := by have := HEL.out; omega
              by_cases hlt : k < e
              · have e1 : decide ((k : Int) < (e : Int)) = true := decide_eq_true (by omega)
                obtain ⟨d, hd⟩ : ∃ d, t[k]? = some d := ⟨_, List.getElem?_eq_getElem (by have := HEL.out; omega)⟩
                have ci := index_bs t k d hd
                have hdm : d ∈ sub t i e := by
                  unfold sub
                  refine List.mem_of_getElem? (i := k - i) ?_
                  rw [List.getElem?_take, if_pos (by omega), List.getElem?_drop, show i + (k - i) = k by omega, hd]
                have hdd := (isDi_iff d).1 (HALL.out d hdm)
                have HN : Hid (numD (sub t i (k + 1)) = numD (sub t i k) * 10 + (d.toNat - 48)) := by show _ = _; rw [sub_snoc hik hd, numD_snoc]
                have hlt13 : numD (sub t i k) < 10 ^ 13 := by
                  have h1 : ∀ c ∈ sub t i k, isDi c = true := fun c hc => by
                    refine HALL.out c ?_
                    have : sub t i k = (sub t i e).take (k - i) := by unfold sub; rw [List.take_take, show min (k - i) (e - i) = k - i by omega]
                    rw [this] at hc
                    exact List.mem_of_mem_take hc
                  have h2 := numD_lt h1
                  have h3 : (sub t i k).length ≤ 13 := by
                    have := H13.out
                    unfold sub
                    rw [List.length_take]
                    omega
                  exact Nat.lt_of_lt_of_le h2 (Nat.pow_le_pow_right (by decide) h3)
                have k2 : (0 : Int) ≤ (k : Int) := by omega
                have k3 : (k : Int) < (t.length : Int) := by omega
                obtain ⟨N, hNN⟩ : ∃ N, numD (sub t i k) = N := ⟨_, rfl⟩
                rw [hNN] at y2 hlt13 HN HY3
                clear hd hdm hNN
                obtain ⟨dn, hdn⟩ : ∃ dn : Nat, d.toNat = dn + 48 := ⟨d.toNat - 48, by omega⟩
                have hd9 : dn ≤ 9 := by omega
                rw [hdn] at ci HN
                clear hdn hdd
                have hc13 : (N : Int) < 10000000000000 := by omega
                clear hlt13
                go_wp2_with fail
                go_region
                all_goals go_wp2_with fail
                all_goals (
                  have e9 : ((numD (sub t i (k + 1)) : Nat) : Int) = 10 * (N : Int) + (dn : Int) := by rw [HN.out]; omega
                  refine ⟨⟨k + 1, by go_num, ⟨by omega, by omega⟩, (HB3.out.setCell (p := ⟨w.heap.size + 1, 2, none⟩) (by simp) _).drew, (HR3.out.far (p := ⟨w.heap.size + 1, 2, none⟩) (by simp) _).drew, ?_⟩, ?_⟩
                  · rw [e9]; exact (HY3.out.set_ 2 (.int .i64 (10 * (N : Int) + (dn : Int)))).drew
                  · simp [intOf]; omega)
              · have hke2 : k = e := by omega
                have e1 : decide ((k : Int) < (e : Int)) = false := decide_eq_false (by omega)
                rw [hke2] at y2
                clear hke2
                have hx : (bs t).extract i e = bs (sub t i e) := bs_cut t i e
                have r0 : wr.cell? ⟨w.heap.size, 0, none⟩ = some (.int .i64 0) := HR3.out.cell 0
                have r1 : wr.cell? ⟨w.heap.size, 1, none⟩ = some (.int .i64 0) := HR3.out.cell 1
                have r2 : wr.cell? ⟨w.heap.size, 2, none⟩ = some (.int .i64 0) := HR3.out.cell 2
                have r3 : wr.cell? ⟨w.heap.size, 3, none⟩ = some (.string ⟨#[]⟩) := HR3.out.cell 3
                have fr : ∀ j, wr.frozen? ⟨w.heap.size, j, none⟩ = false := fun j => HR3.out.frozen j
                go_wp2_with fail
                have hbk := (((((HR3.out.far (p := ⟨w.heap.size + 1, 3, none⟩) (by simp) (.string (bs (sub t i e)))).set_ 0 (.int .i64 2)).set_ 1 (.int .i64 (i : Int))).set_ 2 (.int .i64 (numD (sub t i e) : Nat))).set_ 3 (.string (bs (sub t i e))))
                refine bodyPost_ret (results_c1 (p := 4) (u := 5) rfl _ _ w.heap.size 50 _ _ rfl hbk Tryz.underlying50 rfl (by kernel_rfl)) rfl ⟨by rw [HV.out]; rfl, ?_⟩
                exact (((((HB3.out.setCell (p := ⟨w.heap.size + 1, 3, none⟩) (by simp) _).setCell (p := ⟨w.heap.size, 0, none⟩) (Nat.le_refl _) _).setCell (p := ⟨w.heap.size, 1, none⟩) (Nat.le_refl _) _).setCell (p := ⟨w.heap.size, 2, none⟩) (Nat.le_refl _) _).setCell (p := ⟨w.heap.size, 3, none⟩) (Nat.le_refl _) _)
    · obtain rfl : e = t.length := by omega
      have e1 : decide ((t.length : Int) < (t.length : Int)) = false := by simp
      have HE : Hid (whP t i [4] = t.length) := by show _ = _; rw [HWE.out, whP_end (Nat.le_refl _)]
      go_upto_region 13 with fail
      have hie : i ≤ t.length := by omega
      by_cases h13 : 13 < t.length - i
      · have HV : Hid (nextP t i = (4, zTk, 0)) := by
          show _ = _
          unfold nextP
          rw [HAT.out, if_neg (by rw [h4]; decide), if_pos h4, HE.out, if_pos (.inl h13)]
        have e5 : decide ((13 : Int) < (t.length : Int) - (i : Int)) = true := decide_eq_true (by omega)
        clear h13 h4
        go_wp2_with fail
        have hbk := (((((HR.out.far (p := ⟨w.heap.size + 1, 0, none⟩) (by simp) (.int .i64 2)).set_ 0 (.int .i64 0)).set_ 1 (.int .i64 0)).set_ 2 (.int .i64 0)).set_ 3 (.string ⟨#[]⟩))
        refine bodyPost_ret (results_c1 (p := 4) (u := 5) rfl _ _ w.heap.size 50 _ _ rfl hbk Tryz.underlying50 rfl (by kernel_rfl)) rfl ⟨by rw [HV.out]; rfl, ?_⟩
        exact (((((HB.out.setCell (p := ⟨w.heap.size + 1, 0, none⟩) (by simp) _).setCell (p := ⟨w.heap.size, 0, none⟩) (Nat.le_refl _) _).setCell (p := ⟨w.heap.size, 1, none⟩) (Nat.le_refl _) _).setCell (p := ⟨w.heap.size, 2, none⟩) (Nat.le_refl _) _).setCell (p := ⟨w.heap.size, 3, none⟩) (Nat.le_refl _) _)
      · have e5 : decide ((13 : Int) < (t.length : Int) - (i : Int)) = false := decide_eq_false (by omega)
        have H13 := hide h13
        have HV : Hid (nextP t i = (0, ⟨2, i, (numD (sub t i t.length) : Nat), sub t i t.length⟩, t.length)) := by
          show _ = _
          unfold nextP
          rw [HAT.out, if_neg (by rw [h4]; decide), if_pos h4, HE.out, if_neg]
          rintro (h1 | h1 | h1)
          · exact H13.out h1
          · unfold atP at h1; rw [List.getElem?_eq_none (Nat.le_refl _)] at h1; exact absurd h1 (by decide)
          · unfold atP at h1; rw [List.getElem?_eq_none (Nat.le_refl _)] at h1; exact absurd h1 (by decide)
        clear h4 h13
        go_upto_region 16 with fail
        clear e1 e5
        have HY2 := hide (HY.out.set_ 0 (.int .i64 2))
        have HR2 := hide (HR.out.far (p := ⟨w.heap.size + 1, 0, none⟩) (by simp) (.int .i64 2))
        have HB2 := hide (HB.out.setCell (p := ⟨w.heap.size + 1, 0, none⟩) (by simp) (.int .i64 2))
        clear r0 r1 r2 r3 y0 y1 y2 y3 fr fy HY HR HB
        generalize w1.setCell ⟨w.heap.size + 1, 0, none⟩ (.int .i64 2) = w2 at *
        have hall : ∀ d ∈ sub t i t.length, isDi d = true := by
          have := wh_all t i [4]
          rw [HE.out] at this
          exact fun d hd => dig_of (this d hd)
        have HALL := hide hall
        have HIE := hide hie
        have HEL : Hid (t.length ≤ t.length) := by show _ ≤ _; omega
        clear hall
        go_wp2_with fail
        go_loopw [9] (fun z wr => ∃ k : Nat, z = .int .i64 (k : Int) ∧ (i ≤ k ∧ k ≤ t.length) ∧ Below w.heap.size w wr ∧ Blk wr w.heap.size 50 #[.int .i64 0, .int .i64 0, .int .i64 0, .string ⟨#[]⟩] ∧ Blk wr (w.heap.size + 1) 50 #[.int .i64 2, .int .i64 (i : Int), .int .i64 (numD (sub t i k) : Nat), .string ⟨#[]⟩]) (fun z _ => t.length - (intOf z).toNat)
        case atStart => exact ⟨i, rfl, ⟨by omega, hie⟩, HB2.out, HR2.out, by rw [show sub t i i = [] by unfold sub; rw [Nat.sub_self, List.take_zero]]; exact HY2.out⟩
        case round =>
          obtain ⟨k, rfl, ⟨hik, hke⟩, hB, hR, hY⟩ := hrel
          have HB3 := hide hB
          have HR3 := hide hR
          have HY3 := hide hY
          clear hB hR hY HB2 HR2 HY2
          have y0 : wr.cell? ⟨w.heap.size + 1, 0, none⟩ = some (.int .i64 2) := HY3.out.cell 0
          have y1 : wr.cell? ⟨w.heap.size + 1, 1, none⟩ = some (.int .i64 (i : Int)) := HY3.out.cell 1
          have y2 : wr.cell? ⟨w.heap.size + 1, 2, none⟩ = some (.int .i64 (numD (sub t i k) : Nat)) := HY3.out.cell 2
          have y3 : wr.cell? ⟨w.heap.size + 1, 3, none⟩ = some (.string ⟨#[]⟩) := HY3.out.cell 3
          have fy : ∀ j, wr.frozen? ⟨w.heap.size + 1, j, none⟩ = false := fun j => HY3.out.frozen j
          have hkl : k ≤ t.length := by have := HEL.out; omega
          by_cases hlt : k < t.length
          · have e1 : decide ((k : Int) < (t.length : Int)) = true := decide_eq_true (by omega)
            obtain ⟨d, hd⟩ : ∃ d, t[k]? = some d := ⟨_, List.getElem?_eq_getElem (by have := HEL.out; omega)⟩
            have ci := index_bs t k d hd
            have hdm : d ∈ sub t i t.length := by
              unfold sub
              refine List.mem_of_getElem? (i := k - i) ?_
              rw [List.getElem?_take, if_pos (by omega), List.getElem?_drop, show i + (k - i) = k by omega, hd]
            have hdd := (isDi_iff d).1 (HALL.out d hdm)
            have HN : Hid (numD (sub t i (k + 1)) = numD (sub t i k) * 10 + (d.toNat - 48)) := by show _ = _; rw [sub_snoc hik hd, numD_snoc]
            have hlt13 : numD (sub t i k) < 10 ^ 13 := by
              have h1 : ∀ c ∈ sub t i k, isDi c = true := fun c hc => by
                refine HALL.out c ?_
                have : sub t i k = (sub t i t.length).take (k - i) := by unfold sub; rw [List.take_take, show min (k - i) (t.length - i) = k - i by omega]
                rw [this] at hc
                exact List.mem_of_mem_take hc
              have h2 := numD_lt h1
              have h3 : (sub t i k).length ≤ 13 := by
                have := H13.out
                unfold sub
                rw [List.length_take]
                omega
              exact Nat.lt_of_lt_of_le h2 (Nat.pow_le_pow_right (by decide) h3)
            have k2 : (0 : Int) ≤ (k : Int) := by omega
            have k3 : (k : Int) < (t.length : Int) := by omega
            obtain ⟨N, hNN⟩ : ∃ N, numD (sub t i k) = N := ⟨_, rfl⟩
            rw [hNN] at y2 hlt13 HN HY3
            clear hd hdm hNN
            obtain ⟨dn, hdn⟩ : ∃ dn : Nat, d.toNat = dn + 48 := ⟨d.toNat - 48, by omega⟩
            have hd9 : dn ≤ 9 := by omega
            rw [hdn] at ci HN
            clear hdn hdd
            have hc13 : (N : Int) < 10000000000000 := by omega
            clear hlt13
            go_wp2_with fail
            go_region
            all_goals go_wp2_with fail
            all_goals (
              have e9 : ((numD (sub t i (k + 1)) : Nat) : Int) = 10 * (N : Int) + (dn : Int) := by rw [HN.out]; omega
              refine ⟨⟨k + 1, by go_num, ⟨by omega, by omega⟩, (HB3.out.setCell (p := ⟨w.heap.size + 1, 2, none⟩) (by simp) _).drew, (HR3.out.far (p := ⟨w.heap.size + 1, 2, none⟩) (by simp) _).drew, ?_⟩, ?_⟩
              · rw [e9]; exact (HY3.out.set_ 2 (.int .i64 (10 * (N : Int) + (dn : Int)))).drew
              · simp [intOf]; omega)
          · have hke2 : k = t.length := by omega
            have e1 : decide ((k : Int) < (t.length : Int)) = false := decide_eq_false (by omega)
            rw [hke2] at y2
            clear hke2
            have hx : (bs t).extract i t.length = bs (sub t i t.length) := bs_cut t i t.length
            have r0 : wr.cell? ⟨w.heap.size, 0, none⟩ = some (.int .i64 0) := HR3.out.cell 0
            have r1 : wr.cell? ⟨w.heap.size, 1, none⟩ = some (.int .i64 0) := HR3.out.cell 1
            have r2 : wr.cell? ⟨w.heap.size, 2, none⟩ = some (.int .i64 0) := HR3.out.cell 2
            have r3 : wr.cell? ⟨w.heap.size, 3, none⟩ = some (.string ⟨#[]⟩) := HR3.out.cell 3
            have fr : ∀ j, wr.frozen? ⟨w.heap.size, j, none⟩ = false := fun j => HR3.out.frozen j
            go_wp2_with fail
            have hbk := (((((HR3.out.far (p := ⟨w.heap.size + 1, 3, none⟩) (by simp) (.string (bs (sub t i t.length)))).set_ 0 (.int .i64 2)).set_ 1 (.int .i64 (i : Int))).set_ 2 (.int .i64 (numD (sub t i t.length) : Nat))).set_ 3 (.string (bs (sub t i t.length))))
            refine bodyPost_ret (results_c1 (p := 4) (u := 5) rfl _ _ w.heap.size 50 _ _ rfl hbk Tryz.underlying50 rfl (by kernel_rfl)) rfl ⟨by rw [HV.out]; rfl, ?_⟩
            exact (((((HB3.out.setCell (p := ⟨w.heap.size + 1, 3, none⟩) (by simp) _).setCell (p := ⟨w.heap.size, 0, none⟩) (Nat.le_refl _) _).setCell (p := ⟨w.heap.size, 1, none⟩) (Nat.le_refl _) _).setCell (p := ⟨w.heap.size, 2, none⟩) (Nat.le_refl _) _).setCell (p := ⟨w.heap.size, 3, none⟩) (Nat.le_refl _) _)
theorem rnext_any (t : List UInt8) (ht : t.length ≤ 1000000) (i : Nat) (hi : i < t.length) (w : World) :
    Calls Tryz.prog 85 #[.string (bs t), .int .i64 (i : Int)] w fun r w' => r = .returned (.tuple #[tval (nextP t i).2.1, .int .i64 (nextP t i).1]) ∧ Below w.heap.size w w' := by
  obtain ⟨c, hc⟩ : ∃ c, t[i]? = some c := ⟨_, List.getElem?_eq_getElem hi⟩
  by_cases h3 : clsB c = 3
  · exact rnext_word t ht i c hc h3 w
  by_cases h4 : clsB c = 4
  · exact rnext_num t ht i c hc h4 w
  by_cases h6 : clsB c = 6
  · exact rnext_text t ht i c hc h6 w
  exact rnext_sym t ht i c hc ⟨h3, h4, h6⟩ w
end Go.Proofs.YtdcafoekbnacnaaGreatDoor

/- The reference's lexer: Width, Lex. -/
set_option linter.unusedVariables false
set_option linter.unusedSimpArgs false
namespace Go.Proofs.YtdcafoekbnacnaaGreatDoor
open Go.RowKit Go.Shelf
attribute [local go_sem] Oper.semAt_some

def widT (x : Tk) : Nat := if x.k = 3 then x.s.length + 2 else x.s.length
theorem rWidth_any (x : Tk) (hx : x.s.length ≤ 1000000) (w : World) : Calls Tryz.prog 86 #[.agg #[.int .i64 x.k, .int .i64 x.a, .int .i64 x.n, .string (bs x.s)]] w fun e w' => e = .returned (.int .i64 (widT x : Nat)) ∧ Below w.heap.size w w' := by
  have HB := hide (below_one w (.cells #[.int .i64 x.k, .int .i64 x.a, .int .i64 x.n, .string (bs x.s)] 50))
  have HX := Blk.new w 50 #[.int .i64 x.k, .int .i64 x.a, .int .i64 x.n, .string (bs x.s)]
  have y0 := HX.cell 0
  have y3 := HX.cell 3
  have hsz : (bs x.s).size = x.s.length := bs_size x.s
  clear HX
  go_enter Tryz.func86, Tryz.ntmps86
  by_cases h3 : x.k = 3
  · have e1 : (x.k == 3) = true := by rw [h3]; rfl
    have HW : Hid ((widT x : Int) = (x.s.length : Int) + 2) := by show _ = _; unfold widT; rw [if_pos h3]; rfl
    clear h3
    go_wp2_with fail
    go_ret
    exact ⟨by rw [HW.out]; rfl, HB.out⟩
  · have e1 : (x.k == 3) = false := by rw [beq_eq_false_iff_ne]; exact h3
    have HW : Hid ((widT x : Int) = (x.s.length : Int)) := by show _ = _; unfold widT; rw [if_neg h3]
    clear h3
    go_wp2_with fail
    go_ret
    exact ⟨by rw [HW.out]; rfl, HB.out⟩
theorem sub_length {t : List UInt8} {i e : Nat} (hie : i ≤ e) (he : e ≤ t.length) : (sub t i e).length = e - i := by
  unfold sub
  rw [List.length_take, List.length_drop]
  omega
theorem next_wid {t : List UInt8} {i : Nat} (hi : i < t.length) (h : (nextP t i).1 = 0) : i + widT (nextP t i).2.1 = (nextP t i).2.2 := by
  have hok := next_ok h
  unfold nextP at h hok ⊢
  by_cases h3 : atP t i = 3
  · rw [if_pos h3] at h hok ⊢
    by_cases h24 : whP t i [3, 4, 5] - i > 24
    · rw [if_pos h24] at h; exact absurd h (by decide)
    · rw [if_neg h24] at hok ⊢
      have := sub_length (t := t) (Nat.le_of_lt hok.1) hok.2
      show i + (if (1 : Int) = 3 then _ else _) = _
      rw [if_neg (by decide), this]
      have := hok.1
      show i + (whP t i [3, 4, 5] - i) = whP t i [3, 4, 5]
      dsimp only at this
      omega
  rw [if_neg h3] at h hok ⊢
  by_cases h4 : atP t i = 4
  · rw [if_pos h4] at h hok ⊢
    by_cases hc : whP t i [4] - i > 13 ∨ atP t (whP t i [4]) = 3 ∨ atP t (whP t i [4]) = 5
    · rw [if_pos hc] at h; exact absurd h (by decide)
    · rw [if_neg hc] at hok ⊢
      have := sub_length (t := t) (Nat.le_of_lt hok.1) hok.2
      show i + (if (2 : Int) = 3 then _ else _) = _
      rw [if_neg (by decide), this]
      have := hok.1
      show i + (whP t i [4] - i) = whP t i [4]
      dsimp only at this
      omega
  rw [if_neg h4] at h hok ⊢
  by_cases h6 : atP t i = 6
  · rw [if_pos h6] at h hok ⊢
    by_cases hc : strN t i < 0 ∨ (t.drop (i + 1))[(strN t i).toNat]? = some 10
    · rw [if_pos hc] at h; exact absurd h (by decide)
    rw [if_neg hc] at h hok ⊢
    by_cases h4 : strN t i > 400
    · rw [if_pos h4] at h; exact absurd h (by decide)
    rw [if_neg h4] at hok ⊢
    show i + (if (3 : Int) = 3 then _ else _) = _
    rw [if_pos rfl]
    have h2 := hok.2
    dsimp only at h2
    show i + (((t.drop (i + 1)).take (strN t i).toNat).length + 2) = i + (strN t i).toNat + 2
    rw [List.length_take, List.length_drop]
    omega
  rw [if_neg h6] at h hok ⊢
  by_cases hp : (atP t i = 7 ∨ atP t i = 8) ∧ Lib.hasPrefix (t.drop (i + 1)) [61] = true
  · rw [if_pos hp] at h hok ⊢
    have := sub_length (t := t) (Nat.le_of_lt hok.1) hok.2
    show i + (if (4 : Int) = 3 then _ else _) = _
    rw [if_neg (by decide)]
    show i + (sub t i (i + 2)).length = i + 2
    dsimp only at this
    rw [this]; omega
  rw [if_neg hp] at h hok ⊢
  by_cases h8 : atP t i = 8 ∨ atP t i = 9
  · rw [if_pos h8] at h hok ⊢
    have := sub_length (t := t) (Nat.le_of_lt hok.1) hok.2
    show i + (if (4 : Int) = 3 then _ else _) = _
    rw [if_neg (by decide)]
    show i + (sub t i (i + 1)).length = i + 1
    dsimp only at this
    rw [this]; omega
  · rw [if_neg h8] at h; exact absurd h (by decide)
theorem blk_grown {w w' : World} {ob : Option Nat} {g : Nat} {ty : TypeId} {cs : Array Value} (h : w.grownBy w' ob) (hb : Blk w g ty cs) (hne : some g ≠ ob) : Blk w' g ty cs := (h.block g hb.lt hne).trans hb
set_option maxRecDepth 100000 in
set_option maxHeartbeats 8000000 in
theorem rLex_any (t : List UInt8) (ht' : t.length ≤ 1000000) (w : World) : Calls Tryz.prog 45 #[.string (bs t)] w fun e w' => ∃ v, e = .returned (.tuple #[v, .int .i64 (lexP t).2.1, .int .i64 (lexP t).2.2]) ∧ TokRow w' v (lexP t).1 ∧ Below w.heap.size w w' := by
  have hsz : (bs t).size = t.length := bs_size t
  by_cases hlim : t.length > 20000
  · have e20 : decide ((20000 : Int) < (t.length : Int)) = true := by simp; omega
    have HL : Hid (lexP t = ([], 2, -1)) := by show _ = _; unfold lexP; rw [if_pos hlim]
    rw [HL.out]
    go_enter Tryz.func45, Tryz.ntmps45
    go_wp2_with fail
    go_ret3
    exact ⟨_, rfl, .inl ⟨rfl, _, _, rfl⟩, Below.refl _ _⟩
  have ht2 : t.length ≤ 20000 := by omega
  have HL : Hid (lexP t = lexA (t.length + 1) t (gapP t 0) []) := by show _ = _; unfold lexP; rw [if_neg hlim]
  rw [HL.out]
  obtain ⟨i0, hi0, hz0, hz1, hz2⟩ := info_parts info_token
  have e20 : decide ((20000 : Int) < (t.length : Int)) = false := by simp; omega
  have CG0 : ∀ w, Calls Tryz.prog 84 #[.string (bs t), .int .i64 0] w fun e w' => e = .returned (.int .i64 (gapP t 0 : Nat)) ∧ w' = w := fun w => rgap_any t 0 (Nat.zero_le _) (by omega) w
  have hg0 := gapP_le (Nat.zero_le t.length)
  generalize hg : gapP t 0 = k0 at *
  have HK0 := hide hg
  clear hg HL hlim
  go_enter Tryz.func45, Tryz.ntmps45
  go_wp2_with ((with_reducible refine (CG0 _).mono ?_); rintro e' w' ⟨rfl, hw⟩; have hw := hw.symm; subst hw)
  clear e20 CG0
  go_loopw [5, 6] (fun v i wr => LexI t w wr v i) (fun _ i _ => t.length - (intOf i).toNat)
  case atStart => exact ⟨Below.refl _ _, t.length + 1, k0, [], rfl, ⟨hg0, by omega, by simp⟩, by rw [HK0.out], World.ownsRow_nil _ _ _ _⟩
  case round =>
    obtain ⟨hB, f, k, acc, rfl, ⟨hk, hf, ha5⟩, hE, hO⟩ := hrel
    have HB := hide hB
    have HE := hide hE
    have HO := hide hO
    obtain ⟨A, c, rfl⟩ := own_slice hO
    clear hB hE hO
    by_cases hlt : k < t.length
    · have e1 : decide ((k : Int) < (t.length : Int)) = true := by simp; omega
      obtain ⟨f', rfl⟩ : ∃ f', f = f' + 1 := ⟨f - 1, by omega⟩
      have hE2 := HE.out
      rw [lexA, if_pos hlt] at hE2
      have CN1 := rnext_any t ht' k hlt wr
      have HOK := hide (fun h => next_ok (t := t) (i := k) h)
      have HWD := hide (fun h => next_wid (t := t) (i := k) hlt h)
      generalize nextP t k = r at *
      obtain ⟨E, x, en⟩ := r
      obtain ⟨xk, xa, xn, xs⟩ := x
      have CN' : Calls Tryz.prog 85 #[.string (bs t), .int .i64 (k : Int)] wr fun r w' => r = .returned (.tuple #[.agg #[.int .i64 xk, .int .i64 xa, .int .i64 xn, .string (bs xs)], .int .i64 E]) ∧ Below wr.heap.size wr w' := CN1
      simp only [] at hE2
      clear CN1
      by_cases hE0 : E = 0
      · subst hE0
        by_cases h5 : acc.length = 5000
        · have e2 : ((acc.length : Int) == 5000) = true := by rw [h5]; rfl
          rw [if_pos ⟨rfl, h5⟩] at hE2
          have HE2 := hide hE2
          clear hE2 h5 HOK HWD
          go_wp2_with ((with_reducible refine CN'.mono ?_); rintro e w4 ⟨rfl, hb4⟩)
          go_ret3
          rw [← HK0.out, ← HE2.out]
          exact ⟨_, rfl, .inl ⟨rfl, _, _, rfl⟩, below_alloc (below_to HB.out (Nat.le_refl _) hb4) (Nat.le_refl _) _⟩
        · have e2 : ((acc.length : Int) == 5000) = false := by rw [beq_eq_false_iff_ne]; omega
          rw [if_neg (fun h => h5 h.2), if_neg (by simp)] at hE2
          have HE2 := hide hE2
          have ha4 : acc.length < 5000 := by omega
          obtain ⟨hen1, hen2⟩ := HOK.out rfl
          have hwd := HWD.out rfl
          simp only [] at hen1 hen2 hwd
          have hxs : xs.length ≤ 1000000 := by
            have : xs.length ≤ widT ⟨xk, xa, xn, xs⟩ := by unfold widT; split <;> simp
            omega
          have CW := fun w => rWidth_any ⟨xk, xa, xn, xs⟩ hxs w
          have hge := gapP_ge t en
          have hgl := gapP_le hen2
          have CE := fun w => rgap_any t en hen2 (by omega) w
          generalize hgp : gapP t en = m at *
          clear hE2 h5 HOK HWD hgp
          have HXS := hide (flatT_snoc acc ⟨xk, xa, xn, xs⟩)
          simp only [] at HXS CW
          generalize widT ⟨xk, xa, xn, xs⟩ = W at *
          have hW : (k : Int) + (W : Int) = (en : Int) := by omega
          clear hwd
          have hw1 : (W : Int) ≤ 1000000 := by omega
          go_upto_region 12 with ((with_reducible refine CN'.mono ?_); rintro e w4 ⟨rfl, hb4⟩)
          have HB5 := hide (below_alloc (below_to HB.out (Nat.le_refl _) hb4) (Nat.le_refl _) (.cells #[.int .i64 xk, .int .i64 xa, .int .i64 xn, .string (bs xs)] 50))
          have HBr := hide (below_alloc hb4 (Nat.le_refl _) (.cells #[.int .i64 xk, .int .i64 xa, .int .i64 xn, .string (bs xs)] 50))
          have HX5 := hide (Blk.new w4 50 #[.int .i64 xk, .int .i64 xa, .int .i64 xn, .string (bs xs)])
          have hs4 := hb4.size
          clear hb4 CN'
          generalize w4.alloc (.cells #[.int .i64 xk, .int .i64 xa, .int .i64 xn, .string (bs xs)] 50) = w5 at *
          generalize w4.heap.size = bx at *
          have HS4 := hide hs4
          have x0 : w5.cell? ⟨bx, 0, none⟩ = some (.int .i64 xk) := HX5.out.cell 0
          have x1 : w5.cell? ⟨bx, 1, none⟩ = some (.int .i64 xa) := HX5.out.cell 1
          have x2 : w5.cell? ⟨bx, 2, none⟩ = some (.int .i64 xn) := HX5.out.cell 2
          have x3 : w5.cell? ⟨bx, 3, none⟩ = some (.string (bs xs)) := HX5.out.cell 3
          go_wp2_with (at_builtin; refine wpList_append_own _ rfl (.tmp 35) (.tmp 37) _ rfl w.heap.size 50 i0 (.agg #[.int .i64 0, .int .i64 0, .int .i64 0, .string ⟨#[]⟩]) 4 40 Tryz.underlying46 hi0 hz0 hz1 hz2 rfl (by omega) _ acc.length (flatT acc) rfl ?c0 ⟨_, 0, none⟩ 1 1 [.int .i64 xk, .int .i64 xa, .int .i64 xn, .string (bs xs)] rfl rfl ?c1 ?c2 ?c4 ?c5 ?c3 ?_)
          case c0 => exact own_to' HO.out (below_alloc HBr.out (Nat.le_refl _) _)
          case c1 => exact row_new (by simp)
          case c2 =>
            intro u hu
            simp only [List.mem_cons, List.not_mem_nil, or_false] at hu
            rcases hu with rfl | rfl | rfl | rfl <;> rfl
          case c4 => simp only [maxLen]; omega
          case c5 => omega
          case c3 =>
            have := HB5.out.size
            simp
            omega
          · intro v' w6 hown6 hgr6 _
            have HB6 := hide ((below_alloc HB5.out (Nat.le_refl _) (.cells #[.int .i64 xk, .int .i64 xa, .int .i64 xn, .string (bs xs)] 50)).grown hgr6 (by have := HB5.out.size; simp; omega) (fun k hk => (HO.out.lt k hk).1))
            have HX6 := hide (blk_grown hgr6 (HX5.out.alloc (.cells #[.int .i64 xk, .int .i64 xa, .int .i64 xn, .string (bs xs)] 50)) (fun h => by have := (HO.out.lt bx h.symm).2; have := HS4.out; omega))
            have HO6 : Hid (w6.ownsRow w.heap.size 50 4 v' (acc ++ [(⟨xk, xa, xn, xs⟩ : Tk)]).length (flatT (acc ++ [(⟨xk, xa, xn, xs⟩ : Tk)]))) := by show World.ownsRow _ _ _ _ _ _ _; rw [HXS.out, List.length_append]; exact hown6
            have x0 : w6.cell? ⟨bx, 0, none⟩ = some (.int .i64 xk) := HX6.out.cell 0
            have x1 : w6.cell? ⟨bx, 1, none⟩ = some (.int .i64 xa) := HX6.out.cell 1
            have x2 : w6.cell? ⟨bx, 2, none⟩ = some (.int .i64 xn) := HX6.out.cell 2
            have x3 : w6.cell? ⟨bx, 3, none⟩ = some (.string (bs xs)) := HX6.out.cell 3
            clear hown6 hgr6 HB5 HX5
            go_upto_region 6 with ((with_reducible refine (CW _).mono ?_); rintro e w7 ⟨rfl, hb7⟩)
            try rw [hW]
            go_wp2_with ((with_reducible refine (CE _).mono ?_); rintro e' w' ⟨rfl, hw⟩; have hw := hw.symm; subst hw)
            refine ⟨⟨below_to HB6.out (Nat.le_refl _) hb7, f', m, acc ++ [(⟨xk, xa, xn, xs⟩ : Tk)], rfl, ⟨hgl, by omega, by simp; omega⟩, HE2.out.trans (by rfl), own_to' HO6.out hb7⟩, ?_⟩
            simp [intOf]; omega
      · have e2 : (E == 0) = false := by rw [beq_eq_false_iff_ne]; exact hE0
        have e3 : (E != 0) = true := by rw [bne_iff_ne]; exact hE0
        rw [if_neg (fun h => hE0 h.1), if_pos hE0] at hE2
        have HE2 := hide hE2
        clear hE2 HOK HWD hE0
        go_wp2_with ((with_reducible refine CN'.mono ?_); rintro e w4 ⟨rfl, hb4⟩)
        go_ret3
        rw [← HK0.out, ← HE2.out]
        exact ⟨_, rfl, .inl ⟨rfl, _, _, rfl⟩, below_alloc (below_to HB.out (Nat.le_refl _) hb4) (Nat.le_refl _) _⟩
    · have e1 : decide ((k : Int) < (t.length : Int)) = false := by simp; omega
      obtain ⟨f', rfl⟩ : ∃ f', f = f' + 1 := ⟨f - 1, by omega⟩
      have hE2 := HE.out
      rw [lexA, if_neg hlt] at hE2
      have HE2 := hide hE2
      clear hE2
      go_wp2_with fail
      go_ret3
      rw [← HK0.out, ← HE2.out]
      exact ⟨_, rfl, toks_own HO.out, HB.out⟩
end Go.Proofs.YtdcafoekbnacnaaGreatDoor

/- The reference of layer 23: Parse: its state. -/
set_option linter.unusedVariables false
set_option linter.unusedSimpArgs false
namespace Go.Proofs.YtdcafoekbnacnaaGreatDoor
open Go.RowKit Go.Shelf
attribute [local go_sem] Oper.semAt_some

/-- the reader, the result's box, the scheme's box with the parts so far -/
structure PQS (w2 : World) (b2 bR b9 B N : Nat) (v : Value) (en : Int) (L : List Tk) (c : List UInt8) (acc : List Prt) (q : RQ) (W : World) : Prop where
  r : Rdr w2 bR v en L q W
  z : Blk W b2 24 #[.string ⟨#[]⟩, .slice none 0 0]
  sz : N ≤ W.heap.size
  s : ∃ vp, Blk W b9 24 #[.string (bs c), vp] ∧ OwnP W B vp acc ∧ ∀ g, vp.ownBlock = some g → g < N
/-- the places: the boxes lie apart, and ahead of the parts' rows -/
structure Lie (w2 : World) (b2 bR b9 B N : Nat) : Prop where
  e1 : b2 < bR
  e2 : bR < b9
  e3 : b9 < B
  e4 : B ≤ N
  e5 : w2.heap.size ≤ bR
theorem PQS.to {w2 : World} {b2 bR b9 B N : Nat} {v : Value} {en : Int} {L : List Tk} {c : List UInt8} {acc : List Prt} {q : RQ} {W W' : World} (h : PQS w2 b2 bR b9 B N v en L c acc q W) (hb : Below W.heap.size W W') : PQS w2 b2 bR b9 B N v en L c acc q W' := by
  obtain ⟨vp, h1, h2, h3⟩ := h.s
  exact ⟨h.r.to hb, h.z.to hb, Nat.le_trans h.sz hb.size, vp, h1.to hb, own_to' h2 hb, h3⟩
theorem PQS.drewN {w2 : World} {b2 bR b9 B N : Nat} {v : Value} {en : Int} {L : List Tk} {c : List UInt8} {acc : List Prt} {q : RQ} {W : World} (h : PQS w2 b2 bR b9 B N v en L c acc q W) (n : Nat) : PQS w2 b2 bR b9 B N v en L c acc q (W.drewN n) := PQS.to h (below_drewN (Below.refl _ _) n)
theorem PQS.only {w2 : World} {b2 bR b9 B N : Nat} {v : Value} {en : Int} {L : List Tk} {c : List UInt8} {acc : List Prt} {q q' : RQ} {W W' : World} (hl : Lie w2 b2 bR b9 B N) (h : PQS w2 b2 bR b9 B N v en L c acc q W) (ho : Only W W' bR) (hr : Rdr w2 bR v en L q' W') : PQS w2 b2 bR b9 B N v en L c acc q' W' := by
  obtain ⟨vp, h1, h2, h3⟩ := h.s
  have e1 := hl.e1
  have e2 := hl.e2
  have e3 := hl.e3
  refine ⟨hr, ho.blk h.z (by omega), Nat.le_trans h.sz ho.size, vp, ho.blk h1 (by omega), h2.kept ho (.inr ?_), h3⟩
  intro e
  have := (h2.lt bR e).1
  omega
theorem PQS.far {w2 : World} {b2 bR b9 B N : Nat} {v : Value} {en : Int} {L : List Tk} {c : List UInt8} {acc : List Prt} {q : RQ} {W : World} {b j : Nat} (hl : Lie w2 b2 bR b9 B N) (h : PQS w2 b2 bR b9 B N v en L c acc q W) (hb : N ≤ b) (u : Value) : PQS w2 b2 bR b9 B N v en L c acc q (W.setCell ⟨b, j, none⟩ u) := by
  obtain ⟨vp, h1, h2, h3⟩ := h.s
  have e1 := hl.e1
  have e2 := hl.e2
  have e3 := hl.e3
  have e4 := hl.e4
  have e5 := hl.e5
  obtain ⟨hbel, i, hi, hr, hB⟩ := h.r
  have ho : Only W (W.setCell ⟨b, j, none⟩ u) b := (Only.refl W b).set_ j u
  refine ⟨⟨hbel.setCell (p := ⟨b, j, none⟩) (by show _ ≤ b; omega) u, i, hi, hr, ho.blk hB (by omega)⟩, ho.blk h.z (by omega), Nat.le_trans h.sz ho.size, vp, ho.blk h1 (by omega), h2.kept ho (.inr ?_), h3⟩
  intro e
  have := h3 b e
  omega
theorem PQS.more {w2 : World} {b2 bR b9 B N : Nat} {v : Value} {en : Int} {L : List Tk} {c : List UInt8} {acc : List Prt} {q : RQ} {W : World} {N' : Nat} (h : PQS w2 b2 bR b9 B N v en L c acc q W) (hN : N ≤ N') (hS : N' ≤ W.heap.size) : PQS w2 b2 bR b9 B N' v en L c acc q W := by
  obtain ⟨vp, h1, h2, h3⟩ := h.s
  exact ⟨h.r, h.z, hS, vp, h1, h2, fun g hg => Nat.lt_of_lt_of_le (h3 g hg) hN⟩
theorem PQS.setC {w2 : World} {b2 bR b9 B N : Nat} {v : Value} {en : Int} {L : List Tk} {c : List UInt8} {acc : List Prt} {q : RQ} {W : World} (hl : Lie w2 b2 bR b9 B N) (h : PQS w2 b2 bR b9 B N v en L c acc q W) (c' : List UInt8) : PQS w2 b2 bR b9 B N v en L c' acc q (W.setCell ⟨b9, 0, none⟩ (.string (bs c'))) := by
  obtain ⟨vp, h1, h2, h3⟩ := h.s
  have e1 := hl.e1
  have e2 := hl.e2
  have e3 := hl.e3
  have e4 := hl.e4
  have e5 := hl.e5
  obtain ⟨hbel, i, hi, hr, hB⟩ := h.r
  have ho : Only W (W.setCell ⟨b9, 0, none⟩ (.string (bs c'))) b9 := (Only.refl W b9).set_ 0 _
  refine ⟨⟨hbel.setCell (p := ⟨b9, 0, none⟩) (by show _ ≤ b9; omega) _, i, hi, hr, ho.blk hB (by omega)⟩, ho.blk h.z (by omega), Nat.le_trans h.sz ho.size, vp, h1.set_ 0 (.string (bs c')), h2.kept ho (.inr ?_), h3⟩
  intro e
  have := (h2.lt b9 e).1
  omega
theorem PQS.c0 {w2 : World} {b2 bR b9 B N : Nat} {v : Value} {en : Int} {L : List Tk} {c : List UInt8} {acc : List Prt} {q : RQ} {W : World} (h : PQS w2 b2 bR b9 B N v en L c acc q W) : W.cell? ⟨b9, 0, none⟩ = some (.string (bs c)) := by
  obtain ⟨vp, h1, _⟩ := h.s
  exact h1.cell 0
theorem PQS.f9 {w2 : World} {b2 bR b9 B N : Nat} {v : Value} {en : Int} {L : List Tk} {c : List UInt8} {acc : List Prt} {q : RQ} {W : World} (h : PQS w2 b2 bR b9 B N v en L c acc q W) (j : Nat) : W.frozen? ⟨b9, j, none⟩ = false := by
  obtain ⟨vp, h1, _⟩ := h.s
  exact h1.frozen j
theorem fault_ok {e a : Int} {q : RQ} (he : e ≠ 0) : (faultQ e a q).e ≠ 0 := by
  unfold faultQ
  split
  · exact he
  · assumption
theorem take_ok {en k : Int} {s : List UInt8} {q : RQ} (h : (takeQ en k s q).2.e = 0) : q.e = 0 ∧ (takeQ en k s q).2.a = q.a ∧ (takeQ en k s q).2.r.length < q.r.length := by
  unfold takeQ at h ⊢
  split at h
  · exact absurd h (fault_ok (by decide))
  · rename_i t r e
    dsimp only at h ⊢
    split at h
    · exact absurd h (fault_ok (by decide))
    · rename_i hc
      rw [e]
      rw [if_neg hc]
      exact ⟨h, rfl, by simp⟩
theorem betw_okQ {en : Int} {w : List UInt8} {q : RQ} (h : (betwQ en w q).2.e = 0) : q.e = 0 ∧ (betwQ en w q).2.a = q.a ∧ (betwQ en w q).2.r.length ≤ q.r.length := by
  unfold betwQ at h ⊢
  by_cases hs : seesQ 1 w q = true
  · rw [if_pos hs] at h ⊢
    dsimp only at h ⊢
    by_cases hc : (takeQ en 3 [] ⟨q.r.tail, q.e, q.a⟩).1.s = [] ∨ smallB (takeQ en 3 [] ⟨q.r.tail, q.e, q.a⟩).1.s = false
    · rw [if_pos hc] at h
      exact absurd h (fault_ok (by decide))
    · rw [if_neg hc] at h ⊢
      have := take_ok h
      refine ⟨this.1, this.2.1, ?_⟩
      have h3 := this.2.2
      rw [List.length_tail] at h3
      omega
  · rw [if_neg hs] at h ⊢
    exact ⟨h, rfl, Nat.le_refl _⟩
theorem name_ok {others : List Prt} {t : Tk} {q : RQ} (h : (nameQ others t q).e = 0) : nameQ others t q = q := by
  unfold nameQ at h ⊢
  split at h
  · exact absurd h (fault_ok (by decide))
  · rename_i h1
    rw [if_neg h1]
    split at h
    · exact absurd h (fault_ok (by decide))
    · rename_i h2
      rw [if_neg h2]
theorem need_ok {q : RQ} : (needQ q).e = q.e ∧ (needQ q).a = q.a ∧ (needQ q).r.length ≤ q.r.length := by
  unfold needQ
  split
  · exact ⟨rfl, rfl, by dsimp only; rw [List.length_tail]; omega⟩
  · exact ⟨rfl, rfl, Nat.le_refl _⟩
theorem part_okQ {en : Int} {others : List Prt} {q : RQ} (h : (partQ en others q).2.e = 0) : q.e = 0 ∧ (partQ en others q).2.a = q.a ∧ (partQ en others q).2.r.length < q.r.length := by
  unfold partQ at h ⊢
  dsimp only at h ⊢
  obtain ⟨h1, h2, h3⟩ := take_ok h
  obtain ⟨h4, h5, h6⟩ := betw_okQ h1
  obtain ⟨h7, h8, h9⟩ := betw_okQ h4
  have hn := name_ok h7
  rw [hn] at h2 h3 h5 h6 h7 h8 h9 ⊢
  obtain ⟨ha, hb, hc⟩ := take_ok h7
  obtain ⟨hd, he, hf⟩ := need_ok (q := q)
  exact ⟨by rw [← hd]; exact ha, by rw [h2, h5, h8, hb, he], by omega⟩
end Go.Proofs.YtdcafoekbnacnaaGreatDoor
