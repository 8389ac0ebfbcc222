/- Several texts as one, in build order. -/
import Derived.Test.YtdcafoekbnacnaaGreatDoorMD
import Derived.Deep.DeepCutAuto
import Derived.BigQuiet
import Derived.Test.YtdcafoekbnacnaaGreatDoorMC
import Derived.Test.YtdcafoekbnacnaaGreatDoorMB
import Derived.Test.YtdcafoekbnacnaaGreatDoorMA
/- The reference of layer 24: Read. -/
set_option linter.unusedVariables false
set_option linter.unusedSimpArgs false
namespace Go.Proofs.YtdcafoekbnacnaaGreatDoor
open Go.RowKit Go.Shelf
attribute [local go_sem] Oper.semAt_some

/-- what lies in memory while the reference reads -/
structure RB (w : World) (sv : Array Value) (bo : Nat) (out : List (List UInt8)) (W : World) : Prop where
  s : Blk W w.heap.size 24 sv
  r : Blk W (w.heap.size + 1) 26 Z9
  o : Blk W bo 26 (fieldsC out)
  bel : Below w.heap.size w W
  lt : w.heap.size + 1 < bo
section
variable {w : World} {sv : Array Value} {bo : Nat} {out : List (List UInt8)} {W W' : World}
theorem RB.to (h : RB w sv bo out W) (hb : Below W.heap.size W W') : RB w sv bo out W' := ⟨h.s.to hb, h.r.to hb, h.o.to hb, below_to h.bel (Nat.le_refl _) hb, h.lt⟩
theorem RB.drewN (h : RB w sv bo out W) (n : Nat) : RB w sv bo out (W.drewN n) := h.to (below_drewN (Below.refl _ _) n)
theorem RB.drew (h : RB w sv bo out W) : RB w sv bo out W.drew := h.to (Below.refl _ _).drew
theorem RB.setO (h : RB w sv bo out W) (k : Nat) (x : List UInt8) : RB w sv bo (out.set k x) (W.setCell ⟨bo, k, none⟩ (.string (bs x))) :=
  ⟨h.s.far (p := ⟨bo, k, none⟩) (by show w.heap.size ≠ bo; have := h.lt; omega) _, h.r.far (p := ⟨bo, k, none⟩) (by show w.heap.size + 1 ≠ bo; have := h.lt; omega) _, by rw [fieldsC_set]; exact h.o.set_ _ _, h.bel.setCell (p := ⟨bo, k, none⟩) (by show w.heap.size ≤ bo; have := h.lt; omega) _, h.lt⟩
end
/-- the search for the next part: the last one so far that stands there -/
def NxtI (s : Sch) (t : List UInt8) (a j : Nat) (nx : Int) (m : Nat) : Prop :=
  (nx = -1 ∧ ∀ i p, i < m → s.ps[a + i]? = some p → ¬ p.b <+: t.drop j) ∨ (∃ i p, nx = ((a + i : Nat) : Int) ∧ StdP s t a j i p)
theorem NxtI.no {s : Sch} {t : List UInt8} {a j m : Nat} {nx : Int} {p : Prt} (h : NxtI s t a j nx m) (hp : s.ps[a + m]? = some p) (hb : ¬ p.b <+: t.drop j) : NxtI s t a j nx (m + 1) := by
  rcases h with ⟨e, h⟩ | h
  · refine .inl ⟨e, fun i q hi hq => ?_⟩
    rcases Nat.lt_or_ge i m with h1 | h1
    · exact h i q h1 hq
    · obtain rfl : i = m := by omega
      rw [hp] at hq; cases hq; exact hb
  · exact .inr h
theorem NxtI.none {s : Sch} {t : List UInt8} {a j : Nat} (h : ∀ i p, i < (nxtL (s.ps.drop a)).length → s.ps[a + i]? = some p → ¬ p.b <+: t.drop j) : ∀ p ∈ nxtL (s.ps.drop a), ¬ p.b <+: t.drop j := fun p hp => by
  obtain ⟨i, hi, rfl⟩ := List.getElem_of_mem hp
  have h1 := nxt_at (s.ps.drop a) i hi
  rw [List.getElem?_eq_getElem hi, List.getElem?_drop] at h1
  exact h i _ hi h1.symm
set_option maxRecDepth 100000 in
set_option maxHeartbeats 8000000 in
theorem rRead24_any (s : Sch) (hl0 : s.ps.length ≤ 1000000) (hc0 : s.c.length ≤ 140737488355328) (hb0 : ∀ p ∈ s.ps, p.b.length ≤ 1000000 ∧ p.a.length ≤ 1000000) (v : Value) (t : List UInt8) (ht : t.length ≤ 100000) (w : World) (hP : PartsAt w v s.ps) :
    Calls Tryz.prog 35 #[.agg #[.string (bs s.c), v], .string (bs t)] w fun e w' => e = .returned (.tuple #[.agg (fieldsC (fin24 s t).1), .int .i64 (fin24 s t).2.1, .int .i64 (fin24 s t).2.2]) ∧ Below w.heap.size w w' := by
  have HP0 := hide hP
  obtain ⟨A, cp, rfl, hc⟩ := hP.slice
  clear hP
  have HBL := hide hb0
  clear hb0
  have hsz := bs_size t
  go_enter Tryz.func35, Tryz.ntmps35
  go_upto_region 1 with fail
  obtain ⟨Xs, Xr, B0⟩ := box2 w 24 #[.string (bs s.c), .slice A s.ps.length cp] 26 #[.string ⟨#[]⟩, .string ⟨#[]⟩, .string ⟨#[]⟩, .string ⟨#[]⟩, .string ⟨#[]⟩, .string ⟨#[]⟩, .string ⟨#[]⟩, .string ⟨#[]⟩, .string ⟨#[]⟩]
  have HXs := hide Xs
  have HXr := hide Xr
  have HB := hide B0
  have HP := hide (HP0.out.to B0)
  clear Xs Xr B0 HP0
  generalize (w.alloc (.cells #[.string (bs s.c), .slice A s.ps.length cp] 24)).alloc (.cells #[.string ⟨#[]⟩, .string ⟨#[]⟩, .string ⟨#[]⟩, .string ⟨#[]⟩, .string ⟨#[]⟩, .string ⟨#[]⟩, .string ⟨#[]⟩, .string ⟨#[]⟩, .string ⟨#[]⟩] 26) = w1 at *
  have s0 : w1.cell? ⟨w.heap.size, 0, none⟩ = some (.string (bs s.c)) := HXs.out.cell 0
  have s1 : w1.cell? ⟨w.heap.size, 1, none⟩ = some (.slice A s.ps.length cp) := HXs.out.cell 1
  go_wp2_with fail
  clear s0 s1
  refine (rValid23_any s.c s.ps hl0 hc0 HBL.out (.slice A s.ps.length cp) w1 HP.out).mono ?_
  rintro e w2 ⟨rfl, hb⟩
  have zHXs := hide (HXs.out.to hb)
  have zHXr := hide (HXr.out.to hb)
  have zHP := hide (HP.out.to hb)
  have zHB := hide (below_to HB.out (Nat.le_refl _) hb)
  clear hb HB HXs HXr HP
  have HXs := zHXs
  have HXr := zHXr
  have HP := zHP
  have HB := zHB
  clear zHXs zHXr zHP zHB
  cases hv : validB isNm s with
  | false =>
    have HR : Hid (fin24 s t = (zeroF, 1, -1)) := by show _ = _; unfold fin24; rw [hv]; exact readF_no _ _
    clear hv
    have z0 : w2.cell? ⟨w.heap.size + 1, 0, none⟩ = some (.string ⟨#[]⟩) := HXr.out.cell 0
    have y0 := HXr.out.frozen 0
    have z1 : w2.cell? ⟨w.heap.size + 1, 1, none⟩ = some (.string ⟨#[]⟩) := HXr.out.cell 1
    have y1 := HXr.out.frozen 1
    have z2 : w2.cell? ⟨w.heap.size + 1, 2, none⟩ = some (.string ⟨#[]⟩) := HXr.out.cell 2
    have y2 := HXr.out.frozen 2
    have z3 : w2.cell? ⟨w.heap.size + 1, 3, none⟩ = some (.string ⟨#[]⟩) := HXr.out.cell 3
    have y3 := HXr.out.frozen 3
    have z4 : w2.cell? ⟨w.heap.size + 1, 4, none⟩ = some (.string ⟨#[]⟩) := HXr.out.cell 4
    have y4 := HXr.out.frozen 4
    have z5 : w2.cell? ⟨w.heap.size + 1, 5, none⟩ = some (.string ⟨#[]⟩) := HXr.out.cell 5
    have y5 := HXr.out.frozen 5
    have z6 : w2.cell? ⟨w.heap.size + 1, 6, none⟩ = some (.string ⟨#[]⟩) := HXr.out.cell 6
    have y6 := HXr.out.frozen 6
    have z7 : w2.cell? ⟨w.heap.size + 1, 7, none⟩ = some (.string ⟨#[]⟩) := HXr.out.cell 7
    have y7 := HXr.out.frozen 7
    have z8 : w2.cell? ⟨w.heap.size + 1, 8, none⟩ = some (.string ⟨#[]⟩) := HXr.out.cell 8
    have y8 := HXr.out.frozen 8
    go_wp2_with fail
    have hbk : Blk (((((((((w2.setCell ⟨w.heap.size + 1, 0, none⟩ (.string ⟨#[]⟩)).setCell ⟨w.heap.size + 1, 1, none⟩ (.string ⟨#[]⟩)).setCell ⟨w.heap.size + 1, 2, none⟩ (.string ⟨#[]⟩)).setCell ⟨w.heap.size + 1, 3, none⟩ (.string ⟨#[]⟩)).setCell ⟨w.heap.size + 1, 4, none⟩ (.string ⟨#[]⟩)).setCell ⟨w.heap.size + 1, 5, none⟩ (.string ⟨#[]⟩)).setCell ⟨w.heap.size + 1, 6, none⟩ (.string ⟨#[]⟩)).setCell ⟨w.heap.size + 1, 7, none⟩ (.string ⟨#[]⟩)).setCell ⟨w.heap.size + 1, 8, none⟩ (.string ⟨#[]⟩)) (w.heap.size + 1) 26 Z9 := (((((((((HXr.out.set_ 0 (.string ⟨#[]⟩)).set_ 1 (.string ⟨#[]⟩)).set_ 2 (.string ⟨#[]⟩)).set_ 3 (.string ⟨#[]⟩)).set_ 4 (.string ⟨#[]⟩)).set_ 5 (.string ⟨#[]⟩)).set_ 6 (.string ⟨#[]⟩)).set_ 7 (.string ⟨#[]⟩)).set_ 8 (.string ⟨#[]⟩))
    refine bodyPost_ret (results_ctt (p := 4) (u := 5) (x := 6) rfl _ _ (w.heap.size + 1) 26 _ _ rfl hbk Tryz.underlying26 rfl (by kernel_rfl)) rfl ⟨?_, (((((((((HB.out.setCell (p := ⟨w.heap.size + 1, 0, none⟩) (by show w.heap.size ≤ w.heap.size + 1; omega) (.string ⟨#[]⟩)).setCell (p := ⟨w.heap.size + 1, 1, none⟩) (by show w.heap.size ≤ w.heap.size + 1; omega) (.string ⟨#[]⟩)).setCell (p := ⟨w.heap.size + 1, 2, none⟩) (by show w.heap.size ≤ w.heap.size + 1; omega) (.string ⟨#[]⟩)).setCell (p := ⟨w.heap.size + 1, 3, none⟩) (by show w.heap.size ≤ w.heap.size + 1; omega) (.string ⟨#[]⟩)).setCell (p := ⟨w.heap.size + 1, 4, none⟩) (by show w.heap.size ≤ w.heap.size + 1; omega) (.string ⟨#[]⟩)).setCell (p := ⟨w.heap.size + 1, 5, none⟩) (by show w.heap.size ≤ w.heap.size + 1; omega) (.string ⟨#[]⟩)).setCell (p := ⟨w.heap.size + 1, 6, none⟩) (by show w.heap.size ≤ w.heap.size + 1; omega) (.string ⟨#[]⟩)).setCell (p := ⟨w.heap.size + 1, 7, none⟩) (by show w.heap.size ≤ w.heap.size + 1; omega) (.string ⟨#[]⟩)).setCell (p := ⟨w.heap.size + 1, 8, none⟩) (by show w.heap.size ≤ w.heap.size + 1; omega) (.string ⟨#[]⟩))⟩
    rw [HR.out]; rfl
  | true =>
    have HVL := hide ((validB_iff isNm s).1 hv)
    have HR0 : Hid (RdJ s t 0 0 zeroF) := RdJ.start hv
    clear hv
    go_upto_region 4 with fail
    have HRB0 : Hid (RB w #[.string (bs s.c), .slice A s.ps.length cp] w2.heap.size zeroF (w2.alloc (.cells #[.string ⟨#[]⟩, .string ⟨#[]⟩, .string ⟨#[]⟩, .string ⟨#[]⟩, .string ⟨#[]⟩, .string ⟨#[]⟩, .string ⟨#[]⟩, .string ⟨#[]⟩, .string ⟨#[]⟩] 26))) := ⟨HXs.out.alloc _, HXr.out.alloc _, Blk.new _ _ _, HB.out.alloc HB.out.size _, HXr.out.lt⟩
    have HPB : Hid (∀ W, Below w2.heap.size w2 W → PartsAt W (.slice A s.ps.length cp) s.ps) := fun W h => HP.out.to h
    have HB0 := hide (below_one w2 (.cells #[.string ⟨#[]⟩, .string ⟨#[]⟩, .string ⟨#[]⟩, .string ⟨#[]⟩, .string ⟨#[]⟩, .string ⟨#[]⟩, .string ⟨#[]⟩, .string ⟨#[]⟩, .string ⟨#[]⟩] 26))
    clear HXs HXr HB HP
    generalize w2.alloc (.cells #[.string ⟨#[]⟩, .string ⟨#[]⟩, .string ⟨#[]⟩, .string ⟨#[]⟩, .string ⟨#[]⟩, .string ⟨#[]⟩, .string ⟨#[]⟩, .string ⟨#[]⟩, .string ⟨#[]⟩] 26) = w3 at *
    generalize hbo : w2.heap.size = bo at *
    have HLE := hide (Nat.le_of_eq hbo.symm)
    clear hbo
    go_wp2_with fail
    go_loopw [8, 9] (fun l y wr => ∃ (a j : Nat) (i : Int) (out : List (List UInt8)), l = .int .i64 i ∧ y = .int .i64 (j : Int) ∧ i + 1 = (a : Int) ∧ RB w #[.string (bs s.c), .slice A s.ps.length cp] bo out wr ∧ RdJ s t a j out ∧ Below bo w2 wr) (fun l _ _ => s.ps.length - (intOf l + 1).toNat)
    case atStart => exact ⟨0, 0, -1, zeroF, rfl, rfl, rfl, HRB0.out, HR0.out, HB0.out⟩
    case round =>
      obtain ⟨a, j, i, out, rfl, rfl, hia, hRB, hRd, hB3⟩ := hrel
      have HRB := hide hRB
      have HRD := hide hRd
      have HB3 := hide hB3
      have HIA := hide hia
      have haL := hRd.al
      have hjL := hRd.jl
      clear hRB hRd hB3 HRB0 HR0
      go_upto_region 6 with fail
      go_cut [28] (fun x wx => ∃ b : Bool, x = .bool b ∧ (b = true → t.drop j ≠ [] ∨ (s.ps.drop a).any (·.need) = true) ∧ (b = false → fin24 s t = (out, 0, 0)) ∧ RB w #[.string (bs s.c), .slice A s.ps.length cp] bo out wx ∧ Below bo w2 wx)
      case first =>
        by_cases hjt : j < t.length
        · have e1 : decide ((j : Int) < (t.length : Int)) = true := decide_eq_true (by omega)
          have e1' : decide (j < t.length) = true := decide_eq_true hjt
          have HC : Hid (t.drop j ≠ []) := fun h => by have := congrArg List.length h; rw [List.length_drop] at this; simp at this; omega
          clear hjt
          go_wp2_with fail
          go_meet
          exact ⟨true, rfl, fun _ => .inl HC.out, fun h => (by cases h), HRB.out, HB3.out⟩
        · obtain rfl : j = t.length := by omega
          have e1 : decide ((t.length : Int) < (t.length : Int)) = false := by simp
          have e1' : decide (t.length < t.length) = false := by simp
          have CN := rneeded_any s.c s.ps hl0 (.slice A s.ps.length cp) i a hia haL wr (HPB.out _ HB3.out)
          obtain ⟨nb, hnb⟩ : ∃ b, (s.ps.drop a).any (·.need) = b := ⟨_, rfl⟩
          rw [hnb] at CN
          have HNB := hide hnb
          clear hnb
          have s0 : wr.cell? ⟨w.heap.size, 0, none⟩ = some (.string (bs s.c)) := HRB.out.s.cell 0
          have s1 : wr.cell? ⟨w.heap.size, 1, none⟩ = some (.slice A s.ps.length cp) := HRB.out.s.cell 1
          clear hia
          go_wp2_with fail
          refine CN.mono ?_
          rintro e w5 ⟨rfl, hb⟩
          have HRB5 := hide (HRB.out.to hb)
          have HB5 := hide (below_to HB3.out HLE.out hb)
          clear hb s0 s1 CN
          go_wp2_with fail
          go_meet
          exact ⟨nb, rfl, fun h => .inr (HNB.out.trans h), fun h => HRD.out.done (HNB.out.trans h), HRB5.out, HB5.out⟩
      case rest =>
        obtain ⟨b, rfl, hb1, hb2, hRB, hB⟩ := hcut
        have HRB6 := hide hRB
        have HB6 := hide hB
        clear hRB hB HRB HB3
        generalize wc = w6 at *
        cases b with
        | false =>
          have HFIN := hide (hb2 rfl)
          clear hb1 hb2
          obtain ⟨o0, o1, o2, o3, o4, o5, o6, o7, o8, ho⟩ := nine HRD.out.len
          subst ho
          have z0 : w6.cell? ⟨w.heap.size + 1, 0, none⟩ = some (.string ⟨#[]⟩) := HRB6.out.r.cell 0
          have y0 := HRB6.out.r.frozen 0
          have z1 : w6.cell? ⟨w.heap.size + 1, 1, none⟩ = some (.string ⟨#[]⟩) := HRB6.out.r.cell 1
          have y1 := HRB6.out.r.frozen 1
          have z2 : w6.cell? ⟨w.heap.size + 1, 2, none⟩ = some (.string ⟨#[]⟩) := HRB6.out.r.cell 2
          have y2 := HRB6.out.r.frozen 2
          have z3 : w6.cell? ⟨w.heap.size + 1, 3, none⟩ = some (.string ⟨#[]⟩) := HRB6.out.r.cell 3
          have y3 := HRB6.out.r.frozen 3
          have z4 : w6.cell? ⟨w.heap.size + 1, 4, none⟩ = some (.string ⟨#[]⟩) := HRB6.out.r.cell 4
          have y4 := HRB6.out.r.frozen 4
          have z5 : w6.cell? ⟨w.heap.size + 1, 5, none⟩ = some (.string ⟨#[]⟩) := HRB6.out.r.cell 5
          have y5 := HRB6.out.r.frozen 5
          have z6 : w6.cell? ⟨w.heap.size + 1, 6, none⟩ = some (.string ⟨#[]⟩) := HRB6.out.r.cell 6
          have y6 := HRB6.out.r.frozen 6
          have z7 : w6.cell? ⟨w.heap.size + 1, 7, none⟩ = some (.string ⟨#[]⟩) := HRB6.out.r.cell 7
          have y7 := HRB6.out.r.frozen 7
          have z8 : w6.cell? ⟨w.heap.size + 1, 8, none⟩ = some (.string ⟨#[]⟩) := HRB6.out.r.cell 8
          have y8 := HRB6.out.r.frozen 8
          have q0 : w6.cell? ⟨bo, 0, none⟩ = some (.string (bs o0)) := HRB6.out.o.cell 0
          have q1 : w6.cell? ⟨bo, 1, none⟩ = some (.string (bs o1)) := HRB6.out.o.cell 1
          have q2 : w6.cell? ⟨bo, 2, none⟩ = some (.string (bs o2)) := HRB6.out.o.cell 2
          have q3 : w6.cell? ⟨bo, 3, none⟩ = some (.string (bs o3)) := HRB6.out.o.cell 3
          have q4 : w6.cell? ⟨bo, 4, none⟩ = some (.string (bs o4)) := HRB6.out.o.cell 4
          have q5 : w6.cell? ⟨bo, 5, none⟩ = some (.string (bs o5)) := HRB6.out.o.cell 5
          have q6 : w6.cell? ⟨bo, 6, none⟩ = some (.string (bs o6)) := HRB6.out.o.cell 6
          have q7 : w6.cell? ⟨bo, 7, none⟩ = some (.string (bs o7)) := HRB6.out.o.cell 7
          have q8 : w6.cell? ⟨bo, 8, none⟩ = some (.string (bs o8)) := HRB6.out.o.cell 8
          clear hia
          go_wp2_with fail
          have hbk : Blk (((((((((w6.setCell ⟨w.heap.size + 1, 0, none⟩ (.string (bs o0))).setCell ⟨w.heap.size + 1, 1, none⟩ (.string (bs o1))).setCell ⟨w.heap.size + 1, 2, none⟩ (.string (bs o2))).setCell ⟨w.heap.size + 1, 3, none⟩ (.string (bs o3))).setCell ⟨w.heap.size + 1, 4, none⟩ (.string (bs o4))).setCell ⟨w.heap.size + 1, 5, none⟩ (.string (bs o5))).setCell ⟨w.heap.size + 1, 6, none⟩ (.string (bs o6))).setCell ⟨w.heap.size + 1, 7, none⟩ (.string (bs o7))).setCell ⟨w.heap.size + 1, 8, none⟩ (.string (bs o8))) (w.heap.size + 1) 26 (fieldsC [o0, o1, o2, o3, o4, o5, o6, o7, o8]) := (((((((((HRB6.out.r.set_ 0 (.string (bs o0))).set_ 1 (.string (bs o1))).set_ 2 (.string (bs o2))).set_ 3 (.string (bs o3))).set_ 4 (.string (bs o4))).set_ 5 (.string (bs o5))).set_ 6 (.string (bs o6))).set_ 7 (.string (bs o7))).set_ 8 (.string (bs o8)))
          refine bodyPost_ret (results_ctt (p := 4) (u := 5) (x := 6) rfl _ _ (w.heap.size + 1) 26 _ _ rfl hbk Tryz.underlying26 rfl (by kernel_rfl)) rfl ⟨?_, (((((((((HRB6.out.bel.setCell (p := ⟨w.heap.size + 1, 0, none⟩) (by show w.heap.size ≤ w.heap.size + 1; omega) (.string (bs o0))).setCell (p := ⟨w.heap.size + 1, 1, none⟩) (by show w.heap.size ≤ w.heap.size + 1; omega) (.string (bs o1))).setCell (p := ⟨w.heap.size + 1, 2, none⟩) (by show w.heap.size ≤ w.heap.size + 1; omega) (.string (bs o2))).setCell (p := ⟨w.heap.size + 1, 3, none⟩) (by show w.heap.size ≤ w.heap.size + 1; omega) (.string (bs o3))).setCell (p := ⟨w.heap.size + 1, 4, none⟩) (by show w.heap.size ≤ w.heap.size + 1; omega) (.string (bs o4))).setCell (p := ⟨w.heap.size + 1, 5, none⟩) (by show w.heap.size ≤ w.heap.size + 1; omega) (.string (bs o5))).setCell (p := ⟨w.heap.size + 1, 6, none⟩) (by show w.heap.size ≤ w.heap.size + 1; omega) (.string (bs o6))).setCell (p := ⟨w.heap.size + 1, 7, none⟩) (by show w.heap.size ≤ w.heap.size + 1; omega) (.string (bs o7))).setCell (p := ⟨w.heap.size + 1, 8, none⟩) (by show w.heap.size ≤ w.heap.size + 1; omega) (.string (bs o8)))⟩
          rw [HFIN.out]; rfl
        | true =>
          have HCC := hide (hb1 rfl)
          clear hb1 hb2
          have CX := rNext_any s.c s.ps hl0 (.slice A s.ps.length cp) i a hia haL w6 (HPB.out _ HB6.out)
          have s0 : w6.cell? ⟨w.heap.size, 0, none⟩ = some (.string (bs s.c)) := HRB6.out.s.cell 0
          have s1 : w6.cell? ⟨w.heap.size, 1, none⟩ = some (.slice A s.ps.length cp) := HRB6.out.s.cell 1
          clear hia
          go_wp2_with fail
          refine CX.mono ?_
          rintro e w7 ⟨vl, rfl, hOI, hb⟩
          have HRB7 := hide (HRB6.out.to hb)
          have HB7 := hide (below_to HB6.out HLE.out hb)
          obtain ⟨Al, cl, rfl⟩ := hOI.slice
          have HOI := hide hOI
          have HIL : Hid ((idxR (s.ps.drop a) a).length = (nxtL (s.ps.drop a)).length) := idx_len _ _
          have HNL := hide (nxt_len (s.ps.drop a))
          obtain ⟨LL, hLL⟩ : ∃ x, (idxR (s.ps.drop a) a).length = x := ⟨_, rfl⟩
          rw [hLL] at HIL ⊢
          have HLL := hide hLL
          clear hLL hOI hb s0 s1 CX HRB6 HB6
          go_wp2_with fail
          go_loopw [10, 12] (fun x k wr => ∃ (m : Nat) (nx : Int), k = .int .i64 (m : Int) ∧ x = .int .i64 nx ∧ m ≤ LL ∧ NxtI s t a j nx m ∧ RB w #[.string (bs s.c), .slice A s.ps.length cp] bo out wr ∧ Below w7.heap.size w7 wr) (fun _ k _ => LL - (intOf k).toNat)
          case atStart => exact ⟨0, -1, rfl, rfl, Nat.zero_le _, .inl ⟨rfl, fun i p h => absurd h (Nat.not_lt_zero _)⟩, HRB7.out, Below.refl _ _⟩
          case round =>
            obtain ⟨m, nx, rfl, rfl, hm, hNx, hRB, hB⟩ := hrel
            have HNX := hide hNx
            have HRB := hide hRB
            have HB := hide hB
            clear hNx hRB hB
            have hL9 : LL ≤ 1000000 := by have h1 := HIL.out; have h2 := HNL.out; rw [List.length_drop] at h2; omega
            by_cases hml : m < LL
            · have hmn : m < (nxtL (s.ps.drop a)).length := by have := HIL.out; omega
              obtain ⟨z, hz⟩ : ∃ z, a + m = z := ⟨_, rfl⟩
              have hzl : z < s.ps.length := by have := HNL.out; rw [List.length_drop] at this; omega
              obtain ⟨p, hp⟩ : ∃ p, s.ps[z]? = some p := ⟨_, List.getElem?_eq_getElem hzl⟩
              have hix := idx_at (s.ps.drop a) a m hmn
              rw [hz] at hix
              obtain ⟨g, hg, hgc, _, hgl⟩ := OwnI.at_ (OwnI.to HOI.out HB.out) hix
              subst hg
              obtain ⟨ad, cp', ea, _, hab, c0, c1, c2, c3⟩ := (HPB.out _ (below_to HB7.out HLE.out HB.out)).at_ hp
              injection ea with ea _ ec
              subst ec
              obtain rfl := ea
              have s1 : wr.cell? ⟨w.heap.size, 1, none⟩ = some (.slice (some ad) s.ps.length cp) := HRB.out.s.cell 1
              have HPM : Hid (s.ps[a + m]? = some p) := by show _ = _; rw [hz]; exact hp
              have hpb := (HBL.out p (List.mem_of_getElem? hp)).1
              have e1 : decide ((m : Int) < (LL : Int)) = true := decide_eq_true (by omega)
              have e1' : decide (m < LL) = true := decide_eq_true hml
              have k0 : (0 : Int) ≤ (m : Int) := by omega
              have k1 : (m : Int) < (LL : Int) := by omega
              have k2 : (0 : Int) ≤ (z : Int) := by omega
              have k3 : (z : Int) < (s.ps.length : Int) := by omega
              have HZ := hide hz
              have HMN := hide hmn
              have CG : ∀ w, Calls Tryz.prog 76 #[.string (bs t), .int .i64 (j : Int), .string (bs p.b)] w fun e w' => e = .returned (.bool (decide (p.b <+: t.drop j))) ∧ w' = w := fun w => rstands_any t p.b j hjL (Nat.le_trans ht (by decide)) hpb w
              clear hz hp hix hab hgl hpb hmn
              by_cases hst : p.b <+: t.drop j
              · rw [decide_eq_true hst] at CG
                have HST := hide hst
                clear hst
                go_wp2_with fail
                go_quiet ((go_at_call 76; exact Calls.quiet_of_same (CG _)))
                go_wp2_with fail
                go_roundw
                case rel => exact ⟨m + 1, (z : Int), by go_num, rfl, by omega, .inr ⟨m, p, by rw [HZ.out], StdP.mk' HMN.out HPM.out HST.out⟩, HRB.out.drewN _, below_drewN HB.out _⟩
                case measure => simp [intOf]; omega
              · rw [decide_eq_false hst] at CG
                have HST := hide (HNX.out.no HPM.out hst)
                clear hst
                go_wp2_with fail
                go_quiet ((go_at_call 76; exact Calls.quiet_of_same (CG _)))
                go_wp2_with fail
                go_roundw
                case rel => exact ⟨m + 1, nx, by go_num, rfl, by omega, HST.out, HRB.out.drewN _, below_drewN HB.out _⟩
                case measure => simp [intOf]; omega
            · obtain rfl : m = LL := by omega
              have e1 : decide ((m : Int) < (m : Int)) = false := by simp
              have HB8 := hide (below_to HB7.out HLE.out HB.out)
              rcases HNX.out with ⟨hnx, hno⟩ | ⟨im, p, hnx, hst⟩
              · have HFIN : Hid (fin24 s t = (zeroF, missE j t.length, (j : Int))) := HRD.out.none HVL.out HCC.out (NxtI.none (fun i p hi hp => hno i p (by have := HIL.out; omega) hp))
                subst hnx
                clear hno
                go_wp2_with fail
                refine (rmissing_any t j hjL (Nat.le_trans ht (by decide)) (wr)).mono ?_
                rintro e wm ⟨rfl, hbm⟩
                have HBm := hide (HRB.out.to hbm)
                clear hbm
                unfold Z9
                have z0 : wm.cell? ⟨w.heap.size + 1, 0, none⟩ = some (.string ⟨#[]⟩) := HBm.out.r.cell 0
                have y0 := HBm.out.r.frozen 0
                have z1 : wm.cell? ⟨w.heap.size + 1, 1, none⟩ = some (.string ⟨#[]⟩) := HBm.out.r.cell 1
                have y1 := HBm.out.r.frozen 1
                have z2 : wm.cell? ⟨w.heap.size + 1, 2, none⟩ = some (.string ⟨#[]⟩) := HBm.out.r.cell 2
                have y2 := HBm.out.r.frozen 2
                have z3 : wm.cell? ⟨w.heap.size + 1, 3, none⟩ = some (.string ⟨#[]⟩) := HBm.out.r.cell 3
                have y3 := HBm.out.r.frozen 3
                have z4 : wm.cell? ⟨w.heap.size + 1, 4, none⟩ = some (.string ⟨#[]⟩) := HBm.out.r.cell 4
                have y4 := HBm.out.r.frozen 4
                have z5 : wm.cell? ⟨w.heap.size + 1, 5, none⟩ = some (.string ⟨#[]⟩) := HBm.out.r.cell 5
                have y5 := HBm.out.r.frozen 5
                have z6 : wm.cell? ⟨w.heap.size + 1, 6, none⟩ = some (.string ⟨#[]⟩) := HBm.out.r.cell 6
                have y6 := HBm.out.r.frozen 6
                have z7 : wm.cell? ⟨w.heap.size + 1, 7, none⟩ = some (.string ⟨#[]⟩) := HBm.out.r.cell 7
                have y7 := HBm.out.r.frozen 7
                have z8 : wm.cell? ⟨w.heap.size + 1, 8, none⟩ = some (.string ⟨#[]⟩) := HBm.out.r.cell 8
                have y8 := HBm.out.r.frozen 8
                go_wp2_with fail
                have hbk : Blk (((((((((wm.setCell ⟨w.heap.size + 1, 0, none⟩ (.string ⟨#[]⟩)).setCell ⟨w.heap.size + 1, 1, none⟩ (.string ⟨#[]⟩)).setCell ⟨w.heap.size + 1, 2, none⟩ (.string ⟨#[]⟩)).setCell ⟨w.heap.size + 1, 3, none⟩ (.string ⟨#[]⟩)).setCell ⟨w.heap.size + 1, 4, none⟩ (.string ⟨#[]⟩)).setCell ⟨w.heap.size + 1, 5, none⟩ (.string ⟨#[]⟩)).setCell ⟨w.heap.size + 1, 6, none⟩ (.string ⟨#[]⟩)).setCell ⟨w.heap.size + 1, 7, none⟩ (.string ⟨#[]⟩)).setCell ⟨w.heap.size + 1, 8, none⟩ (.string ⟨#[]⟩)) (w.heap.size + 1) 26 Z9 := (((((((((HBm.out.r.set_ 0 (.string ⟨#[]⟩)).set_ 1 (.string ⟨#[]⟩)).set_ 2 (.string ⟨#[]⟩)).set_ 3 (.string ⟨#[]⟩)).set_ 4 (.string ⟨#[]⟩)).set_ 5 (.string ⟨#[]⟩)).set_ 6 (.string ⟨#[]⟩)).set_ 7 (.string ⟨#[]⟩)).set_ 8 (.string ⟨#[]⟩))
                refine bodyPost_ret (results_ctt (p := 4) (u := 5) (x := 6) rfl _ _ (w.heap.size + 1) 26 _ _ rfl hbk Tryz.underlying26 rfl (by kernel_rfl)) rfl ⟨?_, (((((((((HBm.out.bel.setCell (p := ⟨w.heap.size + 1, 0, none⟩) (by show w.heap.size ≤ w.heap.size + 1; omega) (.string ⟨#[]⟩)).setCell (p := ⟨w.heap.size + 1, 1, none⟩) (by show w.heap.size ≤ w.heap.size + 1; omega) (.string ⟨#[]⟩)).setCell (p := ⟨w.heap.size + 1, 2, none⟩) (by show w.heap.size ≤ w.heap.size + 1; omega) (.string ⟨#[]⟩)).setCell (p := ⟨w.heap.size + 1, 3, none⟩) (by show w.heap.size ≤ w.heap.size + 1; omega) (.string ⟨#[]⟩)).setCell (p := ⟨w.heap.size + 1, 4, none⟩) (by show w.heap.size ≤ w.heap.size + 1; omega) (.string ⟨#[]⟩)).setCell (p := ⟨w.heap.size + 1, 5, none⟩) (by show w.heap.size ≤ w.heap.size + 1; omega) (.string ⟨#[]⟩)).setCell (p := ⟨w.heap.size + 1, 6, none⟩) (by show w.heap.size ≤ w.heap.size + 1; omega) (.string ⟨#[]⟩)).setCell (p := ⟨w.heap.size + 1, 7, none⟩) (by show w.heap.size ≤ w.heap.size + 1; omega) (.string ⟨#[]⟩)).setCell (p := ⟨w.heap.size + 1, 8, none⟩) (by show w.heap.size ≤ w.heap.size + 1; omega) (.string ⟨#[]⟩))⟩
                rw [HFIN.out]; rfl
              · have hzl : a + im < s.ps.length := (List.getElem?_eq_some_iff.1 hst.ps).1
                obtain ⟨z, hz⟩ : ∃ z, a + im = z := ⟨_, rfl⟩
                rw [hz] at hnx hzl
                subst hnx
                have hp : s.ps[z]? = some p := by rw [← hz]; exact hst.ps
                have HST := hide hst
                have HZ := hide hz
                have hvp := (HVL.out.part p (List.mem_of_getElem? hp)).1
                obtain ⟨kp, hkp, hkp9⟩ : ∃ k : Nat, p.k = (k : Int) ∧ k < 9 := ⟨p.k.toNat, by omega, by omega⟩
                have hpb := HBL.out p (List.mem_of_getElem? hp)
                obtain ⟨ad, cp', ea, _, hab, c0, c1, c2, c3⟩ := (HPB.out _ HB8.out).at_ hp
                injection ea with ea _ ec
                subst ec
                rw [hkp] at c0
                have HKP := hide hkp
                have s1 : wr.cell? ⟨w.heap.size, 1, none⟩ = some (.slice (some ad) s.ps.length cp) := by rw [← ea]; exact HRB.out.s.cell 1
                clear ea
                have e2 : decide ((z : Int) < 0) = false := decide_eq_false (by omega)
                have k2 : (0 : Int) ≤ (z : Int) := by omega
                have k3 : (z : Int) < (s.ps.length : Int) := by omega
                have hkp0 : (kp : Int) < 9 := by omega
                have HJ2 := hide (hst.len hjL)
                have HB9 := hide (below_alloc HB8.out HLE.out (.cells #[.int .i64 (kp : Int), .string (bs p.b), .string (bs p.a), .bool p.need] 41))
                have HRB9 := hide (HRB.out.to (below_one wr (.cells #[.int .i64 (kp : Int), .string (bs p.b), .string (bs p.a), .bool p.need] 41)))
                have HX9 := hide (Blk.new wr 41 #[.int .i64 (kp : Int), .string (bs p.b), .string (bs p.a), .bool p.need])
                have HNB : Hid (bo < wr.heap.size) := HRB.out.o.lt
                clear hz hst hp hkp hvp HNX HIL HNL HLL HOI
                go_upto_region 17 with fail
                clear c0 c1 c2 c3 s1 hab e1 e2 HRB HB HB7 HB8 HRB7
                generalize wr.alloc (.cells #[.int .i64 (kp : Int), .string (bs p.b), .string (bs p.a), .bool p.need] 41) = w10 at *
                generalize wr.heap.size = bx at *
                have x1 : w10.cell? ⟨bx, 1, none⟩ = some (.string (bs p.b)) := HX9.out.cell 1
                obtain ⟨j2, hj2⟩ : ∃ x, j + p.b.length = x := ⟨_, rfl⟩
                have ej2 : (j : Int) + (p.b.length : Int) = (j2 : Int) := by omega
                have hszb := bs_size p.b
                rw [hj2] at HJ2
                have HJ := hide hj2
                have hj2l := HJ2.out
                clear hj2
                go_upto_region 19 with fail
                clear x1 ej2 hszb
                go_loopw [15] (fun x wr => ∃ (e y : Nat), x = .int .i64 (y : Int) ∧ (y = j2 + e ∧ y ≤ t.length) ∧ (∀ m c, m < e → (t.drop j2)[m]? = some c → mrk s.ps c = false) ∧ RB w #[.string (bs s.c), .slice A s.ps.length cp] bo out wr ∧ Blk wr bx 41 #[.int .i64 (kp : Int), .string (bs p.b), .string (bs p.a), .bool p.need] ∧ Below bo w2 wr) (fun x _ => t.length - (intOf x).toNat)
                case atStart => exact ⟨0, j2, rfl, ⟨rfl, hj2l⟩, fun m c h => absurd h (Nat.not_lt_zero _), HRB9.out, HX9.out, HB9.out⟩
                case round =>
                  obtain ⟨e, y, rfl, ⟨hye, hyl⟩, hNM, hRB, hX, hB⟩ := hrel
                  have HNM := hide hNM
                  have HRBk := hide hRB
                  have HXk := hide hX
                  have HBk := hide hB
                  have HYE := hide hye
                  clear hNM hRB hX hB hye HRB9 HX9 HB9
                  go_upto_region 19 with fail
                  go_cut [84] (fun x wx => ∃ b : Bool, x = .bool b ∧ (b = true → y < t.length ∧ ∀ m c, m < e + 1 → (t.drop j2)[m]? = some c → mrk s.ps c = false) ∧ (b = false → e = (t.drop j2).length ∨ ∃ c, (t.drop j2)[e]? = some c ∧ mrk s.ps c = true) ∧ RB w #[.string (bs s.c), .slice A s.ps.length cp] bo out wx ∧ Blk wx bx 41 #[.int .i64 (kp : Int), .string (bs p.b), .string (bs p.a), .bool p.need] ∧ Below bo w2 wx)
                  case first =>
                    by_cases hyt : y < t.length
                    · have e1 : decide ((y : Int) < (t.length : Int)) = true := decide_eq_true (by omega)
                      have e1' : decide (y < t.length) = true := decide_eq_true hyt
                      obtain ⟨d, hd⟩ : ∃ d, t[y]? = some d := ⟨_, List.getElem?_eq_getElem hyt⟩
                      have ci := index_bs t y d hd
                      have HD : Hid ((t.drop j2)[e]? = some d) := by show _ = _; rw [List.getElem?_drop, ← HYE.out]; exact hd
                      have k0 : (0 : Int) ≤ (y : Int) := by omega
                      have k1 : (y : Int) < (t.length : Int) := by omega
                      have HYT := hide hyt
                      clear hd hyt
                      obtain ⟨U, hU, g, u0, rfl, hgu, hgi⟩ := cls wr
                      have xs_0 := fun u => (((HRBk.out.s.to (hgu u)).cell 0).trans (show _ = some (Value.string (bs s.c)) from rfl))
                      have xs_1 := fun u => (((HRBk.out.s.to (hgu u)).cell 1).trans (show _ = some (Value.slice A s.ps.length cp) from rfl))
                      have CM : ∀ u, Calls Tryz.prog 78 #[.agg #[.string (bs s.c), .slice A s.ps.length cp], .int .u8 (d.toNat : Int)] (g u) fun e w' => e = .returned (.bool (mrk s.ps d)) ∧ ∃ u', w' = g u' := fun u => cls_call hgu hgi (fun W hb => rMark_any s.c s.ps (Nat.le_trans hl0 (by decide)) (.slice A s.ps.length cp) d W (HPB.out _ (below_to HBk.out HLE.out hb))) u
                      obtain ⟨mb, hmb⟩ : ∃ b, mrk s.ps d = b := ⟨_, rfl⟩
                      rw [hmb] at CM
                      have HMB := hide hmb
                      clear hmb
                      refine wp_region_class g (by kernel_rfl) (by kernel_rfl) (hgi _ (hgu _).drew) ?_
                      repeat (go_big_quiet_step (with_reducible exact CM _))
                      refine wpQuiet_nil ?_
                      intro w3' hw3'
                      obtain ⟨u, rfl⟩ := hw3'
                      go_wp2_with fail
                      go_meet
                      refine ⟨!mb, rfl, fun h => ⟨HYT.out, fun m c hm hc => ?_⟩, fun h => .inr ⟨d, HD.out, ?_⟩, HRBk.out.to (hgu u), HXk.out.to (hgu u), below_to HBk.out HLE.out (hgu u)⟩
                      · rcases Nat.lt_or_ge m e with h1 | h1
                        · exact HNM.out m c h1 hc
                        · obtain rfl : m = e := by omega
                          rw [HD.out] at hc; cases hc
                          rw [HMB.out]; simpa using h
                      · rw [HMB.out]; simpa using h
                    · obtain rfl : y = t.length := by omega
                      have e1 : decide ((t.length : Int) < (t.length : Int)) = false := by simp
                      have e1' : decide (t.length < t.length) = false := by simp
                      have HE : Hid (e = (t.drop j2).length) := by show _ = _; rw [List.length_drop]; have := HYE.out; omega
                      clear hyt
                      go_wp2_with fail
                      go_quiet (fail)
                      go_wp2_with fail
                      go_meet
                      exact ⟨false, rfl, fun h => (by cases h), fun _ => .inl HE.out, HRBk.out.drewN _, HXk.out.drewN _, below_drewN HBk.out _⟩
                  case rest =>
                    obtain ⟨b, rfl, hb1, hb2, hRB, hX, hB⟩ := hcut
                    have HRBm := hide hRB
                    have HXm := hide hX
                    have HBm := hide hB
                    clear hRB hX hB HRBk HXk HBk
                    generalize wc = w12 at *
                    cases b with
                    | true =>
                      have HT1 := hide (hb1 rfl)
                      clear hb1 hb2
                      have hyt := HT1.out.1
                      go_wp2_with fail
                      go_roundw
                      case rel => exact ⟨e + 1, y + 1, by go_num, ⟨by have := HYE.out; omega, by omega⟩, HT1.out.2, HRBm.out, HXm.out, HBm.out⟩
                      case measure => simp [intOf]; omega
                    | false =>
                      have hel : e ≤ (t.drop j2).length := by rw [List.length_drop]; have := HYE.out; omega
                      have hw := tw_at (t.drop j2) e hel HNM.out (hb2 rfl)
                      have HTW := hide hw.1
                      have HDW := hide hw.2
                      clear hw hb1 hb2 HNM hel
                      have hx : (bs t).extract j2 y = bs ((t.drop j2).take e) := by rw [bs_cut, show y - j2 = e by have := HYE.out; omega]
                      have HXL : Hid (((t.drop j2).take e).length ≤ 100000) := by show _ ≤ _; rw [List.length_take, List.length_drop]; omega
                      have HYL : Hid (j + p.b.length + e ≤ t.length) := by show _ ≤ _; rw [HJ.out, ← HYE.out]; exact hyl
                      have HYQ : Hid (j + p.b.length + e = y) := by show _ = _; rw [HJ.out, ← HYE.out]
                      obtain ⟨x, hxx⟩ : ∃ x, (t.drop j2).take e = x := ⟨_, rfl⟩
                      rw [hxx] at hx HXL
                      have HXX : Hid ((t.drop (j + p.b.length)).take e = x) := by show _ = _; rw [HJ.out]; exact hxx
                      rw [← HJ.out] at HTW HDW
                      clear hxx
                      have k4 : (0 : Int) ≤ (j2 : Int) := by omega
                      have k5 : (j2 : Int) ≤ (y : Int) := by have := HYE.out; omega
                      have k6 : (y : Int) ≤ (t.length : Int) := by omega
                      obtain ⟨U, hU, g, u0, rfl, hgu, hgi⟩ := cls w12
                      have xp_0 := fun u => (((HXm.out.to (hgu u)).cell 0).trans (show _ = some (Value.int IntKind.i64 (kp : Int)) from rfl))
                      have xp_1 := fun u => (((HXm.out.to (hgu u)).cell 1).trans (show _ = some (Value.string (bs p.b)) from rfl))
                      have xp_2 := fun u => (((HXm.out.to (hgu u)).cell 2).trans (show _ = some (Value.string (bs p.a)) from rfl))
                      have xp_3 := fun u => (((HXm.out.to (hgu u)).cell 3).trans (show _ = some (Value.bool p.need) from rfl))
                      have CV : ∀ u, Calls Tryz.prog 79 #[.agg #[.int .i64 (kp : Int), .string (bs p.b), .string (bs p.a), .bool p.need], .string (bs x)] (g u) fun e w' => e = .returned (.bool (isVal numB kp x)) ∧ ∃ u', w' = g u' := fun u => cls_call hgu hgi (fun W hb => rvalue24_any kp p.b p.a p.need x HXL.out W) u
                      cases hiv : isVal numB kp x with
                      | false =>
                        rw [hiv] at CV
                        have HFIN : Hid (fin24 s t = (zeroF, 1, (j2 : Int))) := by
                          show _ = _
                          rw [HRD.out.arg HVL.out HCC.out HST.out HTW.out (by rw [HKP.out, HXX.out]; exact hiv), HJ.out]
                        clear hiv
                        go_wp2_with fail
                        refine wp_region_class g (by kernel_rfl) (by kernel_rfl) (hgi _ (hgu _).drew) ?_
                        repeat (go_big_quiet_step (with_reducible exact CV _))
                        refine wpQuiet_nil ?_
                        intro w13 hw13
                        obtain ⟨u, rfl⟩ := hw13
                        have HRBn := hide (HRBm.out.to (hgu u))
                        have z0 : (g u).cell? ⟨w.heap.size + 1, 0, none⟩ = some (.string ⟨#[]⟩) := HRBn.out.r.cell 0
                        have y0 := HRBn.out.r.frozen 0
                        have z1 : (g u).cell? ⟨w.heap.size + 1, 1, none⟩ = some (.string ⟨#[]⟩) := HRBn.out.r.cell 1
                        have y1 := HRBn.out.r.frozen 1
                        have z2 : (g u).cell? ⟨w.heap.size + 1, 2, none⟩ = some (.string ⟨#[]⟩) := HRBn.out.r.cell 2
                        have y2 := HRBn.out.r.frozen 2
                        have z3 : (g u).cell? ⟨w.heap.size + 1, 3, none⟩ = some (.string ⟨#[]⟩) := HRBn.out.r.cell 3
                        have y3 := HRBn.out.r.frozen 3
                        have z4 : (g u).cell? ⟨w.heap.size + 1, 4, none⟩ = some (.string ⟨#[]⟩) := HRBn.out.r.cell 4
                        have y4 := HRBn.out.r.frozen 4
                        have z5 : (g u).cell? ⟨w.heap.size + 1, 5, none⟩ = some (.string ⟨#[]⟩) := HRBn.out.r.cell 5
                        have y5 := HRBn.out.r.frozen 5
                        have z6 : (g u).cell? ⟨w.heap.size + 1, 6, none⟩ = some (.string ⟨#[]⟩) := HRBn.out.r.cell 6
                        have y6 := HRBn.out.r.frozen 6
                        have z7 : (g u).cell? ⟨w.heap.size + 1, 7, none⟩ = some (.string ⟨#[]⟩) := HRBn.out.r.cell 7
                        have y7 := HRBn.out.r.frozen 7
                        have z8 : (g u).cell? ⟨w.heap.size + 1, 8, none⟩ = some (.string ⟨#[]⟩) := HRBn.out.r.cell 8
                        have y8 := HRBn.out.r.frozen 8
                        go_wp2_with fail
                        have hbk : Blk ((((((((((g u).setCell ⟨w.heap.size + 1, 0, none⟩ (.string ⟨#[]⟩)).setCell ⟨w.heap.size + 1, 1, none⟩ (.string ⟨#[]⟩)).setCell ⟨w.heap.size + 1, 2, none⟩ (.string ⟨#[]⟩)).setCell ⟨w.heap.size + 1, 3, none⟩ (.string ⟨#[]⟩)).setCell ⟨w.heap.size + 1, 4, none⟩ (.string ⟨#[]⟩)).setCell ⟨w.heap.size + 1, 5, none⟩ (.string ⟨#[]⟩)).setCell ⟨w.heap.size + 1, 6, none⟩ (.string ⟨#[]⟩)).setCell ⟨w.heap.size + 1, 7, none⟩ (.string ⟨#[]⟩)).setCell ⟨w.heap.size + 1, 8, none⟩ (.string ⟨#[]⟩)) (w.heap.size + 1) 26 Z9 := (((((((((HRBn.out.r.set_ 0 (.string ⟨#[]⟩)).set_ 1 (.string ⟨#[]⟩)).set_ 2 (.string ⟨#[]⟩)).set_ 3 (.string ⟨#[]⟩)).set_ 4 (.string ⟨#[]⟩)).set_ 5 (.string ⟨#[]⟩)).set_ 6 (.string ⟨#[]⟩)).set_ 7 (.string ⟨#[]⟩)).set_ 8 (.string ⟨#[]⟩))
                        refine bodyPost_ret (results_ctt (p := 4) (u := 5) (x := 6) rfl _ _ (w.heap.size + 1) 26 _ _ rfl hbk Tryz.underlying26 rfl (by kernel_rfl)) rfl ⟨?_, (((((((((HRBn.out.bel.setCell (p := ⟨w.heap.size + 1, 0, none⟩) (by show w.heap.size ≤ w.heap.size + 1; omega) (.string ⟨#[]⟩)).setCell (p := ⟨w.heap.size + 1, 1, none⟩) (by show w.heap.size ≤ w.heap.size + 1; omega) (.string ⟨#[]⟩)).setCell (p := ⟨w.heap.size + 1, 2, none⟩) (by show w.heap.size ≤ w.heap.size + 1; omega) (.string ⟨#[]⟩)).setCell (p := ⟨w.heap.size + 1, 3, none⟩) (by show w.heap.size ≤ w.heap.size + 1; omega) (.string ⟨#[]⟩)).setCell (p := ⟨w.heap.size + 1, 4, none⟩) (by show w.heap.size ≤ w.heap.size + 1; omega) (.string ⟨#[]⟩)).setCell (p := ⟨w.heap.size + 1, 5, none⟩) (by show w.heap.size ≤ w.heap.size + 1; omega) (.string ⟨#[]⟩)).setCell (p := ⟨w.heap.size + 1, 6, none⟩) (by show w.heap.size ≤ w.heap.size + 1; omega) (.string ⟨#[]⟩)).setCell (p := ⟨w.heap.size + 1, 7, none⟩) (by show w.heap.size ≤ w.heap.size + 1; omega) (.string ⟨#[]⟩)).setCell (p := ⟨w.heap.size + 1, 8, none⟩) (by show w.heap.size ≤ w.heap.size + 1; omega) (.string ⟨#[]⟩))⟩
                        rw [HFIN.out]; rfl
                      | true =>
                        rw [hiv] at CV
                        have HIV : Hid (isVal numB p.k ((t.drop (j + p.b.length)).take e) = true) := by show _ = _; rw [HKP.out, HXX.out]; exact hiv
                        clear hiv
                        go_wp2_with fail
                        refine wp_region_class g (by kernel_rfl) (by kernel_rfl) (hgi _ (hgu _).drew) ?_
                        repeat (go_big_quiet_step (with_reducible exact CV _))
                        refine wpQuiet_nil ?_
                        intro w13 hw13
                        obtain ⟨u, rfl⟩ := hw13
                        have HRBn := hide (HRBm.out.to (hgu u))
                        have HXn := hide (HXm.out.to (hgu u))
                        have HBn := hide (below_to HBm.out HLE.out (hgu u))
                        clear xp_0 xp_1 xp_2 xp_3 CV HRBm HXm HBm
                        generalize g u = w14 at *
                        have x2 : w14.cell? ⟨bx, 2, none⟩ = some (.string (bs p.a)) := HXn.out.cell 2
                        have CG := rstands_any t p.a y hyl (Nat.le_trans ht (by decide)) hpb.2 w14
                        by_cases hst : p.a <+: t.drop y
                        · rw [decide_eq_true hst] at CG
                          have HNX : Hid (RdJ s t (a + im + 1) (j + p.b.length + e + p.a.length) (out.set p.k.toNat ((t.drop (j + p.b.length)).take e))) := HRD.out.next HVL.out HCC.out HST.out HTW.out HDW.out HIV.out (by rw [HYQ.out]; exact hst) HYL.out
                          rw [HYQ.out, HXX.out, HZ.out, HKP.out, show ((kp : Int)).toNat = kp by omega] at HNX
                          clear hst
                          go_wp2_with fail
                          refine CG.mono ?_
                          rintro e' wX ⟨rfl, e9⟩
                          have e9 := e9.symm
                          subst e9
                          clear CG x2
                          have x0 : w14.cell? ⟨bx, 0, none⟩ = some (.int .i64 (kp : Int)) := HXn.out.cell 0
                          have fo : w14.frozen? ⟨bo, kp, none⟩ = false := HRBn.out.o.frozen kp
                          obtain ⟨ok, hok⟩ : ∃ v, out[kp]? = some v := ⟨_, List.getElem?_eq_getElem (by rw [HRD.out.len]; exact hkp9)⟩
                          have co : w14.cell? ⟨bo, kp, none⟩ = some (.string (bs ok)) := (HRBn.out.o.cell kp).trans (fieldsC_at hok)
                          clear hok
                          go_upto_region 25 with fail
                          go_cut [] (fun wx => RB w #[.string (bs s.c), .slice A s.ps.length cp] bo (out.set kp x) wx ∧ Blk wx bx 41 #[.int .i64 (kp : Int), .string (bs p.b), .string (bs p.a), .bool p.need] ∧ Below bo w2 wx)
                          case first =>
                            have nbx : bx ≠ bo := by have := HNB.out; omega
                            go_region
                            all_goals (go_wp2_with fail; go_meet)
                            all_goals exact ⟨(HRBn.out.setO kp x).drew, (HXn.out.far (p := ⟨bo, kp, none⟩) nbx _).drew, (HBn.out.setCell (p := ⟨bo, kp, none⟩) (Nat.le_refl _) _).drew⟩
                          case rest =>
                            obtain ⟨hRB, hX, hB⟩ := hcut
                            have HRBo := hide hRB
                            have HXo := hide hX
                            have HBo := hide hB
                            clear hRB hX hB HRBn HXn HBn x0 fo co
                            generalize wc = w16 at *
                            have x2 : w16.cell? ⟨bx, 2, none⟩ = some (.string (bs p.a)) := HXo.out.cell 2
                            have hsa := bs_size p.a
                            have hpa := hpb.2
                            go_wp2_with fail
                            go_roundw
                            case rel => exact ⟨z + 1, y + p.a.length, (z : Int), out.set kp x, rfl, by go_num, rfl, HRBo.out, HNX.out, HBo.out⟩
                            case measure => have := HIA.out; have := HZ.out; simp [intOf]; omega
                        · rw [decide_eq_false hst] at CG
                          have HFIN : Hid (fin24 s t = (zeroF, missE y t.length, (y : Int))) := by
                            show _ = _
                            rw [HRD.out.bad HVL.out HCC.out HST.out HTW.out HDW.out HIV.out (by rw [HYQ.out]; exact hst) HYL.out, HYQ.out]
                          clear hst
                          go_wp2_with fail
                          refine CG.mono ?_
                          rintro e' wX ⟨rfl, e9⟩
                          have e9 := e9.symm
                          subst e9
                          clear CG x2
                          go_wp2_with fail
                          refine (rmissing_any t y hyl (Nat.le_trans ht (by decide)) (w14)).mono ?_
                          rintro e wm ⟨rfl, hbm⟩
                          have HBm := hide (HRBn.out.to hbm)
                          clear hbm
                          unfold Z9
                          have z0 : wm.cell? ⟨w.heap.size + 1, 0, none⟩ = some (.string ⟨#[]⟩) := HBm.out.r.cell 0
                          have y0 := HBm.out.r.frozen 0
                          have z1 : wm.cell? ⟨w.heap.size + 1, 1, none⟩ = some (.string ⟨#[]⟩) := HBm.out.r.cell 1
                          have y1 := HBm.out.r.frozen 1
                          have z2 : wm.cell? ⟨w.heap.size + 1, 2, none⟩ = some (.string ⟨#[]⟩) := HBm.out.r.cell 2
                          have y2 := HBm.out.r.frozen 2
                          have z3 : wm.cell? ⟨w.heap.size + 1, 3, none⟩ = some (.string ⟨#[]⟩) := HBm.out.r.cell 3
                          have y3 := HBm.out.r.frozen 3
                          have z4 : wm.cell? ⟨w.heap.size + 1, 4, none⟩ = some (.string ⟨#[]⟩) := HBm.out.r.cell 4
                          have y4 := HBm.out.r.frozen 4
                          have z5 : wm.cell? ⟨w.heap.size + 1, 5, none⟩ = some (.string ⟨#[]⟩) := HBm.out.r.cell 5
                          have y5 := HBm.out.r.frozen 5
                          have z6 : wm.cell? ⟨w.heap.size + 1, 6, none⟩ = some (.string ⟨#[]⟩) := HBm.out.r.cell 6
                          have y6 := HBm.out.r.frozen 6
                          have z7 : wm.cell? ⟨w.heap.size + 1, 7, none⟩ = some (.string ⟨#[]⟩) := HBm.out.r.cell 7
                          have y7 := HBm.out.r.frozen 7
                          have z8 : wm.cell? ⟨w.heap.size + 1, 8, none⟩ = some (.string ⟨#[]⟩) := HBm.out.r.cell 8
                          have y8 := HBm.out.r.frozen 8
                          go_wp2_with fail
                          have hbk : Blk (((((((((wm.setCell ⟨w.heap.size + 1, 0, none⟩ (.string ⟨#[]⟩)).setCell ⟨w.heap.size + 1, 1, none⟩ (.string ⟨#[]⟩)).setCell ⟨w.heap.size + 1, 2, none⟩ (.string ⟨#[]⟩)).setCell ⟨w.heap.size + 1, 3, none⟩ (.string ⟨#[]⟩)).setCell ⟨w.heap.size + 1, 4, none⟩ (.string ⟨#[]⟩)).setCell ⟨w.heap.size + 1, 5, none⟩ (.string ⟨#[]⟩)).setCell ⟨w.heap.size + 1, 6, none⟩ (.string ⟨#[]⟩)).setCell ⟨w.heap.size + 1, 7, none⟩ (.string ⟨#[]⟩)).setCell ⟨w.heap.size + 1, 8, none⟩ (.string ⟨#[]⟩)) (w.heap.size + 1) 26 Z9 := (((((((((HBm.out.r.set_ 0 (.string ⟨#[]⟩)).set_ 1 (.string ⟨#[]⟩)).set_ 2 (.string ⟨#[]⟩)).set_ 3 (.string ⟨#[]⟩)).set_ 4 (.string ⟨#[]⟩)).set_ 5 (.string ⟨#[]⟩)).set_ 6 (.string ⟨#[]⟩)).set_ 7 (.string ⟨#[]⟩)).set_ 8 (.string ⟨#[]⟩))
                          refine bodyPost_ret (results_ctt (p := 4) (u := 5) (x := 6) rfl _ _ (w.heap.size + 1) 26 _ _ rfl hbk Tryz.underlying26 rfl (by kernel_rfl)) rfl ⟨?_, (((((((((HBm.out.bel.setCell (p := ⟨w.heap.size + 1, 0, none⟩) (by show w.heap.size ≤ w.heap.size + 1; omega) (.string ⟨#[]⟩)).setCell (p := ⟨w.heap.size + 1, 1, none⟩) (by show w.heap.size ≤ w.heap.size + 1; omega) (.string ⟨#[]⟩)).setCell (p := ⟨w.heap.size + 1, 2, none⟩) (by show w.heap.size ≤ w.heap.size + 1; omega) (.string ⟨#[]⟩)).setCell (p := ⟨w.heap.size + 1, 3, none⟩) (by show w.heap.size ≤ w.heap.size + 1; omega) (.string ⟨#[]⟩)).setCell (p := ⟨w.heap.size + 1, 4, none⟩) (by show w.heap.size ≤ w.heap.size + 1; omega) (.string ⟨#[]⟩)).setCell (p := ⟨w.heap.size + 1, 5, none⟩) (by show w.heap.size ≤ w.heap.size + 1; omega) (.string ⟨#[]⟩)).setCell (p := ⟨w.heap.size + 1, 6, none⟩) (by show w.heap.size ≤ w.heap.size + 1; omega) (.string ⟨#[]⟩)).setCell (p := ⟨w.heap.size + 1, 7, none⟩) (by show w.heap.size ≤ w.heap.size + 1; omega) (.string ⟨#[]⟩)).setCell (p := ⟨w.heap.size + 1, 8, none⟩) (by show w.heap.size ≤ w.heap.size + 1; omega) (.string ⟨#[]⟩))⟩
                          rw [HFIN.out]; rfl
end Go.Proofs.YtdcafoekbnacnaaGreatDoor

/- Chapter 24: sample, head, few. -/
set_option linter.unusedVariables false
set_option linter.unusedSimpArgs false
namespace Go.Proofs.YtdcafoekbnacnaaGreatDoor
open Go.RowKit Go.Shelf
attribute [local go_sem] Oper.semAt_some

theorem ex24_w : fwV exS [[], [], [], [49, 50], [97, 98], [], [], [120], [55, 55]] = [97, 98, 44, 32, 49, 50, 59, 32, 55, 55, 45, 32, 120] ∧ fwE exS [[], [], [], [49, 50], [97, 98], [], [], [120], [55, 55]] = 0 := by decide +kernel
theorem ex24_r0 : readF true numB exS.ps [97, 98, 44, 32, 49, 50, 47, 51, 59, 32, 55, 55, 45, 32, 120] = ([[], [51], [], [49, 50], [97, 98], [], [], [120], [55, 55]], 0, 0) := by decide +kernel
theorem ex24_r1 : readF true numB exS.ps [97, 98, 44, 32, 49, 50, 59, 32, 55, 55] = ([[], [], [], [], [], [], [], [], []], 6, 10) := by decide +kernel
theorem ex24_r2 : readF true numB exS.ps [97, 98, 44, 32, 48, 49, 50, 59, 32, 55, 55, 45, 32, 120] = ([[], [], [], [], [], [], [], [], []], 1, 4) := by decide +kernel
theorem ex24_r3 : readF true numB exS.ps [97, 98, 47, 51, 44, 32, 49, 50, 59, 32, 55, 55, 45, 32, 120] = ([[], [], [], [], [], [], [], [], []], 5, 2) := by decide +kernel
theorem sample_any (w : World) : Calls Tryz.prog 69 #[] w fun e w' => ∃ v, e = .returned (.agg #[.string ⟨#[97, 97]⟩, v]) ∧ PartsAt w' v exS.ps ∧ Below w.heap.size w w' := by
  go_enter Tryz.func69, Tryz.ntmps69
  go_wp2_with fail
  have hB := Blk.new (w.alloc (.cells #[.string ⟨#[97, 97]⟩, .slice (some ⟨w.heap.size + 1, 0, none⟩) 5 5] 24)) 41 exC
  rw [World.size_alloc] at hB
  refine bodyPost_ret (results_cell_blk rfl _ _ w.heap.size 24 #[.string ⟨#[97, 97]⟩, .slice (some ⟨w.heap.size + 1, 0, none⟩) 5 5] _ rfl ((Blk.new w _ _).alloc _) Tryz.underlying24 rfl (by kernel_rfl)) rfl ⟨_, rfl, ?_, below_two w _ _⟩
  have hs : ∀ x ∈ exS.ps.map ptV, x.length = 4 := fun x hx => by obtain ⟨p, _, rfl⟩ := List.mem_map.1 hx; rfl
  refine RowsAt.of_blk hB rfl (Nat.le_refl _) hs fun k x hx j u hu => ?_
  have := flat_at _ hs k x j u hx hu
  rw [show exC = (exS.ps.map ptV).flatten.toArray from rfl, List.getElem?_toArray]
  exact this
theorem write_ex (A : Option Addr) (cp : Nat) (w : World) (hP : PartsAt w (.slice A 5 cp) exS.ps) (hg : Glob4 w) : Calls Tryz.prog 32 #[.agg #[.string ⟨#[97, 97]⟩, .slice A 5 cp], .agg #[.string ⟨#[]⟩, .string ⟨#[]⟩, .string ⟨#[]⟩, .string ⟨#[49, 50]⟩, .string ⟨#[97, 98]⟩, .string ⟨#[]⟩, .string ⟨#[]⟩, .string ⟨#[120]⟩, .string ⟨#[55, 55]⟩]] w fun e w' => e = .returned (.tuple #[.string ⟨#[97, 98, 44, 32, 49, 50, 59, 32, 55, 55, 45, 32, 120]⟩, .int .i64 0]) ∧ Below w.heap.size w w' := by
  have := FWrite_any exS (by decide) (by decide) (.slice A 5 cp) [] [] [] [49, 50] [97, 98] [] [] [120] [55, 55] w hP hg.g
  rw [ex24_w.1, ex24_w.2] at this
  exact this
theorem read_ex0 (A : Option Addr) (cp : Nat) (w : World) (hP : PartsAt w (.slice A 5 cp) exS.ps) (hg : Glob4 w) : Calls Tryz.prog 34 #[.agg #[.string ⟨#[97, 97]⟩, .slice A 5 cp], .string ⟨#[97, 98, 44, 32, 49, 50, 47, 51, 59, 32, 55, 55, 45, 32, 120]⟩] w fun e w' => e = .returned (.tuple #[.agg #[.string ⟨#[]⟩, .string ⟨#[51]⟩, .string ⟨#[]⟩, .string ⟨#[49, 50]⟩, .string ⟨#[97, 98]⟩, .string ⟨#[]⟩, .string ⟨#[]⟩, .string ⟨#[120]⟩, .string ⟨#[55, 55]⟩], .int .i64 0, .int .i64 0]) ∧ Below w.heap.size w w' := by
  have := FRead_any exS (by decide) (by decide) (.slice A 5 cp) [97, 98, 44, 32, 49, 50, 47, 51, 59, 32, 55, 55, 45, 32, 120] (by decide) w hP hg
  rw [ex_valid, ex24_r0] at this
  exact this
theorem read_ex1 (A : Option Addr) (cp : Nat) (w : World) (hP : PartsAt w (.slice A 5 cp) exS.ps) (hg : Glob4 w) : Calls Tryz.prog 34 #[.agg #[.string ⟨#[97, 97]⟩, .slice A 5 cp], .string ⟨#[97, 98, 44, 32, 49, 50, 59, 32, 55, 55]⟩] w fun e w' => e = .returned (.tuple #[.agg #[.string ⟨#[]⟩, .string ⟨#[]⟩, .string ⟨#[]⟩, .string ⟨#[]⟩, .string ⟨#[]⟩, .string ⟨#[]⟩, .string ⟨#[]⟩, .string ⟨#[]⟩, .string ⟨#[]⟩], .int .i64 6, .int .i64 10]) ∧ Below w.heap.size w w' := by
  have := FRead_any exS (by decide) (by decide) (.slice A 5 cp) [97, 98, 44, 32, 49, 50, 59, 32, 55, 55] (by decide) w hP hg
  rw [ex_valid, ex24_r1] at this
  exact this
theorem read_ex2 (A : Option Addr) (cp : Nat) (w : World) (hP : PartsAt w (.slice A 5 cp) exS.ps) (hg : Glob4 w) : Calls Tryz.prog 34 #[.agg #[.string ⟨#[97, 97]⟩, .slice A 5 cp], .string ⟨#[97, 98, 44, 32, 48, 49, 50, 59, 32, 55, 55, 45, 32, 120]⟩] w fun e w' => e = .returned (.tuple #[.agg #[.string ⟨#[]⟩, .string ⟨#[]⟩, .string ⟨#[]⟩, .string ⟨#[]⟩, .string ⟨#[]⟩, .string ⟨#[]⟩, .string ⟨#[]⟩, .string ⟨#[]⟩, .string ⟨#[]⟩], .int .i64 1, .int .i64 4]) ∧ Below w.heap.size w w' := by
  have := FRead_any exS (by decide) (by decide) (.slice A 5 cp) [97, 98, 44, 32, 48, 49, 50, 59, 32, 55, 55, 45, 32, 120] (by decide) w hP hg
  rw [ex_valid, ex24_r2] at this
  exact this
theorem read_ex3 (A : Option Addr) (cp : Nat) (w : World) (hP : PartsAt w (.slice A 5 cp) exS.ps) (hg : Glob4 w) : Calls Tryz.prog 34 #[.agg #[.string ⟨#[97, 97]⟩, .slice A 5 cp], .string ⟨#[97, 98, 47, 51, 44, 32, 49, 50, 59, 32, 55, 55, 45, 32, 120]⟩] w fun e w' => e = .returned (.tuple #[.agg #[.string ⟨#[]⟩, .string ⟨#[]⟩, .string ⟨#[]⟩, .string ⟨#[]⟩, .string ⟨#[]⟩, .string ⟨#[]⟩, .string ⟨#[]⟩, .string ⟨#[]⟩, .string ⟨#[]⟩], .int .i64 5, .int .i64 2]) ∧ Below w.heap.size w w' := by
  have := FRead_any exS (by decide) (by decide) (.slice A 5 cp) [97, 98, 47, 51, 44, 32, 49, 50, 59, 32, 55, 55, 45, 32, 120] (by decide) w hP hg
  rw [ex_valid, ex24_r3] at this
  exact this
theorem read_ex4 (w : World) (hg : Glob4 w) : Calls Tryz.prog 34 #[.agg #[.string ⟨#[]⟩, .slice none 0 0], .string ⟨#[120]⟩] w fun e w' => e = .returned (.tuple #[.agg #[.string ⟨#[]⟩, .string ⟨#[]⟩, .string ⟨#[]⟩, .string ⟨#[]⟩, .string ⟨#[]⟩, .string ⟨#[]⟩, .string ⟨#[]⟩, .string ⟨#[]⟩, .string ⟨#[]⟩], .int .i64 1, .int .i64 (-1)]) ∧ Below w.heap.size w w' := by
  have := FRead_any ⟨[], []⟩ (by decide) (by decide) (.slice none 0 0) [120] (by decide) w (RowsAt.nil _ _) hg
  rw [show validB isNm ⟨[], []⟩ = false by decide +kernel, readF_no] at this
  exact this
theorem ex24_eq (w : World) : (binOp .eql 26 (.agg #[.string ⟨#[]⟩, .string ⟨#[51]⟩, .string ⟨#[]⟩, .string ⟨#[49, 50]⟩, .string ⟨#[97, 98]⟩, .string ⟨#[]⟩, .string ⟨#[]⟩, .string ⟨#[120]⟩, .string ⟨#[55, 55]⟩]) (.agg #[.string ⟨#[]⟩, .string ⟨#[51]⟩, .string ⟨#[]⟩, .string ⟨#[49, 50]⟩, .string ⟨#[97, 98]⟩, .string ⟨#[]⟩, .string ⟨#[]⟩, .string ⟨#[120]⟩, .string ⟨#[55, 55]⟩])).run Tryz.prog w = .ok (.bool true) w := by
  have := fields_eq [] [51] [] [49, 50] [97, 98] [] [] [120] [55, 55] [] [51] [] [49, 50] [97, 98] [] [] [120] [55, 55] w
  rw [decide_eq_true rfl] at this
  exact this
set_option maxRecDepth 100000 in
set_option maxHeartbeats 8000000 in
theorem head24_any (w : World) (hg : Glob4 w) : Calls Tryz.prog 30 #[] w fun e w' => e = .returned (.bool true) ∧ Below w.heap.size w w' := by
  have HG0 := hide hg
  have HGo := hide hg
  clear hg
  go_enter Tryz.func30, Tryz.ntmps30
  go_wp2_with fail
  refine (sample_any w).mono ?_
  rintro e w1 ⟨v, rfl, hP, hb⟩
  obtain ⟨A, cp, rfl, _⟩ := hP.slice
  rw [show exS.ps.length = 5 from rfl] at hP ⊢
  obtain ⟨X1, X2, B2⟩ := box2 w1 24 #[.string ⟨#[97, 97]⟩, .slice A 5 cp] 26 #[.string ⟨#[]⟩, .string ⟨#[]⟩, .string ⟨#[]⟩, .string ⟨#[49, 50]⟩, .string ⟨#[97, 98]⟩, .string ⟨#[]⟩, .string ⟨#[]⟩, .string ⟨#[120]⟩, .string ⟨#[55, 55]⟩]
  have HXs := hide X1
  have HXf := hide X2
  have HP := hide (hP.to B2)
  have HG := hide ((HG0.out.to hb).to B2)
  have HB := hide (below_to hb (Nat.le_refl _) B2)
  have lwf : w.heap.size ≤ w1.heap.size + 1 := by have := hb.size; omega
  clear X1 X2 B2 hP hb HG0
  go_upto_region 3 with fail
  generalize (w1.alloc (.cells #[.string ⟨#[97, 97]⟩, .slice A 5 cp] 24)).alloc (.cells #[.string ⟨#[]⟩, .string ⟨#[]⟩, .string ⟨#[]⟩, .string ⟨#[49, 50]⟩, .string ⟨#[97, 98]⟩, .string ⟨#[]⟩, .string ⟨#[]⟩, .string ⟨#[120]⟩, .string ⟨#[55, 55]⟩] 26) = w2 at *
  have bs1 : w1.heap.size ≠ w1.heap.size + 1 := by omega
  generalize w1.heap.size + 1 = bf at *
  generalize w1.heap.size = b1 at *
  have s0 : w2.cell? ⟨b1, 0, none⟩ = some (.string ⟨#[97, 97]⟩) := HXs.out.cell 0
  have s1 : w2.cell? ⟨b1, 1, none⟩ = some (.slice A 5 cp) := HXs.out.cell 1
  have f0 : w2.cell? ⟨bf, 0, none⟩ = some (.string ⟨#[]⟩) := HXf.out.cell 0
  have f1 : w2.cell? ⟨bf, 1, none⟩ = some (.string ⟨#[]⟩) := HXf.out.cell 1
  have f2 : w2.cell? ⟨bf, 2, none⟩ = some (.string ⟨#[]⟩) := HXf.out.cell 2
  have f3 : w2.cell? ⟨bf, 3, none⟩ = some (.string ⟨#[49, 50]⟩) := HXf.out.cell 3
  have f4 : w2.cell? ⟨bf, 4, none⟩ = some (.string ⟨#[97, 98]⟩) := HXf.out.cell 4
  have f5 : w2.cell? ⟨bf, 5, none⟩ = some (.string ⟨#[]⟩) := HXf.out.cell 5
  have f6 : w2.cell? ⟨bf, 6, none⟩ = some (.string ⟨#[]⟩) := HXf.out.cell 6
  have f7 : w2.cell? ⟨bf, 7, none⟩ = some (.string ⟨#[120]⟩) := HXf.out.cell 7
  have f8 : w2.cell? ⟨bf, 8, none⟩ = some (.string ⟨#[55, 55]⟩) := HXf.out.cell 8
  go_wp2_with fail
  refine (write_ex A cp w2 HP.out HG.out).mono ?_
  rintro e w3 ⟨rfl, hb⟩
  clear s0 s1 f0 f1 f2 f3 f4 f5 f6 f7 f8
  have zHP := hide (HP.out.to hb)
  have zHG := hide (HG.out.to hb)
  have zHXs := hide (HXs.out.to hb)
  have zHXf := hide (HXf.out.to hb)
  have zHB := hide (below_to HB.out (Nat.le_refl _) hb)
  clear hb HB HP HG HXs HXf
  have HP := zHP
  have HG := zHG
  have HXs := zHXs
  have HXf := zHXf
  have HB := zHB
  clear zHP zHG zHXs zHXf zHB
  have s0 : w3.cell? ⟨b1, 0, none⟩ = some (.string ⟨#[97, 97]⟩) := HXs.out.cell 0
  have s1 : w3.cell? ⟨b1, 1, none⟩ = some (.slice A 5 cp) := HXs.out.cell 1
  go_wp2_with fail
  refine (read_ex0 A cp w3 HP.out HG.out).mono ?_
  rintro e w4 ⟨rfl, hb0⟩
  clear s0 s1
  have hb : Below w3.heap.size w3 (w4.alloc (.cells #[.string ⟨#[]⟩, .string ⟨#[51]⟩, .string ⟨#[]⟩, .string ⟨#[49, 50]⟩, .string ⟨#[97, 98]⟩, .string ⟨#[]⟩, .string ⟨#[]⟩, .string ⟨#[120]⟩, .string ⟨#[55, 55]⟩] 26)) := below_alloc hb0 (Nat.le_refl _) _
  have nbb : bf ≠ w4.heap.size := by have := HXf.out.lt; have := hb0.size; omega
  have yHXb := hide (Blk.new w4 26 #[.string ⟨#[]⟩, .string ⟨#[51]⟩, .string ⟨#[]⟩, .string ⟨#[49, 50]⟩, .string ⟨#[97, 98]⟩, .string ⟨#[]⟩, .string ⟨#[]⟩, .string ⟨#[120]⟩, .string ⟨#[55, 55]⟩])
  have zHP := hide (HP.out.to hb)
  have zHG := hide (HG.out.to hb)
  have zHXs := hide (HXs.out.to hb)
  have zHXf := hide (HXf.out.to hb)
  have zHB := hide (below_to HB.out (Nat.le_refl _) hb)
  clear hb HB HP HG HXs HXf
  have HP := zHP
  have HG := zHG
  have HXs := zHXs
  have HXf := zHXf
  have HB := zHB
  clear zHP zHG zHXs zHXf zHB
  have HXb := yHXb
  clear yHXb
  clear hb0
  go_upto_region 5 with fail
  generalize w4.alloc (.cells #[.string ⟨#[]⟩, .string ⟨#[51]⟩, .string ⟨#[]⟩, .string ⟨#[49, 50]⟩, .string ⟨#[97, 98]⟩, .string ⟨#[]⟩, .string ⟨#[]⟩, .string ⟨#[120]⟩, .string ⟨#[55, 55]⟩] 26) = w5 at *
  generalize w4.heap.size = bb at *
  have s0 : w5.cell? ⟨b1, 0, none⟩ = some (.string ⟨#[97, 97]⟩) := HXs.out.cell 0
  have s1 : w5.cell? ⟨b1, 1, none⟩ = some (.slice A 5 cp) := HXs.out.cell 1
  go_wp2_with fail
  refine (read_ex1 A cp w5 HP.out HG.out).mono ?_
  rintro e w6 ⟨rfl, hb0⟩
  clear s0 s1
  have hb : Below w5.heap.size w5 (w6.alloc (.cells #[.string ⟨#[]⟩, .string ⟨#[]⟩, .string ⟨#[]⟩, .string ⟨#[]⟩, .string ⟨#[]⟩, .string ⟨#[]⟩, .string ⟨#[]⟩, .string ⟨#[]⟩, .string ⟨#[]⟩] 26)) := below_alloc hb0 (Nat.le_refl _) _
  have zHP := hide (HP.out.to hb)
  have zHG := hide (HG.out.to hb)
  have zHXs := hide (HXs.out.to hb)
  have zHXf := hide (HXf.out.to hb)
  have zHXb := hide (HXb.out.to hb)
  have zHB := hide (below_to HB.out (Nat.le_refl _) hb)
  clear hb HB HP HG HXs HXf HXb
  have HP := zHP
  have HG := zHG
  have HXs := zHXs
  have HXf := zHXf
  have HXb := zHXb
  have HB := zHB
  clear zHP zHG zHXs zHXf zHXb zHB
  clear hb0
  go_upto_region 6 with fail
  generalize w6.alloc (.cells #[.string ⟨#[]⟩, .string ⟨#[]⟩, .string ⟨#[]⟩, .string ⟨#[]⟩, .string ⟨#[]⟩, .string ⟨#[]⟩, .string ⟨#[]⟩, .string ⟨#[]⟩, .string ⟨#[]⟩] 26) = w7 at *
  generalize w6.heap.size = bu1 at *
  have s0 : w7.cell? ⟨b1, 0, none⟩ = some (.string ⟨#[97, 97]⟩) := HXs.out.cell 0
  have s1 : w7.cell? ⟨b1, 1, none⟩ = some (.slice A 5 cp) := HXs.out.cell 1
  go_wp2_with fail
  refine (read_ex2 A cp w7 HP.out HG.out).mono ?_
  rintro e w8 ⟨rfl, hb0⟩
  clear s0 s1
  have hb : Below w7.heap.size w7 (w8.alloc (.cells #[.string ⟨#[]⟩, .string ⟨#[]⟩, .string ⟨#[]⟩, .string ⟨#[]⟩, .string ⟨#[]⟩, .string ⟨#[]⟩, .string ⟨#[]⟩, .string ⟨#[]⟩, .string ⟨#[]⟩] 26)) := below_alloc hb0 (Nat.le_refl _) _
  have zHP := hide (HP.out.to hb)
  have zHG := hide (HG.out.to hb)
  have zHXs := hide (HXs.out.to hb)
  have zHXf := hide (HXf.out.to hb)
  have zHXb := hide (HXb.out.to hb)
  have zHB := hide (below_to HB.out (Nat.le_refl _) hb)
  clear hb HB HP HG HXs HXf HXb
  have HP := zHP
  have HG := zHG
  have HXs := zHXs
  have HXf := zHXf
  have HXb := zHXb
  have HB := zHB
  clear zHP zHG zHXs zHXf zHXb zHB
  clear hb0
  go_upto_region 7 with fail
  generalize w8.alloc (.cells #[.string ⟨#[]⟩, .string ⟨#[]⟩, .string ⟨#[]⟩, .string ⟨#[]⟩, .string ⟨#[]⟩, .string ⟨#[]⟩, .string ⟨#[]⟩, .string ⟨#[]⟩, .string ⟨#[]⟩] 26) = w9 at *
  generalize w8.heap.size = bu2 at *
  have s0 : w9.cell? ⟨b1, 0, none⟩ = some (.string ⟨#[97, 97]⟩) := HXs.out.cell 0
  have s1 : w9.cell? ⟨b1, 1, none⟩ = some (.slice A 5 cp) := HXs.out.cell 1
  go_wp2_with fail
  refine (read_ex3 A cp w9 HP.out HG.out).mono ?_
  rintro e w10 ⟨rfl, hb0⟩
  clear s0 s1
  have hb : Below w9.heap.size w9 (w10.alloc (.cells #[.string ⟨#[]⟩, .string ⟨#[]⟩, .string ⟨#[]⟩, .string ⟨#[]⟩, .string ⟨#[]⟩, .string ⟨#[]⟩, .string ⟨#[]⟩, .string ⟨#[]⟩, .string ⟨#[]⟩] 26)) := below_alloc hb0 (Nat.le_refl _) _
  have zHP := hide (HP.out.to hb)
  have zHG := hide (HG.out.to hb)
  have zHXs := hide (HXs.out.to hb)
  have zHXf := hide (HXf.out.to hb)
  have zHXb := hide (HXb.out.to hb)
  have zHB := hide (below_to HB.out (Nat.le_refl _) hb)
  clear hb HB HP HG HXs HXf HXb
  have HP := zHP
  have HG := zHG
  have HXs := zHXs
  have HXf := zHXf
  have HXb := zHXb
  have HB := zHB
  clear zHP zHG zHXs zHXf zHXb zHB
  clear hb0
  go_upto_region 8 with fail
  generalize w10.alloc (.cells #[.string ⟨#[]⟩, .string ⟨#[]⟩, .string ⟨#[]⟩, .string ⟨#[]⟩, .string ⟨#[]⟩, .string ⟨#[]⟩, .string ⟨#[]⟩, .string ⟨#[]⟩, .string ⟨#[]⟩] 26) = w11 at *
  generalize w10.heap.size = bu3 at *
  have q1 : w11.cell? ⟨bf, 1, none⟩ = some (.string ⟨#[]⟩) := HXf.out.cell 1
  have q2 := HXf.out.frozen 1
  have HF2 := hide (HXf.out.set_ 1 (.string ⟨#[51]⟩))
  have HB2 := hide (HXb.out.far (p := ⟨bf, 1, none⟩) (by show bb ≠ bf; exact fun h => nbb h.symm) (.string ⟨#[51]⟩))
  have HBB := hide (HB.out.setCell (p := ⟨bf, 1, none⟩) lwf (.string ⟨#[51]⟩))
  clear HP HG HXs HXf HXb HB
  go_upto_region 9 with fail
  clear q1 q2
  generalize w11.setCell ⟨bf, 1, none⟩ (.string ⟨#[51]⟩) = v1 at *
  go_wp2_with fail
  refine (read_ex4 v1 (HGo.out.to HBB.out)).mono ?_
  rintro e v2 ⟨rfl, hb0⟩
  have hb : Below v1.heap.size v1 (v2.alloc (.cells #[.string ⟨#[]⟩, .string ⟨#[]⟩, .string ⟨#[]⟩, .string ⟨#[]⟩, .string ⟨#[]⟩, .string ⟨#[]⟩, .string ⟨#[]⟩, .string ⟨#[]⟩, .string ⟨#[]⟩] 26)) := below_alloc hb0 (Nat.le_refl _) _
  have HF3 := hide (HF2.out.to hb)
  have HB3 := hide (HB2.out.to hb)
  have HBC := hide (below_to HBB.out (Nat.le_refl _) hb)
  clear hb hb0 HF2 HB2 HBB
  go_upto_region 10 with fail
  generalize v2.alloc (.cells #[.string ⟨#[]⟩, .string ⟨#[]⟩, .string ⟨#[]⟩, .string ⟨#[]⟩, .string ⟨#[]⟩, .string ⟨#[]⟩, .string ⟨#[]⟩, .string ⟨#[]⟩, .string ⟨#[]⟩] 26) = v3 at *
  generalize v2.heap.size = bz at *
  have f0 : v3.cell? ⟨bf, 0, none⟩ = some (.string ⟨#[]⟩) := HF3.out.cell 0
  have g0 : v3.cell? ⟨bb, 0, none⟩ = some (.string ⟨#[]⟩) := HB3.out.cell 0
  have f1 : v3.cell? ⟨bf, 1, none⟩ = some (.string ⟨#[51]⟩) := HF3.out.cell 1
  have g1 : v3.cell? ⟨bb, 1, none⟩ = some (.string ⟨#[51]⟩) := HB3.out.cell 1
  have f2 : v3.cell? ⟨bf, 2, none⟩ = some (.string ⟨#[]⟩) := HF3.out.cell 2
  have g2 : v3.cell? ⟨bb, 2, none⟩ = some (.string ⟨#[]⟩) := HB3.out.cell 2
  have f3 : v3.cell? ⟨bf, 3, none⟩ = some (.string ⟨#[49, 50]⟩) := HF3.out.cell 3
  have g3 : v3.cell? ⟨bb, 3, none⟩ = some (.string ⟨#[49, 50]⟩) := HB3.out.cell 3
  have f4 : v3.cell? ⟨bf, 4, none⟩ = some (.string ⟨#[97, 98]⟩) := HF3.out.cell 4
  have g4 : v3.cell? ⟨bb, 4, none⟩ = some (.string ⟨#[97, 98]⟩) := HB3.out.cell 4
  have f5 : v3.cell? ⟨bf, 5, none⟩ = some (.string ⟨#[]⟩) := HF3.out.cell 5
  have g5 : v3.cell? ⟨bb, 5, none⟩ = some (.string ⟨#[]⟩) := HB3.out.cell 5
  have f6 : v3.cell? ⟨bf, 6, none⟩ = some (.string ⟨#[]⟩) := HF3.out.cell 6
  have g6 : v3.cell? ⟨bb, 6, none⟩ = some (.string ⟨#[]⟩) := HB3.out.cell 6
  have f7 : v3.cell? ⟨bf, 7, none⟩ = some (.string ⟨#[120]⟩) := HF3.out.cell 7
  have g7 : v3.cell? ⟨bb, 7, none⟩ = some (.string ⟨#[120]⟩) := HB3.out.cell 7
  have f8 : v3.cell? ⟨bf, 8, none⟩ = some (.string ⟨#[55, 55]⟩) := HF3.out.cell 8
  have g8 : v3.cell? ⟨bb, 8, none⟩ = some (.string ⟨#[55, 55]⟩) := HB3.out.cell 8
  have eqT : ((⟨#[97, 98, 44, 32, 49, 50, 59, 32, 55, 55, 45, 32, 120]⟩ : ByteArray).toList == (⟨#[97, 98, 44, 32, 49, 50, 59, 32, 55, 55, 45, 32, 120]⟩ : ByteArray).toList) = true := by simp
  have EQ := ex24_eq
  go_wp2_with fail
  go_ret
  exact ⟨rfl, HBC.out⟩
end Go.Proofs.YtdcafoekbnacnaaGreatDoor

/- Chapter 24: few; the walk of FormatReads. -/
set_option linter.unusedVariables false
set_option linter.unusedSimpArgs false
namespace Go.Proofs.YtdcafoekbnacnaaGreatDoor
open Go.RowKit Go.Shelf
attribute [local go_sem] Oper.semAt_some

set_option maxRecDepth 100000 in
set_option maxHeartbeats 4000000 in
theorem few24_any (s : Sch) (hl0 : s.ps.length ≤ 8796093022208) (v : Value) (f0 f1 f2 f3 f4 f5 f6 f7 f8 : List UInt8) (t : List UInt8) (w : World) (hP : PartsAt w v s.ps) :
    Calls Tryz.prog 31 #[.agg #[.string (bs s.c), v], .agg #[.string (bs f0), .string (bs f1), .string (bs f2), .string (bs f3), .string (bs f4), .string (bs f5), .string (bs f6), .string (bs f7), .string (bs f8)], .string (bs t)] w fun e w' => e = .returned (.bool (fewB s && (shortF [f0, f1, f2, f3, f4, f5, f6, f7, f8] && decide (t.length ≤ 800)))) ∧ Below w.heap.size w w' := by
  have HP0 := hide hP
  obtain ⟨A, c, rfl, hc⟩ := hP.slice
  clear hP
  have hsz := bs_size t
  go_enter Tryz.func31, Tryz.ntmps31
  go_wp2_with fail
  obtain ⟨Xs, Xf, B0⟩ := box2 w 24 #[.string (bs s.c), .slice A s.ps.length c] 26 #[.string (bs f0), .string (bs f1), .string (bs f2), .string (bs f3), .string (bs f4), .string (bs f5), .string (bs f6), .string (bs f7), .string (bs f8)]
  have HXs := hide Xs
  have HXf := hide Xf
  have HB := hide B0
  have HP := hide (HP0.out.to B0)
  clear Xs Xf B0 HP0
  generalize (w.alloc (.cells #[.string (bs s.c), .slice A s.ps.length c] 24)).alloc (.cells #[.string (bs f0), .string (bs f1), .string (bs f2), .string (bs f3), .string (bs f4), .string (bs f5), .string (bs f6), .string (bs f7), .string (bs f8)] 26) = w1 at *
  obtain ⟨U, hU, g, u0, rfl, hgu, hgi⟩ := cls w1
  have xs_0 := fun u => (((HXs.out.to (hgu u)).cell 0).trans (show _ = some (Value.string (bs s.c)) from rfl))
  have xs_1 := fun u => (((HXs.out.to (hgu u)).cell 1).trans (show _ = some (Value.slice A s.ps.length c) from rfl))
  have xf_0 := fun u => (((HXf.out.to (hgu u)).cell 0).trans (show _ = some (Value.string (bs f0)) from rfl))
  have xf_1 := fun u => (((HXf.out.to (hgu u)).cell 1).trans (show _ = some (Value.string (bs f1)) from rfl))
  have xf_2 := fun u => (((HXf.out.to (hgu u)).cell 2).trans (show _ = some (Value.string (bs f2)) from rfl))
  have xf_3 := fun u => (((HXf.out.to (hgu u)).cell 3).trans (show _ = some (Value.string (bs f3)) from rfl))
  have xf_4 := fun u => (((HXf.out.to (hgu u)).cell 4).trans (show _ = some (Value.string (bs f4)) from rfl))
  have xf_5 := fun u => (((HXf.out.to (hgu u)).cell 5).trans (show _ = some (Value.string (bs f5)) from rfl))
  have xf_6 := fun u => (((HXf.out.to (hgu u)).cell 6).trans (show _ = some (Value.string (bs f6)) from rfl))
  have xf_7 := fun u => (((HXf.out.to (hgu u)).cell 7).trans (show _ = some (Value.string (bs f7)) from rfl))
  have xf_8 := fun u => (((HXf.out.to (hgu u)).cell 8).trans (show _ = some (Value.string (bs f8)) from rfl))
  have CF : ∀ u, Calls Tryz.prog 16 #[.agg #[.string (bs s.c), .slice A s.ps.length c]] (g u) fun e w' => e = .returned (.bool (fewB s)) ∧ ∃ u', w' = g u' := fun u => cls_call hgu hgi (fun W hb => Few_any s hl0 (.slice A s.ps.length c) W (HP.out.to hb)) u
  have CS : ∀ u, Calls Tryz.prog 17 #[.agg #[.string (bs f0), .string (bs f1), .string (bs f2), .string (bs f3), .string (bs f4), .string (bs f5), .string (bs f6), .string (bs f7), .string (bs f8)]] (g u) fun e w' => e = .returned (.bool (shortF [f0, f1, f2, f3, f4, f5, f6, f7, f8])) ∧ ∃ u', w' = g u' := fun u => cls_call hgu hgi (fun W hb => Short_any f0 f1 f2 f3 f4 f5 f6 f7 f8 W) u
  obtain ⟨R, hR⟩ : ∃ R, (fewB s && (shortF [f0, f1, f2, f3, f4, f5, f6, f7, f8] && decide (t.length ≤ 800))) = R := ⟨_, rfl⟩
  have HR := hide hR
  cases h1 : fewB s with
  | false =>
    rw [h1] at CF hR
    have HV : Hid (R = false) := hR.symm
    clear h1 hR
    go_wp2_with (first | ((with_reducible refine (CF _).mono ?_); rintro e w' ⟨rfl, u, rfl⟩) | ((with_reducible refine (CS _).mono ?_); rintro e w' ⟨rfl, u, rfl⟩))
    all_goals go_ret
    all_goals exact ⟨ret_bool (by rw [HR.out, HV.out]), below_to HB.out (Nat.le_refl _) (hgu _)⟩
  | true =>
    rw [h1, Bool.true_and] at hR
    rw [h1] at CF
    clear h1
    cases h2 : shortF [f0, f1, f2, f3, f4, f5, f6, f7, f8] with
    | false =>
      rw [h2] at CS hR
      have HV : Hid (R = false) := hR.symm
      clear h2 hR
      go_wp2_with (first | ((with_reducible refine (CF _).mono ?_); rintro e w' ⟨rfl, u, rfl⟩) | ((with_reducible refine (CS _).mono ?_); rintro e w' ⟨rfl, u, rfl⟩))
      all_goals go_ret
      all_goals exact ⟨ret_bool (by rw [HR.out, HV.out]), below_to HB.out (Nat.le_refl _) (hgu _)⟩
    | true =>
      rw [h2, Bool.true_and] at hR
      rw [h2] at CS
      clear h2
      have HV : Hid (decide ((t.length : Int) ≤ 800) = R) := by show _ = _; rw [← hR]; by_cases h : t.length ≤ 800; rw [decide_eq_true h, decide_eq_true (by omega)]; rw [decide_eq_false h, decide_eq_false (by omega)]
      clear hR
      have hv := HV.out
      go_wp2_with (first | ((with_reducible refine (CF _).mono ?_); rintro e w' ⟨rfl, u, rfl⟩) | ((with_reducible refine (CS _).mono ?_); rintro e w' ⟨rfl, u, rfl⟩))
      all_goals go_ret
      all_goals exact ⟨ret_bool (by first | rw [HR.out] | rw [HR.out, HV.out]), below_to HB.out (Nat.le_refl _) (hgu _)⟩
theorem few24_facts {s : Sch} {f : List (List UInt8)} {t : List UInt8} (h : (fewB s && (shortF f && decide (t.length ≤ 800))) = true) : fewB s = true ∧ shortF f = true ∧ t.length ≤ 800 := by
  simpa using h
end Go.Proofs.YtdcafoekbnacnaaGreatDoor

/- Chapter 24: the walk of FormatMatchesReference. -/
set_option linter.unusedVariables false
set_option linter.unusedSimpArgs false
namespace Go.Proofs.YtdcafoekbnacnaaGreatDoor
open Go.RowKit Go.Shelf
attribute [local go_sem] Oper.semAt_some

theorem readF_nine (s : Sch) (t : List UInt8) : (readF (validB isNm s) numB s.ps t).1.length = 9 := by
  cases hv : validB isNm s with
  | false => rw [readF_no]; rfl
  | true =>
    rw [readF_yes]
    cases hr : readR (mrk s.ps) numB s.ps t zeroF with
    | ok f => exact (read_fits ((validB_iff isNm s).1 hv) hr).1.len
    | arg n => rfl
    | miss n => rfl
set_option maxRecDepth 100000 in
set_option maxHeartbeats 8000000 in
theorem match24_law (s : Sch) (hl0 : s.ps.length ≤ 8796093022208) (hc0 : s.c.length ≤ 140737488355328) (v : Value) (f0 f1 f2 f3 f4 f5 f6 f7 f8 : List UInt8) (t : List UInt8) (ht0 : t.length ≤ 140737488355328) (w : World) (hP : PartsAt w v s.ps) (hg : Glob4 w) :
    Calls Tryz.prog 10 #[.agg #[.string (bs s.c), v], .agg #[.string (bs f0), .string (bs f1), .string (bs f2), .string (bs f3), .string (bs f4), .string (bs f5), .string (bs f6), .string (bs f7), .string (bs f8)], .string (bs t)] w fun e w' => e = .returned (.bool true) ∧ Below w.heap.size w w' := by
  have HP0 := hide hP
  have HG0 := hide hg
  obtain ⟨A, c, rfl, hc⟩ := hP.slice
  clear hP hg
  have hsz := bs_size t
  go_enter Tryz.func10, Tryz.ntmps10
  go_wp2_with fail
  obtain ⟨Xs, Xf, B0⟩ := box2 w 24 #[.string (bs s.c), .slice A s.ps.length c] 26 #[.string (bs f0), .string (bs f1), .string (bs f2), .string (bs f3), .string (bs f4), .string (bs f5), .string (bs f6), .string (bs f7), .string (bs f8)]
  have HXs := hide Xs
  have HXf := hide Xf
  have HB := hide B0
  have HP := hide (HP0.out.to B0)
  have HG := hide (HG0.out.to B0)
  clear Xs Xf B0 HP0 HG0
  generalize (w.alloc (.cells #[.string (bs s.c), .slice A s.ps.length c] 24)).alloc (.cells #[.string (bs f0), .string (bs f1), .string (bs f2), .string (bs f3), .string (bs f4), .string (bs f5), .string (bs f6), .string (bs f7), .string (bs f8)] 26) = w1 at *
  refine (head24_any w1 HG.out).mono ?_
  rintro e w2 ⟨rfl, hb⟩
  have zHXs := hide (HXs.out.to hb)
  have zHXf := hide (HXf.out.to hb)
  have zHP := hide (HP.out.to hb)
  have zHG := hide (HG.out.to hb)
  have zHB := hide (below_to HB.out (Nat.le_refl _) hb)
  clear hb HB HXs HXf HP HG
  have HXs := zHXs
  have HXf := zHXf
  have HP := zHP
  have HG := zHG
  have HB := zHB
  clear zHXs zHXf zHP zHG zHB
  obtain ⟨U, hU, g, u0, rfl, hgu, hgi⟩ := cls w2
  have xs_0 := fun u => (((HXs.out.to (hgu u)).cell 0).trans (show _ = some (Value.string (bs s.c)) from rfl))
  have xs_1 := fun u => (((HXs.out.to (hgu u)).cell 1).trans (show _ = some (Value.slice A s.ps.length c) from rfl))
  have xf_0 := fun u => (((HXf.out.to (hgu u)).cell 0).trans (show _ = some (Value.string (bs f0)) from rfl))
  have xf_1 := fun u => (((HXf.out.to (hgu u)).cell 1).trans (show _ = some (Value.string (bs f1)) from rfl))
  have xf_2 := fun u => (((HXf.out.to (hgu u)).cell 2).trans (show _ = some (Value.string (bs f2)) from rfl))
  have xf_3 := fun u => (((HXf.out.to (hgu u)).cell 3).trans (show _ = some (Value.string (bs f3)) from rfl))
  have xf_4 := fun u => (((HXf.out.to (hgu u)).cell 4).trans (show _ = some (Value.string (bs f4)) from rfl))
  have xf_5 := fun u => (((HXf.out.to (hgu u)).cell 5).trans (show _ = some (Value.string (bs f5)) from rfl))
  have xf_6 := fun u => (((HXf.out.to (hgu u)).cell 6).trans (show _ = some (Value.string (bs f6)) from rfl))
  have xf_7 := fun u => (((HXf.out.to (hgu u)).cell 7).trans (show _ = some (Value.string (bs f7)) from rfl))
  have xf_8 := fun u => (((HXf.out.to (hgu u)).cell 8).trans (show _ = some (Value.string (bs f8)) from rfl))
  have CK : ∀ u, Calls Tryz.prog 31 #[.agg #[.string (bs s.c), .slice A s.ps.length c], .agg #[.string (bs f0), .string (bs f1), .string (bs f2), .string (bs f3), .string (bs f4), .string (bs f5), .string (bs f6), .string (bs f7), .string (bs f8)], .string (bs t)] (g u) fun e w' => e = .returned (.bool (fewB s && (shortF [f0, f1, f2, f3, f4, f5, f6, f7, f8] && decide (t.length ≤ 800)))) ∧ ∃ u', w' = g u' := fun u => cls_call hgu hgi (fun W hb => few24_any s hl0 (.slice A s.ps.length c) f0 f1 f2 f3 f4 f5 f6 f7 f8 t W (HP.out.to hb)) u
  cases h1 : (fewB s && (shortF [f0, f1, f2, f3, f4, f5, f6, f7, f8] && decide (t.length ≤ 800))) with
  | false =>
    rw [h1] at CK
    clear h1
    go_wp2_with (first | ((with_reducible refine (CK _).mono ?_); rintro e w' ⟨rfl, u, rfl⟩))
    all_goals go_ret
    all_goals exact ⟨rfl, below_to HB.out (Nat.le_refl _) (hgu _)⟩
  | true =>
    rw [h1] at CK
    obtain ⟨hfw, hsh, hts⟩ := few24_facts h1
    obtain ⟨b1, b2, b3⟩ := few_facts hfw
    have HB0 := hide b2
    have HB2 : Hid (∀ p ∈ s.ps, p.b.length ≤ 1000000 ∧ p.a.length ≤ 1000000) := fun p hp => ⟨Nat.le_trans (b2 p hp).1 (by decide), Nat.le_trans (b2 p hp).2 (by decide)⟩
    have HL := hide (short_facts (f := [f0, f1, f2, f3, f4, f5, f6, f7, f8]) rfl hsh)
    clear h1 hfw hsh b2
    obtain ⟨g0, g1, g2, g3, g4, g5, g6, g7, g8, hRG⟩ := nine (readF_nine s t)
    have HRG := hide hRG
    obtain ⟨E, hRE⟩ : ∃ x, (readF (validB isNm s) numB s.ps t).2.1 = x := ⟨_, rfl⟩
    have HRE := hide hRE
    obtain ⟨ea, hRA⟩ : ∃ x, (readF (validB isNm s) numB s.ps t).2.2 = x := ⟨_, rfl⟩
    have HRA := hide hRA
    clear hRG hRE hRA
    have CW : ∀ u, Calls Tryz.prog 32 #[.agg #[.string (bs s.c), .slice A s.ps.length c], .agg #[.string (bs f0), .string (bs f1), .string (bs f2), .string (bs f3), .string (bs f4), .string (bs f5), .string (bs f6), .string (bs f7), .string (bs f8)]] (g u) fun e w' => e = .returned (.tuple #[.string (bs (fwV s [f0, f1, f2, f3, f4, f5, f6, f7, f8])), .int .i64 (fwE s [f0, f1, f2, f3, f4, f5, f6, f7, f8])]) ∧ ∃ u', w' = g u' := fun u => cls_call hgu hgi (fun W hb => FWrite_any s hl0 hc0 (.slice A s.ps.length c) f0 f1 f2 f3 f4 f5 f6 f7 f8 W (HP.out.to hb) (HG.out.to hb).g) u
    have CR : ∀ u, Calls Tryz.prog 33 #[.agg #[.string (bs s.c), .slice A s.ps.length c], .agg #[.string (bs f0), .string (bs f1), .string (bs f2), .string (bs f3), .string (bs f4), .string (bs f5), .string (bs f6), .string (bs f7), .string (bs f8)]] (g u) fun e w' => e = .returned (.tuple #[.string (bs (fwV s [f0, f1, f2, f3, f4, f5, f6, f7, f8])), .int .i64 (fwE s [f0, f1, f2, f3, f4, f5, f6, f7, f8])]) ∧ ∃ u', w' = g u' := fun u => cls_call hgu hgi (fun W hb => rWrite24_any s b1 hc0 HB0.out (.slice A s.ps.length c) f0 f1 f2 f3 f4 f5 f6 f7 f8 HL.out W (HP.out.to hb)) u
    generalize bs (fwV s [f0, f1, f2, f3, f4, f5, f6, f7, f8]) = tv at *
    generalize fwE s [f0, f1, f2, f3, f4, f5, f6, f7, f8] = te at *
    have q3 : (tv.toList == tv.toList) = true := by simp
    have q4 : (te == te) = true := by simp
    have q5 : (E == E) = true := by simp
    have q6 : (ea == ea) = true := by simp
    have EQ := fun w => (fields_eq g0 g1 g2 g3 g4 g5 g6 g7 g8 g0 g1 g2 g3 g4 g5 g6 g7 g8 w).trans (by rw [decide_eq_true rfl])
    go_wp2_with (first | ((with_reducible refine (CK _).mono ?_); rintro e w' ⟨rfl, u, rfl⟩) | ((with_reducible refine (CW _).mono ?_); rintro e w' ⟨rfl, u, rfl⟩) | ((with_reducible refine (CR _).mono ?_); rintro e w' ⟨rfl, u, rfl⟩))
    have CP : Calls Tryz.prog 34 #[.agg #[.string (bs s.c), .slice A s.ps.length c], .string (bs t)] (g u) fun e w' => e = .returned (.tuple #[.agg #[.string (bs g0), .string (bs g1), .string (bs g2), .string (bs g3), .string (bs g4), .string (bs g5), .string (bs g6), .string (bs g7), .string (bs g8)], .int .i64 E, .int .i64 ea]) ∧ Below (g u).heap.size (g u) w' := by
      have := FRead_any s hl0 hc0 (.slice A s.ps.length c) t (by omega) (g u) (HP.out.to (hgu u)) (HG.out.to (hgu u))
      skip
      rw [HRG.out, HRE.out, HRA.out] at this
      exact this
    refine CP.mono ?_
    rintro e w5 ⟨rfl, hb⟩
    have hbb : Below (g u).heap.size (g u) (w5.alloc (.cells #[.string (bs g0), .string (bs g1), .string (bs g2), .string (bs g3), .string (bs g4), .string (bs g5), .string (bs g6), .string (bs g7), .string (bs g8)] 26)) := below_alloc hb (Nat.le_refl _) _
    have HX5 := hide (Blk.new w5 26 #[.string (bs g0), .string (bs g1), .string (bs g2), .string (bs g3), .string (bs g4), .string (bs g5), .string (bs g6), .string (bs g7), .string (bs g8)])
    have HP5 := hide ((HP.out.to (hgu u)).to hbb)
    have HXs5 := hide ((HXs.out.to (hgu u)).to hbb)
    have HB5 := hide (below_to (below_to HB.out (Nat.le_refl _) (hgu u)) (Nat.le_refl _) hbb)
    have x0 := (HXs5.out.cell 0).trans (show _ = some (Value.string (bs s.c)) from rfl)
    have x1 := (HXs5.out.cell 1).trans (show _ = some (Value.slice A s.ps.length c) from rfl)
    clear hb hbb CK CW CR CP HP HG HXs HXf HB xs_0 xs_1 xf_0 xf_1 xf_2 xf_3 xf_4 xf_5 xf_6 xf_7 xf_8
    go_upto_region 7 with fail
    generalize w5.alloc (.cells #[.string (bs g0), .string (bs g1), .string (bs g2), .string (bs g3), .string (bs g4), .string (bs g5), .string (bs g6), .string (bs g7), .string (bs g8)] 26) = w6 at *
    generalize w5.heap.size = bx at *
    clear hgu hgi
    have CQ : Calls Tryz.prog 35 #[.agg #[.string (bs s.c), .slice A s.ps.length c], .string (bs t)] w6 fun e w' => e = .returned (.tuple #[.agg #[.string (bs g0), .string (bs g1), .string (bs g2), .string (bs g3), .string (bs g4), .string (bs g5), .string (bs g6), .string (bs g7), .string (bs g8)], .int .i64 E, .int .i64 ea]) ∧ Below w6.heap.size w6 w' := by
      have := rRead24_any s (Nat.le_trans b1 (by decide)) hc0 HB2.out (.slice A s.ps.length c) t (by omega) w6 HP5.out
      unfold fin24 at this
      rw [HRG.out, HRE.out, HRA.out] at this
      exact this
    go_wp2_with fail
    refine CQ.mono ?_
    rintro e w7 ⟨rfl, hb⟩
    have hbb : Below w6.heap.size w6 (w7.alloc (.cells #[.string (bs g0), .string (bs g1), .string (bs g2), .string (bs g3), .string (bs g4), .string (bs g5), .string (bs g6), .string (bs g7), .string (bs g8)] 26)) := below_alloc hb (Nat.le_refl _) _
    have HY := hide (Blk.new w7 26 #[.string (bs g0), .string (bs g1), .string (bs g2), .string (bs g3), .string (bs g4), .string (bs g5), .string (bs g6), .string (bs g7), .string (bs g8)])
    have HX := hide (HX5.out.to hbb)
    have HB7 := hide (below_to HB5.out (Nat.le_refl _) hbb)
    clear hb hbb CQ x0 x1 HX5 HB5 HP5 HXs5
    go_upto_region 8 with fail
    generalize w7.alloc (.cells #[.string (bs g0), .string (bs g1), .string (bs g2), .string (bs g3), .string (bs g4), .string (bs g5), .string (bs g6), .string (bs g7), .string (bs g8)] 26) = w8 at *
    generalize w7.heap.size = by' at *
    have y0 : w8.cell? ⟨by', 0, none⟩ = some (.string (bs g0)) := HY.out.cell 0
    have z0 : w8.cell? ⟨bx, 0, none⟩ = some (.string (bs g0)) := HX.out.cell 0
    have y1 : w8.cell? ⟨by', 1, none⟩ = some (.string (bs g1)) := HY.out.cell 1
    have z1 : w8.cell? ⟨bx, 1, none⟩ = some (.string (bs g1)) := HX.out.cell 1
    have y2 : w8.cell? ⟨by', 2, none⟩ = some (.string (bs g2)) := HY.out.cell 2
    have z2 : w8.cell? ⟨bx, 2, none⟩ = some (.string (bs g2)) := HX.out.cell 2
    have y3 : w8.cell? ⟨by', 3, none⟩ = some (.string (bs g3)) := HY.out.cell 3
    have z3 : w8.cell? ⟨bx, 3, none⟩ = some (.string (bs g3)) := HX.out.cell 3
    have y4 : w8.cell? ⟨by', 4, none⟩ = some (.string (bs g4)) := HY.out.cell 4
    have z4 : w8.cell? ⟨bx, 4, none⟩ = some (.string (bs g4)) := HX.out.cell 4
    have y5 : w8.cell? ⟨by', 5, none⟩ = some (.string (bs g5)) := HY.out.cell 5
    have z5 : w8.cell? ⟨bx, 5, none⟩ = some (.string (bs g5)) := HX.out.cell 5
    have y6 : w8.cell? ⟨by', 6, none⟩ = some (.string (bs g6)) := HY.out.cell 6
    have z6 : w8.cell? ⟨bx, 6, none⟩ = some (.string (bs g6)) := HX.out.cell 6
    have y7 : w8.cell? ⟨by', 7, none⟩ = some (.string (bs g7)) := HY.out.cell 7
    have z7 : w8.cell? ⟨bx, 7, none⟩ = some (.string (bs g7)) := HX.out.cell 7
    have y8 : w8.cell? ⟨by', 8, none⟩ = some (.string (bs g8)) := HY.out.cell 8
    have z8 : w8.cell? ⟨bx, 8, none⟩ = some (.string (bs g8)) := HX.out.cell 8
    go_wp2_with fail
    go_ret
    exact ⟨rfl, HB7.out⟩
end Go.Proofs.YtdcafoekbnacnaaGreatDoor
