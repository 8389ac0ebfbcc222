/- Several texts as one, in build order. -/
import Derived.Test.YtgdgdhpmjkefjaaGreatDoorMB
import Derived.Test.YtgdgdhpmjkefjaaGreatDoorMA
import Derived.Laws.AppendOwn
import Derived.Maps.AppendAt
import Derived.BigQuiet
import Derived.Test.YtgdgdhpmjkefjaaGreatDoorRows
import Derived.Stop.LaidErr
import Derived.Lib.LaidTab
import Derived.Clock
/- Walks of package forward: greatest; the map of the orders that count. -/
set_option linter.unusedVariables false
set_option linter.unusedSimpArgs false
namespace Go.Proofs.YtgdgdhpmjkefjaaGreatDoor
open Go.RowKit Go.Shelf

theorem ent_more : ∀ args w, (callFunc 36 args).run Tryz.prog w = .ok (.enter 36 args) w := enters_fn Tryz.func36 (by kernel_rfl) rfl
theorem best_snoc (b : Od) {r : List Od} {k : Nat} {x : Od} (h : r[k]? = some x) : bestB b (r.take (k + 1)) = if newerB x (bestB b (r.take k)) then x else bestB b (r.take k) := by
  unfold bestB
  rw [List.take_add_one, h, List.foldl_append]; rfl
set_option maxRecDepth 100000 in
set_option maxHeartbeats 4000000 in
theorem greatest_any (o : Od) (r : List Od) (hl : r.length ≤ 1000000) (v : Value) (w : World) (hv : OdsAt w v (o :: r)) : Calls Tryz.prog 35 #[v, .func (.func 36) #[] #[]] w fun e w' => e = .returned (.agg #[.string (bs (bestB o r).i), .string (bs (bestB o r).p), .string (bs (bestB o r).f), .string (bs (bestB o r).t), .int .i64 (bestB o r).a, .int .i64 (bestB o r).b]) ∧ Below w.heap.size w w' := by
  obtain ⟨A, c, rfl⟩ := hv.slice
  obtain ⟨a, rfl, ha, c0, c1, c2, c3, c4, c5⟩ := OdsAt.at_ hv (show (o :: r)[0]? = some o from rfl)
  rw [Nat.zero_mul, show a.add 0 = a by unfold Addr.add; simp] at c0 c1 c2 c3 c4 c5
  have hcap : r.length + 1 ≤ c := by
    obtain ⟨_, _, e1, h2, _⟩ := hv
    injection e1 with _ _ e3
    subst e3
    simpa using h2
  have HV := hide hv
  have HB0 := hide (below_two w (.cells #[.string ⟨#[]⟩, .string ⟨#[]⟩, .string ⟨#[]⟩, .string ⟨#[]⟩, .int .i64 0, .int .i64 0] 39) (.cells #[.string (bs o.i), .string (bs o.p), .string (bs o.f), .string (bs o.t), .int .i64 o.a, .int .i64 o.b] 39))
  have HK4 := hide ((Blk.new w 39 #[.string ⟨#[]⟩, .string ⟨#[]⟩, .string ⟨#[]⟩, .string ⟨#[]⟩, .int .i64 0, .int .i64 0]).alloc (.cells #[.string (bs o.i), .string (bs o.p), .string (bs o.f), .string (bs o.t), .int .i64 o.a, .int .i64 o.b] 39))
  have HK5 : Hid (Blk ((w.alloc (.cells #[.string ⟨#[]⟩, .string ⟨#[]⟩, .string ⟨#[]⟩, .string ⟨#[]⟩, .int .i64 0, .int .i64 0] 39)).alloc (.cells #[.string (bs o.i), .string (bs o.p), .string (bs o.f), .string (bs o.t), .int .i64 o.a, .int .i64 o.b] 39)) (w.heap.size + 1) 39 #[.string (bs o.i), .string (bs o.p), .string (bs o.f), .string (bs o.t), .int .i64 o.a, .int .i64 o.b]) := by
    have h := Blk.new (w.alloc (.cells #[.string ⟨#[]⟩, .string ⟨#[]⟩, .string ⟨#[]⟩, .string ⟨#[]⟩, .int .i64 0, .int .i64 0] 39)) 39 #[.string (bs o.i), .string (bs o.p), .string (bs o.f), .string (bs o.t), .int .i64 o.a, .int .i64 o.b]
    rw [show (w.alloc (.cells #[.string ⟨#[]⟩, .string ⟨#[]⟩, .string ⟨#[]⟩, .string ⟨#[]⟩, .int .i64 0, .int .i64 0] 39)).heap.size = w.heap.size + 1 by simp] at h
    exact h
  have hl1 : (o :: r).length = r.length + 1 := rfl
  rw [hl1] at HV ⊢
  clear hv
  go_enter Tryz.func35, Tryz.ntmps35
  go_upto_region 3 with fail
  · have hr : r = [] := by
      cases r with
      | nil => rfl
      | cons _ _ => simp at hcap; omega
    have HR : Hid (OdsAt w (.slice (some a) r.length 0) r) := by
      show OdsAt _ _ _
      rw [hr]
      exact ⟨some a, 0, rfl, by simp, by simp, fun k x h => by simp at h⟩
    clear hcap hr
    generalize hX : a = X at *
    clear c0 c1 c2 c3 c4 c5 hX
    generalize (w.alloc (.cells #[.string ⟨#[]⟩, .string ⟨#[]⟩, .string ⟨#[]⟩, .string ⟨#[]⟩, .int .i64 0, .int .i64 0] 39)).alloc (.cells #[.string (bs o.i), .string (bs o.p), .string (bs o.f), .string (bs o.t), .int .i64 o.a, .int .i64 o.b] 39) = w2 at *
    obtain ⟨b4, hb4⟩ : ∃ b, Hid (w.heap.size = b) := ⟨_, rfl⟩
    rw [hb4.out] at HK4 HB0 HK5 ⊢
    have hE := ent_more
    go_loopw [14] (fun i wr => ∃ k : Nat, i = .int .i64 (k : Int) ∧ k ≤ r.length ∧ Aside (Below b4 w wr) ∧ Aside (Blk wr (b4 + 1) 39 (odC (bestB o (r.take k)))) ∧ Aside (Blk wr b4 39 #[.string ⟨#[]⟩, .string ⟨#[]⟩, .string ⟨#[]⟩, .string ⟨#[]⟩, .int .i64 0, .int .i64 0])) (fun i _ => r.length - (intOf i).toNat)
    case atStart => exact ⟨0, rfl, by omega, HB0.out, HK5.out, HK4.out⟩
    case round =>
      obtain ⟨k, rfl, hk, hB, hK, hZ⟩ := hrel
      have HB : Hid (Below b4 w wr) := hB
      have HK : Hid (Blk wr (b4 + 1) 39 (odC (bestB o (r.take k)))) := hK
      have HZ : Hid (Blk wr b4 39 #[.string ⟨#[]⟩, .string ⟨#[]⟩, .string ⟨#[]⟩, .string ⟨#[]⟩, .int .i64 0, .int .i64 0]) := hZ
      clear hB hK hZ
      by_cases hlt : k < r.length
      · have e1 : decide ((k : Int) < (r.length : Int)) = true := decide_eq_true (by omega)
        obtain ⟨x, hx⟩ : ∃ x, r[k]? = some x := ⟨_, List.getElem?_eq_getElem hlt⟩
        obtain ⟨a', ea, ha', c0, c1, c2, c3, c4, c5⟩ := OdsAt.at_ (HR.out.to (hb4.out ▸ HB.out)) hx
        cases ea
        have HS := hide (best_snoc o hx)
        generalize bestB o (r.take k) = q at *
        have HK : Hid (Blk wr (b4 + 1) 39 #[.string (bs q.i), .string (bs q.p), .string (bs q.f), .string (bs q.t), .int .i64 q.a, .int .i64 q.b]) := HK.out
        clear hx
        go_upto_region 5 with fail
        have HB2 : Hid (Below b4 w (wr.alloc (.cells #[.string (bs x.i), .string (bs x.p), .string (bs x.f), .string (bs x.t), .int .i64 x.a, .int .i64 x.b] 39))) := HB.out.alloc (Nat.le_of_lt HZ.out.lt) _
        have HK2 := hide (HK.out.alloc (.cells #[.string (bs x.i), .string (bs x.p), .string (bs x.f), .string (bs x.t), .int .i64 x.a, .int .i64 x.b] 39))
        have HZ2 := hide (HZ.out.alloc (.cells #[.string (bs x.i), .string (bs x.p), .string (bs x.f), .string (bs x.t), .int .i64 x.a, .int .i64 x.b] 39))
        have HX2 := hide (Blk.new wr 39 #[.string (bs x.i), .string (bs x.p), .string (bs x.f), .string (bs x.t), .int .i64 x.a, .int .i64 x.b])
        have hne : b4 + 1 ≠ wr.heap.size := Nat.ne_of_lt HK.out.lt
        generalize wr.alloc (.cells #[.string (bs x.i), .string (bs x.p), .string (bs x.f), .string (bs x.t), .int .i64 x.a, .int .i64 x.b] 39) = w3 at *
        obtain ⟨b7, hb7⟩ : ∃ b, Hid (wr.heap.size = b) := ⟨_, rfl⟩
        rw [hb7.out] at HX2 hne ⊢
        clear c0 c1 c2 c3 c4 c5 ha'
        obtain ⟨U, hU, g, u0, rfl, hgu, hi⟩ := cls w3
        have CM := cls_call hgu hi (fun w _ => more_any x q w)
        have x0 := blk_all hgu HX2.out 0 rfl
        have x1 := blk_all hgu HX2.out 1 rfl
        have x2 := blk_all hgu HX2.out 2 rfl
        have x3 := blk_all hgu HX2.out 3 rfl
        have x4 := blk_all hgu HX2.out 4 rfl
        have x5 := blk_all hgu HX2.out 5 rfl
        have q0 := blk_all hgu HK2.out 0 rfl
        have q1 := blk_all hgu HK2.out 1 rfl
        have q2 := blk_all hgu HK2.out 2 rfl
        have q3 := blk_all hgu HK2.out 3 rfl
        have q4 := blk_all hgu HK2.out 4 rfl
        have q5 := blk_all hgu HK2.out 5 rfl
        have fq : ∀ u i, (g u).frozen? ⟨b4 + 1, i, none⟩ = false := fun u i => (HK2.out.to (hgu u)).frozen i
        have HGU := hide hgu
        clear hgu hi
        cases hn : newerB x q with
        | true =>
          rw [hn] at CM HS
          clear hn
          go_wp2_with ((with_reducible refine (CM _).mono ?_); rintro e w' ⟨rfl, uz, rfl⟩)
          have hK := ((((((HK2.out.to (HGU.out uz)).set_ 0 (.string (bs x.i))).set_ 1 (.string (bs x.p))).set_ 2 (.string (bs x.f))).set_ 3 (.string (bs x.t))).set_ 4 (.int .i64 x.a)).set_ 5 (.int .i64 x.b)
          have hZ := ((((((HZ2.out.to (HGU.out uz)).far (p := ⟨b4 + 1, 0, none⟩) (by simp) (.string (bs x.i))).far (p := ⟨b4 + 1, 1, none⟩) (by simp) (.string (bs x.p))).far (p := ⟨b4 + 1, 2, none⟩) (by simp) (.string (bs x.f))).far (p := ⟨b4 + 1, 3, none⟩) (by simp) (.string (bs x.t))).far (p := ⟨b4 + 1, 4, none⟩) (by simp) (.int .i64 x.a)).far (p := ⟨b4 + 1, 5, none⟩) (by simp) (.int .i64 x.b)
          have hB : Below b4 w (g uz) := HB2.out.trans ((HGU.out uz).mono (Nat.le_of_lt HZ2.out.lt))
          have hB' := (((((hB.setCell (p := ⟨b4 + 1, 0, none⟩) (by simp) (.string (bs x.i))).setCell (p := ⟨b4 + 1, 1, none⟩) (by simp) (.string (bs x.p))).setCell (p := ⟨b4 + 1, 2, none⟩) (by simp) (.string (bs x.f))).setCell (p := ⟨b4 + 1, 3, none⟩) (by simp) (.string (bs x.t))).setCell (p := ⟨b4 + 1, 4, none⟩) (by simp) (.int .i64 x.a)).setCell (p := ⟨b4 + 1, 5, none⟩) (by simp) (.int .i64 x.b)
          refine ⟨⟨k + 1, by go_num, by omega, hB', ?_, hZ⟩, ?_⟩
          · rw [HS.out]; exact hK
          · simp [intOf]; omega
        | false =>
          rw [hn] at CM HS
          clear hn
          go_wp2_with ((with_reducible refine (CM _).mono ?_); rintro e w' ⟨rfl, uz, rfl⟩)
          refine ⟨⟨k + 1, by go_num, by omega, HB2.out.trans ((HGU.out uz).mono (Nat.le_of_lt HZ2.out.lt)), ?_, HZ2.out.to (HGU.out uz)⟩, ?_⟩
          · rw [HS.out]; exact HK2.out.to (HGU.out uz)
          · simp [intOf]; omega
      · obtain rfl : k = r.length := by omega
        have e1 : decide ((r.length : Int) < (r.length : Int)) = false := by simp
        rw [List.take_length] at HK
        obtain ⟨q, hq⟩ : ∃ q, Hid (bestB o r = q) := ⟨_, rfl⟩
        have HK : Hid (Blk wr (b4 + 1) 39 #[.string (bs q.i), .string (bs q.p), .string (bs q.f), .string (bs q.t), .int .i64 q.a, .int .i64 q.b]) := by show Blk _ _ _ _; rw [← hq.out]; exact HK.out
        have q0 := HK.out.cell 0
        have q1 := HK.out.cell 1
        have q2 := HK.out.cell 2
        have q3 := HK.out.cell 3
        have q4 := HK.out.cell 4
        have q5 := HK.out.cell 5
        have z0 := HZ.out.cell 0
        have z1 := HZ.out.cell 1
        have z2 := HZ.out.cell 2
        have z3 := HZ.out.cell 3
        have z4 := HZ.out.cell 4
        have z5 := HZ.out.cell 5
        have fz := fun i => HZ.out.frozen i
        go_wp2_with fail
        have hbk := ((((((HZ.out).set_ 0 (.string (bs q.i))).set_ 1 (.string (bs q.p))).set_ 2 (.string (bs q.f))).set_ 3 (.string (bs q.t))).set_ 4 (.int .i64 q.a)).set_ 5 (.int .i64 q.b)
        refine bodyPost_ret (results_cell_blk (p := 4) rfl _ _ b4 39 _ _ rfl hbk Tryz.underlying39 rfl (by kernel_rfl)) rfl ⟨by rw [hq.out]; rfl, ?_⟩
        rw [hb4.out]
        exact (((((HB.out.setCell (p := ⟨b4, 0, none⟩) (Nat.le_refl _) _).setCell (p := ⟨b4, 1, none⟩) (Nat.le_refl _) _).setCell (p := ⟨b4, 2, none⟩) (Nat.le_refl _) _).setCell (p := ⟨b4, 3, none⟩) (Nat.le_refl _) _).setCell (p := ⟨b4, 4, none⟩) (Nat.le_refl _) _).setCell (p := ⟨b4, 5, none⟩) (Nat.le_refl _) _
  · have HR : Hid (OdsAt w (.slice (some ⟨a.block, a.off + 6, none⟩) r.length (c - 1)) r) := by
      have h := RowsAt.drop HV.out (k := 1) (by simp) (c - 1) (by simp; omega)
      rw [show a.add (1 * 6) = ⟨a.block, a.off + 6, none⟩ by unfold Addr.add; simp] at h
      show RowsAt _ _ _ _
      simpa using h
    clear hcap
    generalize hX : (⟨a.block, a.off + 6, none⟩ : Addr) = X at *
    clear c0 c1 c2 c3 c4 c5 hX
    generalize (w.alloc (.cells #[.string ⟨#[]⟩, .string ⟨#[]⟩, .string ⟨#[]⟩, .string ⟨#[]⟩, .int .i64 0, .int .i64 0] 39)).alloc (.cells #[.string (bs o.i), .string (bs o.p), .string (bs o.f), .string (bs o.t), .int .i64 o.a, .int .i64 o.b] 39) = w2 at *
    obtain ⟨b4, hb4⟩ : ∃ b, Hid (w.heap.size = b) := ⟨_, rfl⟩
    rw [hb4.out] at HK4 HB0 HK5 ⊢
    have hE := ent_more
    go_loopw [14] (fun i wr => ∃ k : Nat, i = .int .i64 (k : Int) ∧ k ≤ r.length ∧ Aside (Below b4 w wr) ∧ Aside (Blk wr (b4 + 1) 39 (odC (bestB o (r.take k)))) ∧ Aside (Blk wr b4 39 #[.string ⟨#[]⟩, .string ⟨#[]⟩, .string ⟨#[]⟩, .string ⟨#[]⟩, .int .i64 0, .int .i64 0])) (fun i _ => r.length - (intOf i).toNat)
    case atStart => exact ⟨0, rfl, by omega, HB0.out, HK5.out, HK4.out⟩
    case round =>
      obtain ⟨k, rfl, hk, hB, hK, hZ⟩ := hrel
      have HB : Hid (Below b4 w wr) := hB
      have HK : Hid (Blk wr (b4 + 1) 39 (odC (bestB o (r.take k)))) := hK
      have HZ : Hid (Blk wr b4 39 #[.string ⟨#[]⟩, .string ⟨#[]⟩, .string ⟨#[]⟩, .string ⟨#[]⟩, .int .i64 0, .int .i64 0]) := hZ
      clear hB hK hZ
      by_cases hlt : k < r.length
      · have e1 : decide ((k : Int) < (r.length : Int)) = true := decide_eq_true (by omega)
        obtain ⟨x, hx⟩ : ∃ x, r[k]? = some x := ⟨_, List.getElem?_eq_getElem hlt⟩
        obtain ⟨a', ea, ha', c0, c1, c2, c3, c4, c5⟩ := OdsAt.at_ (HR.out.to (hb4.out ▸ HB.out)) hx
        cases ea
        have HS := hide (best_snoc o hx)
        generalize bestB o (r.take k) = q at *
        have HK : Hid (Blk wr (b4 + 1) 39 #[.string (bs q.i), .string (bs q.p), .string (bs q.f), .string (bs q.t), .int .i64 q.a, .int .i64 q.b]) := HK.out
        clear hx
        go_upto_region 5 with fail
        have HB2 : Hid (Below b4 w (wr.alloc (.cells #[.string (bs x.i), .string (bs x.p), .string (bs x.f), .string (bs x.t), .int .i64 x.a, .int .i64 x.b] 39))) := HB.out.alloc (Nat.le_of_lt HZ.out.lt) _
        have HK2 := hide (HK.out.alloc (.cells #[.string (bs x.i), .string (bs x.p), .string (bs x.f), .string (bs x.t), .int .i64 x.a, .int .i64 x.b] 39))
        have HZ2 := hide (HZ.out.alloc (.cells #[.string (bs x.i), .string (bs x.p), .string (bs x.f), .string (bs x.t), .int .i64 x.a, .int .i64 x.b] 39))
        have HX2 := hide (Blk.new wr 39 #[.string (bs x.i), .string (bs x.p), .string (bs x.f), .string (bs x.t), .int .i64 x.a, .int .i64 x.b])
        have hne : b4 + 1 ≠ wr.heap.size := Nat.ne_of_lt HK.out.lt
        generalize wr.alloc (.cells #[.string (bs x.i), .string (bs x.p), .string (bs x.f), .string (bs x.t), .int .i64 x.a, .int .i64 x.b] 39) = w3 at *
        obtain ⟨b7, hb7⟩ : ∃ b, Hid (wr.heap.size = b) := ⟨_, rfl⟩
        rw [hb7.out] at HX2 hne ⊢
        clear c0 c1 c2 c3 c4 c5 ha'
        obtain ⟨U, hU, g, u0, rfl, hgu, hi⟩ := cls w3
        have CM := cls_call hgu hi (fun w _ => more_any x q w)
        have x0 := blk_all hgu HX2.out 0 rfl
        have x1 := blk_all hgu HX2.out 1 rfl
        have x2 := blk_all hgu HX2.out 2 rfl
        have x3 := blk_all hgu HX2.out 3 rfl
        have x4 := blk_all hgu HX2.out 4 rfl
        have x5 := blk_all hgu HX2.out 5 rfl
        have q0 := blk_all hgu HK2.out 0 rfl
        have q1 := blk_all hgu HK2.out 1 rfl
        have q2 := blk_all hgu HK2.out 2 rfl
        have q3 := blk_all hgu HK2.out 3 rfl
        have q4 := blk_all hgu HK2.out 4 rfl
        have q5 := blk_all hgu HK2.out 5 rfl
        have fq : ∀ u i, (g u).frozen? ⟨b4 + 1, i, none⟩ = false := fun u i => (HK2.out.to (hgu u)).frozen i
        have HGU := hide hgu
        clear hgu hi
        cases hn : newerB x q with
        | true =>
          rw [hn] at CM HS
          clear hn
          go_wp2_with ((with_reducible refine (CM _).mono ?_); rintro e w' ⟨rfl, uz, rfl⟩)
          have hK := ((((((HK2.out.to (HGU.out uz)).set_ 0 (.string (bs x.i))).set_ 1 (.string (bs x.p))).set_ 2 (.string (bs x.f))).set_ 3 (.string (bs x.t))).set_ 4 (.int .i64 x.a)).set_ 5 (.int .i64 x.b)
          have hZ := ((((((HZ2.out.to (HGU.out uz)).far (p := ⟨b4 + 1, 0, none⟩) (by simp) (.string (bs x.i))).far (p := ⟨b4 + 1, 1, none⟩) (by simp) (.string (bs x.p))).far (p := ⟨b4 + 1, 2, none⟩) (by simp) (.string (bs x.f))).far (p := ⟨b4 + 1, 3, none⟩) (by simp) (.string (bs x.t))).far (p := ⟨b4 + 1, 4, none⟩) (by simp) (.int .i64 x.a)).far (p := ⟨b4 + 1, 5, none⟩) (by simp) (.int .i64 x.b)
          have hB : Below b4 w (g uz) := HB2.out.trans ((HGU.out uz).mono (Nat.le_of_lt HZ2.out.lt))
          have hB' := (((((hB.setCell (p := ⟨b4 + 1, 0, none⟩) (by simp) (.string (bs x.i))).setCell (p := ⟨b4 + 1, 1, none⟩) (by simp) (.string (bs x.p))).setCell (p := ⟨b4 + 1, 2, none⟩) (by simp) (.string (bs x.f))).setCell (p := ⟨b4 + 1, 3, none⟩) (by simp) (.string (bs x.t))).setCell (p := ⟨b4 + 1, 4, none⟩) (by simp) (.int .i64 x.a)).setCell (p := ⟨b4 + 1, 5, none⟩) (by simp) (.int .i64 x.b)
          refine ⟨⟨k + 1, by go_num, by omega, hB', ?_, hZ⟩, ?_⟩
          · rw [HS.out]; exact hK
          · simp [intOf]; omega
        | false =>
          rw [hn] at CM HS
          clear hn
          go_wp2_with ((with_reducible refine (CM _).mono ?_); rintro e w' ⟨rfl, uz, rfl⟩)
          refine ⟨⟨k + 1, by go_num, by omega, HB2.out.trans ((HGU.out uz).mono (Nat.le_of_lt HZ2.out.lt)), ?_, HZ2.out.to (HGU.out uz)⟩, ?_⟩
          · rw [HS.out]; exact HK2.out.to (HGU.out uz)
          · simp [intOf]; omega
      · obtain rfl : k = r.length := by omega
        have e1 : decide ((r.length : Int) < (r.length : Int)) = false := by simp
        rw [List.take_length] at HK
        obtain ⟨q, hq⟩ : ∃ q, Hid (bestB o r = q) := ⟨_, rfl⟩
        have HK : Hid (Blk wr (b4 + 1) 39 #[.string (bs q.i), .string (bs q.p), .string (bs q.f), .string (bs q.t), .int .i64 q.a, .int .i64 q.b]) := by show Blk _ _ _ _; rw [← hq.out]; exact HK.out
        have q0 := HK.out.cell 0
        have q1 := HK.out.cell 1
        have q2 := HK.out.cell 2
        have q3 := HK.out.cell 3
        have q4 := HK.out.cell 4
        have q5 := HK.out.cell 5
        have z0 := HZ.out.cell 0
        have z1 := HZ.out.cell 1
        have z2 := HZ.out.cell 2
        have z3 := HZ.out.cell 3
        have z4 := HZ.out.cell 4
        have z5 := HZ.out.cell 5
        have fz := fun i => HZ.out.frozen i
        go_wp2_with fail
        have hbk := ((((((HZ.out).set_ 0 (.string (bs q.i))).set_ 1 (.string (bs q.p))).set_ 2 (.string (bs q.f))).set_ 3 (.string (bs q.t))).set_ 4 (.int .i64 q.a)).set_ 5 (.int .i64 q.b)
        refine bodyPost_ret (results_cell_blk (p := 4) rfl _ _ b4 39 _ _ rfl hbk Tryz.underlying39 rfl (by kernel_rfl)) rfl ⟨by rw [hq.out]; rfl, ?_⟩
        rw [hb4.out]
        exact (((((HB.out.setCell (p := ⟨b4, 0, none⟩) (Nat.le_refl _) _).setCell (p := ⟨b4, 1, none⟩) (Nat.le_refl _) _).setCell (p := ⟨b4, 2, none⟩) (Nat.le_refl _) _).setCell (p := ⟨b4, 3, none⟩) (Nat.le_refl _) _).setCell (p := ⟨b4, 4, none⟩) (Nat.le_refl _) _).setCell (p := ⟨b4, 5, none⟩) (Nat.le_refl _) _
end Go.Proofs.YtgdgdhpmjkefjaaGreatDoor

/- Worlds that differ at one block; rows under a store elsewhere. -/
set_option linter.unusedVariables false
set_option linter.unusedSimpArgs false
namespace Go.Proofs.YtgdgdhpmjkefjaaGreatDoor
open Go.RowKit

theorem RowsAt.store {w : World} {size : Nat} {A : Option Addr} {n c : Nat} {ls : List (List Value)} (h : RowsAt w size (.slice A n c) ls) {p : Addr} (hp : ∀ a, A = some a → a.block ≠ p.block) (u : Value) : RowsAt (w.setCell p u) size (.slice A n c) ls := by
  obtain ⟨A', c', h1, h2, h3, h4⟩ := h
  have e := h1
  injection e with e1 e2 e3
  subst e1
  refine ⟨A, c', h1, h2, h3, fun k x hx => ?_⟩
  obtain ⟨a, ha, hl, hc⟩ := h4 k x hx
  refine ⟨a, ha, by simpa [World.setCell] using hl, fun j v hv => ?_⟩
  rw [World.cell?_setCell_other _ _ _ _ (fun h => hp a ha (by rw [h, block_of_add, block_of_add]))]
  exact hc j v hv
/-- all is as it was but for the blocks p and q -/
structure Two (p q : Nat) (w w' : World) : Prop where
  os : w'.os = w.os
  tape : w'.tape = w.tape
  output : w'.output = w.output
  size : w.heap.size ≤ w'.heap.size
  block : ∀ k, k < w.heap.size → k ≠ p → k ≠ q → w'.heap[k]? = w.heap[k]?
section
variable {p q : Nat} {a w w' : World}
theorem Two.refl (p q : Nat) (w : World) : Two p q w w := ⟨rfl, rfl, rfl, Nat.le_refl _, fun _ _ _ _ => rfl⟩
theorem Two.trans {b c : World} (h : Two p q a b) (k : Two p q b c) : Two p q a c := ⟨k.os.trans h.os, k.tape.trans h.tape, k.output.trans h.output, Nat.le_trans h.size k.size, fun i hi h1 h2 => (k.block i (Nat.lt_of_lt_of_le hi h.size) h1 h2).trans (h.block i hi h1 h2)⟩
theorem Two.of (h : Below w.heap.size w w') : Two p q w w' := ⟨h.os, h.tape, h.output, h.size, fun k hk _ _ => h.block k hk⟩
theorem Two.to {w2 : World} (h : Two p q w w') (h' : Below w'.heap.size w' w2) : Two p q w w2 := h.trans (Two.of h')
theorem Two.drewN (h : Two p q a w) (n : Nat) : Two p q a (w.drewN n) := ⟨h.os, h.tape, h.output, h.size, h.block⟩
theorem Two.blk {g : Nat} {t : TypeId} {cs : Array Value} (H : Blk w g t cs) (hb : Two p q w w') (h1 : g ≠ p) (h2 : g ≠ q) : Blk w' g t cs := (hb.block g H.lt h1 h2).trans H
theorem Two.below {B : Nat} (h : Two p q w w') (hB : B ≤ w.heap.size) (h1 : B ≤ p) (h2 : B ≤ q) : Below B w w' := ⟨h.os, h.tape, h.output, h.size, fun k hk => h.block k (by omega) (by omega) (by omega)⟩
end
end Go.Proofs.YtgdgdhpmjkefjaaGreatDoor

/- append to a row that is one's own: the elder value still reads as before; worlds that differ at two blocks. -/
set_option linter.unusedVariables false
set_option linter.unusedSimpArgs false
namespace Go.Proofs.YtgdgdhpmjkefjaaGreatDoor
open Go Go.RowKit

section
variable {P : Program} (w : World)
theorem run_append_keep (base : Nat) (t ty e : TypeId) (i : TypeInfo) (z : Value) (size bytes : Nat) (ht : P.underlying t = some (.slice e)) (hi : P.info? e = some i) (hz : i.zero = some z)
    (hsize : i.size = size) (hby : i.bytes = bytes) (hzs : z.cells.size = size) (hsz : 0 < size)
    (v : Value) (n : Nat) (xs : List Value) (hown : w.ownsRow base e size v n xs)
    (a : Addr) (m c : Nat) (news : List Value) (hl : news.length = m * size) (hnews : ∀ j u, news[j]? = some u → w.cell? (a.add j) = some u) (h1 : ∀ u ∈ news, u.oneCell' = true)
    (h63 : n + m ≤ maxLen) (hbytes : (n + m) * bytes ≤ 140737488355328) (hbase : base ≤ w.heap.size) :
    ∃ v' w', (Builtin.append_ #[t, t] ty #[v, .slice (some a) m c]).run P w = .ok v' w' ∧ w'.ownsRow base e size v' (n + m) (xs ++ news) ∧ w.grownBy w' v.ownBlock ∧
      w'.ownsRow base e size v n xs ∧ (v'.ownBlock = v.ownBlock ∨ ∃ g, v'.ownBlock = some g ∧ w.heap.size ≤ g) := by
  rcases hown.2 with ⟨rfl, rfl⟩ | ⟨g, cap, cur, rfl, hbg, hg, hnc, hcm, hcs, htake⟩
  · obtain ⟨v', w', h2, h3, h4, _, h5⟩ := run_append_own_at (P := P) w base t ty e i z size bytes ht hi hz hsize hby hzs hsz _ _ xs hown a m c news hl hnews h1 h63 hbytes hbase
    have hx : xs = [] := List.eq_nil_of_length_eq_zero (by simpa using hown.1)
    subst hx
    exact ⟨v', w', h2, h3, h4, World.ownsRow_nil _ _ _ _, h5.imp id fun h => ⟨_, h, Nat.le_refl _⟩⟩
  · by_cases hroom : n + m ≤ cap
    · subst hsize
      have hlen : (xs ++ news).length = (n + m) * i.size := by rw [List.length_append, hown.1, hl, Nat.add_mul]
      have hfit : n * i.size + news.length ≤ cur.size := by rw [hl, hcs, ← Nat.add_mul]; exact Nat.mul_le_mul_right _ hroom
      have hr := run_append_room (P := P) w t ty e i ht hi g n cap cur hg a m c news hl hnews h1 hroom hfit
      have hsz2 : (cur.toList.take (n * i.size) ++ news ++ cur.toList.drop (n * i.size + news.length)).toArray.size = cap * i.size := by
        simp only [List.size_toArray, List.length_append, List.length_take, List.length_drop, Array.length_toList]
        omega
      refine ⟨_, _, hr, ⟨hlen, .inr ⟨g, cap, _, rfl, hbg, setRow_heap w g cur _ e _ hg, hroom, hcm, hsz2, ?_⟩⟩, ⟨rfl, rfl, rfl, by simp, fun k _ hk => setRow_other w g k _ (fun e => hk (by simp [Value.ownBlock, e]))⟩,
        ⟨hown.1, .inr ⟨g, cap, _, rfl, hbg, setRow_heap w g cur _ e _ hg, hnc, hcm, hsz2, ?_⟩⟩, .inl rfl⟩
      · rw [htake, ← hlen]
        exact List.take_left
      · rw [htake, ← hown.1]
        show ((xs ++ news) ++ _).take xs.length = xs
        rw [List.append_assoc]
        exact List.take_left
    · obtain ⟨v', w', h2, h3, h4, _, h5⟩ := run_append_own_at (P := P) w base t ty e i z size bytes ht hi hz hsize hby hzs hsz _ _ xs hown a m c news hl hnews h1 h63 hbytes hbase
      subst hsize
      subst hby
      have holds : ∀ j u, xs[j]? = some u → w.cell? ((⟨g, 0, none⟩ : Addr).add j) = some u := hown.cells (g := g) rfl
      have hr := run_append_grow (P := P) w t ty e i z ht hi hz ⟨g, 0, none⟩ n cap xs hown.1 holds a m c news hl hnews (by omega) (by simp only [maxLen] at h63; omega) (growslice_fits (by omega) hbytes)
      rw [hr] at h2
      injection h2 with e1 e2
      subst e1 e2
      refine ⟨_, _, hr, h3, h4, ⟨hown.1, .inr ⟨g, cap, cur, rfl, hbg, ?_, hnc, hcm, hcs, htake⟩⟩, .inr ⟨_, rfl, Nat.le_refl _⟩⟩
      rw [heap_alloc_old w.drew _ (Array.getElem?_eq_some_iff.1 hg).1]
      exact hg
theorem wp_append_keep {o : Oper} {a : Act} {K : Act → World → Prop} {Q : Exit → Act → World → Prop} (s x : Operand) (t : TypeId)
    (ho : o.op = .call { callee := .builtin .append, args := #[s, x], argTypes := #[t, t] })
    (base : Nat) (e : TypeId) (i : TypeInfo) (z : Value) (size bytes : Nat) (ht : P.underlying t = some (.slice e)) (hi : P.info? e = some i) (hz : i.zero = some z)
    (hsize : i.size = size) (hby : i.bytes = bytes) (hzs : z.cells.size = size) (hsz : 0 < size)
    (v : Value) (n : Nat) (xs : List Value) (hs : a.eval s = v) (hown : w.ownsRow base e size v n xs)
    (ad : Addr) (m c : Nat) (news : List Value) (hx : a.eval x = .slice (some ad) m c) (hl : news.length = m * size) (hnews : ∀ j u, news[j]? = some u → w.cell? (ad.add j) = some u) (h1 : ∀ u ∈ news, u.oneCell' = true)
    (h63 : n + m ≤ maxLen) (hbytes : (n + m) * bytes ≤ 140737488355328) (hbase : base ≤ w.heap.size)
    (h : ∀ v' w', w'.ownsRow base e size v' (n + m) (xs ++ news) → w.grownBy w' v.ownBlock → w'.ownsRow base e size v n xs → (v'.ownBlock = v.ownBlock ∨ ∃ g, v'.ownBlock = some g ∧ w.heap.size ≤ g) → K (a.put o.dst v') w') : o.wp P a w K Q := by
  obtain ⟨v', w', hr, h2, h3, h4, h5⟩ := run_append_keep (P := P) w base t o.type e i z size bytes ht hi hz hsize hby hzs hsz v n xs hown ad m c news hl hnews h1 h63 hbytes hbase
  unfold Oper.wp execOp
  simp only [ho, resolve, invoke, builtin, Sem.run_bind, Sem.run_pure, Result.andThen_ok, List.map_toArray, List.map_cons, List.map_nil, hs, hx, hr]
  exact h v' w' h2 h3 h4 h5
end
/-- the block that an append may write, or another one -/
def rowOr (v : Value) (p : Nat) : Nat := v.ownBlock.getD p
section
variable {p q : Nat} {a w w' : World}
theorem Two.grown {v : Value} (h : w.grownBy w' v.ownBlock) : Two p (rowOr v p) w w' := by
  refine ⟨h.os, h.tape, h.output, h.size, fun k hk h1 h2 => h.block k hk fun e => ?_⟩
  unfold rowOr at h2
  rw [← e] at h2
  exact h2 rfl
/-- rows of two kinds lie in two blocks -/
theorem ownsRow_apart {B B' : Nat} {e e' : TypeId} {s s' n n' : Nat} {v v' : Value} {xs xs' : List Value} (h : w.ownsRow B e s v n xs) (h' : w.ownsRow B' e' s' v' n' xs') (he : e ≠ e') : v.ownBlock ≠ v'.ownBlock ∨ v.ownBlock = none := by
  rcases h.2 with ⟨rfl, _⟩ | ⟨g, cap, cur, rfl, _, hg, _⟩
  · exact .inr rfl
  · rcases h'.2 with ⟨rfl, _⟩ | ⟨g', cap', cur', rfl, _, hg', _⟩
    · left; simp [Value.ownBlock]
    · left
      intro e1
      simp only [Value.ownBlock, Option.some.injEq] at e1
      subst e1
      rw [hg] at hg'
      cases hg'
      exact he rfl
end
/-- a slice of texts, whose array is not the block g -/
def FarB (v : Value) (g : Option Nat) : Prop := v.ownBlock = none ∨ v.ownBlock ≠ g
theorem TextsAt.two {p q : Nat} {w w' : World} {v : Value} {ls : List (List UInt8)} (h : TextsAt w v ls) (hb : Two p q w w') (h1 : v.ownBlock ≠ some p) (h2 : v.ownBlock ≠ some q) : TextsAt w' v ls := by
  obtain ⟨A, c, rfl, h3, h4, h5⟩ := h
  refine ⟨A, c, rfl, h3, h4, fun k x hx => ?_⟩
  obtain ⟨ad, e, hl, hc⟩ := h5 k x hx
  subst e
  refine ⟨ad, rfl, Nat.lt_of_lt_of_le hl hb.size, fun j u hu => ?_⟩
  rw [← hc j u hu]
  refine World.cell?_of_block ?_
  have e : ((ad.add (k * 1)).add j).block = ad.block := by rw [block_of_add, block_of_add]
  rw [e]
  exact hb.block _ hl (fun e => h1 (by rw [← e]; rfl)) (fun e => h2 (by rw [← e]; rfl))
end Go.Proofs.YtgdgdhpmjkefjaaGreatDoor

/- A region that draws its order: .. and facts that hold until an operation is run. -/
set_option linter.unusedVariables false
set_option linter.unusedSimpArgs false
namespace Go.Proofs.YtgdgdhpmjkefjaaGreatDoor
open Go Go.RowKit

section
variable {P : Program} {ops : Array Oper} {Q : Exit → Act → World → Prop} {md : Region.Mode} {C : World → Prop} {a0 : Act}
/-- operation k waits for i, by however many steps -/
def waitsT (md : Region.Mode) (ops : Array Oper) : Nat → Nat → Nat → Bool
  | 0, _, _ => false
  | f + 1, k, i => match ops[k]? with
    | none => false
    | some o => o.after.any fun e => Region.binds md e && (e.on == i || waitsT md ops f e.on i)
theorem waitsT_listed {listed : Array Bool} (hcl : ∀ (j : Nat) (oj : Oper), ops[j]? = some oj → listed.getD j false = true → ∀ e ∈ oj.after, Region.binds md e = true → listed.getD e.on false = true) :
    ∀ (f k i : Nat), waitsT md ops f k i = true → ∀ o, ops[k]? = some o → (∀ e ∈ o.after, Region.binds md e = true → listed.getD e.on false = true) → listed.getD i false = true
  | 0, _, _, h, _, _, _ => by cases h
  | f + 1, k, i, h, o, ho, hall => by
    unfold waitsT at h
    simp only [ho] at h
    obtain ⟨e, he, hb⟩ := Array.any_eq_true'.1 h
    simp only [Bool.and_eq_true, Bool.or_eq_true, beq_iff_eq] at hb
    have hl := hall e he hb.1
    rcases hb.2 with h1 | h1
    · rw [← h1]; exact hl
    · cases hoe : ops[e.on]? with
      | none =>
        cases f with
        | zero => cases h1
        | succ f => unfold waitsT at h1; simp only [hoe] at h1; cases h1
      | some oe => exact waitsT_listed hcl f e.on i h1 oe hoe (hcl e.on oe hoe hl)

/-- what operation i owes -/
def Owes2 (P : Program) (ops : Array Oper) (Q : Exit → Act → World → Prop) (C : World → Prop) (a0 : Act) (V : List (Option Value)) (Fs Ns : List (Nat × (Act → World → Prop))) (Rel : Nat → World → World → Prop) (i : Nat) (o : Oper) : Prop :=
  ∀ (a : Act) (w : World) (K : Act → World → Prop), C w → Same ops a0 a → (∀ e ∈ o.after, Region.binds .any e = true → Kn ops V Fs e.on a w) → (∀ p ∈ Ns, p.1 = i → p.2 a w) →
    (∀ v w', Rel i w w' → (∀ v0, V[i]? = some (some v0) → v = v0) → (∀ p ∈ Fs, p.1 = i → p.2 (a.put o.dst v) w') → K (a.put o.dst v) w') →
    if Region.wanted o (yielded ops a.tmps) then o.wp P a w K Q else K (a.put o.dst undef) w
def AllOwe2 (P : Program) (ops : Array Oper) (Q : Exit → Act → World → Prop) (C : World → Prop) (a0 : Act) (V : List (Option Value)) (Fs Ns : List (Nat × (Act → World → Prop))) (Rel : Nat → World → World → Prop) : List Oper → Nat → Prop
  | [], _ => True
  | o :: l, k => Owes2 P ops Q C a0 V Fs Ns Rel k o ∧ AllOwe2 P ops Q C a0 V Fs Ns Rel l (k + 1)
theorem AllOwe2.at {V : List (Option Value)} {Fs Ns : List (Nat × (Act → World → Prop))} {Rel : Nat → World → World → Prop} : ∀ (l : List Oper) (k : Nat), AllOwe2 P ops Q C a0 V Fs Ns Rel l k → ∀ (j : Nat) (o : Oper), l[j]? = some o → Owes2 P ops Q C a0 V Fs Ns Rel (k + j) o
  | [], _, _, j, o, ho => by simp at ho
  | x :: l, k, h, 0, o, ho => by
    simp only [List.getElem?_cons_zero, Option.some.injEq] at ho
    subst ho
    exact h.1
  | x :: l, k, h, j + 1, o, ho => by
    simp only [List.getElem?_cons_succ] at ho
    have := AllOwe2.at l (k + 1) h.2 j o ho
    rwa [show k + 1 + j = k + (j + 1) by omega] at this
end
theorem pre0_nil {a : Act} {w : World} : ∀ p ∈ ([] : List (Nat × (Act → World → Prop))), p.2 a w := fun p hp => by cases hp
theorem pre0_cons {j : Nat} {F : Act → World → Prop} {Ns : List (Nat × (Act → World → Prop))} {a : Act} {w : World} (h1 : F a w) (h2 : ∀ p ∈ Ns, p.2 a w) : ∀ p ∈ (j, F) :: Ns, p.2 a w := fun p hp => by
  rcases List.mem_cons.1 hp with rfl | hp
  · exact h1
  · exact h2 p hp
section
variable {ops : Array Oper} {n : Nat} {Rel : Nat → World → World → Prop}
end
end Go.Proofs.YtgdgdhpmjkefjaaGreatDoor

/- A drawn region whose relations know the frame ahead of and behind an operation. -/
set_option linter.unusedVariables false
set_option linter.unusedSimpArgs false
namespace Go.Proofs.YtgdgdhpmjkefjaaGreatDoor
open Go Go.RowKit

/-- the region is fit for it -/
def looseB3 (ops : Array Oper) (n : Nat) (js : List Nat) : Bool :=
  (List.range ops.size).all fun i => match ops[i]? with
    | none => true
    | some o => (o.after.all fun e => !Region.binds .any e || decide (e.on < i)) &&
      (match o.dst with
       | none => true
       | some d => decide (d < n) && (List.range ops.size).all fun j => (i == j) || (match ops[j]? with
          | none => true
          | some oj => (oj.dst != some d) && (!js.contains j || !(oj.looksAt ops).contains d || Region.waitsFor .any ops j i)))
theorem looseB3_spec {ops : Array Oper} {n : Nat} {js : List Nat} (h : looseB3 ops n js = true) : ∀ (i : Nat) (o : Oper), ops[i]? = some o → (∀ e ∈ o.after, Region.binds .any e = true → e.on < i) ∧
    ∀ d, o.dst = some d → d < n ∧ ∀ (j : Nat) (oj : Oper), i ≠ j → ops[j]? = some oj → oj.dst ≠ some d ∧ (j ∈ js → d ∈ oj.looksAt ops → Region.waitsFor .any ops j i = true) := by
  intro i o ho
  have hlt : i < ops.size := (Array.getElem?_eq_some_iff.1 ho).1
  have h1 := List.all_eq_true.1 h i (List.mem_range.2 hlt)
  simp only [ho, Bool.and_eq_true] at h1
  refine ⟨fun e he hb => ?_, fun d hd => ?_⟩
  · have := Array.all_eq_true_iff_forall_mem.1 h1.1 e he
    simpa [hb] using this
  · have h2 := h1.2
    simp only [hd, Bool.and_eq_true, decide_eq_true_eq] at h2
    refine ⟨h2.1, fun j oj hij hoj => ?_⟩
    have hjlt : j < ops.size := (Array.getElem?_eq_some_iff.1 hoj).1
    have h3 := List.all_eq_true.1 h2.2 j (List.mem_range.2 hjlt)
    simp only [hoj, Bool.or_eq_true, Bool.and_eq_true, bne_iff_ne, beq_iff_eq] at h3
    rcases h3 with h3 | h3
    · exact absurd h3 hij
    · refine ⟨h3.1, fun hjm hm => ?_⟩
      rcases h3.2 with (h4 | h4) | h4
      · simp only [Bool.not_eq_true', List.contains_eq_mem, decide_eq_false_iff_not] at h4
        exact absurd hjm h4
      · simp only [Bool.not_eq_true', List.contains_eq_mem, decide_eq_false_iff_not] at h4
        exact absurd hm h4
      · exact h4

section
variable {P : Program} {ops : Array Oper} {Q : Exit → Act → World → Prop} {md : Region.Mode} {C : World → Prop} {a0 : Act}
/-- what operation i owes -/
def Owes3 (P : Program) (ops : Array Oper) (Q : Exit → Act → World → Prop) (C : World → Prop) (a0 : Act) (V : List (Option Value)) (Fs Ns : List (Nat × (Act → World → Prop))) (Rel : Nat → Act → Act → World → World → Prop) (i : Nat) (o : Oper) : Prop :=
  ∀ (a : Act) (w : World) (K : Act → World → Prop), C w → Same ops a0 a → (∀ e ∈ o.after, Region.binds .any e = true → Kn ops V Fs e.on a w) → (∀ p ∈ Ns, p.1 = i → p.2 a w) →
    (∀ v w', Rel i a (a.put o.dst v) w w' → (∀ v0, V[i]? = some (some v0) → v = v0) → (∀ p ∈ Fs, p.1 = i → p.2 (a.put o.dst v) w') → K (a.put o.dst v) w') →
    if Region.wanted o (yielded ops a.tmps) then o.wp P a w K Q else K (a.put o.dst undef) w
def AllOwe3 (P : Program) (ops : Array Oper) (Q : Exit → Act → World → Prop) (C : World → Prop) (a0 : Act) (V : List (Option Value)) (Fs Ns : List (Nat × (Act → World → Prop))) (Rel : Nat → Act → Act → World → World → Prop) : List Oper → Nat → Prop
  | [], _ => True
  | o :: l, k => Owes3 P ops Q C a0 V Fs Ns Rel k o ∧ AllOwe3 P ops Q C a0 V Fs Ns Rel l (k + 1)
theorem AllOwe3.at {V : List (Option Value)} {Fs Ns : List (Nat × (Act → World → Prop))} {Rel : Nat → Act → Act → World → World → Prop} : ∀ (l : List Oper) (k : Nat), AllOwe3 P ops Q C a0 V Fs Ns Rel l k → ∀ (j : Nat) (o : Oper), l[j]? = some o → Owes3 P ops Q C a0 V Fs Ns Rel (k + j) o
  | [], _, _, j, o, ho => by simp at ho
  | x :: l, k, h, 0, o, ho => by
    simp only [List.getElem?_cons_zero, Option.some.injEq] at ho
    subst ho
    exact h.1
  | x :: l, k, h, j + 1, o, ho => by
    simp only [List.getElem?_cons_succ] at ho
    have := AllOwe3.at l (k + 1) h.2 j o ho
    rwa [show k + 1 + j = k + (j + 1) by omega] at this
end
section
variable {ops : Array Oper} {n : Nat} {Rel : Nat → Act → Act → World → World → Prop}
theorem prek_nil3 : ∀ p ∈ ([] : List (Nat × (Act → World → Prop))), ∀ (i : Nat) (a a' : Act) (w w' : World), i ≠ p.1 → waitsT .any ops n i p.1 = false → Rel i a a' w w' → p.2 a w → (∃ o v, ops[i]? = some o ∧ a' = a.put o.dst v) → p.2 a' w' := fun p hp => by cases hp
theorem prek_cons3 {j : Nat} {F : Act → World → Prop} {Ns : List (Nat × (Act → World → Prop))} (h1 : ∀ (i : Nat) (a a' : Act) (w w' : World), i ≠ j → waitsT .any ops n i j = false → Rel i a a' w w' → F a w → (∃ o v, ops[i]? = some o ∧ a' = a.put o.dst v) → F a' w')
    (h2 : ∀ p ∈ Ns, ∀ (i : Nat) (a a' : Act) (w w' : World), i ≠ p.1 → waitsT .any ops n i p.1 = false → Rel i a a' w w' → p.2 a w → (∃ o v, ops[i]? = some o ∧ a' = a.put o.dst v) → p.2 a' w') :
    ∀ p ∈ (j, F) :: Ns, ∀ (i : Nat) (a a' : Act) (w w' : World), i ≠ p.1 → waitsT .any ops n i p.1 = false → Rel i a a' w w' → p.2 a w → (∃ o v, ops[i]? = some o ∧ a' = a.put o.dst v) → p.2 a' w' := fun p hp => by
  rcases List.mem_cons.1 hp with rfl | hp
  · exact h1
  · exact h2 p hp
end
section
variable {ops : Array Oper} {Rel : Nat → Act → Act → World → World → Prop}
/-- a slot that only operation k writes -/
theorem other_slot {d k i : Nat} (hd : ((List.range ops.size).all fun j => j == k || decide ((ops[j]?.bind (·.dst)) ≠ some d)) = true) {a a' : Act} (h : ∃ o v, ops[i]? = some o ∧ a' = a.put o.dst v) (hi : i ≠ k) : a'.tmps[d]? = a.tmps[d]? := by
  obtain ⟨o, v, ho, rfl⟩ := h
  have hlt : i < ops.size := (Array.getElem?_eq_some_iff.1 ho).1
  have h1 := List.all_eq_true.1 hd i (by simpa using hlt)
  simp only [Bool.or_eq_true, beq_iff_eq, decide_eq_true_eq, ho, Option.bind_some] at h1
  have h2 : o.dst ≠ some d := h1.resolve_left hi
  unfold Act.put
  split
  · rename_i di hdi
    have hne : di ≠ d := fun e => h2 (by rw [hdi, e])
    show (a.tmps.setIfInBounds di v)[d]? = _
    rw [Array.getElem?_setIfInBounds_ne hne]
  · rfl
end
end Go.Proofs.YtgdgdhpmjkefjaaGreatDoor

/- As XLo3, but an operation owes its fact out of the facts of all that it waits for, by however many steps; a fact need not be kept by what it waits for so. -/
set_option linter.unusedVariables false
set_option linter.unusedSimpArgs false
namespace Go.Proofs.YtgdgdhpmjkefjaaGreatDoor
open Go Go.RowKit

theorem waitsT_of {md : Region.Mode} {ops : Array Oper} {j i : Nat} (h : Region.waitsFor md ops j i = true) (hs : 0 < ops.size) : waitsT md ops ops.size j i = true := by
  obtain ⟨n, hn⟩ : ∃ n, ops.size = n + 1 := ⟨ops.size - 1, by omega⟩
  rw [hn]
  obtain ⟨oj, hoj, e, he, hb, hon⟩ := Region.waitsFor_spec h
  unfold waitsT
  simp only [hoj]
  exact Array.any_eq_true'.2 ⟨e, he, by simp [hb, hon]⟩
section
variable {P : Program} {ops : Array Oper} {Q : Exit → Act → World → Prop} {md : Region.Mode} {C : World → Prop} {a0 : Act}
theorem wpAny_pre4 (Kn : Nat → Act → World → Prop) (N : Nat → Act → World → Prop) (Rel : Nat → Act → Act → World → World → Prop)
    (hacyc : ∀ (i : Nat) (o : Oper), ops[i]? = some o → ∀ e ∈ o.after, Region.binds md e = true → e.on < i)
    (hC : ∀ i a a' w w', C w → Rel i a a' w w' → C w')
    (hkeep : ∀ (i j : Nat) (o : Oper), i ≠ j → ops[i]? = some o → waitsT md ops ops.size j i = false → ∀ a v w w', Kn j a w → Rel i a (a.put o.dst v) w w' → Kn j (a.put o.dst v) w')
    (hNk : ∀ (i k : Nat) (o : Oper), i ≠ k → ops[k]? = some o → waitsT md ops ops.size k i = false → ∀ a v w w', N i a w → Rel k a (a.put o.dst v) w w' → N i (a.put o.dst v) w')
    (hop : ∀ (i : Nat) (o : Oper), ops[i]? = some o → ∀ a w, C w → Same ops a0 a → (∀ j, waitsT md ops ops.size i j = true → Kn j a w) → N i a w →
      wpOp P ops Q i (fun a' w' => ∃ v, a' = a.put o.dst v ∧ Rel i a (a.put o.dst v) w w' ∧ Kn i (a.put o.dst v) w') a w)
    (hfin : ∀ a w, C w → Same ops a0 a → (∀ i, i < ops.size → Kn i a w) → Q .normal a w) :
    ∀ (f : Nat) (L : List Nat) (listed : Array Bool) (a : Act) (w : World), L.length ≤ f → listed.size = ops.size → (∀ i, i < ops.size → listed.getD i true = false → i ∈ L) → C w → Same ops a0 a →
      (∀ (j : Nat) (oj : Oper), ops[j]? = some oj → listed.getD j false = true → ∀ e ∈ oj.after, Region.binds md e = true → listed.getD e.on false = true) →
      (∀ i, i < ops.size → listed.getD i false = true → Kn i a w) → (∀ i, i < ops.size → listed.getD i true = false → N i a w) → wpAny P md ops Q f listed a w := by
  have hfull : ∀ listed : Array Bool, listed.size = ops.size → Region.ready md ops listed = [] → ∀ (d i : Nat), i < d → i < ops.size → listed.getD i false = true := by
    intro listed hsz hr d
    induction d with
    | zero => intro i hi; omega
    | succ d ih =>
      intro i hi hin
      rcases Nat.lt_or_ge i d with h | h
      · exact ih i h hin
      · obtain rfl : i = d := by omega
        cases hl : listed.getD i false with
        | true => rfl
        | false =>
          have hmem : i ∈ Region.ready md ops listed := by
            rw [mem_ready]
            refine ⟨getD_in (by omega) hl, ops[i], Array.getElem?_eq_getElem hin, fun e he hb => ?_⟩
            have := hacyc i ops[i] (Array.getElem?_eq_getElem hin) e he hb
            exact ih e.on this (by omega)
          rw [hr] at hmem
          cases hmem
  intro f
  induction f with
  | zero =>
    intro L listed a w hL hsz hun hw hs hcl hk hN
    have hall : ∀ i, i < ops.size → listed.getD i false = true := by
      intro i hi
      cases hl : listed.getD i false with
      | true => rfl
      | false =>
        have := hun i hi (getD_in (by omega) hl)
        have hL0 : L = [] := List.length_eq_zero_iff.1 (by omega)
        rw [hL0] at this
        cases this
    have hr : Region.ready md ops listed = [] := by
      apply List.eq_nil_iff_forall_not_mem.2
      intro i hi
      obtain ⟨h1, o, ho, _⟩ := mem_ready.1 hi
      have hlt : i < ops.size := (Array.getElem?_eq_some_iff.1 ho).1
      have h2 := hall i hlt
      rw [getD_both h1] at h2
      cases h2
    exact ⟨hr, hfin a w hw hs (fun i hi => hk i hi (hall i hi))⟩
  | succ f ih =>
    intro L listed a w hL hsz hun hw hs hcl hk hN
    refine ⟨fun hr => hfin a w hw hs (fun i hi => hk i hi (hfull listed hsz hr _ i hi hi)), fun i hi => ?_⟩
    obtain ⟨hiun, o, ho, hall⟩ := mem_ready.1 hi
    have hlt : i < ops.size := (Array.getElem?_eq_some_iff.1 ho).1
    refine wpOp_mono ?_ (hop i o ho a w hw hs (fun j hwj => by
      have h1 := waitsT_listed hcl _ _ _ hwj o ho hall
      have h2 : j < ops.size := by
        rcases Nat.lt_or_ge j ops.size with h | h
        · exact h
        · rw [Array.getD_eq_getD_getElem?, Array.getElem?_eq_none (by omega)] at h1; cases h1
      exact hk j h2 h1) (hN i hlt hiun))
    rintro a' w' ⟨v, rfl, hrel, hkn⟩
    have hiL := hun i hlt hiun
    refine ih (L.erase i) (listed.setIfInBounds i true) _ w' ?_ (by simpa using hsz) ?_ (hC i _ _ _ _ hw hrel) (hs.put ho v) ?_ ?_ ?_
    · rw [List.length_erase_of_mem hiL]; omega
    · intro j hj hjl
      rcases Nat.decEq j i with hji | hji
      · rw [getD_set_ne true (Ne.symm hji)] at hjl
        exact (List.mem_erase_of_ne hji).2 (hun j hj hjl)
      · subst hji
        rw [Array.getD_eq_getD_getElem?, Array.getElem?_setIfInBounds_self_of_lt (by omega)] at hjl
        cases hjl
    · intro j oj hoj hjl e he hb
      rcases Nat.decEq j i with hji | hji
      · rw [getD_set_ne false (Ne.symm hji)] at hjl
        exact getD_set_true (hcl j oj hoj hjl e he hb)
      · subst hji
        have : oj = o := Option.some.inj (hoj.symm.trans ho)
        subst this
        exact getD_set_true (hall e he hb)
    · intro j hj hjl
      rcases Nat.decEq j i with hji | hji
      · rw [getD_set_ne false (Ne.symm hji)] at hjl
        refine hkeep i j o (Ne.symm hji) ho ?_ a v w w' (hk j hj hjl) hrel
        cases hwf : waitsT md ops ops.size j i with
        | false => rfl
        | true =>
          have h1 := waitsT_listed hcl _ _ _ hwf ops[j] (Array.getElem?_eq_getElem hj) (hcl j _ (Array.getElem?_eq_getElem hj) hjl)
          rw [getD_both hiun] at h1
          cases h1
      · subst hji; exact hkn
    · intro j hj hjl
      rcases Nat.decEq j i with hji | hji
      · rw [getD_set_ne true (Ne.symm hji)] at hjl
        refine hNk j i o hji ho ?_ a v w w' (hN j hj hjl) hrel
        cases hwt : waitsT md ops ops.size i j with
        | false => rfl
        | true =>
          have := waitsT_listed hcl _ _ _ hwt o ho hall
          rw [getD_both hjl] at this
          cases this
      · subst hji
        rw [Array.getD_eq_getD_getElem?, Array.getElem?_setIfInBounds_self_of_lt (by omega)] at hjl
        cases hjl
/-- what operation i owes -/
def Owes4 (P : Program) (ops : Array Oper) (Q : Exit → Act → World → Prop) (C : World → Prop) (a0 : Act) (V : List (Option Value)) (Fs Ns : List (Nat × (Act → World → Prop))) (Rel : Nat → Act → Act → World → World → Prop) (i : Nat) (o : Oper) : Prop :=
  ∀ (a : Act) (w : World) (K : Act → World → Prop), C w → Same ops a0 a → (∀ j, waitsT .any ops ops.size i j = true → Kn ops V Fs j a w) → (∀ p ∈ Ns, p.1 = i → p.2 a w) →
    (∀ v w', Rel i a (a.put o.dst v) w w' → (∀ v0, V[i]? = some (some v0) → v = v0) → (∀ p ∈ Fs, p.1 = i → p.2 (a.put o.dst v) w') → K (a.put o.dst v) w') →
    if Region.wanted o (yielded ops a.tmps) then o.wp P a w K Q else K (a.put o.dst undef) w
def AllOwe4 (P : Program) (ops : Array Oper) (Q : Exit → Act → World → Prop) (C : World → Prop) (a0 : Act) (V : List (Option Value)) (Fs Ns : List (Nat × (Act → World → Prop))) (Rel : Nat → Act → Act → World → World → Prop) : List Oper → Nat → Prop
  | [], _ => True
  | o :: l, k => Owes4 P ops Q C a0 V Fs Ns Rel k o ∧ AllOwe4 P ops Q C a0 V Fs Ns Rel l (k + 1)
theorem AllOwe4.at {V : List (Option Value)} {Fs Ns : List (Nat × (Act → World → Prop))} {Rel : Nat → Act → Act → World → World → Prop} : ∀ (l : List Oper) (k : Nat), AllOwe4 P ops Q C a0 V Fs Ns Rel l k → ∀ (j : Nat) (o : Oper), l[j]? = some o → Owes4 P ops Q C a0 V Fs Ns Rel (k + j) o
  | [], _, _, j, o, ho => by simp at ho
  | x :: l, k, h, 0, o, ho => by
    simp only [List.getElem?_cons_zero, Option.some.injEq] at ho
    subst ho
    exact h.1
  | x :: l, k, h, j + 1, o, ho => by
    simp only [List.getElem?_cons_succ] at ho
    have := AllOwe4.at l (k + 1) h.2 j o ho
    rwa [show k + 1 + j = k + (j + 1) by omega] at this
theorem wpAny_lo4 {w : World} {l : List Oper} (V : List (Option Value)) (Fs : List (Nat × (Act → World → Prop))) (Ns : List (Nat × (Act → World → Prop))) (Rel : Nat → Act → Act → World → World → Prop)
    (hB : looseB3 l.toArray a0.tmps.size (Fs.map (·.1)) = true) (hCw : C w.drew) (hC : ∀ i a a' w w', C w → Rel i a a' w w' → C w')
    (hst : ∀ p ∈ Fs, ∀ (i : Nat) (a a' : Act) (w w' : World), i ≠ p.1 → waitsT .any l.toArray l.length p.1 i = false → (∀ t, (Oper.slots l.toArray p.1).contains t = true → a'.tmps[t]? = a.tmps[t]?) → (∃ o v, l.toArray[i]? = some o ∧ a' = a.put o.dst v) → Rel i a a' w w' → p.2 a w → p.2 a' w')
    (hN0 : ∀ p ∈ Ns, p.2 a0 w.drew)
    (hNst : ∀ p ∈ Ns, ∀ (i : Nat) (a a' : Act) (w w' : World), i ≠ p.1 → waitsT .any l.toArray l.length i p.1 = false → Rel i a a' w w' → p.2 a w → (∃ o v, l.toArray[i]? = some o ∧ a' = a.put o.dst v) → p.2 a' w')
    (hop : AllOwe4 P l.toArray Q C a0 V Fs Ns Rel l 0)
    (hfin : ∀ a w, C w → Same l.toArray a0 a → (∀ i, i < l.length → Kn l.toArray V Fs i a w) → Q .normal a w) : wpAny P .any l.toArray Q l.toArray.size (Array.replicate l.toArray.size false) a0 w.drew := by
  have hspec := looseB3_spec hB
  refine (wpAny_pre4 (C := C) (a0 := a0) (Kn l.toArray V Fs) (fun i a w => ∀ p ∈ Ns, p.1 = i → p.2 a w) Rel (fun i o ho => (hspec i o ho).1) hC ?_ ?_ ?_ ?_ _ (List.range l.toArray.size) _ _ _ (by simp) (by simp) ?_ hCw (Same.refl _ _) ?_ ?_ ?_)
  · intro i j o hij ho hwf a v w w' hk hrel
    refine ⟨fun oj u d hoj hu hd => ?_, fun p hp hpj => ?_⟩
    · have h1 := hk.1 oj u d hoj hu hd
      unfold Act.put
      split
      · rename_i di hdi
        have hne : di ≠ d := fun e => ((hspec i o ho).2 di hdi).2 j oj hij hoj |>.1 (by rw [hd, e])
        show (a.tmps.setIfInBounds di v)[d]? = _
        rw [Array.getElem?_setIfInBounds_ne hne]
        exact h1
      · exact h1
    · refine hst p hp i a _ w w' (by rw [hpj]; exact hij) (by rw [hpj]; simpa using hwf) (fun t ht => ?_) ⟨o, v, ho, rfl⟩ hrel (hk.2 p hp hpj)
      rw [hpj, List.contains_iff_mem] at ht
      unfold Act.put
      split
      · rename_i di hdi
        show (a.tmps.setIfInBounds di v)[t]? = _
        have hne : di ≠ t := by
          intro e
          subst e
          unfold Oper.slots at ht
          split at ht
          · cases ht
          · rename_i oj hoj
            have h2 := ((hspec i o ho).2 di hdi).2 j oj hij hoj
            rcases List.mem_append.1 ht with h3 | h3
            · rw [Option.mem_toList] at h3
              exact h2.1 h3
            · have h4 := waitsT_of (h2.2 (List.mem_map.2 ⟨p, hp, hpj⟩) h3) (by have := (Array.getElem?_eq_some_iff.1 ho).1; omega)
              rw [h4] at hwf
              cases hwf
        rw [Array.getElem?_setIfInBounds_ne hne]
      · rfl
  · intro i k o hik ho hwt a v w w' hN hrel p hp hpi
    refine hNst p hp k a _ w w' (by rw [hpi]; exact Ne.symm hik) (by rw [hpi]; simpa using hwt) hrel (hN p hp hpi) ⟨o, v, ho, rfl⟩
  · intro i o ho a w hw hs hk hN
    have h := AllOwe4.at l 0 hop i o (by simpa using ho)
    rw [Nat.zero_add] at h
    unfold wpOp
    simp only [ho]
    have hput : ∀ (v : Value) (w' : World), Rel i a (a.put o.dst v) w w' → (∀ v0, V[i]? = some (some v0) → v = v0) → (∀ p ∈ Fs, p.1 = i → p.2 (a.put o.dst v) w') → ∃ u, a.put o.dst v = a.put o.dst u ∧ Rel i a (a.put o.dst u) w w' ∧ Kn l.toArray V Fs i (a.put o.dst u) w' := by
      intro v w' hr hv hf
      refine ⟨v, rfl, hr, fun oj u d hoj hu hd => ?_, hf⟩
      have : oj = o := Option.some.inj (hoj.symm.trans ho)
      subst this
      have hvu := hv u hu
      subst hvu
      have hlt := ((hspec i oj ho).2 d hd).1
      unfold Act.put
      rw [hd]
      show (a.tmps.setIfInBounds d v)[d]? = _
      rw [Array.getElem?_setIfInBounds_self_of_lt (by rw [hs.2.1]; exact hlt)]
    have h' := h a w (fun a' w' => ∃ u, a' = a.put o.dst u ∧ Rel i a (a.put o.dst u) w w' ∧ Kn l.toArray V Fs i (a.put o.dst u) w') hw hs hk hN hput
    split
    · rename_i hwt
      rw [if_pos hwt] at h'
      exact .inl h'
    · rename_i hwt
      rw [if_neg hwt] at h'
      exact h'
  · intro a w hw hs hk
    exact hfin a w hw hs (fun i hi => hk i (by simpa using hi))
  · intro i hi _
    simpa using hi
  · intro j oj _ hl
    rw [getD_replicate_false] at hl
    cases hl
  · intro i _ hl
    rw [getD_replicate_false] at hl
    cases hl
  · intro i _ _ p hp _
    exact hN0 p hp
theorem wp_region_lo4 {id : Nat} {w : World} {l : List Oper} (V : List (Option Value)) (Fs : List (Nat × (Act → World → Prop))) (Ns : List (Nat × (Act → World → Prop))) (Rel : Nat → Act → Act → World → World → Prop)
    (hm : P.follows .mixedOrders = true) (hB : looseB3 l.toArray a0.tmps.size (Fs.map (·.1)) = true) (hCw : C w.drew) (hC : ∀ i a a' w w', C w → Rel i a a' w w' → C w')
    (hst : ∀ p ∈ Fs, ∀ (i : Nat) (a a' : Act) (w w' : World), i ≠ p.1 → waitsT .any l.toArray l.length p.1 i = false → (∀ t, (Oper.slots l.toArray p.1).contains t = true → a'.tmps[t]? = a.tmps[t]?) → (∃ o v, l.toArray[i]? = some o ∧ a' = a.put o.dst v) → Rel i a a' w w' → p.2 a w → p.2 a' w')
    (hN0 : ∀ p ∈ Ns, p.2 a0 w.drew)
    (hNst : ∀ p ∈ Ns, ∀ (i : Nat) (a a' : Act) (w w' : World), i ≠ p.1 → waitsT .any l.toArray l.length i p.1 = false → Rel i a a' w w' → p.2 a w → (∃ o v, l.toArray[i]? = some o ∧ a' = a.put o.dst v) → p.2 a' w')
    (hop : AllOwe4 P l.toArray Q C a0 V Fs Ns Rel l 0)
    (hfin : ∀ a w, C w → Same l.toArray a0 a → (∀ i, i < l.length → Kn l.toArray V Fs i a w) → Q .normal a w) : (Code.region id l.toArray true).wp P Q a0 w :=
  wp_region_any hm (wpAny_lo4 V Fs Ns Rel hB hCw hC hst hN0 hNst hop hfin)

end
section
variable {ops : Array Oper} {n : Nat} {Rel : Nat → Act → Act → World → World → Prop}
theorem keeps4_nil : ∀ p ∈ ([] : List (Nat × (Act → World → Prop))), ∀ (i : Nat) (a a' : Act) (w w' : World), i ≠ p.1 → waitsT .any ops n p.1 i = false → (∀ t, (Oper.slots ops p.1).contains t = true → a'.tmps[t]? = a.tmps[t]?) → (∃ o v, ops[i]? = some o ∧ a' = a.put o.dst v) → Rel i a a' w w' → p.2 a w → p.2 a' w' := fun p hp => by cases hp
theorem keeps4_cons {j : Nat} {F : Act → World → Prop} {Fs : List (Nat × (Act → World → Prop))} (h1 : ∀ (i : Nat) (a a' : Act) (w w' : World), i ≠ j → waitsT .any ops n j i = false → (∀ t, (Oper.slots ops j).contains t = true → a'.tmps[t]? = a.tmps[t]?) → (∃ o v, ops[i]? = some o ∧ a' = a.put o.dst v) → Rel i a a' w w' → F a w → F a' w')
    (h2 : ∀ p ∈ Fs, ∀ (i : Nat) (a a' : Act) (w w' : World), i ≠ p.1 → waitsT .any ops n p.1 i = false → (∀ t, (Oper.slots ops p.1).contains t = true → a'.tmps[t]? = a.tmps[t]?) → (∃ o v, ops[i]? = some o ∧ a' = a.put o.dst v) → Rel i a a' w w' → p.2 a w → p.2 a' w') : ∀ p ∈ (j, F) :: Fs, ∀ (i : Nat) (a a' : Act) (w w' : World), i ≠ p.1 → waitsT .any ops n p.1 i = false → (∀ t, (Oper.slots ops p.1).contains t = true → a'.tmps[t]? = a.tmps[t]?) → (∃ o v, ops[i]? = some o ∧ a' = a.put o.dst v) → Rel i a a' w w' → p.2 a w → p.2 a' w' := fun p hp => by
  rcases List.mem_cons.1 hp with rfl | hp
  · exact h1
  · exact h2 p hp
end
end Go.Proofs.YtgdgdhpmjkefjaaGreatDoor

/- The maps of Settle: the orders that count, the places that were passed. -/
set_option linter.unusedVariables false
set_option linter.unusedSimpArgs false
namespace Go.Proofs.YtgdgdhpmjkefjaaGreatDoor
open Go.RowKit Go.Shelf

def getF (m : List Od) (x : List UInt8) : Option Od := m.find? fun o => decide (o.f = x)
def entM (m : List Od) : List (Value × Value) := m.map fun o => (Value.string (bs o.f), Value.agg #[.string (bs o.i), .string (bs o.p), .string (bs o.f), .string (bs o.t), .int .i64 o.a, .int .i64 o.b])
theorem entM_lacks {m : List Od} {x : List UInt8} (h : getF m x = none) : lacks (entM m) (.string (bs x)) := by
  intro y hy
  obtain ⟨o, ho, rfl⟩ := List.mem_map.1 hy
  intro e
  injection e with e
  have := List.find?_eq_none.1 h o ho
  simp at this
  exact this (bs_inj e)
theorem getF_mem {m : List Od} {x : List UInt8} {o : Od} (h : getF m x = some o) : o ∈ m ∧ o.f = x := by
  refine ⟨List.mem_of_find?_eq_some h, ?_⟩
  have := List.find?_some h
  simpa using this
theorem entM_has {m : List Od} {x : List UInt8} {o : Od} (h : getF m x = some o) : has (entM m) (.string (bs x)) (.agg #[.string (bs o.i), .string (bs o.p), .string (bs o.f), .string (bs o.t), .int .i64 o.a, .int .i64 o.b]) := by
  obtain ⟨h1, rfl⟩ := getF_mem h
  exact List.mem_map.2 ⟨o, h1, rfl⟩
theorem entM_nodup {m : List Od} (h : (entM m).Pairwise fun x y => x.1 ≠ y.1) : m.Pairwise fun a b => a.f ≠ b.f := by
  rw [entM, List.pairwise_map] at h
  refine h.imp (fun {a b} hab e => hab ?_)
  show Value.string (bs a.f) = Value.string (bs b.f)
  rw [e]
theorem getF_append {m : List Od} {o : Od} (h : getF m o.f = none) (x : List UInt8) : getF (m ++ [o]) x = if o.f = x then some o else getF m x := by
  unfold getF at h ⊢
  rw [List.find?_append]
  by_cases hx : o.f = x
  · subst hx; rw [h, if_pos rfl]; simp
  · rw [if_neg hx]
    cases m.find? (fun o => decide (o.f = x)) <;> simp [hx]
theorem getF_set {o q : Od} (hq : q.f = o.f) (x : List UInt8) : ∀ {m : List Od} {j : Nat}, (m.Pairwise fun a b => a.f ≠ b.f) → m[j]? = some q → getF (m.set j o) x = if o.f = x then some o else getF m x
  | [], j, _, h => by simp at h
  | a :: r, 0, hn, h => by
    simp at h
    subst h
    show getF (o :: r) x = _
    unfold getF
    rw [List.find?_cons, List.find?_cons]
    by_cases hx : o.f = x
    · rw [if_pos hx, decide_eq_true hx]
    · rw [if_neg hx, decide_eq_false hx, decide_eq_false (fun h => hx (hq.symm.trans h))]
  | a :: r, j + 1, hn, h => by
    rw [List.pairwise_cons] at hn
    have hr : r[j]? = some q := by simpa using h
    have ih := getF_set (o := o) hq x hn.2 hr
    have ha : a.f ≠ q.f := hn.1 q (List.mem_of_getElem? hr)
    show getF (a :: r.set j o) x = _
    unfold getF at ih ⊢
    rw [List.find?_cons, List.find?_cons]
    by_cases hx : a.f = x
    · rw [decide_eq_true hx, if_neg (fun h => ha (hx.trans (h.symm.trans hq.symm)))]
    · rw [decide_eq_false hx]; exact ih
/-- an order put into the map -/
theorem put_ents {m : List Od} (hn : m.Pairwise fun a b => a.f ≠ b.f) (o : Od) (hS : SStr (.string (bs o.f))) (mb : Nat) : ∃ m' : List Od, (∀ w, MapIs SStr w mb (entM m) → (Instr.mapUpdate 71 (.map (some mb)) (.string (bs o.f)) (.agg #[.string (bs o.i), .string (bs o.p), .string (bs o.f), .string (bs o.t), .int .i64 o.a, .int .i64 o.b])).run Tryz.prog w = .ok () (putMap w mb (entM m')) ∧ MapIs SStr (putMap w mb (entM m')) mb (entM m')) ∧ ∀ x, getF m' x = if o.f = x then some o else getF m x := by
  cases hg : getF m o.f with
  | none =>
    refine ⟨m ++ [o], fun w h => ?_, getF_append hg⟩
    have e : entM (m ++ [o]) = entM m ++ [(Value.string (bs o.f), Value.agg #[.string (bs o.i), .string (bs o.p), .string (bs o.f), .string (bs o.t), .int .i64 o.a, .int .i64 o.b])] := by unfold entM; rw [List.map_append]; rfl
    rw [e]
    exact ⟨run_update_new h lawStr Tryz.underlying71 hS (entM_lacks hg), h.append_is hS (entM_lacks hg)⟩
  | some q =>
    obtain ⟨hqm, hq⟩ := getF_mem hg
    obtain ⟨j, hj⟩ := List.getElem?_of_mem hqm
    refine ⟨m.set j o, fun w h => ?_, fun x => getF_set hq x hn hj⟩
    have e : entM (m.set j o) = (entM m).set j (Value.string (bs o.f), Value.agg #[.string (bs o.i), .string (bs o.p), .string (bs o.f), .string (bs o.t), .int .i64 o.a, .int .i64 o.b]) := by unfold entM; rw [List.map_set]
    rw [e]
    have hjm : (entM m)[j]? = some (Value.string (bs o.f), Value.agg #[.string (bs q.i), .string (bs q.p), .string (bs q.f), .string (bs q.t), .int .i64 q.a, .int .i64 q.b]) := by unfold entM; rw [List.getElem?_map, hj, ← hq]; rfl
    have hhas := entM_has hg
    obtain ⟨j', hj', hr⟩ := run_update_old h lawStr Tryz.underlying71 (v := .agg #[.string (bs o.i), .string (bs o.p), .string (bs o.f), .string (bs o.t), .int .i64 o.a, .int .i64 o.b]) hS hhas
    have hjj : j' = j := by
      have ha := h.apart
      rw [List.pairwise_iff_getElem] at ha
      obtain ⟨l1, g1⟩ := List.getElem?_eq_some_iff.1 hj'
      obtain ⟨l2, g2⟩ := List.getElem?_eq_some_iff.1 hjm
      rcases Nat.lt_trichotomy j' j with h1 | h1 | h1
      · exact absurd (by rw [g1, g2]) (ha j' j l1 l2 h1)
      · exact h1
      · exact absurd (by rw [g1, g2]) (ha j j' l2 l1 h1)
    subst hjj
    exact ⟨hr, h.set_is hj'⟩
theorem look_none {w : World} {mb : Nat} {m : List Od} (h : MapIs SStr w mb (entM m)) {x : List UInt8} (hS : SStr (.string (bs x))) (hg : getF m x = none) : (Instr.lookup 71 (.map (some mb)) (.string (bs x)) true).run Tryz.prog w = .ok (.tuple #[.agg #[.string ⟨#[]⟩, .string ⟨#[]⟩, .string ⟨#[]⟩, .string ⟨#[]⟩, .int .i64 0, .int .i64 0], .bool false]) w :=
  run_lookup_ok_lacks h lawStr Tryz.underlying71 (by kernel_rfl) hS (entM_lacks hg)
theorem look_some {w : World} {mb : Nat} {m : List Od} (h : MapIs SStr w mb (entM m)) {x : List UInt8} (hS : SStr (.string (bs x))) {o : Od} (hg : getF m x = some o) : (Instr.lookup 71 (.map (some mb)) (.string (bs x)) true).run Tryz.prog w = .ok (.tuple #[.agg #[.string (bs o.i), .string (bs o.p), .string (bs o.f), .string (bs o.t), .int .i64 o.a, .int .i64 o.b], .bool true]) w :=
  run_lookup_ok_has h lawStr Tryz.underlying71 (z := .agg #[.string ⟨#[]⟩, .string ⟨#[]⟩, .string ⟨#[]⟩, .string ⟨#[]⟩, .int .i64 0, .int .i64 0]) (by kernel_rfl) hS (entM_has hg)
/-! the places -/
def plM (way : List Od) : List (Value × Value) := way.zipIdx.map fun p => (Value.string (bs p.1.f), Value.int .i64 (p.2 : Int))
theorem plM_snoc (way : List Od) (o : Od) : plM (way ++ [o]) = plM way ++ [(Value.string (bs o.f), Value.int .i64 (way.length : Int))] := by
  unfold plM
  rw [List.zipIdx_append, List.map_append]; simp
theorem plM_lacks {way : List Od} {x : List UInt8} (h : idxF way x = none) : lacks (plM way) (.string (bs x)) := by
  intro y hy
  obtain ⟨p, hp, rfl⟩ := List.mem_map.1 hy
  intro e
  injection e with e
  have hm : p.1 ∈ way := by
    have := List.mem_zipIdx (x := p.1) (i := p.2) (xs := way) (k := 0) hp
    rw [this.2.2]
    exact List.getElem_mem _
  exact idxF_none h p.1 hm (bs_inj e)
theorem plM_has {way : List Od} {x : List UInt8} {i : Nat} (h : idxF way x = some i) : has (plM way) (.string (bs x)) (.int .i64 (i : Int)) := by
  obtain ⟨o, ho, rfl⟩ := idxF_some h
  refine List.mem_map.2 ⟨(o, i), ?_, rfl⟩
  exact List.mem_of_getElem? (i := i) (by rw [List.getElem?_zipIdx, ho]; simp)
theorem place_none {w : World} {pb : Nat} {way : List Od} (h : MapIs SStr w pb (plM way)) {x : List UInt8} (hS : SStr (.string (bs x))) (hi : idxF way x = none) : (Instr.lookup 75 (.map (some pb)) (.string (bs x)) true).run Tryz.prog w = .ok (.tuple #[.int .i64 0, .bool false]) w :=
  run_lookup_ok_lacks h lawStr Tryz.underlying75 (by kernel_rfl) hS (plM_lacks hi)
theorem place_some {w : World} {pb : Nat} {way : List Od} (h : MapIs SStr w pb (plM way)) {x : List UInt8} (hS : SStr (.string (bs x))) {i : Nat} (hi : idxF way x = some i) : (Instr.lookup 75 (.map (some pb)) (.string (bs x)) true).run Tryz.prog w = .ok (.tuple #[.int .i64 (i : Int), .bool true]) w :=
  run_lookup_ok_has h lawStr Tryz.underlying75 (z := .int .i64 0) (by kernel_rfl) hS (plM_has hi)
theorem place_put {w : World} {pb : Nat} {way : List Od} (h : MapIs SStr w pb (plM way)) {o : Od} (hS : SStr (.string (bs o.f))) (hi : idxF way o.f = none) : (Instr.mapUpdate 75 (.map (some pb)) (.string (bs o.f)) (.int .i64 (way.length : Int))).run Tryz.prog w = .ok () (putMap w pb (plM (way ++ [o]))) ∧ MapIs SStr (putMap w pb (plM (way ++ [o]))) pb (plM (way ++ [o])) := by
  rw [plM_snoc]
  exact ⟨run_update_new h lawStr Tryz.underlying75 hS (plM_lacks hi), h.append_is hS (plM_lacks hi)⟩
/-! two rows that grow side by side -/
theorem two_g {P Q : Nat} {v : Value} {w w' : World} (h : w.grownBy w' v.ownBlock) (hp : ∀ b, v.ownBlock = some b → b = P ∨ b = Q) : Two P Q w w' :=
  ⟨h.os, h.tape, h.output, h.size, fun k hk h1 h2 => h.block k hk (fun e => (hp k e.symm).elim h1 h2)⟩
theorem sep_ne {v u : Value} (h : ∀ g, v.ownBlock = some g → u.ownBlock ≠ some g) : v.ownBlock = none ∨ v.ownBlock ≠ u.ownBlock := by
  cases e : v.ownBlock with
  | none => exact .inl rfl
  | some g => exact .inr (fun h' => h g e h'.symm)
theorem sep_new {v v' u : Value} {N M : Nat} (h5 : v'.ownBlock = v.ownBlock ∨ ∃ g, v'.ownBlock = some g ∧ N ≤ g) (hs : ∀ g, v.ownBlock = some g → u.ownBlock ≠ some g) (lu : ∀ g, u.ownBlock = some g → g < M) (hMN : M ≤ N) : ∀ g, v'.ownBlock = some g → u.ownBlock ≠ some g := fun g hg => by
  rcases h5 with h | ⟨g', h1, h2⟩
  · exact hs g (by rw [← h]; exact hg)
  · rw [hg] at h1
    cases h1
    intro h3
    have := lu g h3
    omega
theorem eval_atE {a : Act} {s : Tmp} {v : Value} (h : a.tmps[s]? = some v) : a.eval (.tmp s) = v := by simp [Act.eval, h]
theorem put_far {a : Act} {d t : Tmp} {v : Value} (h : d ≠ t) : (a.put (some d) v).tmps[t]? = a.tmps[t]? := by
  show (a.tmps.setIfInBounds d v)[t]? = _
  rw [Array.getElem?_setIfInBounds_ne h]
def lenV : Value → Nat
  | .slice _ n _ => n
  | _ => 0
theorem ownsRow_len {w : World} {B : Nat} {e : TypeId} {s n : Nat} {v : Value} {xs : List Value} (h : w.ownsRow B e s v n xs) : lenV v = n := by
  rcases h.2 with ⟨rfl, h1⟩ | ⟨g, cap, cur, rfl, _⟩
  · exact h1.symm ▸ rfl
  · rfl
theorem own_apart {w : World} {B B' : Nat} {e e' : TypeId} {s s' n n' : Nat} {v v' : Value} {xs xs' : List Value} (h : w.ownsRow B e s v n xs) (h' : w.ownsRow B' e' s' v' n' xs') (he : e ≠ e') : ∀ g, v.ownBlock = some g → v'.ownBlock ≠ some g := fun g hg hg' => by
  rcases ownsRow_apart h h' he with h1 | h1
  · exact h1 (hg.trans hg'.symm)
  · rw [h1] at hg; cases hg
theorem rowOr_at {v : Value} {p b : Nat} (h : v.ownBlock = some b) : b = rowOr v p := by unfold rowOr; rw [h]; rfl
theorem rowOr_ge {v : Value} {p B : Nat} (h : ∀ b, v.ownBlock = some b → B ≤ b) (hp : B ≤ p) : B ≤ rowOr v p := by
  unfold rowOr
  cases e : v.ownBlock with
  | none => exact hp
  | some b => exact h b e
theorem rowOr_ne {v : Value} {p b : Nat} (h : ∀ g, v.ownBlock = some g → g < b) (hp : b ≠ p) : b ≠ rowOr v p := by
  unfold rowOr
  cases e : v.ownBlock with
  | none => exact hp
  | some g => have := h g e; simp; omega
theorem ownsRow_form {w : World} {B : Nat} {e : TypeId} {s n : Nat} {v : Value} {xs : List Value} (h : w.ownsRow B e s v n xs) : ∃ A c, v = .slice A n c ∧ n ≤ c ∧ (0 < n → ∃ g, A = some ⟨g, 0, none⟩) := by
  rcases h.2 with ⟨rfl, h1⟩ | ⟨g, cap, cur, rfl, _, _, h2, _⟩
  · subst h1; exact ⟨none, 0, rfl, Nat.le_refl _, fun h => absurd h (by decide)⟩
  · exact ⟨_, _, rfl, h2, fun _ => ⟨g, rfl⟩⟩
end Go.Proofs.YtgdgdhpmjkefjaaGreatDoor

/- Walks of package forward: Settle. -/
set_option linter.unusedVariables false
set_option linter.unusedSimpArgs false
namespace Go.Proofs.YtgdgdhpmjkefjaaGreatDoor
open Go.RowKit Go.Shelf

def SetR (l : List Od) (p door : List UInt8) (day : Int) (w : World) (e : Ending) (w' : World) : Prop := ∃ v', e = .returned (.tuple #[.string (bs (setT l p door day)), v', .int .i64 (setE l p door day)]) ∧ TextsAt w' v' (setI l p door day) ∧ Below w.heap.size w w'
theorem setR_no {l : List Od} {p door : List UInt8} {day : Int} (h : okS l p door day = false) {w w' : World} (hb : Below w.heap.size w w') : SetR l p door day w (.returned (.tuple #[.string ⟨#[]⟩, .slice none 0 0, .int .i64 1])) w' := by
  refine ⟨.slice none 0 0, ?_, ?_, hb⟩
  · unfold setT setE; rw [h]; rfl
  · unfold setI; rw [h]; exact RowsAt.nil _ _
set_option maxRecDepth 100000 in
set_option maxHeartbeats 8000000 in
theorem Settle_any (l : List Od) (hf : ∀ o ∈ l, o.fit) (hl : l.length ≤ 1000000000) (p door : List UInt8) (hp : p.length ≤ 140737488355328) (hd : door.length ≤ 140737488355328) (day : Int) (v : Value) (w : World) (hv : OdsAt w v l) (hg : Glob w) :
    Calls Tryz.prog 11 #[v, .string (bs p), .string (bs door), .int .i64 day] w (SetR l p door day w) := by
  obtain ⟨A, c, rfl⟩ := hv.slice
  have HS := hide hv
  have HF := hide hf
  have HG := hide hg
  clear hv hf hg
  obtain ⟨U, hU, g, u0, rfl, hgu, hi⟩ := cls w
  have CT := cls_call hgu hi (fun w' hb => dText_any day w' (HG.out.to hb))
  have CP := cls_call hgu hi (fun w' hb => Proper_any l HF.out hl _ w' (HS.out.to hb))
  have CN1 := fun w => isName_any p hp w
  have CN2 := fun w => isName_any door hd w
  have HGU := hide hgu
  clear hgu hi
  have HE : Hid (dayE day = if isDayB day then 0 else 1) := rfl
  cases hday : isDayB day with
  | false =>
    have HNO : Hid (okS l p door day = false) := by show _ = _; unfold okS; rw [hday]; rfl
    have e1 : dayE day = 1 := by rw [HE.out, hday]; rfl
    rw [e1] at CT
    clear e1 hday CP CN1 CN2
    go_enter Tryz.func11, Tryz.ntmps11
    go_wp2_with ((with_reducible refine (CT _).mono ?_); rintro e w' ⟨rfl, uz, rfl⟩)
    go_ret3
    exact setR_no HNO.out (HGU.out _)
  | true =>
    have e1 : dayE day = 0 := by rw [HE.out, hday]; rfl
    rw [e1] at CT
    have HOK : Hid (okS l p door day = (properL l && (isNm p && isNm door))) := by show _ = _; unfold okS; rw [hday]; rfl
    by_cases hok : okS l p door day = false
    · have HNO := hide hok
      rw [HOK.out] at hok
      generalize properL l = B1 at *
      generalize isNm p = B2 at *
      generalize isNm door = B3 at *
      have hmm := @run_makeMap Tryz.prog
      clear e1 hday HE
      cases B1 <;> cases B2 <;> cases B3 <;> simp at hok
      all_goals clear hok
      all_goals go_enter Tryz.func11, Tryz.ntmps11
      all_goals go_wp2_with (first | ((with_reducible refine (CT _).mono ?_); rintro e w' ⟨rfl, uz, rfl⟩) | ((with_reducible refine (CP _).mono ?_); rintro e w' ⟨rfl, uy, rfl⟩) | ((with_reducible refine (CN1 _).mono ?_); rintro e w' ⟨rfl, rfl⟩) | ((with_reducible refine (CN2 _).mono ?_); rintro e w' ⟨rfl, rfl⟩))
      all_goals go_ret3
      all_goals exact setR_no HNO.out (HGU.out _)
    have HYES : Hid (okS l p door day = true) := by show _ = _; cases h : okS l p door day with | true => rfl | false => exact absurd h hok
    have hyes := HYES.out
    rw [HOK.out] at hyes
    simp only [Bool.and_eq_true] at hyes
    obtain ⟨y1, y2, y3⟩ := hyes
    have HPR := hide y1
    have hlen : l.length ≤ 1000 := by
      have := y1
      unfold properL at this
      simp only [Bool.and_eq_true, decide_eq_true_eq] at this
      omega
    rw [y1] at CP
    rw [y2] at CN1
    rw [y3] at CN2
    have hmm := @run_makeMap Tryz.prog
    clear e1 hday HE hok y1 y2 y3 HOK
    go_enter Tryz.func11, Tryz.ntmps11
    go_upto_region 6 with (first | ((with_reducible refine (CT _).mono ?_); rintro e w' ⟨rfl, uz, rfl⟩) | ((with_reducible refine (CP _).mono ?_); rintro e w' ⟨rfl, uy, rfl⟩) | ((with_reducible refine (CN1 _).mono ?_); rintro e w' ⟨rfl, rfl⟩) | ((with_reducible refine (CN2 _).mono ?_); rintro e w' ⟨rfl, rfl⟩))
    have HMn : Hid (MapIs SStr ((g uy).alloc (.map #[] 0)) (g uy).heap.size (entM [])) := MapIs.new SStr (g uy)
    have HBn : Hid (Below (g u0).heap.size (g u0) ((g uy).alloc (.map #[] 0))) := (HGU.out uy).alloc (HGU.out uy).size _
    have hmb0 : (g u0).heap.size ≤ (g uy).heap.size := (HGU.out uy).size
    generalize (g uy).alloc (.map #[] 0) = w1 at *
    generalize (g uy).heap.size = mb at *
    clear CT CP CN1 CN2
    go_loopw [52] (fun i wr => ∃ k : Nat, i = .int .i64 (k : Int) ∧ k ≤ l.length ∧ Aside (Below (g u0).heap.size (g u0) wr) ∧ Aside (∃ m, MapIs SStr wr mb (entM m) ∧ ∀ x, getF m x = cand p day x (l.take k))) (fun i _ => l.length - (intOf i).toNat)
    case atStart => exact ⟨0, rfl, by omega, HBn.out, [], HMn.out, fun x => rfl⟩
    case round =>
      obtain ⟨k, rfl, hk, hB, m, hM, hmF⟩ := hrel
      have HB : Hid (Below (g u0).heap.size (g u0) wr) := hB
      have HM : Hid (MapIs SStr wr mb (entM m)) := hM
      have HMF : Hid (∀ x, getF m x = cand p day x (l.take k)) := hmF
      clear hB hM hmF
      by_cases hlt : k < l.length
      · have e1 : decide ((k : Int) < (l.length : Int)) = true := decide_eq_true (by omega)
        obtain ⟨o, ho⟩ : ∃ o, l[k]? = some o := ⟨_, List.getElem?_eq_getElem hlt⟩
        have hfo := HF.out o (List.mem_of_getElem? ho)
        obtain ⟨a, rfl, ha, c0, c1, c2, c3, c4, c5⟩ := OdsAt.at_ (HS.out.to HB.out) ho
        have hS := sstr hfo.f
        clear hmm
        cases hgf : getF m o.f with
        | none =>
          have hlk : ∀ X : Obj, (Instr.lookup 71 (.map (some mb)) (.string (bs o.f)) true).run Tryz.prog (wr.alloc X) = .ok (.tuple #[.agg #[.string ⟨#[]⟩, .string ⟨#[]⟩, .string ⟨#[]⟩, .string ⟨#[]⟩, .int .i64 0, .int .i64 0], .bool false]) (wr.alloc X) := fun X => look_none (HM.out.alloc X) hS hgf
          go_upto_region 9 with fail
          have HBx : Below (g u0).heap.size (g u0) ((wr.alloc (.cells #[.string (bs o.i), .string (bs o.p), .string (bs o.f), .string (bs o.t), .int .i64 o.a, .int .i64 o.b] 39)).alloc (.cells #[.string ⟨#[]⟩, .string ⟨#[]⟩, .string ⟨#[]⟩, .string ⟨#[]⟩, .int .i64 0, .int .i64 0] 39)) := (HB.out.alloc (Nat.le_trans hmb0 (Nat.le_of_lt HM.out.lt)) _).alloc (by simp; have := Nat.le_trans hmb0 (Nat.le_of_lt HM.out.lt); omega) _
          have HB3 := hide HBx
          have HM3 := hide ((HM.out.alloc (.cells #[.string (bs o.i), .string (bs o.p), .string (bs o.f), .string (bs o.t), .int .i64 o.a, .int .i64 o.b] 39)).alloc (.cells #[.string ⟨#[]⟩, .string ⟨#[]⟩, .string ⟨#[]⟩, .string ⟨#[]⟩, .int .i64 0, .int .i64 0] 39))
          have HK1 := hide ((Blk.new wr 39 #[.string (bs o.i), .string (bs o.p), .string (bs o.f), .string (bs o.t), .int .i64 o.a, .int .i64 o.b]).alloc (.cells #[.string ⟨#[]⟩, .string ⟨#[]⟩, .string ⟨#[]⟩, .string ⟨#[]⟩, .int .i64 0, .int .i64 0] 39))
          have hk2 := Blk.new (wr.alloc (.cells #[.string (bs o.i), .string (bs o.p), .string (bs o.f), .string (bs o.t), .int .i64 o.a, .int .i64 o.b] 39)) 39 #[.string ⟨#[]⟩, .string ⟨#[]⟩, .string ⟨#[]⟩, .string ⟨#[]⟩, .int .i64 0, .int .i64 0]
          rw [show (wr.alloc (.cells #[.string (bs o.i), .string (bs o.p), .string (bs o.f), .string (bs o.t), .int .i64 o.a, .int .i64 o.b] 39)).heap.size = wr.heap.size + 1 by simp] at hk2
          have HK2 := hide hk2
          clear hk2 HBx hlk
          generalize (wr.alloc (.cells #[.string (bs o.i), .string (bs o.p), .string (bs o.f), .string (bs o.t), .int .i64 o.a, .int .i64 o.b] 39)).alloc (.cells #[.string ⟨#[]⟩, .string ⟨#[]⟩, .string ⟨#[]⟩, .string ⟨#[]⟩, .int .i64 0, .int .i64 0] 39) = w3 at *
          obtain ⟨b15, hb15⟩ : ∃ b, Hid (wr.heap.size = b) := ⟨_, rfl⟩
          rw [hb15.out] at HK1 HK2 ⊢
          clear c0 c1 c2 c3 c4 c5 ha
          obtain ⟨V, hV, g3, v0, rfl, hg3, hi3⟩ := cls w3
          have CC := cls_call hg3 hi3 (fun w _ => Covers_any o.a o.b day w)
          have r0 := blk_all hg3 HK1.out 0 rfl
          have r1 := blk_all hg3 HK1.out 1 rfl
          have r2 := blk_all hg3 HK1.out 2 rfl
          have r3 := blk_all hg3 HK1.out 3 rfl
          have r4 := blk_all hg3 HK1.out 4 rfl
          have r5 := blk_all hg3 HK1.out 5 rfl
          have HGV := hide hg3
          have HB3u : Hid (∀ u, Below (g u0).heap.size (g u0) (g3 u)) := fun u => HB3.out.trans ((hg3 u).mono HB3.out.size)
          clear hg3 hi3
          by_cases hpp : o.p = p
          · have e2 : ((bs o.p).toList == (bs p).toList) = true := by rw [hpp]; simp
            cases hcov : coversB o.a o.b day with
            | true =>
              rw [hcov] at CC
              obtain ⟨m', hm1, hm2⟩ := put_ents (entM_nodup HM3.out.apart) o hS mb
              have hup := fun u => (hm1 (g3 u) (HM3.out.below (HGV.out u) HM3.out.lt)).1
              have HMN : Hid (∀ u, MapIs SStr (putMap (g3 u) mb (entM m')) mb (entM m')) := fun u => (hm1 (g3 u) (HM3.out.below (HGV.out u) HM3.out.lt)).2
              have HST : Hid (∀ x, getF m' x = cand p day x (l.take (k + 1))) := fun x => by rw [hm2 x, cand_yes ho hpp hcov (by rw [← HMF.out, hgf]; rfl) x, HMF.out x]
              have HBN : Hid (∀ u, Below (g u0).heap.size (g u0) (putMap (g3 u) mb (entM m'))) := fun u => putMap_below (HB3u.out u) hmb0
              clear hm1 hm2
              clear hcov hpp
              go_wp2_with ((with_reducible refine (CC _).mono ?_); rintro e w' ⟨rfl, uc, rfl⟩)
              refine ⟨⟨k + 1, by go_num, by omega, HBN.out _, m', HMN.out _, HST.out⟩, ?_⟩
              simp [intOf]; omega
            | false =>
              rw [hcov] at CC
              have HST : Hid (∀ x, getF m x = cand p day x (l.take (k + 1))) := fun x => (HMF.out x).trans (cand_no ho (by rintro ⟨_, h2, _⟩; rw [hcov] at h2; cases h2) x).symm
              clear hcov hpp
              go_wp2_with ((with_reducible refine (CC _).mono ?_); rintro e w' ⟨rfl, uc, rfl⟩)
              refine ⟨⟨k + 1, by go_num, by omega, HB3u.out _, m, HM3.out.below (HGV.out _) HM3.out.lt, HST.out⟩, ?_⟩
              simp [intOf]; omega
          · have e2 : ((bs o.p).toList == (bs p).toList) = false := by rw [beq_eq_false_iff_ne, bs_toList, bs_toList]; exact hpp
            have HST : Hid (∀ x, getF m x = cand p day x (l.take (k + 1))) := fun x => (HMF.out x).trans (cand_no ho (by rintro ⟨h1, _, _⟩; exact hpp h1) x).symm
            clear hpp
            go_wp2_with ((with_reducible refine (CC _).mono ?_); rintro e w' ⟨rfl, uc, rfl⟩)
            refine ⟨⟨k + 1, by go_num, by omega, HB3u.out _, m, HM3.out.below (HGV.out _) HM3.out.lt, HST.out⟩, ?_⟩
            simp [intOf]; omega
        | some q =>
          have hlk : ∀ X : Obj, (Instr.lookup 71 (.map (some mb)) (.string (bs o.f)) true).run Tryz.prog (wr.alloc X) = .ok (.tuple #[.agg #[.string (bs q.i), .string (bs q.p), .string (bs q.f), .string (bs q.t), .int .i64 q.a, .int .i64 q.b], .bool true]) (wr.alloc X) := fun X => look_some (HM.out.alloc X) hS hgf
          go_upto_region 9 with fail
          have HBx : Below (g u0).heap.size (g u0) ((wr.alloc (.cells #[.string (bs o.i), .string (bs o.p), .string (bs o.f), .string (bs o.t), .int .i64 o.a, .int .i64 o.b] 39)).alloc (.cells #[.string (bs q.i), .string (bs q.p), .string (bs q.f), .string (bs q.t), .int .i64 q.a, .int .i64 q.b] 39)) := (HB.out.alloc (Nat.le_trans hmb0 (Nat.le_of_lt HM.out.lt)) _).alloc (by simp; have := Nat.le_trans hmb0 (Nat.le_of_lt HM.out.lt); omega) _
          have HB3 := hide HBx
          have HM3 := hide ((HM.out.alloc (.cells #[.string (bs o.i), .string (bs o.p), .string (bs o.f), .string (bs o.t), .int .i64 o.a, .int .i64 o.b] 39)).alloc (.cells #[.string (bs q.i), .string (bs q.p), .string (bs q.f), .string (bs q.t), .int .i64 q.a, .int .i64 q.b] 39))
          have HK1 := hide ((Blk.new wr 39 #[.string (bs o.i), .string (bs o.p), .string (bs o.f), .string (bs o.t), .int .i64 o.a, .int .i64 o.b]).alloc (.cells #[.string (bs q.i), .string (bs q.p), .string (bs q.f), .string (bs q.t), .int .i64 q.a, .int .i64 q.b] 39))
          have hk2 := Blk.new (wr.alloc (.cells #[.string (bs o.i), .string (bs o.p), .string (bs o.f), .string (bs o.t), .int .i64 o.a, .int .i64 o.b] 39)) 39 #[.string (bs q.i), .string (bs q.p), .string (bs q.f), .string (bs q.t), .int .i64 q.a, .int .i64 q.b]
          rw [show (wr.alloc (.cells #[.string (bs o.i), .string (bs o.p), .string (bs o.f), .string (bs o.t), .int .i64 o.a, .int .i64 o.b] 39)).heap.size = wr.heap.size + 1 by simp] at hk2
          have HK2 := hide hk2
          clear hk2 HBx hlk
          generalize (wr.alloc (.cells #[.string (bs o.i), .string (bs o.p), .string (bs o.f), .string (bs o.t), .int .i64 o.a, .int .i64 o.b] 39)).alloc (.cells #[.string (bs q.i), .string (bs q.p), .string (bs q.f), .string (bs q.t), .int .i64 q.a, .int .i64 q.b] 39) = w3 at *
          obtain ⟨b15, hb15⟩ : ∃ b, Hid (wr.heap.size = b) := ⟨_, rfl⟩
          rw [hb15.out] at HK1 HK2 ⊢
          clear c0 c1 c2 c3 c4 c5 ha
          obtain ⟨V, hV, g3, v0, rfl, hg3, hi3⟩ := cls w3
          have CC := cls_call hg3 hi3 (fun w _ => Covers_any o.a o.b day w)
          have CW := cls_call hg3 hi3 (fun w _ => newer_any o q w)
          have r0 := blk_all hg3 HK1.out 0 rfl
          have r1 := blk_all hg3 HK1.out 1 rfl
          have r2 := blk_all hg3 HK1.out 2 rfl
          have r3 := blk_all hg3 HK1.out 3 rfl
          have r4 := blk_all hg3 HK1.out 4 rfl
          have r5 := blk_all hg3 HK1.out 5 rfl
          have s0 := blk_all hg3 HK2.out 0 rfl
          have s1 := blk_all hg3 HK2.out 1 rfl
          have s2 := blk_all hg3 HK2.out 2 rfl
          have s3 := blk_all hg3 HK2.out 3 rfl
          have s4 := blk_all hg3 HK2.out 4 rfl
          have s5 := blk_all hg3 HK2.out 5 rfl
          have HGV := hide hg3
          have HB3u : Hid (∀ u, Below (g u0).heap.size (g u0) (g3 u)) := fun u => HB3.out.trans ((hg3 u).mono HB3.out.size)
          clear hg3 hi3
          by_cases hpp : o.p = p
          · have e2 : ((bs o.p).toList == (bs p).toList) = true := by rw [hpp]; simp
            cases hcov : coversB o.a o.b day with
            | true =>
              rw [hcov] at CC
              cases hn : newerB o q with
              | true =>
                rw [hn] at CW
                obtain ⟨m', hm1, hm2⟩ := put_ents (entM_nodup HM3.out.apart) o hS mb
                have hup := fun u => (hm1 (g3 u) (HM3.out.below (HGV.out u) HM3.out.lt)).1
                have HMN : Hid (∀ u, MapIs SStr (putMap (g3 u) mb (entM m')) mb (entM m')) := fun u => (hm1 (g3 u) (HM3.out.below (HGV.out u) HM3.out.lt)).2
                have HST : Hid (∀ x, getF m' x = cand p day x (l.take (k + 1))) := fun x => by rw [hm2 x, cand_yes ho hpp hcov (by unfold beats; rw [← HMF.out, hgf]; exact hn) x, HMF.out x]
                have HBN : Hid (∀ u, Below (g u0).heap.size (g u0) (putMap (g3 u) mb (entM m'))) := fun u => putMap_below (HB3u.out u) hmb0
                clear hm1 hm2
                clear hcov hpp hn
                go_wp2_with (first | ((with_reducible refine (CC _).mono ?_); rintro e w' ⟨rfl, uc, rfl⟩) | ((with_reducible refine (CW _).mono ?_); rintro e w' ⟨rfl, uw, rfl⟩))
                refine ⟨⟨k + 1, by go_num, by omega, HBN.out _, m', HMN.out _, HST.out⟩, ?_⟩
                simp [intOf]; omega
              | false =>
                rw [hn] at CW
                have HST : Hid (∀ x, getF m x = cand p day x (l.take (k + 1))) := fun x => (HMF.out x).trans (cand_no ho (by rw [← HMF.out, hgf]; rintro ⟨_, _, h3⟩; have h4 : newerB o q = true := h3; rw [hn] at h4; cases h4) x).symm
                clear hcov hpp hn
                go_wp2_with (first | ((with_reducible refine (CC _).mono ?_); rintro e w' ⟨rfl, uc, rfl⟩) | ((with_reducible refine (CW _).mono ?_); rintro e w' ⟨rfl, uw, rfl⟩))
                refine ⟨⟨k + 1, by go_num, by omega, HB3u.out _, m, HM3.out.below (HGV.out _) HM3.out.lt, HST.out⟩, ?_⟩
                simp [intOf]; omega
            | false =>
              rw [hcov] at CC
              have HST : Hid (∀ x, getF m x = cand p day x (l.take (k + 1))) := fun x => (HMF.out x).trans (cand_no ho (by rintro ⟨_, h2, _⟩; rw [hcov] at h2; cases h2) x).symm
              clear hcov hpp
              go_wp2_with (first | ((with_reducible refine (CC _).mono ?_); rintro e w' ⟨rfl, uc, rfl⟩) | ((with_reducible refine (CW _).mono ?_); rintro e w' ⟨rfl, uw, rfl⟩))
              refine ⟨⟨k + 1, by go_num, by omega, HB3u.out _, m, HM3.out.below (HGV.out _) HM3.out.lt, HST.out⟩, ?_⟩
              simp [intOf]; omega
          · have e2 : ((bs o.p).toList == (bs p).toList) = false := by rw [beq_eq_false_iff_ne, bs_toList, bs_toList]; exact hpp
            have HST : Hid (∀ x, getF m x = cand p day x (l.take (k + 1))) := fun x => (HMF.out x).trans (cand_no ho (by rintro ⟨h1, _, _⟩; exact hpp h1) x).symm
            clear hpp
            go_wp2_with (first | ((with_reducible refine (CC _).mono ?_); rintro e w' ⟨rfl, uc, rfl⟩) | ((with_reducible refine (CW _).mono ?_); rintro e w' ⟨rfl, uw, rfl⟩))
            refine ⟨⟨k + 1, by go_num, by omega, HB3u.out _, m, HM3.out.below (HGV.out _) HM3.out.lt, HST.out⟩, ?_⟩
            simp [intOf]; omega
      · obtain rfl : k = l.length := by omega
        have e1 : decide ((l.length : Int) < (l.length : Int)) = false := by simp
        rw [List.take_length] at HMF
        go_upto_region 16 with fail
        have HP4 : Hid (MapIs SStr (wr.alloc (.map #[] 0)) wr.heap.size (plM [])) := MapIs.new SStr wr
        have HM4 : Hid (MapIs SStr (wr.alloc (.map #[] 0)) mb (entM m)) := HM.out.alloc _
        have hB0m : (g u0).heap.size ≤ wr.heap.size := HB.out.size
        have HB4 : Hid (Below (g u0).heap.size (g u0) (wr.alloc (.map #[] 0))) := HB.out.alloc hB0m _
        have hmbw : mb < wr.heap.size := HM.out.lt
        generalize wr.alloc (.map #[] 0) = w4 at *
        generalize wr.heap.size = pb at *
        have hpb4 : pb < w4.heap.size := HP4.out.lt
        obtain ⟨B1, hB1⟩ : ∃ B, B = w4.heap.size := ⟨_, rfl⟩
        have hB1' : B1 ≤ w4.heap.size := by omega
        have hpbB : pb < B1 := by omega
        have hmbB : mb < B1 := by omega
        have hB10 : (g u0).heap.size ≤ B1 := by omega
        obtain ⟨i0, hi0, hz0, hz1, hz2⟩ := info_parts (show (Tryz.prog.info? 39).map (fun i => (i.zero, i.size, i.bytes)) = some (some (.agg #[.string ⟨#[]⟩, .string ⟨#[]⟩, .string ⟨#[]⟩, .string ⟨#[]⟩, .int .i64 0, .int .i64 0]), 6, 80) by kernel_rfl)
        obtain ⟨i1, hi1, hy0, hy1, hy2⟩ := info_parts (show (Tryz.prog.info? 9).map (fun i => (i.zero, i.size, i.bytes)) = some (some (.string ⟨#[]⟩), 1, 16) by kernel_rfl)
        have hLL : left_ l [] + 0 ≤ l.length := by have := left_start l; omega
        clear HM HB HBn HMn hB1 hk hlt e1 hmm
        go_loopw [18, 19, 21] (fun vw vi at_ wq => ∃ (way : List Od) (x : List UInt8) (n : Nat), at_ = .string (bs x) ∧ x.length ≤ 140737488355328 ∧ Aside (Below (g u0).heap.size (g u0) wq) ∧ Aside (B1 ≤ wq.heap.size) ∧ Aside (MapIs SStr wq mb (entM m)) ∧ Aside (MapIs SStr wq pb (plM way)) ∧ Aside (wq.ownsRow B1 39 6 vw way.length (way.map odV).flatten) ∧ Aside (wq.ownsRow B1 9 1 vi way.length (way.map fun o => Value.string (bs o.i))) ∧ Aside (settleF (fun x => cand p day x l) n way x = settleF (fun x => cand p day x l) 2000 [] door) ∧ Aside (n + way.length = 2000) ∧ Aside (left_ l way + way.length ≤ l.length)) (fun vw _ _ _ => 3000 - lenV vw)
        case atStart => exact ⟨[], door, 2000, rfl, hd, HB4.out, hB1', HM4.out, HP4.out, World.ownsRow_nil _ _ _ _, World.ownsRow_nil _ _ _ _, rfl, rfl, hLL⟩
        case round =>
          obtain ⟨way, x, n, rfl, hx, hB, hbr1, hM, hP, hW, hI, hST, hn, hLF⟩ := hrel
          have HB : Hid (Below (g u0).heap.size (g u0) wr) := hB
          have hBr : Hid (B1 ≤ wr.heap.size) := hbr1
          have HM : Hid (MapIs SStr wr mb (entM m)) := hM
          have HP : Hid (MapIs SStr wr pb (plM way)) := hP
          have HRW0 : Hid (wr.ownsRow B1 39 6 _ way.length (way.map odV).flatten) := hW
          have HRI0 : Hid (wr.ownsRow B1 9 1 _ way.length (way.map fun o => Value.string (bs o.i))) := hI
          have HST0 : Hid (settleF (fun x => cand p day x l) n way x = settleF (fun x => cand p day x l) 2000 [] door) := hST
          have hn' : n + way.length = 2000 := hn
          have hLF' : left_ l way + way.length ≤ l.length := hLF
          clear hB hbr1 hM hP hW hI hST hn hLF
          have hSx := sstr hx
          have hlvw : lenV u18 = way.length := ownsRow_len HRW0.out
          have HSEP := hide (own_apart HRW0.out HRI0.out (by decide))
          have HSEP2 := hide (own_apart HRI0.out HRW0.out (by decide))
          obtain ⟨Aw, cw, rfl, hcw, hA⟩ := ownsRow_form HRW0.out
          clear hlvw
          obtain ⟨n, rfl⟩ : ∃ n', n = n' + 1 := ⟨n - 1, by omega⟩
          cases hi : idxF way x with
          | some i =>
            have hlk : (Instr.lookup 75 (.map (some pb)) (.string (bs x)) true).run Tryz.prog wr = .ok (.tuple #[.int .i64 (i : Int), .bool true]) wr := place_some HP.out hSx hi
            obtain ⟨o, ho, hox⟩ := idxF_some hi
            have hil : i < way.length := (List.getElem?_eq_some_iff.1 ho).1
            obtain ⟨gw, rfl⟩ := hA (by omega)
            have HRES : Hid (settleR l p door day = ((greatestB (way.drop i)).t, way)) := by
              show _ = _
              unfold settleR
              rw [← HST0.out, settle_found hi]
            have hODS : OdsAt wr (.slice (some ⟨gw, 0, none⟩) way.length cw) way := RowsAt.of_own (by simp [odV]) (by rw [List.length_map]; exact HRW0.out)
            have hODD : OdsAt wr (.slice (some ⟨gw, i * 6, none⟩) (way.length - i) (cw - i)) (way.drop i) := by
              have h := RowsAt.drop hODS (k := i) (by rw [List.length_map]; omega) (cw - i) (by rw [List.length_map]; omega)
              rw [List.length_map, add_zero_off] at h
              show RowsAt _ _ _ _
              rw [List.map_drop]; exact h
            obtain ⟨o', r, hdr⟩ : ∃ o' r, way.drop i = o' :: r := by
              cases hd : way.drop i with
              | nil => have := congrArg List.length hd; simp at this; omega
              | cons a b => exact ⟨a, b, rfl⟩
            have hrl : r.length ≤ 1000000 := by have := congrArg List.length hdr; simp at this; omega
            rw [hdr] at hODD
            have CG := greatest_any o' r hrl _ wr hODD
            have HG' : Hid (greatestB (way.drop i) = bestB o' r) := by show _ = _; rw [hdr]; rfl
            generalize bestB o' r = q at *
            have HTX : Hid (TextsAt wr u19 (way.map (·.i))) := by
              show RowsAt _ _ _ _
              refine RowsAt.of_own (B := B1) (e := 9) (by simp [strV]) ?_
              have h := HRI0.out
              rw [List.length_map, List.length_map]
              have e : ((way.map (·.i)).map strV).flatten = way.map fun o => Value.string (bs o.i) := by rw [strs_flat, List.map_map]; rfl
              rw [e]; exact h
            have hne : ¬ cw = i := by omega
            have hne2 : ¬ i = cw := by omega
            have i0' : (0 : Int) ≤ (i : Int) := by omega
            have i1' : (i : Int) ≤ (way.length : Int) := by omega
            clear hODD hODS hdr hrl ho hox hA hSx
            go_upto_region 18 with fail
            go_wp2_with ((with_reducible refine CG.mono ?_); rintro e w6 ⟨rfl, hb6⟩; have HB6 := hide hb6; clear hb6)
            go_ret3
            refine ⟨u19, ?_, ?_, (HB.out.trans (HB6.out.mono HB.out.size)).alloc (Nat.le_trans HB.out.size HB6.out.size) _⟩
            · unfold setT setE
              rw [HYES.out, HRES.out, HG'.out]; rfl
            · unfold setI
              rw [HYES.out, HRES.out]
              exact (HTX.out.to HB6.out).to (below_one _ _)
          | none =>
            have hlk : (Instr.lookup 75 (.map (some pb)) (.string (bs x)) true).run Tryz.prog wr = .ok (.tuple #[.int .i64 0, .bool false]) wr := place_none HP.out hSx hi
            cases hgf : getF m x with
            | none =>
              have hlc : (Instr.lookup 71 (.map (some mb)) (.string (bs x)) true).run Tryz.prog wr = .ok (.tuple #[.agg #[.string ⟨#[]⟩, .string ⟨#[]⟩, .string ⟨#[]⟩, .string ⟨#[]⟩, .int .i64 0, .int .i64 0], .bool false]) wr := look_none HM.out hSx hgf
              have HRES : Hid (settleR l p door day = (x, way)) := by
                show _ = _
                unfold settleR
                rw [← HST0.out, settle_stop hi (by rw [← HMF.out x, hgf])]
              have HTX : Hid (TextsAt wr u19 (way.map (·.i))) := by
                show RowsAt _ _ _ _
                refine RowsAt.of_own (B := B1) (e := 9) (by simp [strV]) ?_
                have h := HRI0.out
                rw [List.length_map, List.length_map]
                have e : ((way.map (·.i)).map strV).flatten = way.map fun o => Value.string (bs o.i) := by rw [strs_flat, List.map_map]; rfl
                rw [e]; exact h
              clear hgf hi hA hSx
              go_wp2_with fail
              go_ret3
              refine ⟨u19, ?_, ?_, HB.out.alloc HB.out.size _⟩
              · unfold setT setE
                rw [HYES.out, HRES.out]; rfl
              · unfold setI
                rw [HYES.out, HRES.out]
                exact HTX.out.to (below_one _ _)
            | some o =>
              obtain ⟨hom, rfl⟩ := cand_mem ((HMF.out x).symm.trans hgf) |> fun h => (⟨h.1, h.2.1⟩ : o ∈ l ∧ o.f = x)
              have hfo := HF.out o hom
              have hlc : (Instr.lookup 71 (.map (some mb)) (.string (bs o.f)) true).run Tryz.prog wr = .ok (.tuple #[.agg #[.string (bs o.i), .string (bs o.p), .string (bs o.f), .string (bs o.t), .int .i64 o.a, .int .i64 o.b], .bool true]) wr := look_some HM.out hSx hgf
              have hpu : ∀ X : Obj, (Instr.mapUpdate 75 (.map (some pb)) (.string (bs o.f)) (.int .i64 (way.length : Int))).run Tryz.prog (wr.alloc X) = .ok () (putMap (wr.alloc X) pb (plM (way ++ [o]))) := fun X => (place_put (HP.out.alloc X) hSx hi).1
              have HPN : Hid (∀ X : Obj, MapIs SStr (putMap (wr.alloc X) pb (plM (way ++ [o]))) pb (plM (way ++ [o]))) := fun X => (place_put (HP.out.alloc X) hSx hi).2
              have HST : Hid (settleF (fun x => cand p day x l) (n + 1) way o.f = settleF (fun x => cand p day x l) n (way ++ [o]) o.t) := settle_on hi (by rw [← HMF.out o.f, hgf])
              have HFU : Hid (settleF (fun x => cand p day x l) (n + 1) way o.f = settleF (fun x => cand p day x l) 2000 [] door) := HST0.out
              have hleft := left_less (pass_none (idxF_none hi)) hom
              have hrm := Nat.le_of_lt hpb4
              go_upto_region 24 with fail
              clear hgf hi hA hlk hlc hpu
              have hbr : B1 ≤ wr.heap.size := hBr.out
              have hK := putMap_blk (m := pb) (l := plM (way ++ [o])) (Blk.new wr 39 #[.string (bs o.i), .string (bs o.p), .string (bs o.f), .string (bs o.t), .int .i64 o.a, .int .i64 o.b]) (by omega)
              have HK25 := hide hK
              have HP5 := hide (HPN.out (.cells #[.string (bs o.i), .string (bs o.p), .string (bs o.f), .string (bs o.t), .int .i64 o.a, .int .i64 o.b] 39))
              have HM5 : Hid (MapIs SStr (putMap (wr.alloc (.cells #[.string (bs o.i), .string (bs o.p), .string (bs o.f), .string (bs o.t), .int .i64 o.a, .int .i64 o.b] 39)) pb (plM (way ++ [o]))) mb (entM m)) := (HM.out.alloc _).same (putMap_other _ _ _ (by omega))
              have HW5 : Hid (Below (g u0).heap.size (g u0) (putMap (wr.alloc (.cells #[.string (bs o.i), .string (bs o.p), .string (bs o.f), .string (bs o.t), .int .i64 o.a, .int .i64 o.b] 39)) pb (plM (way ++ [o])))) := putMap_below (HB.out.alloc HB.out.size _) hB0m
              have lW := HRW0.out.lt
              have lI := HRI0.out.lt
              have HRW : Hid ((putMap (wr.alloc (.cells #[.string (bs o.i), .string (bs o.p), .string (bs o.f), .string (bs o.t), .int .i64 o.a, .int .i64 o.b] 39)) pb (plM (way ++ [o]))).ownsRow B1 39 6 (.slice Aw way.length cw) way.length (way.map odV).flatten) := (HRW0.out.alloc _).kept (putMap_grown _ _ _) (.inr (fun e => by have := (lW pb e).1; omega))
              have HRI : Hid ((putMap (wr.alloc (.cells #[.string (bs o.i), .string (bs o.p), .string (bs o.f), .string (bs o.t), .int .i64 o.a, .int .i64 o.b] 39)) pb (plM (way ++ [o]))).ownsRow B1 9 1 u19 way.length (way.map fun o => Value.string (bs o.i))) := (HRI0.out.alloc _).kept (putMap_grown _ _ _) (.inr (fun e => by have := (lI pb e).1; omega))
              have hsz5 : (putMap (wr.alloc (.cells #[.string (bs o.i), .string (bs o.p), .string (bs o.f), .string (bs o.t), .int .i64 o.a, .int .i64 o.b] 39)) pb (plM (way ++ [o]))).heap.size = wr.heap.size + 1 := by rw [putMap_size]; simp
              have hsepW := HSEP.out
              have hsepI := HSEP2.out
              clear HPN hK HRW0 HRI0 HP HM HST0
              generalize putMap (wr.alloc (.cells #[.string (bs o.i), .string (bs o.p), .string (bs o.f), .string (bs o.t), .int .i64 o.a, .int .i64 o.b] 39)) pb (plM (way ++ [o])) = w5 at *
              obtain ⟨b25, hb25⟩ : ∃ b, b = wr.heap.size := ⟨_, rfl⟩
              rw [← hb25] at HK25 lW lI hbr hsz5 ⊢
              have lvW : ∀ g, Value.ownBlock (.slice Aw way.length cw) = some g → g < w5.heap.size := fun g e => by have := (lW g e).2; omega
              have lvI : ∀ g, Value.ownBlock u19 = some g → g < w5.heap.size := fun g e => by have := (lI g e).2; omega
              have hB15 : B1 ≤ w5.heap.size := by omega
              obtain ⟨PB, hPB⟩ : ∃ P, P = rowOr (.slice Aw way.length cw) w5.heap.size := ⟨_, rfl⟩
              obtain ⟨QB, hQB⟩ : ∃ P, P = rowOr u19 w5.heap.size := ⟨_, rfl⟩
              have hPw : ∀ b, Value.ownBlock (.slice Aw way.length cw) = some b → b = PB ∨ b = QB := fun b e => .inl (by rw [hPB]; exact rowOr_at e)
              have hPi : ∀ b, Value.ownBlock u19 = some b → b = PB ∨ b = QB := fun b e => .inr (by rw [hQB]; exact rowOr_at e)
              have hBP : B1 ≤ PB := by rw [hPB]; exact rowOr_ge (fun b e => (lW b e).1) hB15
              have hBQ : B1 ≤ QB := by rw [hQB]; exact rowOr_ge (fun b e => (lI b e).1) hB15
              have hbP : b25 ≠ PB := by rw [hPB]; exact rowOr_ne (fun b e => (lW b e).2) (by omega)
              have hbQ : b25 ≠ QB := by rw [hQB]; exact rowOr_ne (fun b e => (lI b e).2) (by omega)
              clear hPB hQB lW lI hb25
              apply wp_region_lo4 (C := fun W => Two PB QB w5 W) (V := [some _, some _, none, none, some _, some _, some _, none, none, none, none]) (Fs := [(2, fun a W => ∃ g, a.tmps[119]? = some (.slice (some ⟨g, 0, none⟩) 1 1) ∧ Blk W g 39 #[.string (bs o.i), .string (bs o.p), .string (bs o.f), .string (bs o.t), .int .i64 o.a, .int .i64 o.b] ∧ w5.heap.size ≤ g), (3, fun a W => ∃ v2, a.tmps[120]? = some v2 ∧ World.ownsRow W B1 39 6 v2 (way.length + 1) ((way.map odV).flatten ++ [.string (bs o.i), .string (bs o.p), .string (bs o.f), .string (bs o.t), .int .i64 o.a, .int .i64 o.b]) ∧ (∀ g, v2.ownBlock = some g → u19.ownBlock ≠ some g)), (7, fun a W => ∃ g, a.tmps[124]? = some (.slice (some ⟨g, 0, none⟩) 1 1) ∧ Blk W g 9 #[.string (bs o.i)] ∧ w5.heap.size ≤ g), (8, fun a W => ∃ v2, a.tmps[125]? = some v2 ∧ World.ownsRow W B1 9 1 v2 (way.length + 1) ((way.map fun o => Value.string (bs o.i)) ++ [.string (bs o.i)]) ∧ (∀ g, v2.ownBlock = some g → (Value.slice Aw way.length cw).ownBlock ≠ some g)), (9, fun a W => ∃ v2, a.tmps[120]? = some v2 ∧ a.tmps[18]? = some v2 ∧ World.ownsRow W B1 39 6 v2 (way.length + 1) ((way.map odV).flatten ++ [.string (bs o.i), .string (bs o.p), .string (bs o.f), .string (bs o.t), .int .i64 o.a, .int .i64 o.b]) ∧ (∀ g, v2.ownBlock = some g → u19.ownBlock ≠ some g)), (10, fun a W => ∃ v2, a.tmps[125]? = some v2 ∧ a.tmps[19]? = some v2 ∧ World.ownsRow W B1 9 1 v2 (way.length + 1) ((way.map fun o => Value.string (bs o.i)) ++ [.string (bs o.i)]) ∧ (∀ g, v2.ownBlock = some g → (Value.slice Aw way.length cw).ownBlock ≠ some g))]) (Ns := [(0, fun a (_ : World) => a.tmps[18]? = some (Value.slice Aw way.length cw)), (3, fun (_ : Act) W => World.ownsRow W B1 39 6 (Value.slice Aw way.length cw) way.length ((way.map odV).flatten)), (4, fun a (_ : World) => a.tmps[19]? = some u19), (8, fun (_ : Act) W => World.ownsRow W B1 9 1 u19 way.length ((way.map fun o => Value.string (bs o.i))))]) (Rel := fun i a0_ a1_ x x' => if i = 3 then (fun b0 b1 x x' => World.grownBy x x' (Value.ownBlock (Value.slice Aw way.length cw))) a0_ a1_ x x' else if i = 8 then (fun b0 b1 x x' => World.grownBy x x' (Value.ownBlock u19)) a0_ a1_ x x' else if i = 9 then (fun b0 b1 x x' => Below x.heap.size x x') a0_ a1_ x x' else if i = 10 then (fun b0 b1 x x' => Below x.heap.size x x') a0_ a1_ x x' else Below x.heap.size x x')
              case hm => kernel_rfl
              case hB => kernel_rfl
              case hCw => exact (Two.refl _ _ _).drewN 1
              case hC =>
                intro i a a' w_ w' hw hr
                by_cases e3 : i = 3
                · subst e3
                  have hr' : (fun b0 b1 x x' => World.grownBy x x' (Value.ownBlock (Value.slice Aw way.length cw))) a a' w_ w' := hr
                  exact hw.trans (two_g hr' hPw)
                by_cases e8 : i = 8
                · subst e8
                  have hr' : (fun b0 b1 x x' => World.grownBy x x' (Value.ownBlock u19)) a a' w_ w' := hr
                  exact hw.trans (two_g hr' hPi)
                by_cases e9 : i = 9
                · subst e9
                  have hr' : (fun b0 b1 x x' => Below x.heap.size x x') a a' w_ w' := hr
                  exact hw.to hr'
                by_cases e10 : i = 10
                · subst e10
                  have hr' : (fun b0 b1 x x' => Below x.heap.size x x') a a' w_ w' := hr
                  exact hw.to hr'
                have hr' : Below w_.heap.size w_ w' := by simpa [e3, e8, e9, e10] using hr
                exact hw.to hr'
              case hst =>
                refine keeps4_cons (fun i a a' w_ w' hne hwt hs hput hr h => by
                  by_cases e3 : i = 3
                  · subst e3
                    have hr' : (fun b0 b1 x x' => World.grownBy x x' (Value.ownBlock (Value.slice Aw way.length cw))) a a' w_ w' := hr
                    obtain ⟨g, h1, h2, h3⟩ := h
                    exact ⟨g, (hs 119 (by kernel_rfl)).trans h1, (hr'.block g h2.lt (fun e => by have := lvW g e.symm; omega)).trans h2, h3⟩
                  by_cases e8 : i = 8
                  · subst e8
                    have hr' : (fun b0 b1 x x' => World.grownBy x x' (Value.ownBlock u19)) a a' w_ w' := hr
                    obtain ⟨g, h1, h2, h3⟩ := h
                    exact ⟨g, (hs 119 (by kernel_rfl)).trans h1, (hr'.block g h2.lt (fun e => by have := lvI g e.symm; omega)).trans h2, h3⟩
                  by_cases e9 : i = 9
                  · subst e9
                    have hr' : (fun b0 b1 x x' => Below x.heap.size x x') a a' w_ w' := hr
                    obtain ⟨g, h1, h2, h3⟩ := h
                    exact ⟨g, (hs 119 (by kernel_rfl)).trans h1, h2.to hr', h3⟩
                  by_cases e10 : i = 10
                  · subst e10
                    have hr' : (fun b0 b1 x x' => Below x.heap.size x x') a a' w_ w' := hr
                    obtain ⟨g, h1, h2, h3⟩ := h
                    exact ⟨g, (hs 119 (by kernel_rfl)).trans h1, h2.to hr', h3⟩
                  have hr' : Below w_.heap.size w_ w' := by simpa [e3, e8, e9, e10] using hr
                  obtain ⟨g, h1, h2, h3⟩ := h
                  exact ⟨g, (hs 119 (by kernel_rfl)).trans h1, h2.to hr', h3⟩) ?_
                refine keeps4_cons (fun i a a' w_ w' hne hwt hs hput hr h => by
                  by_cases e3 : i = 3
                  · exact absurd e3 hne
                  by_cases e8 : i = 8
                  · subst e8
                    have hr' : (fun b0 b1 x x' => World.grownBy x x' (Value.ownBlock u19)) a a' w_ w' := hr
                    obtain ⟨v2, h1, h2, h3⟩ := h
                    exact ⟨v2, (hs 120 (by kernel_rfl)).trans h1, h2.kept hr' (sep_ne h3), h3⟩
                  by_cases e9 : i = 9
                  · subst e9
                    have hr' : (fun b0 b1 x x' => Below x.heap.size x x') a a' w_ w' := hr
                    obtain ⟨v2, h1, h2, h3⟩ := h
                    exact ⟨v2, (hs 120 (by kernel_rfl)).trans h1, own_to' h2 hr', h3⟩
                  by_cases e10 : i = 10
                  · subst e10
                    have hr' : (fun b0 b1 x x' => Below x.heap.size x x') a a' w_ w' := hr
                    obtain ⟨v2, h1, h2, h3⟩ := h
                    exact ⟨v2, (hs 120 (by kernel_rfl)).trans h1, own_to' h2 hr', h3⟩
                  have hr' : Below w_.heap.size w_ w' := by simpa [e3, e8, e9, e10] using hr
                  obtain ⟨v2, h1, h2, h3⟩ := h
                  exact ⟨v2, (hs 120 (by kernel_rfl)).trans h1, own_to' h2 hr', h3⟩) ?_
                refine keeps4_cons (fun i a a' w_ w' hne hwt hs hput hr h => by
                  by_cases e3 : i = 3
                  · subst e3
                    have hr' : (fun b0 b1 x x' => World.grownBy x x' (Value.ownBlock (Value.slice Aw way.length cw))) a a' w_ w' := hr
                    obtain ⟨g, h1, h2, h3⟩ := h
                    exact ⟨g, (hs 124 (by kernel_rfl)).trans h1, (hr'.block g h2.lt (fun e => by have := lvW g e.symm; omega)).trans h2, h3⟩
                  by_cases e8 : i = 8
                  · subst e8
                    have hr' : (fun b0 b1 x x' => World.grownBy x x' (Value.ownBlock u19)) a a' w_ w' := hr
                    obtain ⟨g, h1, h2, h3⟩ := h
                    exact ⟨g, (hs 124 (by kernel_rfl)).trans h1, (hr'.block g h2.lt (fun e => by have := lvI g e.symm; omega)).trans h2, h3⟩
                  by_cases e9 : i = 9
                  · subst e9
                    have hr' : (fun b0 b1 x x' => Below x.heap.size x x') a a' w_ w' := hr
                    obtain ⟨g, h1, h2, h3⟩ := h
                    exact ⟨g, (hs 124 (by kernel_rfl)).trans h1, h2.to hr', h3⟩
                  by_cases e10 : i = 10
                  · subst e10
                    have hr' : (fun b0 b1 x x' => Below x.heap.size x x') a a' w_ w' := hr
                    obtain ⟨g, h1, h2, h3⟩ := h
                    exact ⟨g, (hs 124 (by kernel_rfl)).trans h1, h2.to hr', h3⟩
                  have hr' : Below w_.heap.size w_ w' := by simpa [e3, e8, e9, e10] using hr
                  obtain ⟨g, h1, h2, h3⟩ := h
                  exact ⟨g, (hs 124 (by kernel_rfl)).trans h1, h2.to hr', h3⟩) ?_
                refine keeps4_cons (fun i a a' w_ w' hne hwt hs hput hr h => by
                  by_cases e3 : i = 3
                  · subst e3
                    have hr' : (fun b0 b1 x x' => World.grownBy x x' (Value.ownBlock (Value.slice Aw way.length cw))) a a' w_ w' := hr
                    obtain ⟨v2, h1, h2, h3⟩ := h
                    exact ⟨v2, (hs 125 (by kernel_rfl)).trans h1, h2.kept hr' (sep_ne h3), h3⟩
                  by_cases e8 : i = 8
                  · exact absurd e8 hne
                  by_cases e9 : i = 9
                  · subst e9
                    have hr' : (fun b0 b1 x x' => Below x.heap.size x x') a a' w_ w' := hr
                    obtain ⟨v2, h1, h2, h3⟩ := h
                    exact ⟨v2, (hs 125 (by kernel_rfl)).trans h1, own_to' h2 hr', h3⟩
                  by_cases e10 : i = 10
                  · subst e10
                    have hr' : (fun b0 b1 x x' => Below x.heap.size x x') a a' w_ w' := hr
                    obtain ⟨v2, h1, h2, h3⟩ := h
                    exact ⟨v2, (hs 125 (by kernel_rfl)).trans h1, own_to' h2 hr', h3⟩
                  have hr' : Below w_.heap.size w_ w' := by simpa [e3, e8, e9, e10] using hr
                  obtain ⟨v2, h1, h2, h3⟩ := h
                  exact ⟨v2, (hs 125 (by kernel_rfl)).trans h1, own_to' h2 hr', h3⟩) ?_
                refine keeps4_cons (fun i a a' w_ w' hne hwt hs hput hr h => by
                  by_cases e3 : i = 3
                  · subst e3
                    exact absurd (hwt.symm.trans (show waitsT .any _ _ 9 3 = true by kernel_rfl)) (by decide)
                  by_cases e8 : i = 8
                  · subst e8
                    exact absurd (hwt.symm.trans (show waitsT .any _ _ 9 8 = true by kernel_rfl)) (by decide)
                  by_cases e9 : i = 9
                  · exact absurd e9 hne
                  by_cases e10 : i = 10
                  · subst e10
                    have hr' : (fun b0 b1 x x' => Below x.heap.size x x') a a' w_ w' := hr
                    obtain ⟨v2, h1, h4, h2, h3⟩ := h
                    exact ⟨v2, (hs 120 (by kernel_rfl)).trans h1, (hs 18 (by kernel_rfl)).trans h4, own_to' h2 hr', h3⟩
                  have hr' : Below w_.heap.size w_ w' := by simpa [e3, e8, e9, e10] using hr
                  obtain ⟨v2, h1, h4, h2, h3⟩ := h
                  exact ⟨v2, (hs 120 (by kernel_rfl)).trans h1, (hs 18 (by kernel_rfl)).trans h4, own_to' h2 hr', h3⟩) ?_
                refine keeps4_cons (fun i a a' w_ w' hne hwt hs hput hr h => by
                  by_cases e3 : i = 3
                  · subst e3
                    exact absurd (hwt.symm.trans (show waitsT .any _ _ 10 3 = true by kernel_rfl)) (by decide)
                  by_cases e8 : i = 8
                  · subst e8
                    exact absurd (hwt.symm.trans (show waitsT .any _ _ 10 8 = true by kernel_rfl)) (by decide)
                  by_cases e9 : i = 9
                  · subst e9
                    exact absurd (hwt.symm.trans (show waitsT .any _ _ 10 9 = true by kernel_rfl)) (by decide)
                  by_cases e10 : i = 10
                  · exact absurd e10 hne
                  have hr' : Below w_.heap.size w_ w' := by simpa [e3, e8, e9, e10] using hr
                  obtain ⟨v2, h1, h4, h2, h3⟩ := h
                  exact ⟨v2, (hs 125 (by kernel_rfl)).trans h1, (hs 19 (by kernel_rfl)).trans h4, own_to' h2 hr', h3⟩) ?_
                exact keeps4_nil
              case hN0 => exact pre0_cons (rfl) (pre0_cons (HRW.out) (pre0_cons (rfl) (pre0_cons (HRI.out) (pre0_nil))))
              case hNst =>
                refine prek_cons3 (fun i a a' w_ w' hne hwt hr h hput => by
                  by_cases e3 : i = 3
                  · subst e3
                    have hr' : (fun b0 b1 x x' => World.grownBy x x' (Value.ownBlock (Value.slice Aw way.length cw))) a a' w_ w' := hr
                    exact (other_slot (d := 18) (k := 9) (by kernel_rfl) hput (by decide)).trans h
                  by_cases e8 : i = 8
                  · subst e8
                    have hr' : (fun b0 b1 x x' => World.grownBy x x' (Value.ownBlock u19)) a a' w_ w' := hr
                    exact (other_slot (d := 18) (k := 9) (by kernel_rfl) hput (by decide)).trans h
                  by_cases e9 : i = 9
                  · subst e9
                    exact absurd (hwt.symm.trans (show waitsT .any _ _ 9 0 = true by kernel_rfl)) (by decide)
                  by_cases e10 : i = 10
                  · subst e10
                    have hr' : (fun b0 b1 x x' => Below x.heap.size x x') a a' w_ w' := hr
                    exact (other_slot (d := 18) (k := 9) (by kernel_rfl) hput (by decide)).trans h
                  have hr' : Below w_.heap.size w_ w' := by simpa [e3, e8, e9, e10] using hr
                  exact (other_slot (d := 18) (k := 9) (by kernel_rfl) hput e9).trans h) ?_
                refine prek_cons3 (fun i a a' w_ w' hne hwt hr h hput => by
                  by_cases e3 : i = 3
                  · exact absurd e3 hne
                  by_cases e8 : i = 8
                  · subst e8
                    have hr' : (fun b0 b1 x x' => World.grownBy x x' (Value.ownBlock u19)) a a' w_ w' := hr
                    exact World.ownsRow.kept h hr' (sep_ne hsepW)
                  by_cases e9 : i = 9
                  · subst e9
                    exact absurd (hwt.symm.trans (show waitsT .any _ _ 9 3 = true by kernel_rfl)) (by decide)
                  by_cases e10 : i = 10
                  · subst e10
                    exact absurd (hwt.symm.trans (show waitsT .any _ _ 10 3 = true by kernel_rfl)) (by decide)
                  have hr' : Below w_.heap.size w_ w' := by simpa [e3, e8, e9, e10] using hr
                  exact own_to' h hr') ?_
                refine prek_cons3 (fun i a a' w_ w' hne hwt hr h hput => by
                  by_cases e3 : i = 3
                  · subst e3
                    have hr' : (fun b0 b1 x x' => World.grownBy x x' (Value.ownBlock (Value.slice Aw way.length cw))) a a' w_ w' := hr
                    exact (other_slot (d := 19) (k := 10) (by kernel_rfl) hput (by decide)).trans h
                  by_cases e8 : i = 8
                  · subst e8
                    have hr' : (fun b0 b1 x x' => World.grownBy x x' (Value.ownBlock u19)) a a' w_ w' := hr
                    exact (other_slot (d := 19) (k := 10) (by kernel_rfl) hput (by decide)).trans h
                  by_cases e9 : i = 9
                  · subst e9
                    have hr' : (fun b0 b1 x x' => Below x.heap.size x x') a a' w_ w' := hr
                    exact (other_slot (d := 19) (k := 10) (by kernel_rfl) hput (by decide)).trans h
                  by_cases e10 : i = 10
                  · subst e10
                    exact absurd (hwt.symm.trans (show waitsT .any _ _ 10 4 = true by kernel_rfl)) (by decide)
                  have hr' : Below w_.heap.size w_ w' := by simpa [e3, e8, e9, e10] using hr
                  exact (other_slot (d := 19) (k := 10) (by kernel_rfl) hput e10).trans h) ?_
                refine prek_cons3 (fun i a a' w_ w' hne hwt hr h hput => by
                  by_cases e3 : i = 3
                  · subst e3
                    have hr' : (fun b0 b1 x x' => World.grownBy x x' (Value.ownBlock (Value.slice Aw way.length cw))) a a' w_ w' := hr
                    exact World.ownsRow.kept h hr' (sep_ne hsepI)
                  by_cases e8 : i = 8
                  · exact absurd e8 hne
                  by_cases e9 : i = 9
                  · subst e9
                    exact absurd (hwt.symm.trans (show waitsT .any _ _ 9 8 = true by kernel_rfl)) (by decide)
                  by_cases e10 : i = 10
                  · subst e10
                    exact absurd (hwt.symm.trans (show waitsT .any _ _ 10 8 = true by kernel_rfl)) (by decide)
                  have hr' : Below w_.heap.size w_ w' := by simpa [e3, e8, e9, e10] using hr
                  exact own_to' h hr') ?_
                exact prek_nil3
              case hop =>
                refine ⟨?_, ?_, ?_, ?_, ?_, ?_, ?_, ?_, ?_, ?_, ?_, trivial⟩
                · intro a w_ K hw hS hd hN hK
                  have s18p := hN _ (List.mem_cons_self ..) rfl
                  rw [if_pos (want_free rfl)]
                  replace s18p : a.tmps[18]? = some (Value.slice Aw way.length cw) := s18p
                  have s18 := s18p
                  go_simp
                  exact hK _ _ (Below.refl _ _) (vok rfl) (facts_cons (fun h => absurd h (by decide)) (facts_cons (fun h => absurd h (by decide)) (facts_cons (fun h => absurd h (by decide)) (facts_cons (fun h => absurd h (by decide)) (facts_cons (fun h => absurd h (by decide)) (facts_cons (fun h => absurd h (by decide)) facts_nil))))))
                · intro a w_ K hw hS hd hN hK
                  have s25 := hS.at 25 (by kernel_rfl) rfl
                  rw [if_pos (want_free rfl)]
                  have HBw := Two.blk HK25.out hw hbP hbQ
                  have r0 := (HBw.cell 0).trans (show _ = some (Value.string (bs o.i)) from rfl)
                  have r1 := (HBw.cell 1).trans (show _ = some (Value.string (bs o.p)) from rfl)
                  have r2 := (HBw.cell 2).trans (show _ = some (Value.string (bs o.f)) from rfl)
                  have r3 := (HBw.cell 3).trans (show _ = some (Value.string (bs o.t)) from rfl)
                  have r4 := (HBw.cell 4).trans (show _ = some (Value.int .i64 o.a) from rfl)
                  have r5 := (HBw.cell 5).trans (show _ = some (Value.int .i64 o.b) from rfl)
                  go_simp
                  exact hK _ _ (Below.refl _ _) (vok rfl) (facts_cons (fun h => absurd h (by decide)) (facts_cons (fun h => absurd h (by decide)) (facts_cons (fun h => absurd h (by decide)) (facts_cons (fun h => absurd h (by decide)) (facts_cons (fun h => absurd h (by decide)) (facts_cons (fun h => absurd h (by decide)) facts_nil))))))
                · intro a w_ K hw hS hd hN hK
                  have s118 := (hd 1 (by kernel_rfl)).at (d := 118) rfl rfl rfl
                  rw [if_pos (want_free rfl)]
                  go_simp
                  exact hK _ _ (below_one _ _) (vfree rfl) (facts_cons (fun _ => ⟨_, hS.put_at (by kernel_rfl) _, Blk.new _ _ _, hw.size⟩) (facts_cons (fun h => absurd h (by decide)) (facts_cons (fun h => absurd h (by decide)) (facts_cons (fun h => absurd h (by decide)) (facts_cons (fun h => absurd h (by decide)) (facts_cons (fun h => absurd h (by decide)) facts_nil))))))
                · intro a w_ K hw hS hd hN hK
                  have s117 := (hd 0 (by kernel_rfl)).at (d := 117) rfl rfl rfl
                  obtain ⟨b119, s119, r119, g119⟩ := (hd 2 (by kernel_rfl)).2 _ (List.mem_cons_self ..) rfl
                  have hOwn := hN _ (List.mem_cons_of_mem _ (List.mem_cons_self ..)) rfl
                  rw [if_pos (want_free rfl)]
                  refine wp_append_keep w_ (.tmp 117) (.tmp 119) 22 rfl B1 39 i0 _ 6 80 Tryz.underlying22 hi0 hz0 hz1 hz2 rfl (by decide) (Value.slice Aw way.length cw) way.length _ (eval_atE s117) hOwn ⟨b119, 0, none⟩ 1 1 [.string (bs o.i), .string (bs o.p), .string (bs o.f), .string (bs o.t), .int .i64 o.a, .int .i64 o.b] (eval_atE s119) rfl (fun j u hj => by
                    have := (r119.cell j).trans (show _ = some u by rw [← hj]; simp)
                    unfold Addr.add
                    split
                    · rename_i h0; rw [h0] at this; exact this
                    · simpa using this) (by intro u hu; simp only [List.mem_cons, List.not_mem_nil, or_false] at hu; rcases hu with rfl | rfl | rfl | rfl | rfl | rfl <;> rfl) (by unfold maxLen; omega) (by omega) (by have := hw.size; omega) ?_
                  intro v2 w' h2 h3 _ h5
                  exact hK v2 w' h3 (vfree rfl) (facts_cons (fun h => absurd h (by decide)) (facts_cons (fun _ => ⟨v2, hS.put_at (by kernel_rfl) _, h2, sep_new h5 hsepW lvI (by have := hw.size; omega)⟩) (facts_cons (fun h => absurd h (by decide)) (facts_cons (fun h => absurd h (by decide)) (facts_cons (fun h => absurd h (by decide)) (facts_cons (fun h => absurd h (by decide)) facts_nil))))))
                · intro a w_ K hw hS hd hN hK
                  have s19p := hN _ (List.mem_cons_of_mem _ (List.mem_cons_of_mem _ (List.mem_cons_self ..))) rfl
                  rw [if_pos (want_free rfl)]
                  replace s19p : a.tmps[19]? = some u19 := s19p
                  have s19 := s19p
                  go_simp
                  exact hK _ _ (Below.refl _ _) (vok rfl) (facts_cons (fun h => absurd h (by decide)) (facts_cons (fun h => absurd h (by decide)) (facts_cons (fun h => absurd h (by decide)) (facts_cons (fun h => absurd h (by decide)) (facts_cons (fun h => absurd h (by decide)) (facts_cons (fun h => absurd h (by decide)) facts_nil))))))
                · intro a w_ K hw hS hd hN hK
                  have s25 := hS.at 25 (by kernel_rfl) rfl
                  rw [if_pos (want_free rfl)]
                  go_simp
                  exact hK _ _ (Below.refl _ _) (vok rfl) (facts_cons (fun h => absurd h (by decide)) (facts_cons (fun h => absurd h (by decide)) (facts_cons (fun h => absurd h (by decide)) (facts_cons (fun h => absurd h (by decide)) (facts_cons (fun h => absurd h (by decide)) (facts_cons (fun h => absurd h (by decide)) facts_nil))))))
                · intro a w_ K hw hS hd hN hK
                  have s122 := (hd 5 (by kernel_rfl)).at (d := 122) rfl rfl rfl
                  rw [if_pos (want_free rfl)]
                  have HBw := Two.blk HK25.out hw hbP hbQ
                  have r0 := (HBw.cell 0).trans (show _ = some (Value.string (bs o.i)) from rfl)
                  have r1 := (HBw.cell 1).trans (show _ = some (Value.string (bs o.p)) from rfl)
                  have r2 := (HBw.cell 2).trans (show _ = some (Value.string (bs o.f)) from rfl)
                  have r3 := (HBw.cell 3).trans (show _ = some (Value.string (bs o.t)) from rfl)
                  have r4 := (HBw.cell 4).trans (show _ = some (Value.int .i64 o.a) from rfl)
                  have r5 := (HBw.cell 5).trans (show _ = some (Value.int .i64 o.b) from rfl)
                  go_simp
                  exact hK _ _ (Below.refl _ _) (vok rfl) (facts_cons (fun h => absurd h (by decide)) (facts_cons (fun h => absurd h (by decide)) (facts_cons (fun h => absurd h (by decide)) (facts_cons (fun h => absurd h (by decide)) (facts_cons (fun h => absurd h (by decide)) (facts_cons (fun h => absurd h (by decide)) facts_nil))))))
                · intro a w_ K hw hS hd hN hK
                  have s123 := (hd 6 (by kernel_rfl)).at (d := 123) rfl rfl rfl
                  rw [if_pos (want_free rfl)]
                  go_simp
                  exact hK _ _ (below_one _ _) (vfree rfl) (facts_cons (fun h => absurd h (by decide)) (facts_cons (fun h => absurd h (by decide)) (facts_cons (fun _ => ⟨_, hS.put_at (by kernel_rfl) _, Blk.new _ _ _, hw.size⟩) (facts_cons (fun h => absurd h (by decide)) (facts_cons (fun h => absurd h (by decide)) (facts_cons (fun h => absurd h (by decide)) facts_nil))))))
                · intro a w_ K hw hS hd hN hK
                  have s121 := (hd 4 (by kernel_rfl)).at (d := 121) rfl rfl rfl
                  obtain ⟨b124, s124, r124, g124⟩ := (hd 7 (by kernel_rfl)).2 _ (List.mem_cons_of_mem _ (List.mem_cons_of_mem _ (List.mem_cons_self ..))) rfl
                  have hOwn := hN _ (List.mem_cons_of_mem _ (List.mem_cons_of_mem _ (List.mem_cons_of_mem _ (List.mem_cons_self ..)))) rfl
                  rw [if_pos (want_free rfl)]
                  refine wp_append_keep w_ (.tmp 121) (.tmp 124) 42 rfl B1 9 i1 _ 1 16 Tryz.underlying42 hi1 hy0 hy1 hy2 rfl (by decide) u19 way.length _ (eval_atE s121) hOwn ⟨b124, 0, none⟩ 1 1 [.string (bs o.i)] (eval_atE s124) rfl (fun j u hj => by
                    have := (r124.cell j).trans (show _ = some u by rw [← hj]; simp)
                    unfold Addr.add
                    split
                    · rename_i h0; rw [h0] at this; exact this
                    · simpa using this) (by intro u hu; rw [List.mem_singleton.1 hu]; rfl) (by unfold maxLen; omega) (by omega) (by have := hw.size; omega) ?_
                  intro v2 w' h2 h3 _ h5
                  exact hK v2 w' h3 (vfree rfl) (facts_cons (fun h => absurd h (by decide)) (facts_cons (fun h => absurd h (by decide)) (facts_cons (fun h => absurd h (by decide)) (facts_cons (fun _ => ⟨v2, hS.put_at (by kernel_rfl) _, h2, sep_new h5 hsepI lvW (by have := hw.size; omega)⟩) (facts_cons (fun h => absurd h (by decide)) (facts_cons (fun h => absurd h (by decide)) facts_nil))))))
                · intro a w_ K hw hS hd hN hK
                  obtain ⟨v120, s120, o120, e120⟩ := (hd 3 (by kernel_rfl)).2 _ (List.mem_cons_of_mem _ (List.mem_cons_self ..)) rfl
                  rw [if_pos (want_free rfl)]
                  go_simp
                  exact hK _ _ (Below.refl _ _) (vfree rfl) (facts_cons (fun h => absurd h (by decide)) (facts_cons (fun h => absurd h (by decide)) (facts_cons (fun h => absurd h (by decide)) (facts_cons (fun h => absurd h (by decide)) (facts_cons (fun _ => ⟨v120, (put_far (by decide)).trans s120, hS.put_at (by kernel_rfl) _, o120, e120⟩) (facts_cons (fun h => absurd h (by decide)) facts_nil))))))
                · intro a w_ K hw hS hd hN hK
                  obtain ⟨v125, s125, o125, e125⟩ := (hd 8 (by kernel_rfl)).2 _ (List.mem_cons_of_mem _ (List.mem_cons_of_mem _ (List.mem_cons_of_mem _ (List.mem_cons_self ..)))) rfl
                  rw [if_pos (want_free rfl)]
                  go_simp
                  exact hK _ _ (Below.refl _ _) (vfree rfl) (facts_cons (fun h => absurd h (by decide)) (facts_cons (fun h => absurd h (by decide)) (facts_cons (fun h => absurd h (by decide)) (facts_cons (fun h => absurd h (by decide)) (facts_cons (fun h => absurd h (by decide)) (facts_cons (fun _ => ⟨v125, (put_far (by decide)).trans s125, hS.put_at (by kernel_rfl) _, o125, e125⟩) facts_nil))))))
              case hfin =>
                intro a w8 hw hS hk
                have s117 := (hk 0 (by decide)).at (d := 117) rfl rfl rfl
                have s118 := (hk 1 (by decide)).at (d := 118) rfl rfl rfl
                obtain ⟨b119, s119, r119, g119⟩ := (hk 2 (by decide)).2 _ (List.mem_cons_self ..) rfl
                obtain ⟨v120, s120, o120, e120⟩ := (hk 3 (by decide)).2 _ (List.mem_cons_of_mem _ (List.mem_cons_self ..)) rfl
                have s121 := (hk 4 (by decide)).at (d := 121) rfl rfl rfl
                have s122 := (hk 5 (by decide)).at (d := 122) rfl rfl rfl
                have s123 := (hk 6 (by decide)).at (d := 123) rfl rfl rfl
                obtain ⟨b124, s124, r124, g124⟩ := (hk 7 (by decide)).2 _ (List.mem_cons_of_mem _ (List.mem_cons_of_mem _ (List.mem_cons_self ..))) rfl
                obtain ⟨v125, s125, o125, e125⟩ := (hk 8 (by decide)).2 _ (List.mem_cons_of_mem _ (List.mem_cons_of_mem _ (List.mem_cons_of_mem _ (List.mem_cons_self ..)))) rfl
                obtain ⟨v18, s120', s18, o18, e18⟩ := (hk 9 (by decide)).2 _ (List.mem_cons_of_mem _ (List.mem_cons_of_mem _ (List.mem_cons_of_mem _ (List.mem_cons_of_mem _ (List.mem_cons_self ..))))) rfl
                obtain ⟨v19, s125', s19, o19, e19⟩ := (hk 10 (by decide)).2 _ (List.mem_cons_of_mem _ (List.mem_cons_of_mem _ (List.mem_cons_of_mem _ (List.mem_cons_of_mem _ (List.mem_cons_of_mem _ (List.mem_cons_self ..)))))) rfl
                have hlit := hS.lit _ (by kernel_rfl) (lits_cons s117 (lits_cons s118 (lits_cons s119 (lits_cons s120 (lits_cons s121 (lits_cons s122 (lits_cons s123 (lits_cons s124 (lits_cons s125 (lits_cons s18 (lits_cons s19 lits_nil)))))))))))
                rw [hlit]
                clear hlit hk hS s119 s120 s124 s125 r119 r124 g119 g124 o120 o125 e120 e125 s120' s125' e18 e19
                have hBel : Below B1 w5 w8 := hw.below hB15 hBP hBQ
                have HW8 := hide (HW5.out.trans (hBel.mono hB10))
                have hB18 : B1 ≤ w8.heap.size := Nat.le_trans hB15 hBel.size
                have HM8 : Hid (MapIs SStr w8 mb (entM m)) := HM5.out.below hBel hmbB
                have HP8 : Hid (MapIs SStr w8 pb (plM (way ++ [o]))) := HP5.out.below hBel hpbB
                have HK8 := hide (Two.blk HK25.out hw hbP hbQ)
                have HRW8 : Hid (w8.ownsRow B1 39 6 v18 (way ++ [o]).length ((way ++ [o]).map odV).flatten) := by
                  show World.ownsRow _ _ _ _ _ _ _
                  rw [List.length_append, List.map_append, List.flatten_append]
                  exact o18
                have HRI8 : Hid (w8.ownsRow B1 9 1 v19 (way ++ [o]).length ((way ++ [o]).map fun o => Value.string (bs o.i))) := by
                  show World.ownsRow _ _ _ _ _ _ _
                  rw [List.length_append, List.map_append]
                  exact o19
                clear hBel hw o18 o19 s18 s19
                simp only [litT, List.setIfInBounds_toArray, List.set_cons_succ, List.set_cons_zero]
                have t3 := HK8.out.cell 3
                have hl1 := ownsRow_len HRW8.out
                go_wp2_with fail
                refine ⟨⟨way ++ [o], o.t, n, rfl, hfo.t, HW8.out, hB18, HM8.out, HP8.out, HRW8.out, HRI8.out, ?_, ?_, ?_⟩, ?_⟩
                · rw [← HFU.out]; exact HST.out.symm
                · show n + (way ++ [o]).length = 2000
                  rw [List.length_append, List.length_singleton]; omega
                · show left_ l (way ++ [o]) + (way ++ [o]).length ≤ l.length
                  rw [List.length_append, List.length_singleton]; omega
                · show 3000 - lenV v18 < 3000 - way.length
                  rw [hl1, List.length_append]; simp; omega
end Go.Proofs.YtgdgdhpmjkefjaaGreatDoor

/- Walks of the statement TopErased: w09Logged. -/
set_option linter.unusedVariables false
set_option linter.unusedSimpArgs false
namespace Go.Proofs.YtgdgdhpmjkefjaaGreatDoor
open Go.RowKit Go.Shelf

/-- the line of an order -/
def lineO (o : Od) : Ln := mkL o.p (orderT o) (sumD o.i)
theorem lineO_can {o : Od} (h : OkO o) : canM o.p (orderT o) (sumD o.i) = true := by
  have h1 := order_len h
  have h2 := order_line h
  have h3 : (orderT o).isEmpty = false := by cases he : orderT o with | nil => rw [he] at h1; simp at h1 | cons _ _ => rfl
  unfold canM
  rw [h.p, h2, h3, sumD_isD, decide_eq_true (by omega)]; rfl
theorem lineO_make {o : Od} (h : OkO o) (w : World) (hg : Glob w) : Calls Tryz.prog 17 #[.string (bs o.p), .string (bs (orderT o)), .string (bs (sumD o.i))] w fun e w' => e = .returned (.tuple #[.agg #[.string (bs (lineO o).p), .string (bs (lineO o).t), .string (bs (lineO o).s), .string (bs (lineO o).d)], .int .i64 0]) ∧ Below w.heap.size w w' := by
  have h1 := order_len h
  have h2 := nm_len h.p
  have := Make_any o.p (orderT o) (sumD o.i) (by omega) (by omega) (by rw [sumD_len]; omega) w hg
  rw [show makeV o.p (orderT o) (sumD o.i) = lineO o by unfold makeV; rw [lineO_can h]; rfl, show makeE o.p (orderT o) (sumD o.i) = 0 by unfold makeE; rw [lineO_can h]; rfl] at this
  exact this
def LogR (l : List Od) (w : World) (e : Ending) (w' : World) : Prop := ∃ v', e = .returned (.tuple #[v', .bool true]) ∧ LnsAt w' v' (l.map lineO) ∧ Below w.heap.size w w'
set_option maxRecDepth 100000 in
set_option maxHeartbeats 8000000 in
theorem Logged_any (l : List Od) (hok : ∀ o ∈ l, OkO o) (hl : l.length ≤ 1000000) (v : Value) (w : World) (hv : OdsAt w v l) (hg : Glob w) : Calls Tryz.prog 6 #[v] w (LogR l w) := by
  obtain ⟨A, c, rfl⟩ := hv.slice
  have HS := hide hv
  have HG := hide hg
  have HOK := hide hok
  obtain ⟨i0, hi0, hz0, hz1, hz2⟩ := info_parts (show (Tryz.prog.info? 35).map (fun i => (i.zero, i.size, i.bytes)) = some (some (.agg #[.string ⟨#[]⟩, .string ⟨#[]⟩, .string ⟨#[]⟩, .string ⟨#[]⟩]), 4, 64) by kernel_rfl)
  clear hv hg hok
  obtain ⟨B0, hB0⟩ : ∃ B, Hid (w.heap.size = B) := ⟨_, rfl⟩
  go_enter Tryz.func6, Tryz.ntmps6
  go_wp2_with fail
  go_loopw [4, 5] (fun lg i wr => ∃ k : Nat, i = .int .i64 (k : Int) ∧ k ≤ l.length ∧ Aside (Below w.heap.size w wr) ∧ Aside (wr.ownsRow B0 35 4 lg k (((l.take k).map lineO).map lnV).flatten)) (fun _ i _ => l.length - (intOf i).toNat)
  case atStart => exact ⟨0, rfl, by omega, Below.refl _ _, World.ownsRow_nil _ _ _ _⟩
  case round =>
    obtain ⟨k, rfl, hk, hB, hO⟩ := hrel
    have HB : Hid (Below w.heap.size w wr) := hB
    have HO : Hid (wr.ownsRow B0 35 4 u4 k (((l.take k).map lineO).map lnV).flatten) := hO
    clear hB hO
    by_cases hlt : k < l.length
    · have e1 : decide ((k : Int) < (l.length : Int)) = true := decide_eq_true (by omega)
      obtain ⟨o, ho⟩ : ∃ o, l[k]? = some o := ⟨_, List.getElem?_eq_getElem hlt⟩
      have hoo := HOK.out o (List.mem_of_getElem? ho)
      obtain ⟨a, rfl, ha, c0, c1, c2, c3, c4, c5⟩ := OdsAt.at_ (HS.out.to HB.out) ho
      have i1 : (0 : Int) ≤ (k : Int) := by omega
      have i2 : (k : Int) < (l.length : Int) := by omega
      have HTK : Hid ((((l.take (k + 1)).map lineO).map lnV).flatten = (((l.take k).map lineO).map lnV).flatten ++ lnV (lineO o)) := by
        show _ = _
        rw [List.take_add_one, ho]; simp
      have CX := oText_any o hoo wr (HG.out.to HB.out)
      have hil := nm_len hoo.i
      have HMK := hide (fun w hg => lineO_make hoo w hg)
      clear ho
      go_wp2_with ((with_reducible refine CX.mono ?_); rintro e w2 ⟨rfl, hb2⟩)
      have HB2 := hide (HB.out.trans (hb2.mono HB.out.size))
      have HO2 := hide (own_to' HO.out hb2)
      have bA : (a.add (k * 6)).block < w2.heap.size := by rw [block_of_add]; exact Nat.lt_of_lt_of_le ha hb2.size
      have bA0 : (a.add (k * 6)).block < wr.heap.size := by rw [block_of_add]; exact ha
      have d0 := (hb2.cell bA0).trans c0
      have d1 := (hb2.cell (p := ⟨(a.add (k * 6)).block, (a.add (k * 6)).off + 1, none⟩) bA0).trans c1
      have HG2 := hide (HG.out.to HB2.out)
      clear c0 c1 c2 c3 c4 c5 hb2 CX bA0 ha HO HB
      obtain ⟨U, hU, g, u0, rfl, hgu, hi⟩ := cls w2
      have CS := fun u => Sum_any o.i (by omega) (g u) (HG2.out.to (hgu u))
      have CM := fun u => HMK.out (g u) (HG2.out.to (hgu u))
      have C0 : ∀ u, (g u).cell? (a.add (k * 6)) = _ := fun u => ((hgu u).cell bA).trans d0
      have C1 : ∀ u, (g u).cell? ⟨(a.add (k * 6)).block, (a.add (k * 6)).off + 1, none⟩ = _ := fun u => ((hgu u).cell (p := ⟨(a.add (k * 6)).block, (a.add (k * 6)).off + 1, none⟩) bA).trans d1
      have HGU := hide hgu
      have HHI := hide hi
      generalize lineO o = x at *
      clear hgu hi d0 d1 bA HMK hil
      go_wp2_with fail
      apply wp_region_looseG g (V := [some _, some _, some _, some _, some _, some _, some _, some _, some _, some _, some _, some _, some _, some _, some _, some _, none, none, some _]) (Fs := [(16, Box4 (g u0).heap.size 35 8), (17, BoxIs (g u0).heap.size 35 8 #[.string (bs x.p), .string (bs x.t), .string (bs x.s), .string (bs x.d)])]) (Rel := fun i w w' => if i = 17 then BoxRel (g u0).heap.size 35 w w' else Below w.heap.size w w')
      case hm => kernel_rfl
      case hB => kernel_rfl
      case hCw => exact HHI.out _ (HGU.out _).drew
      case hC =>
        rintro i uq w' hr
        by_cases hi17 : i = 17
        · exact HHI.out _ ((HGU.out uq).trans (by simpa [hi17] using hr : BoxRel (g u0).heap.size 35 _ _).1)
        exact HHI.out _ (below_to (HGU.out uq) (Nat.le_refl _) (by simpa [hi17] using hr))
      case hst =>
        refine keeps_cons (fun i a a' w w' hne hwt hs hr h => h.keep (hs 8 (by kernel_rfl)) (by by_cases e17 : i = 17; (left; simpa [e17] using hr); right; simpa [e17] using hr)) ?_
        refine keeps_cons (fun i a a' w w' hne hwt hs hr h => h.keep (hs 8 (by kernel_rfl)) (by simpa [hne] using hr)) ?_
        exact keeps_nil
      case hop =>
        refine ⟨?_, ?_, ?_, ?_, ?_, ?_, ?_, ?_, ?_, ?_, ?_, ?_, ?_, ?_, ?_, ?_, ?_, ?_, ?_, trivial⟩
        · intro a uq K hS hd hK
          have s0 := hS.at 0 (by kernel_rfl) rfl
          rw [if_pos (want_free rfl)]
          go_simp
          exact hK _ _ (Below.refl _ _) (vok rfl) (facts_cons (fun h => absurd h (by decide)) (facts_cons (fun h => absurd h (by decide)) facts_nil))
        · intro a uq K hS hd hK
          have s5 := hS.at 5 (by kernel_rfl) rfl
          rw [if_pos (want_free rfl)]
          go_simp
          exact hK _ _ (Below.refl _ _) (vok rfl) (facts_cons (fun h => absurd h (by decide)) (facts_cons (fun h => absurd h (by decide)) facts_nil))
        · intro a uq K hS hd hK
          have s25 := (waits_on hd 0 (by kernel_rfl)).at (d := 25) rfl rfl rfl
          have s26 := (waits_on hd 1 (by kernel_rfl)).at (d := 26) rfl rfl rfl
          rw [if_pos (want_free rfl)]
          go_simp
          exact hK _ _ (Below.refl _ _) (vok rfl) (facts_cons (fun h => absurd h (by decide)) (facts_cons (fun h => absurd h (by decide)) facts_nil))
        · intro a uq K hS hd hK
          have s27 := (waits_on hd 2 (by kernel_rfl)).at (d := 27) rfl rfl rfl
          rw [if_pos (want_free rfl)]
          go_simp
          exact hK _ _ (Below.refl _ _) (vok rfl) (facts_cons (fun h => absurd h (by decide)) (facts_cons (fun h => absurd h (by decide)) facts_nil))
        · intro a uq K hS hd hK
          have s28 := (waits_on hd 3 (by kernel_rfl)).at (d := 28) rfl rfl rfl
          rw [if_pos (want_free rfl)]
          go_simp
          exact hK _ _ (Below.refl _ _) (vok rfl) (facts_cons (fun h => absurd h (by decide)) (facts_cons (fun h => absurd h (by decide)) facts_nil))
        · intro a uq K hS hd hK
          have s6 := hS.at 6 (by kernel_rfl) rfl
          rw [if_pos (want_free rfl)]
          go_simp
          exact hK _ _ (Below.refl _ _) (vok rfl) (facts_cons (fun h => absurd h (by decide)) (facts_cons (fun h => absurd h (by decide)) facts_nil))
        · intro a uq K hS hd hK
          have s0 := hS.at 0 (by kernel_rfl) rfl
          rw [if_pos (want_free rfl)]
          go_simp
          exact hK _ _ (Below.refl _ _) (vok rfl) (facts_cons (fun h => absurd h (by decide)) (facts_cons (fun h => absurd h (by decide)) facts_nil))
        · intro a uq K hS hd hK
          have s5 := hS.at 5 (by kernel_rfl) rfl
          rw [if_pos (want_free rfl)]
          go_simp
          exact hK _ _ (Below.refl _ _) (vok rfl) (facts_cons (fun h => absurd h (by decide)) (facts_cons (fun h => absurd h (by decide)) facts_nil))
        · intro a uq K hS hd hK
          have s31 := (waits_on hd 6 (by kernel_rfl)).at (d := 31) rfl rfl rfl
          have s32 := (waits_on hd 7 (by kernel_rfl)).at (d := 32) rfl rfl rfl
          rw [if_pos (want_free rfl)]
          go_simp
          exact hK _ _ (Below.refl _ _) (vok rfl) (facts_cons (fun h => absurd h (by decide)) (facts_cons (fun h => absurd h (by decide)) facts_nil))
        · intro a uq K hS hd hK
          have s33 := (waits_on hd 8 (by kernel_rfl)).at (d := 33) rfl rfl rfl
          rw [if_pos (want_free rfl)]
          go_simp
          exact hK _ _ (Below.refl _ _) (vok rfl) (facts_cons (fun h => absurd h (by decide)) (facts_cons (fun h => absurd h (by decide)) facts_nil))
        · intro a uq K hS hd hK
          have s34 := (waits_on hd 9 (by kernel_rfl)).at (d := 34) rfl rfl rfl
          rw [if_pos (want_free rfl)]
          go_simp
          exact hK _ _ (Below.refl _ _) (vok rfl) (facts_cons (fun h => absurd h (by decide)) (facts_cons (fun h => absurd h (by decide)) facts_nil))
        · intro a uq K hS hd hK
          have s35 := (waits_on hd 10 (by kernel_rfl)).at (d := 35) rfl rfl rfl
          rw [if_pos (want_free rfl)]
          go_simp
          with_reducible refine (CS uq).mono ?_
          rintro e w' ⟨rfl, hb⟩
          exact hK _ _ hb (vok rfl) (facts_cons (fun h => absurd h (by decide)) (facts_cons (fun h => absurd h (by decide)) facts_nil))
        · intro a uq K hS hd hK
          have s29 := (waits_on hd 4 (by kernel_rfl)).at (d := 29) rfl rfl rfl
          have s30 := (waits_on hd 5 (by kernel_rfl)).at (d := 30) rfl rfl rfl
          have s36 := (waits_on hd 11 (by kernel_rfl)).at (d := 36) rfl rfl rfl
          rw [if_pos (want_free rfl)]
          go_simp
          with_reducible refine (CM uq).mono ?_
          rintro e w' ⟨rfl, hb⟩
          exact hK _ _ hb (vok rfl) (facts_cons (fun h => absurd h (by decide)) (facts_cons (fun h => absurd h (by decide)) facts_nil))
        · intro a uq K hS hd hK
          have s37 := (waits_on hd 12 (by kernel_rfl)).at (d := 37) rfl rfl rfl
          rw [if_pos (want_free rfl)]
          go_simp
          exact hK _ _ (Below.refl _ _) (vok rfl) (facts_cons (fun h => absurd h (by decide)) (facts_cons (fun h => absurd h (by decide)) facts_nil))
        · intro a uq K hS hd hK
          have s24 := (waits_on hd 13 (by kernel_rfl)).at (d := 24) rfl rfl rfl
          rw [if_pos (want_free rfl)]
          go_simp
          exact hK _ _ (Below.refl _ _) (vok rfl) (facts_cons (fun h => absurd h (by decide)) (facts_cons (fun h => absurd h (by decide)) facts_nil))
        · intro a uq K hS hd hK
          have s24 := (waits_on hd 13 (by kernel_rfl)).at (d := 24) rfl rfl rfl
          rw [if_pos (want_free rfl)]
          go_simp
          exact hK _ _ (Below.refl _ _) (vok rfl) (facts_cons (fun h => absurd h (by decide)) (facts_cons (fun h => absurd h (by decide)) facts_nil))
        · intro a uq K hS hd hK
          rw [if_pos (want_free rfl)]
          go_simp
          exact hK _ _ (below_one _ _) (vfree rfl) (facts_cons (fun _ => ⟨_, _, _, _, _, hS.put_at (by kernel_rfl) _, Nat.le_trans (Below.size (HGU.out uq)) (Nat.le_refl _), Blk.new _ _ _⟩) (facts_cons (fun h => absurd h (by decide)) facts_nil))
        · intro a uq K hS hd hK
          obtain ⟨b8, x8_0, x8_1, x8_2, x8_3, s8, l8, r8⟩ := (waits_on hd 16 (by kernel_rfl)).2 _ (List.mem_cons_self ..) rfl
          have s38 := (waits_on hd 14 (by kernel_rfl)).at (d := 38) rfl rfl rfl
          rw [if_pos (want_free rfl)]
          have c0 := r8.cell 0
          have f0 := r8.frozen 0
          have c1 := r8.cell 1
          have f1 := r8.frozen 1
          have c2 := r8.cell 2
          have f2 := r8.frozen 2
          have c3 := r8.cell 3
          have f3 := r8.frozen 3
          go_simp
          exact hK undef _ (((((BoxRel.refl _ _ _).set_ r8 l8 0 _).set_ (r8.set_ 0 (.string (bs x.p))) l8 1 _).set_ ((r8.set_ 0 (.string (bs x.p))).set_ 1 (.string (bs x.t))) l8 2 _).set_ (((r8.set_ 0 (.string (bs x.p))).set_ 1 (.string (bs x.t))).set_ 2 (.string (bs x.s))) l8 3 _) (vfree rfl) (facts_cons (fun h => absurd h (by decide)) (facts_cons (fun _ => ⟨b8, s8, l8, ((((r8.set_ 0 (.string (bs x.p))).set_ 1 (.string (bs x.t))).set_ 2 (.string (bs x.s))).set_ 3 (.string (bs x.d)))⟩) facts_nil))
        · intro a uq K hS hd hK
          have s39 := (waits_on hd 15 (by kernel_rfl)).at (d := 39) rfl rfl rfl
          rw [if_pos (want_free rfl)]
          go_simp
          exact hK _ _ (Below.refl _ _) (vok rfl) (facts_cons (fun h => absurd h (by decide)) (facts_cons (fun h => absurd h (by decide)) facts_nil))
      case hfin =>
        intro a uq hS hk
        have s25 := (hk 0 (by decide)).at (d := 25) rfl rfl rfl
        have s26 := (hk 1 (by decide)).at (d := 26) rfl rfl rfl
        have s27 := (hk 2 (by decide)).at (d := 27) rfl rfl rfl
        have s28 := (hk 3 (by decide)).at (d := 28) rfl rfl rfl
        have s29 := (hk 4 (by decide)).at (d := 29) rfl rfl rfl
        have s30 := (hk 5 (by decide)).at (d := 30) rfl rfl rfl
        have s31 := (hk 6 (by decide)).at (d := 31) rfl rfl rfl
        have s32 := (hk 7 (by decide)).at (d := 32) rfl rfl rfl
        have s33 := (hk 8 (by decide)).at (d := 33) rfl rfl rfl
        have s34 := (hk 9 (by decide)).at (d := 34) rfl rfl rfl
        have s35 := (hk 10 (by decide)).at (d := 35) rfl rfl rfl
        have s36 := (hk 11 (by decide)).at (d := 36) rfl rfl rfl
        have s37 := (hk 12 (by decide)).at (d := 37) rfl rfl rfl
        have s24 := (hk 13 (by decide)).at (d := 24) rfl rfl rfl
        have s38 := (hk 14 (by decide)).at (d := 38) rfl rfl rfl
        have s39 := (hk 15 (by decide)).at (d := 39) rfl rfl rfl
        obtain ⟨b8, s8, l8, r8⟩ := (hk 17 (by decide)).2 _ (List.mem_cons_of_mem _ (List.mem_cons_self ..)) rfl
        have s9 := (hk 18 (by decide)).at (d := 9) rfl rfl rfl
        have hlit := hS.lit _ (by kernel_rfl) (lits_cons s25 (lits_cons s26 (lits_cons s27 (lits_cons s28 (lits_cons s29 (lits_cons s30 (lits_cons s31 (lits_cons s32 (lits_cons s33 (lits_cons s34 (lits_cons s35 (lits_cons s36 (lits_cons s37 (lits_cons s24 (lits_cons s38 (lits_cons s39 (lits_cons s8 (lits_cons s9 lits_nil))))))))))))))))))
        rw [hlit]
        clear hlit hk hS s25 s26 s27 s28 s29 s30 s31 s32 s33 s34 s35 s36 s37 s24 s38 s39 s8 s9
        have HB8 := hide (HB2.out.trans ((HGU.out uq).mono HB2.out.size))
        have HO8 : Hid ((g uq).ownsRow B0 35 4 u4 k (((l.take k).map lineO).map lnV).flatten) := own_to' HO2.out (HGU.out uq)
        have y0 := (r8.cell 0).trans rfl
        have y1 := (r8.cell 1).trans rfl
        have y2 := (r8.cell 2).trans rfl
        have y3 := (r8.cell 3).trans rfl
        simp only [litT, List.setIfInBounds_toArray, List.set_cons_succ, List.set_cons_zero]
        clear CS CM C0 C1 HGU HHI
        go_wp2_with (at_builtin; refine wpList_append_own _ rfl (.tmp 46) (.tmp 48) _ rfl B0 35 i0 (.agg #[.string ⟨#[]⟩, .string ⟨#[]⟩, .string ⟨#[]⟩, .string ⟨#[]⟩]) 4 64 Tryz.underlying25 hi0 hz0 hz1 hz2 rfl (by omega) _ k (((l.take k).map lineO).map lnV).flatten rfl ?c0 ⟨_, 0, none⟩ 1 1 [.string (bs x.p), .string (bs x.t), .string (bs x.s), .string (bs x.d)] rfl rfl ?c1 ?c2 ?c4 ?c5 ?c3 ?_)
        case c0 => exact own_to' HO8.out (below_one _ _)
        case c1 => exact cells_new (by simp)
        case c2 => intro u hu; simp only [List.mem_cons, List.not_mem_nil, or_false] at hu; rcases hu with rfl | rfl | rfl | rfl <;> rfl
        case c4 => simp only [maxLen]; omega
        case c5 => omega
        case c3 => have := HB8.out.size; have := hB0.out; simp; omega
        · intro v' w6 hown6 hgr6 _
          have HB6 := hide ((HB8.out.alloc HB8.out.size (.cells #[.string (bs x.p), .string (bs x.t), .string (bs x.s), .string (bs x.d)] 35)).grown hgr6 (by have := HB8.out.size; simp; omega) (fun b hb => by rw [hB0.out]; exact (HO8.out.lt b hb).1))
          have HO6 : Hid (w6.ownsRow B0 35 4 v' (k + 1) (((l.take (k + 1)).map lineO).map lnV).flatten) := by
            show World.ownsRow _ _ _ _ _ _ _
            rw [HTK.out, show ((l.take k).map lineO).map lnV = (l.map (lnV ∘ lineO)).take k by rw [List.map_map, List.map_take]]
            exact hown6
          clear hown6 hgr6
          go_wp2_with fail
          refine ⟨⟨k + 1, by go_num, by omega, HB6.out, HO6.out⟩, ?_⟩
          simp [intOf]; omega
    · obtain rfl : k = l.length := by omega
      have e1 : decide ((l.length : Int) < (l.length : Int)) = false := by simp
      rw [List.take_length] at HO
      go_wp2_with fail
      go_ret2
      exact ⟨_, rfl, RowsAt.of_own (B := B0) (e := 35) (by simp [lnV]) (by rw [List.length_map, List.length_map]; exact HO.out), HB.out⟩
end Go.Proofs.YtgdgdhpmjkefjaaGreatDoor

/- Walks of package privacy: Erase, its function value that counts, mapped with it. -/
set_option linter.unusedVariables false
set_option linter.unusedSimpArgs false
namespace Go.Proofs.YtgdgdhpmjkefjaaGreatDoor
open Go.RowKit

/-- below B all is as it was but for block nb -/
structure But (nb B : Nat) (w w' : World) : Prop where
  os : w'.os = w.os
  tape : w'.tape = w.tape
  output : w'.output = w.output
  size : w.heap.size ≤ w'.heap.size
  block : ∀ k, k < B → k ≠ nb → w'.heap[k]? = w.heap[k]?
section
variable {nb B : Nat} {a w w' : World}
theorem But.refl (nb B : Nat) (w : World) : But nb B w w := ⟨rfl, rfl, rfl, Nat.le_refl _, fun _ _ _ => rfl⟩
theorem But.trans {b c : World} (h : But nb B a b) (k : But nb B b c) : But nb B a c := ⟨k.os.trans h.os, k.tape.trans h.tape, k.output.trans h.output, Nat.le_trans h.size k.size, fun i hi hn => (k.block i hi hn).trans (h.block i hi hn)⟩
theorem But.mono {B' : Nat} (h : But nb B w w') (hB : B' ≤ B) : But nb B' w w' := ⟨h.os, h.tape, h.output, h.size, fun k hk => h.block k (Nat.lt_of_lt_of_le hk hB)⟩
theorem But.of (h : Below B w w') : But nb B w w' := ⟨h.os, h.tape, h.output, h.size, fun k hk _ => h.block k hk⟩
theorem But.to {w2 : World} (h : But nb B w w') (hB : B ≤ w.heap.size) (h' : Below w'.heap.size w' w2) : But nb B w w2 := h.trans (But.of (h'.mono (Nat.le_trans hB h.size)))
theorem But.to' {w2 : World} (h : But nb B w w') (hB : B ≤ w.heap.size) (h' : But nb w'.heap.size w' w2) : But nb B w w2 := h.trans (h'.mono (Nat.le_trans hB h.size))
theorem But.alloc (h : But nb B a w) (hB : B ≤ a.heap.size) (o : Obj) : But nb B a (w.alloc o) := h.to hB (below_one w o)
theorem But.set_ (h : But nb B a w) (u : Value) : But nb B a (w.setCell ⟨nb, 0, none⟩ u) := h.trans ⟨rfl, rfl, rfl, by simp [World.setCell], fun k hk hn => Below.heap_setCell _ _ _ _ hn⟩
theorem But.far (h : But nb B a w) {p : Addr} (hp : B ≤ p.block) (u : Value) : But nb B a (w.setCell p u) := h.trans ⟨rfl, rfl, rfl, by simp [World.setCell], fun k hk hn => Below.heap_setCell _ _ _ _ (by omega)⟩
theorem But.below {B' : Nat} (h : But nb B w w') (h1 : B' ≤ B) (h2 : B' ≤ nb) : Below B' w w' := ⟨h.os, h.tape, h.output, h.size, fun k hk => h.block k (by omega) (by omega)⟩
theorem But.grown {row : Option Nat} (h : But nb B a w) (hg : w.grownBy w' row) (hB : B ≤ w.heap.size) (hr : ∀ k, row = some k → B ≤ k) : But nb B a w' :=
  h.trans ⟨hg.os, hg.tape, hg.output, hg.size, fun k hk _ => hg.block k (by omega) (fun e => by have := hr k e.symm; omega)⟩
theorem But.own {base : Nat} {e : TypeId} {size n : Nat} {v : Value} {xs : List Value} (h : w.ownsRow base e size v n xs) (hb : But nb w.heap.size w w') (hn : nb < base) : w'.ownsRow base e size v n xs := by
  obtain ⟨h1, h2⟩ := h
  refine ⟨h1, ?_⟩
  rcases h2 with h2 | ⟨g, cap, cur, hv, hB, hg, h3⟩
  · exact .inl h2
  · refine .inr ⟨g, cap, cur, hv, hB, ?_, h3⟩
    rw [hb.block g ?_ (by omega)]
    · exact hg
    · rcases Nat.lt_or_ge g w.heap.size with h | h
      · exact h
      · rw [Array.getElem?_eq_none h] at hg; cases hg
theorem But.blk {g : Nat} {t : TypeId} {cs : Array Value} (H : Blk w g t cs) (hb : But nb w.heap.size w w') (hn : g ≠ nb) : Blk w' g t cs := (hb.block g H.lt hn).trans H
end
theorem ent_cErase : ∀ args w, (callFunc 22 args).run Tryz.prog w = .ok (.enter 22 args) w := enters_fn Tryz.func22 (by kernel_rfl) rfl
/-- a line when q is erased -/
def erQ (q : List UInt8) (l : Ln) : Ln := if l.p = q then er l else l
def hit (q : List UInt8) (l : Ln) : Nat := if l.p = q then 1 else 0
def EraC (q : List UInt8) (l : Ln) (nb : Nat) (c : Nat) (w : World) (e : Ending) (w' : World) : Prop := e = .returned (.tuple #[.agg #[.string (bs (erQ q l).p), .string (bs (erQ q l).t), .string (bs (erQ q l).s), .string (bs (erQ q l).d)], .bool true]) ∧ But nb w.heap.size w w' ∧ Blk w' nb 3 #[.int .i64 ((c + hit q l : Nat) : Int)]
set_option maxHeartbeats 2000000 in
theorem cErase_any (l : Ln) (q : List UInt8) (pb nb c : Nat) (hc : c ≤ 1000000000) (w : World) (hp : w.cell? ⟨pb, 0, none⟩ = some (.string (bs q))) (hn : Blk w nb 3 #[.int .i64 (c : Int)]) :
    Calls Tryz.prog 22 #[.agg #[.string (bs l.p), .string (bs l.t), .string (bs l.s), .string (bs l.d)], .pointer (some ⟨pb, 0, none⟩), .pointer (some ⟨nb, 0, none⟩)] w (EraC q l nb c w) := by
  have hlt0 := World.block_lt_of_cell? w _ hp
  have hlt : pb < w.heap.size := hlt0
  have hnlt := hn.lt
  have n1 : pb ≠ w.heap.size := by omega
  have n2 : pb ≠ w.heap.size + 1 := by omega
  have n3 : nb ≠ w.heap.size := by omega
  have n4 : nb ≠ w.heap.size + 1 := by omega
  have n5 : w.heap.size ≠ nb := by omega
  have n6 : w.heap.size + 1 ≠ nb := by omega
  have hc0 := hn.cell 0
  have hf0 := hn.frozen 0
  simp only [List.getElem?_toArray, List.getElem?_cons_zero] at hc0
  have HN := hide hn
  clear hlt0 hn
  by_cases h : l.p = q
  · have HV : Hid (erQ q l = er l ∧ hit q l = 1) := ⟨by unfold erQ; rw [if_pos h], by unfold hit; rw [if_pos h]⟩
    have e1 : ((bs l.p).toList == (bs q).toList) = true := by rw [h]; simp
    have CE := fun w => erased_any l w
    unfold lnC er at CE
    clear h
    go_enter Tryz.func22, Tryz.ntmps22
    go_wp2_with fail
    have HX : Hid (Blk (((w.setCell ⟨nb, 0, none⟩ (.int .i64 ((c : Int) + 1))).alloc (.cells #[.string (bs l.p), .string (bs l.t), .string (bs l.s), .string (bs l.d)] 35)).alloc (.cells #[.string ⟨#[]⟩, .string ⟨#[]⟩, .string ⟨#[]⟩, .string ⟨#[]⟩] 35)) (w.heap.size + 1) 35 #[.string ⟨#[]⟩, .string ⟨#[]⟩, .string ⟨#[]⟩, .string ⟨#[]⟩]) := by
      have := Blk.new ((w.setCell ⟨nb, 0, none⟩ (.int .i64 ((c : Int) + 1))).alloc (.cells #[.string (bs l.p), .string (bs l.t), .string (bs l.s), .string (bs l.d)] 35)) 35 #[.string ⟨#[]⟩, .string ⟨#[]⟩, .string ⟨#[]⟩, .string ⟨#[]⟩]
      show Blk _ _ _ _
      simpa using this
    have HB : Hid (But nb w.heap.size w (((w.setCell ⟨nb, 0, none⟩ (.int .i64 ((c : Int) + 1))).alloc (.cells #[.string (bs l.p), .string (bs l.t), .string (bs l.s), .string (bs l.d)] 35)).alloc (.cells #[.string ⟨#[]⟩, .string ⟨#[]⟩, .string ⟨#[]⟩, .string ⟨#[]⟩] 35))) := (((But.refl nb _ w).set_ _).alloc (Nat.le_refl _) _).alloc (Nat.le_refl _) _
    have HC : Hid (Blk (((w.setCell ⟨nb, 0, none⟩ (.int .i64 ((c : Int) + 1))).alloc (.cells #[.string (bs l.p), .string (bs l.t), .string (bs l.s), .string (bs l.d)] 35)).alloc (.cells #[.string ⟨#[]⟩, .string ⟨#[]⟩, .string ⟨#[]⟩, .string ⟨#[]⟩] 35)) nb 3 #[.int .i64 ((c + 1 : Nat) : Int)]) := ((HN.out.set_ 0 (.int .i64 ((c : Int) + 1))).alloc _).alloc _
    refine (CE _).mono ?_
    rintro e w2 ⟨rfl, hb⟩
    have HX2 := hide (HX.out.to hb)
    have HB2 := hide (HB.out.to (Nat.le_refl _) hb)
    have HC2 := hide (HC.out.to hb)
    have r0 := (HX2.out.cell 0).trans rfl
    have r1 := (HX2.out.cell 1).trans rfl
    have r2 := (HX2.out.cell 2).trans rfl
    have r3 := (HX2.out.cell 3).trans rfl
    have f0 : ∀ i, w2.frozen? ⟨w.heap.size + 1, i, none⟩ = false := fun i => HX2.out.frozen i
    clear hb HX HB HC CE hp hc0 hf0
    go_wp2_with fail
    have hbk := (((((HX2.out.set_ 0 (.string (bs []))).set_ 1 (.string (bs []))).set_ 2 (.string (bs []))).set_ 3 (.string (bs l.d))))
    refine bodyPost_ret (results_c1 (p := 4) (u := 5) rfl _ _ (w.heap.size + 1) 35 _ _ rfl hbk Tryz.underlying35 rfl (by kernel_rfl)) rfl ⟨by rw [HV.out.1]; rfl, ?_, ?_⟩
    · exact (((HB2.out.far (p := ⟨w.heap.size + 1, 0, none⟩) (Nat.le_succ _) _).far (p := ⟨w.heap.size + 1, 1, none⟩) (Nat.le_succ _) _).far (p := ⟨w.heap.size + 1, 2, none⟩) (Nat.le_succ _) _).far (p := ⟨w.heap.size + 1, 3, none⟩) (Nat.le_succ _) _
    · rw [HV.out.2]
      exact (((HC2.out.far n4 _).far n4 _).far n4 _).far n4 _
  · have HV : Hid (erQ q l = l ∧ hit q l = 0) := ⟨by unfold erQ; rw [if_neg h], by unfold hit; rw [if_neg h]⟩
    have e1 : ((bs l.p).toList == (bs q).toList) = false := by rw [beq_eq_false_iff_ne, bs_toList, bs_toList]; exact h
    clear h
    go_enter Tryz.func22, Tryz.ntmps22
    go_wp2_with fail
    have hbk : Blk ((w.alloc (.cells #[.string (bs l.p), .string (bs l.t), .string (bs l.s), .string (bs l.d)] 35)).alloc (.cells #[.string (bs l.p), .string (bs l.t), .string (bs l.s), .string (bs l.d)] 35)) (w.heap.size + 1) 35 #[.string (bs l.p), .string (bs l.t), .string (bs l.s), .string (bs l.d)] := by
      have := Blk.new (w.alloc (.cells #[.string (bs l.p), .string (bs l.t), .string (bs l.s), .string (bs l.d)] 35)) 35 #[.string (bs l.p), .string (bs l.t), .string (bs l.s), .string (bs l.d)]
      show Blk _ _ _ _
      simpa using this
    refine bodyPost_ret (results_c1 (p := 4) (u := 5) rfl _ _ (w.heap.size + 1) 35 _ _ rfl hbk Tryz.underlying35 rfl (by kernel_rfl)) rfl ⟨by rw [HV.out.1]; rfl, But.of (below_two w _ _), ?_⟩
    rw [HV.out.2]
    exact (HN.out.alloc _).alloc _
theorem era_take (q : List UInt8) {log : List Ln} {k : Nat} {l : Ln} (h : log[k]? = some l) : (log.take (k + 1)).map (erQ q) = (log.take k).map (erQ q) ++ [erQ q l] ∧ hitsP (log.take (k + 1)) q = hitsP (log.take k) q + hit q l := by
  unfold hitsP hit
  rw [List.take_add_one, h]
  refine ⟨by simp, ?_⟩
  simp only [Option.toList_some, List.filter_append, List.length_append]
  by_cases hp : l.p = q <;> simp [hp]
theorem hits_le (log : List Ln) (q : List UInt8) : hitsP log q ≤ log.length := List.length_filter_le _ _
def EraM (log : List Ln) (q : List UInt8) (nb : Nat) (w : World) (e : Ending) (w' : World) : Prop := ∃ v', e = .returned v' ∧ LnsAt w' v' (eraseP log q) ∧ But nb w.heap.size w w' ∧ Blk w' nb 3 #[.int .i64 ((hitsP log q : Nat) : Int)]
set_option maxRecDepth 100000 in
set_option maxHeartbeats 4000000 in
theorem mLLe_any (log : List Ln) (hl : log.length ≤ 1000000000) (q : List UInt8) (pb nb : Nat) (hpn : pb ≠ nb) (v : Value) (w : World) (hv : ∀ w', But nb w.heap.size w w' → LnsAt w' v log) (hp : Blk w pb 9 #[.string (bs q)]) (hn : Blk w nb 3 #[.int .i64 0]) :
    Calls Tryz.prog 21 #[v, .func (.func 22) #[] #[.pointer (some ⟨pb, 0, none⟩), .pointer (some ⟨nb, 0, none⟩)]] w (EraM log q nb w) := by
  obtain ⟨A, c, rfl⟩ := (hv w (But.refl _ _ _)).slice
  have HS := hide hv
  have HP := hide hp
  have HN := hide hn
  have hE := ent_cErase
  have hnlt := hn.lt
  obtain ⟨i0, hi0, hz0, hz1, hz2⟩ := info_parts (show (Tryz.prog.info? 35).map (fun i => (i.zero, i.size, i.bytes)) = some (some (.agg #[.string ⟨#[]⟩, .string ⟨#[]⟩, .string ⟨#[]⟩, .string ⟨#[]⟩]), 4, 64) by kernel_rfl)
  clear hv hp hn
  go_enter Tryz.func21, Tryz.ntmps21
  go_wp2_with fail
  go_loopw [5, 7, 8, 9, 12] (fun out _ _ _ i wr => ∃ k : Nat, i = .int .i64 (k : Int) ∧ k ≤ log.length ∧ Aside (But nb w.heap.size w wr) ∧ Aside (Blk wr nb 3 #[.int .i64 ((hitsP (log.take k) q : Nat) : Int)]) ∧ Aside (wr.ownsRow w.heap.size 35 4 out ((log.take k).map (erQ q)).length (((log.take k).map (erQ q)).map lnV).flatten)) (fun _ _ _ _ i _ => log.length - (intOf i).toNat)
  case atStart => exact ⟨0, rfl, by omega, But.refl _ _ _, HN.out, World.ownsRow_nil _ _ _ _⟩
  case round =>
    obtain ⟨k, rfl, hk, hB, hC, hO⟩ := hrel
    have HB : Hid (But nb w.heap.size w wr) := hB
    have HC : Hid (Blk wr nb 3 #[.int .i64 ((hitsP (log.take k) q : Nat) : Int)]) := hC
    have HO : Hid (wr.ownsRow w.heap.size 35 4 _ ((log.take k).map (erQ q)).length (((log.take k).map (erQ q)).map lnV).flatten) := hO
    clear hB hC hO
    by_cases hlt : k < log.length
    · have e1 : decide ((k : Int) < (log.length : Int)) = true := decide_eq_true (by omega)
      obtain ⟨l, hl'⟩ : ∃ l, log[k]? = some l := ⟨_, List.getElem?_eq_getElem hlt⟩
      obtain ⟨a, rfl, ha, c0, c1, c2, c3⟩ := (HS.out wr HB.out).at_ hl'
      have HT := hide (era_take q hl')
      have hcnt : hitsP (log.take k) q ≤ 1000000000 := Nat.le_trans (hits_le _ _) (Nat.le_trans (List.length_take_le _ _) (by omega))
      have HLEN : ((log.take k).map (erQ q)).length ≤ k := by rw [List.length_map]; exact List.length_take_le _ _
      have CV := cErase_any l q pb nb (hitsP (log.take k) q) hcnt (wr.alloc (.cells #[.string (bs l.p), .string (bs l.t), .string (bs l.s), .string (bs l.d)] 35)) (((But.blk HP.out HB.out hpn).alloc _).cell 0) (HC.out.alloc _)
      clear hl' hcnt
      generalize (log.take k).map (erQ q) = xs at *
      go_wp2_with fail
      refine CV.mono ?_
      rintro e w4 ⟨rfl, hb4, hc4⟩
      have HB4 := hide ((HB.out.alloc (Nat.le_refl _) (.cells #[.string (bs l.p), .string (bs l.t), .string (bs l.s), .string (bs l.d)] 35)).to' (Nat.le_refl _) hb4)
      have HO4 := hide (But.own (own_to' HO.out (below_one wr (.cells #[.string (bs l.p), .string (bs l.t), .string (bs l.s), .string (bs l.d)] 35))) hb4 hnlt)
      have HC4 := hide hc4
      have HSZ : Hid (w.heap.size ≤ w4.heap.size) := HB4.out.size
      clear hb4 hc4 CV HC HO
      generalize hm : erQ q l = m at *
      go_wp2_with (at_builtin; refine wpList_append_own _ rfl (.tmp 23) (.tmp 25) _ rfl w.heap.size 35 i0 (.agg #[.string ⟨#[]⟩, .string ⟨#[]⟩, .string ⟨#[]⟩, .string ⟨#[]⟩]) 4 64 Tryz.underlying25 hi0 hz0 hz1 hz2 rfl (by omega) _ xs.length (xs.map lnV).flatten rfl ?c0 ⟨_, 0, none⟩ 1 1 (lnV m) rfl rfl ?c1 ?c2 ?c4 ?c5 ?c3 ?_)
      case c0 => exact own_to' (own_to' HO4.out (below_one _ _)) (below_one _ _)
      case c1 => exact cells_new (xs := lnV m) (by simp)
      case c2 => intro u hu; simp only [lnV, List.mem_cons, List.not_mem_nil, or_false] at hu; rcases hu with rfl | rfl | rfl | rfl <;> rfl
      case c4 => simp only [maxLen]; omega
      case c5 => omega
      case c3 => have := HSZ.out; simp; omega
      · intro v' w6 hown6 hgr6 _
        have HB6 := hide (((HB4.out.alloc (Nat.le_refl _) _).alloc (Nat.le_refl _) _).grown hgr6 (by have := HSZ.out; simp; omega) (fun b hb => (HO4.out.lt b hb).1))
        have HO6 : Hid (w6.ownsRow w.heap.size 35 4 v' ((log.take (k + 1)).map (erQ q)).length (((log.take (k + 1)).map (erQ q)).map lnV).flatten) := by
          show World.ownsRow _ _ _ _ _ _ _
          rw [HT.out.1]
          simp only [List.length_append, List.length_cons, List.length_nil, Nat.zero_add, List.map_append, List.map_cons, List.map_nil, List.flatten_append, List.flatten_cons, List.flatten_nil, List.append_nil]
          exact hown6
        have HC6 : Hid (Blk w6 nb 3 #[.int .i64 ((hitsP (log.take (k + 1)) q : Nat) : Int)]) := by
          show Blk _ _ _ _
          rw [HT.out.2]
          exact ((hgr6.block nb (by have := HSZ.out; simp; omega) (fun e => by have := (HO4.out.lt nb e.symm).1; omega)).trans ((HC4.out.alloc _).alloc _) : _)
        clear hown6 hgr6
        go_wp2_with fail
        refine ⟨⟨k + 1, by go_num, by omega, HB6.out, HC6.out, HO6.out⟩, ?_⟩
        simp [intOf]; omega
    · obtain rfl : k = log.length := by omega
      have e1 : decide ((log.length : Int) < (log.length : Int)) = false := by simp
      rw [List.take_length] at HO HC
      go_wp2_with fail
      go_ret
      exact ⟨_, rfl, RowsAt.of_own (by simp [lnV]) (by rw [List.length_map]; exact HO.out), HB.out, HC.out⟩
def eraseV (log : List Ln) (q : List UInt8) : List Ln := if okA log q then eraseP log q else []
def hitsV (log : List Ln) (q : List UInt8) : Nat := if okA log q then hitsP log q else 0
def EraseR (log : List Ln) (q : List UInt8) (w : World) (e : Ending) (w' : World) : Prop := ∃ v', e = .returned (.tuple #[v', .int .i64 ((hitsV log q : Nat) : Int), .int .i64 (errE (okA log q))]) ∧ LnsAt w' v' (eraseV log q) ∧ Below w.heap.size w w'
set_option maxRecDepth 100000 in
set_option maxHeartbeats 4000000 in
theorem Erase_any (log : List Ln) (hf : ∀ l ∈ log, l.fit) (hl : log.length ≤ 1000000000) (q : List UInt8) (hq : q.length ≤ 140737488355328) (v : Value) (w : World) (hv : LnsAt w v log) (hg : Glob w) :
    Calls Tryz.prog 7 #[v, .string (bs q)] w (EraseR log q w) := by
  have HB := hide (below_one w (.cells #[.string (bs q)] 9))
  have HX := hide (Blk.new w 9 #[.string (bs q)])
  have CP := proper_any v log hf hl q hq (w.alloc (.cells #[.string (bs q)] 9)) (hv.to HB.out) (hg.alloc _)
  have HO : Hid (okA log q = (validG log && isNm q)) := rfl
  have HS := hide hv
  clear hv hg hf
  cases hp : validG log && isNm q with
  | false =>
    rw [hp] at CP HO
    clear hp
    go_enter Tryz.func7, Tryz.ntmps7
    go_wp2_with ((with_reducible refine CP.mono ?_); rintro e w' ⟨rfl, hb⟩)
    go_ret3
    exact ⟨.slice none 0 0, by unfold hitsV; rw [HO.out]; rfl, by unfold eraseV; rw [HO.out]; exact RowsAt.nil _ _, below_to HB.out (Nat.le_refl _) (by assumption)⟩
  | true =>
    rw [hp] at CP HO
    clear hp
    go_enter Tryz.func7, Tryz.ntmps7
    go_wp2_with fail
    refine CP.mono ?_
    rintro e w2 ⟨rfl, hb⟩
    have HB2 := hide (below_to HB.out (Nat.le_refl _) hb)
    have HX2 := hide (HX.out.to hb)
    have HW2 : Hid (w.heap.size < w2.heap.size) := HX2.out.lt
    have HB3 := hide (below_alloc HB2.out (Nat.le_refl _) (.cells #[.int .i64 0] 3))
    have CM := mLLe_any log hl q w.heap.size w2.heap.size (Nat.ne_of_lt HW2.out) v (w2.alloc (.cells #[.int .i64 0] 3)) (fun w' hb' => HS.out.to (HB3.out.trans (hb'.below (by have := HW2.out; simp; omega) (by have := HW2.out; omega)))) (HX2.out.alloc _) (Blk.new _ _ _)
    clear CP hb
    go_wp2_with fail
    refine CM.mono ?_
    rintro e w3 ⟨v', rfl, hr, hb, hc⟩
    have HB4 := hide (HB3.out.trans (hb.below (by have := HW2.out; simp; omega) (by have := HW2.out; omega)))
    have HR := hide hr
    have hn := (hc.cell 0).trans rfl
    clear hr hb CM hc
    generalize hN : hitsP log q = N at *
    have HN := hide hN
    clear hN
    go_wp2_with fail
    go_quiet (fail)
    go_wp2_with fail
    go_ret3
    exact ⟨v', by unfold hitsV; rw [HO.out, if_pos rfl, HN.out]; rfl, by unfold eraseV; rw [HO.out]; exact HR.out, below_drewN HB4.out _⟩
end Go.Proofs.YtgdgdhpmjkefjaaGreatDoor

/- Walks of the statement TopErased: w09Moved. -/
set_option linter.unusedVariables false
set_option linter.unusedSimpArgs false
namespace Go.Proofs.YtgdgdhpmjkefjaaGreatDoor
open Go.RowKit Go.Shelf

theorem mk_valid {p t s : List UInt8} (h : canM p t s = true) : validL (mkL p t s) = true := by
  unfold validL
  have hp : p ≠ [] := nm_ne (by unfold canM at h; simp only [Bool.and_eq_true] at h; exact h.1.1.1.1)
  rw [if_neg (fun e => hp (congrArg Ln.p e))]
  show (canM p t s && decide (mkL p t s = mkL p t s)) = true
  rw [h, decide_eq_true rfl]; rfl
theorem line_valid {o : Od} (h : OkO o) : validL (lineO o) = true := mk_valid (lineO_can h)
theorem line_fit {o : Od} (h : OkO o) : (lineO o).fit ∧ (lineO o).d.length ≤ 100000000000 := by
  have h1 := nm_len h.p
  have h2 := order_len h
  have h3 : (lineO o).d.length = 16 := listD_len _
  have h4 : (lineO o).s.length = 16 := sumD_len _
  refine ⟨⟨?_, ?_, ?_, ?_⟩, ?_⟩
  · show o.p.length ≤ _; omega
  · show (orderT o).length ≤ _; omega
  · omega
  · omega
  · omega
theorem log_valid {l : List Od} (h : ∀ o ∈ l, OkO o) (hl : l.length ≤ 10000) : validG (l.map lineO) = true := by
  unfold validG
  rw [Bool.and_eq_true]
  refine ⟨?_, by rw [List.length_map]; exact decide_eq_true hl⟩
  rw [List.all_eq_true]
  intro x hx
  obtain ⟨o, ho, rfl⟩ := List.mem_map.1 hx
  exact line_valid (h o ho)
theorem log_fit {l : List Od} (h : ∀ o ∈ l, OkO o) : ∀ x ∈ l.map lineO, x.fit := fun x hx => by
  obtain ⟨o, ho, rfl⟩ := List.mem_map.1 hx
  exact (line_fit (h o ho)).1
theorem log_dig {l : List Od} (h : ∀ o ∈ l, OkO o) : ∀ x ∈ l.map lineO, x.d.length ≤ 100000000000 := fun x hx => by
  obtain ⟨o, ho, rfl⟩ := List.mem_map.1 hx
  exact (line_fit (h o ho)).2
theorem proper_ok {l : List Od} (h : properL l = true) : ∀ o ∈ l, OkO o := fun o ho => by
  unfold properL at h
  simp only [Bool.and_eq_true] at h
  exact (okO_iff o).1 (List.all_eq_true.1 h.1 o ho)
def annaT : List UInt8 := [97, 110, 110, 97]
def bobT : List UInt8 := [98, 111, 98]
def mvL : List Od := [⟨[111, 49], annaT, [97], [98], 3, -1⟩, ⟨[111, 50], bobT, [97], [99], 3, 9⟩]
theorem mv_proper : properL mvL = true := by kernel_rfl
theorem mv_s1 : setT mvL annaT [97] 5 = [98] ∧ setE mvL annaT [97] 5 = 0 := ⟨by kernel_rfl, by kernel_rfl⟩
theorem mv_s2 : setT (ordersP mvL annaT) annaT [97] 5 = [97] ∧ setE (ordersP mvL annaT) annaT [97] 5 = 0 := ⟨by kernel_rfl, by kernel_rfl⟩
theorem mv_s3 : setT (ordersP mvL annaT) bobT [97] 5 = [99] ∧ setE (ordersP mvL annaT) bobT [97] 5 = 0 := ⟨by kernel_rfl, by kernel_rfl⟩
theorem mv_kept : (ordersP mvL annaT).length = 1 := by kernel_rfl
theorem mv_hits : hitsP (mvL.map lineO) annaT = 1 := by kernel_rfl
theorem mv_okA : okA (mvL.map lineO) annaT = true := by
  unfold okA
  rw [log_valid (proper_ok mv_proper) (by decide), show isNm annaT = true by kernel_rfl]; rfl
theorem mv_fit : ∀ o ∈ mvL, o.fit := fun o ho => fit_of (proper_ok mv_proper o ho)
theorem kept_fit {l : List Od} {q : List UInt8} (h : ∀ o ∈ l, o.fit) : ∀ o ∈ ordersP l q, o.fit := fun o ho => h o (List.mem_filter.1 ho).1
def SomeS (x : ByteArray) (w : World) (e : Ending) (w' : World) : Prop := ∃ v', e = .returned (.tuple #[.string x, v', .int .i64 0]) ∧ Below w.heap.size w w'
theorem some_s {l : List Od} {p door : List UInt8} {day : Int} {w : World} {x : List UInt8} (h1 : setT l p door day = x) (h2 : setE l p door day = 0) {e : Ending} {w' : World} (h : SetR l p door day w e w') : SomeS (bs x) w e w' := by
  obtain ⟨v', e1, _, hb⟩ := h
  exact ⟨v', by rw [e1, h1, h2], hb⟩
set_option maxRecDepth 100000 in
set_option maxHeartbeats 4000000 in
theorem Moved_any (w : World) (hg : Glob w) : Calls Tryz.prog 4 #[] w fun e w' => e = .returned (.bool true) ∧ Below w.heap.size w w' := by
  have HB1 := hide (below_one w (.cells #[.string ⟨#[111, 49]⟩, .string ⟨#[97, 110, 110, 97]⟩, .string ⟨#[97]⟩, .string ⟨#[98]⟩, .int .i64 3, .int .i64 (-1), .string ⟨#[111, 50]⟩, .string ⟨#[98, 111, 98]⟩, .string ⟨#[97]⟩, .string ⟨#[99]⟩, .int .i64 3, .int .i64 9] 39))
  have HO1 : Hid (OdsAt (w.alloc (.cells #[.string ⟨#[111, 49]⟩, .string ⟨#[97, 110, 110, 97]⟩, .string ⟨#[97]⟩, .string ⟨#[98]⟩, .int .i64 3, .int .i64 (-1), .string ⟨#[111, 50]⟩, .string ⟨#[98, 111, 98]⟩, .string ⟨#[97]⟩, .string ⟨#[99]⟩, .int .i64 3, .int .i64 9] 39)) (.slice (some ⟨w.heap.size, 0, none⟩) 2 2) mvL) := rows_new w 6 39 (mvL.map odV) (by simp [odV, mvL]) _ rfl 2 rfl
  have HG := hide hg
  clear hg
  go_enter Tryz.func4, Tryz.ntmps4
  go_wp2_with fail
  generalize w.alloc (.cells #[.string ⟨#[111, 49]⟩, .string ⟨#[97, 110, 110, 97]⟩, .string ⟨#[97]⟩, .string ⟨#[98]⟩, .int .i64 3, .int .i64 (-1), .string ⟨#[111, 50]⟩, .string ⟨#[98, 111, 98]⟩, .string ⟨#[97]⟩, .string ⟨#[99]⟩, .int .i64 3, .int .i64 9] 39) = w1 at *
  obtain ⟨b0, hb0⟩ : ∃ b, Hid (w.heap.size = b) := ⟨_, rfl⟩
  rw [hb0.out] at HO1 ⊢
  refine (Logged_any mvL (proper_ok mv_proper) (by decide) _ w1 HO1.out (HG.out.to HB1.out)).mono ?_
  rintro e w2 ⟨vl, rfl, hL, hb⟩
  have HL2 := hide hL
  have HO2 := hide (HO1.out.to hb)
  have HB2 := hide (below_to HB1.out (Nat.le_refl _) hb)
  clear hL hb
  go_wp2_with fail
  have CE := Erase_any (mvL.map lineO) (log_fit (proper_ok mv_proper)) (by decide) annaT (by decide) vl w2 HL2.out (HG.out.to HB2.out)
  rw [show bs annaT = ⟨#[97, 110, 110, 97]⟩ from rfl] at CE
  refine CE.mono ?_
  rintro e w3 ⟨ve, rfl, hE, hb⟩
  obtain ⟨Ae, ce, rfl⟩ := hE.slice
  rw [show hitsV (mvL.map lineO) annaT = 1 by unfold hitsV; rw [mv_okA]; exact mv_hits, show errE (okA (mvL.map lineO) annaT) = 0 by rw [mv_okA]; rfl, show (eraseV (mvL.map lineO) annaT).length = 2 by unfold eraseV; rw [mv_okA]; exact erase_len _ _]
  have HO3 := hide (HO2.out.to hb)
  have HB3 := hide (below_to HB2.out (Nat.le_refl _) hb)
  clear hE hb CE
  go_wp2_with fail
  have CO := Orders_any mvL (by decide) annaT _ w3 HO3.out
  rw [show bs annaT = ⟨#[97, 110, 110, 97]⟩ from rfl] at CO
  refine CO.mono ?_
  rintro e w4 ⟨vk, rfl, hK, hb⟩
  obtain ⟨Ak, ck, rfl⟩ := hK.slice
  have HK4 := hide hK
  rw [mv_kept]
  rw [mv_kept] at HK4
  have HO4 := hide (HO3.out.to hb)
  have HB4 := hide (below_to HB3.out (Nat.le_refl _) hb)
  clear hK hb CO
  go_wp2_with fail
  have CS := (Settle_any mvL mv_fit (by decide) annaT [97] (by decide) (by decide) 5 _ w4 HO4.out (HG.out.to HB4.out)).mono (fun e w' h => some_s mv_s1.1 mv_s1.2 h)
  rw [show bs annaT = ⟨#[97, 110, 110, 97]⟩ from rfl, show bs [97] = ⟨#[97]⟩ from rfl, show bs [98] = ⟨#[98]⟩ from rfl] at CS
  refine CS.mono ?_
  rintro e w5 ⟨v5, rfl, hb⟩
  have HK5 := hide (HK4.out.to hb)
  have HB5 := hide (below_to HB4.out (Nat.le_refl _) hb)
  clear hb CS
  go_wp2_with fail
  have CS := (Settle_any (ordersP mvL annaT) (kept_fit mv_fit) (by rw [mv_kept]; decide) annaT [97] (by decide) (by decide) 5 _ w5 HK5.out (HG.out.to HB5.out)).mono (fun e w' h => some_s mv_s2.1 mv_s2.2 h)
  rw [show bs annaT = ⟨#[97, 110, 110, 97]⟩ from rfl, show bs [97] = ⟨#[97]⟩ from rfl] at CS
  refine CS.mono ?_
  rintro e w6 ⟨v6, rfl, hb⟩
  have HK6 := hide (HK5.out.to hb)
  have HB6 := hide (below_to HB5.out (Nat.le_refl _) hb)
  clear hb CS
  go_wp2_with fail
  have CS := (Settle_any (ordersP mvL annaT) (kept_fit mv_fit) (by rw [mv_kept]; decide) bobT [97] (by decide) (by decide) 5 _ w6 HK6.out (HG.out.to HB6.out)).mono (fun e w' h => some_s mv_s3.1 mv_s3.2 h)
  rw [show bs bobT = ⟨#[98, 111, 98]⟩ from rfl, show bs [97] = ⟨#[97]⟩ from rfl, show bs [99] = ⟨#[99]⟩ from rfl] at CS
  refine CS.mono ?_
  rintro e w7 ⟨v7, rfl, hb⟩
  have HB7 := hide (below_to HB6.out (Nat.le_refl _) hb)
  clear hb CS
  go_wp2_with fail
  go_ret
  exact ⟨rfl, HB7.out⟩
end Go.Proofs.YtgdgdhpmjkefjaaGreatDoor

/- Walks of package forward: Parse at the text of a proper order. -/
set_option linter.unusedVariables false
set_option linter.unusedSimpArgs false
namespace Go.Proofs.YtgdgdhpmjkefjaaGreatDoor
open Go.RowKit Go.Shelf

set_option maxRecDepth 100000 in
set_option maxHeartbeats 4000000 in
theorem oParse_any (o : Od) (ho : OkO o) (w : World) (hg : GlobD w) : Calls Tryz.prog 10 #[.string (bs (orderT o))] w fun e w' => e = .returned (.tuple #[.agg #[.string (bs o.i), .string (bs o.p), .string (bs o.f), .string (bs o.t), .int .i64 o.a, .int .i64 o.b], .int .i64 0]) ∧ Below w.heap.size w w' := by
  obtain ⟨p1, p2, p3⟩ := per_facts ho.per
  have HB := hide (below_one w (.cells #[.string ⟨#[]⟩, .string ⟨#[]⟩, .string ⟨#[]⟩, .string ⟨#[]⟩, .int .i64 0, .int .i64 0] 39))
  have HG := hide (hg.alloc (.cells #[.string ⟨#[]⟩, .string ⟨#[]⟩, .string ⟨#[]⟩, .string ⟨#[]⟩, .int .i64 0, .int .i64 0] 39))
  have HK := hide (Blk.new w 39 #[.string ⟨#[]⟩, .string ⟨#[]⟩, .string ⟨#[]⟩, .string ⟨#[]⟩, .int .i64 0, .int .i64 0])
  have hlen := order_len ho
  have CS := fun w hg => sSplit_any 32 (orderT o) (by omega) w hg
  rw [order_split ho] at CS
  have hL7 : (orderL o).length = 7 := rfl
  rw [hL7] at CS
  have HTX := hide (fun w hg => oText_any o ho w hg)
  have e0 : ((bs (orderT o)).toList == (bs (orderT o)).toList) = true := by simp
  clear hg hlen
  go_enter Tryz.func10, Tryz.ntmps10
  go_upto_region 1 with fail
  generalize w.alloc (.cells #[.string ⟨#[]⟩, .string ⟨#[]⟩, .string ⟨#[]⟩, .string ⟨#[]⟩, .int .i64 0, .int .i64 0] 39) = w1 at *
  obtain ⟨b2, hb2⟩ : ∃ b, Hid (w.heap.size = b) := ⟨_, rfl⟩
  rw [hb2.out] at HK ⊢
  go_wp2_with fail
  refine (CS w1 HG.out.g).mono ?_
  rintro e w2 ⟨gb, c, rfl, hgb, hT, hb⟩
  have HB2 := hide (below_to HB.out (Nat.le_refl _) hb)
  have HG2 := hide (HG.out.to hb)
  have HK2 := hide (HK.out.to hb)
  have tx : ∀ (j : Nat) x, (orderL o)[j]? = some x → w2.cell? ⟨gb, j, none⟩ = some (.string (bs x)) := fun j x hx => by
    obtain ⟨aa, ea, ha0, ac⟩ := hT.at_ hx
    cases ea
    rw [add_zero_off] at ac
    exact ac
  have t1 := tx 1 _ rfl
  have t2 := tx 2 _ rfl
  have t3 := tx 3 _ rfl
  have t4 := tx 4 _ rfl
  have t5 := tx 5 _ rfl
  have t6 := tx 6 _ rfl
  have hgl : gb < w2.heap.size := by
    obtain ⟨aa, ea, ha0, ac⟩ := hT.at_ (show (orderL o)[1]? = some _ from rfl)
    cases ea
    exact ha0
  have hgn : gb ≠ w2.heap.size := Nat.ne_of_lt hgl
  have HT := hide hT
  clear hT hb tx CS
  go_wp2_with fail
  go_region
  have HK3 := hide ((Blk.new w2 39 #[.string (bs o.i), .string (bs o.p), .string (bs o.f), .string (bs o.t), .int .i64 0, .int .i64 (-1)]).drew)
  have HW3 : Hid (Below w2.heap.size w2 (w2.alloc (.cells #[.string (bs o.i), .string (bs o.p), .string (bs o.f), .string (bs o.t), .int .i64 0, .int .i64 (-1)] 39)).drew) := below_drewN (below_one w2 _) 1
  generalize (w2.alloc (.cells #[.string (bs o.i), .string (bs o.p), .string (bs o.f), .string (bs o.t), .int .i64 0, .int .i64 (-1)] 39)).drew = w3 at *
  have hb2l : b2 < w2.heap.size := HK2.out.lt
  obtain ⟨b5, hb5⟩ : ∃ b, Hid (w2.heap.size = b) := ⟨_, rfl⟩
  rw [hb5.out] at HK3 ⊢
  have hne : b2 ≠ b5 := by have := hb5.out; omega
  have hne' : b5 ≠ b2 := fun h => hne h.symm
  have HB3 := hide (below_to HB2.out (Nat.le_refl _) HW3.out)
  have HG3 := hide (HG2.out.to HW3.out)
  have HK23 := hide (HK2.out.to HW3.out)
  have HT3 := hide (HT.out.to HW3.out)
  have hda : o.a.toNat ≤ 100000 := by omega
  have eda : ((o.a.toNat : Nat) : Int) = o.a := by omega
  clear t1 t2 t3 t4 t5 t6 hgl hgn hb2l hgb
  obtain ⟨U, hU, g, u0, rfl, hgu, hi⟩ := cls w3
  have CD := cls_call hgu hi (fun w' hb => dParse_any o.a.toNat hda w' (HG3.out.to hb))
  rw [eda] at CD
  have tx : ∀ (u : U) (j : Nat) x, (orderL o)[j]? = some x → (g u).cell? ⟨gb, j, none⟩ = some (.string (bs x)) := fun u j x hx => by
    obtain ⟨aa, ea, ha0, ac⟩ := (HT3.out.to (hgu u)).at_ hx
    cases ea
    rw [add_zero_off] at ac
    exact ac
  have t5 := fun u => tx u 5 _ rfl
  have r4 := blk_all hgu HK3.out 4 rfl
  have f5 : ∀ u i, (g u).frozen? ⟨b5, i, none⟩ = false := fun u i => (HK3.out.to (hgu u)).frozen i
  have HGU := hide hgu
  clear tx hgu hi
  go_upto_region 6 with ((with_reducible refine (CD _).mono ?_); rintro e w' ⟨rfl, u, rfl⟩)
  have HK4 : Hid (Blk ((g u).setCell ⟨b5, 4, none⟩ (.int .i64 o.a)) b5 39 #[.string (bs o.i), .string (bs o.p), .string (bs o.f), .string (bs o.t), .int .i64 o.a, .int .i64 (-1)]) := (HK3.out.to (HGU.out u)).set_ 4 _
  have HK24 : Hid (Blk ((g u).setCell ⟨b5, 4, none⟩ (.int .i64 o.a)) b2 39 #[.string ⟨#[]⟩, .string ⟨#[]⟩, .string ⟨#[]⟩, .string ⟨#[]⟩, .int .i64 0, .int .i64 0]) := (HK23.out.to (HGU.out u)).far hne _
  have HW4 : Hid (Below b5 w2 ((g u).setCell ⟨b5, 4, none⟩ (.int .i64 o.a))) := (hb5.out ▸ (HW3.out.trans ((HGU.out u).mono HW3.out.size)) : Below b5 w2 (g u)).setCell (p := ⟨b5, 4, none⟩) (Nat.le_refl _) _
  have HW4' : Hid (Below w2.heap.size w2 ((g u).setCell ⟨b5, 4, none⟩ (.int .i64 o.a))) := by show Below _ _ _; rw [hb5.out]; exact HW4.out
  have HT4 := hide ((HT.out).to HW4'.out)
  have HG4 : Hid (GlobD ((g u).setCell ⟨b5, 4, none⟩ (.int .i64 o.a))) := HG2.out.to HW4'.out
  generalize (g u).setCell ⟨b5, 4, none⟩ (.int .i64 o.a) = w4 at *
  clear HGU f5 r4 t5 CD HT3 HK23 HG3 HB3 HK3 HW3 HW4'
  have HB5LE4 : Hid (b5 ≤ w4.heap.size) := Nat.le_of_lt HK4.out.lt
  rcases p3 with hbm | ⟨q1, q2⟩
  · have t6 : w4.cell? ⟨gb, 6, none⟩ = some (.string ⟨#[45]⟩) := by
      obtain ⟨aa, ea, ha0, ac⟩ := HT4.out.at_ (show (orderL o)[6]? = some (untilT o.b) from rfl)
      cases ea
      rw [add_zero_off] at ac
      rw [ac]
      unfold untilT
      rw [if_pos (by omega)]; rfl
    have CT : ∀ w', Below w4.heap.size w4 w' → Calls Tryz.prog 16 #[.agg #[.string (bs o.i), .string (bs o.p), .string (bs o.f), .string (bs o.t), .int .i64 o.a, .int .i64 (-1)]] w' fun e w'' => e = .returned (.tuple #[.string (bs (orderT o)), .int .i64 0]) ∧ Below w'.heap.size w' w'' := fun w' hb => by
      have := HTX.out w' (HG4.out.to hb).g
      rw [hbm] at this
      exact this
    have HBM := hide hbm
    have K := HK4
    have K2 := HK24
    have WB := HW4
    clear HK4 HK24 HW4 HT4 hbm HTX HG4
    obtain ⟨V, hV, q, v0, rfl, hgq, hiq⟩ := cls w4
    have KB := K.out
    have KZ := K2.out
    have WBB := WB.out
    clear K K2 WB
    have CTq := cls_call hgq hiq CT
    have s0 := blk_all hgq KB 0 rfl
    have s1 := blk_all hgq KB 1 rfl
    have s2 := blk_all hgq KB 2 rfl
    have s3 := blk_all hgq KB 3 rfl
    have s4 := blk_all hgq KB 4 rfl
    have s5 := blk_all hgq KB 5 rfl
    have z0 := blk_all hgq KZ 0 rfl
    have z1 := blk_all hgq KZ 1 rfl
    have z2 := blk_all hgq KZ 2 rfl
    have z3 := blk_all hgq KZ 3 rfl
    have z4 := blk_all hgq KZ 4 rfl
    have z5 := blk_all hgq KZ 5 rfl
    have fz : ∀ v i, (q v).frozen? ⟨b2, i, none⟩ = false := fun v i => (KZ.to (hgq v)).frozen i
    have HGQ := hide hgq
    have hb5le := HB5LE4.out
    have HKZ := hide KZ
    have HWB := hide WBB
    clear hgq hiq CT KB KZ WBB
    go_wp2_with ((with_reducible refine (CTq _).mono ?_); rintro e w' ⟨rfl, uz, rfl⟩)
    have hbk := ((((((HKZ.out.to (HGQ.out uz)).set_ 0 (.string (bs o.i))).set_ 1 (.string (bs o.p))).set_ 2 (.string (bs o.f))).set_ 3 (.string (bs o.t))).set_ 4 (.int .i64 o.a)).set_ 5 (.int .i64 (-1))
    refine bodyPost_ret (results_c1 (p := 2) (u := 3) rfl _ _ b2 39 _ _ rfl hbk Tryz.underlying39 rfl (by kernel_rfl)) rfl ⟨by rw [HBM.out]; rfl, ?_⟩
    have hfin : Below w.heap.size w (q uz) := HB2.out.trans ((HWB.out.trans ((HGQ.out uz).mono hb5le)).mono (by rw [← hb5.out]; exact HB2.out.size))
    exact (((((hfin.setCell (p := ⟨b2, 0, none⟩) (Nat.le_of_eq hb2.out) _).setCell (p := ⟨b2, 1, none⟩) (Nat.le_of_eq hb2.out) _).setCell (p := ⟨b2, 2, none⟩) (Nat.le_of_eq hb2.out) _).setCell (p := ⟨b2, 3, none⟩) (Nat.le_of_eq hb2.out) _).setCell (p := ⟨b2, 4, none⟩) (Nat.le_of_eq hb2.out) _).setCell (p := ⟨b2, 5, none⟩) (Nat.le_of_eq hb2.out) _
  · have hdb : o.b.toNat ≤ 100000 := by omega
    have edb : ((o.b.toNat : Nat) : Int) = o.b := by omega
    have t6 : w4.cell? ⟨gb, 6, none⟩ = some (.string (bs (dateT o.b.toNat))) := by
      obtain ⟨aa, ea, ha0, ac⟩ := HT4.out.at_ (show (orderL o)[6]? = some (untilT o.b) from rfl)
      cases ea
      rw [add_zero_off] at ac
      rw [ac]
      unfold untilT
      rw [if_neg (by omega)]
    have e6 : ((bs (dateT o.b.toNat)).toList == (⟨#[45]⟩ : ByteArray).toList) = false := by
      rw [beq_eq_false_iff_ne, bs_toList, show (⟨#[45]⟩ : ByteArray).toList = [45] from bs_toList [45]]
      intro h
      have := (date_len hdb).1
      rw [h] at this
      simp at this
    have e6' : ((bs (dateT o.b.toNat)).toList == [45]) = false := by rw [← e6, show (⟨#[45]⟩ : ByteArray).toList = [45] from bs_toList [45]]
    have CD4 : Calls Tryz.prog 31 #[.string (bs (dateT o.b.toNat))] w4 fun e w' => e = .returned (.tuple #[.int .i64 o.b, .int .i64 0]) ∧ Below w4.heap.size w4 w' := by
      have := dParse_any o.b.toNat hdb w4 HG4.out
      rw [edb] at this
      exact this
    have HEB := hide edb
    clear q1 q2 edb
    have hgl : gb < w4.heap.size := by
      obtain ⟨aa, ea, ha0, ac⟩ := HT4.out.at_ (show (orderL o)[6]? = some (untilT o.b) from rfl)
      cases ea
      exact ha0
    go_upto_region 7 with fail
    have HW4c := HW4
    obtain ⟨U2, hU2, g2, u2, rfl, hgu2, hi2⟩ := cls w4
    have CDg := cls_call hgu2 hi2 (fun w' hb => dParse_any o.b.toNat hdb w' (HG4.out.to hb))
    rw [HEB.out] at CDg
    have t6g : ∀ u, (g2 u).cell? ⟨gb, 6, none⟩ = some (.string (bs (dateT o.b.toNat))) := fun u => by rw [(hgu2 u).cell hgl]; exact t6
    have r5 := blk_all hgu2 HK4.out 5 rfl
    have f5 : ∀ u i, (g2 u).frozen? ⟨b5, i, none⟩ = false := fun u i => (HK4.out.to (hgu2 u)).frozen i
    have HGU := hide hgu2
    clear hgu2 hi2 t6 hgl CD4
    go_upto_region 8 with ((with_reducible refine (CDg _).mono ?_); rintro e w' ⟨rfl, u, rfl⟩)
    have K : Hid (Blk ((g2 u).setCell ⟨b5, 5, none⟩ (.int .i64 o.b)) b5 39 #[.string (bs o.i), .string (bs o.p), .string (bs o.f), .string (bs o.t), .int .i64 o.a, .int .i64 o.b]) := (HK4.out.to (HGU.out u)).set_ 5 _
    have K2 : Hid (Blk ((g2 u).setCell ⟨b5, 5, none⟩ (.int .i64 o.b)) b2 39 #[.string ⟨#[]⟩, .string ⟨#[]⟩, .string ⟨#[]⟩, .string ⟨#[]⟩, .int .i64 0, .int .i64 0]) := (HK24.out.to (HGU.out u)).far hne _
    have WB : Hid (Below b5 w2 ((g2 u).setCell ⟨b5, 5, none⟩ (.int .i64 o.b))) := (HW4.out.trans ((HGU.out u).mono (Nat.le_of_lt HK4.out.lt))).setCell (p := ⟨b5, 5, none⟩) (Nat.le_refl _) _
    have HG5 : Hid (GlobD ((g2 u).setCell ⟨b5, 5, none⟩ (.int .i64 o.b))) := HG2.out.to (by rw [hb5.out]; exact WB.out)
    generalize (g2 u).setCell ⟨b5, 5, none⟩ (.int .i64 o.b) = w5 at *
    have CT : ∀ w', Below w5.heap.size w5 w' → Calls Tryz.prog 16 #[.agg #[.string (bs o.i), .string (bs o.p), .string (bs o.f), .string (bs o.t), .int .i64 o.a, .int .i64 o.b]] w' fun e w'' => e = .returned (.tuple #[.string (bs (orderT o)), .int .i64 0]) ∧ Below w'.heap.size w' w'' := fun w' hb => HTX.out w' (HG5.out.to hb).g
    have HB5LE5 : Hid (b5 ≤ w5.heap.size) := Nat.le_of_lt K.out.lt
    clear HK4 HK24 HW4 HW4c HT4 HTX HG4 HG5 HGU f5 r5 t6g CDg e6 HB5LE4
    obtain ⟨V, hV, q, v0, rfl, hgq, hiq⟩ := cls w5
    have KB := K.out
    have KZ := K2.out
    have WBB := WB.out
    clear K K2 WB
    have CTq := cls_call hgq hiq CT
    have s0 := blk_all hgq KB 0 rfl
    have s1 := blk_all hgq KB 1 rfl
    have s2 := blk_all hgq KB 2 rfl
    have s3 := blk_all hgq KB 3 rfl
    have s4 := blk_all hgq KB 4 rfl
    have s5 := blk_all hgq KB 5 rfl
    have z0 := blk_all hgq KZ 0 rfl
    have z1 := blk_all hgq KZ 1 rfl
    have z2 := blk_all hgq KZ 2 rfl
    have z3 := blk_all hgq KZ 3 rfl
    have z4 := blk_all hgq KZ 4 rfl
    have z5 := blk_all hgq KZ 5 rfl
    have fz : ∀ v i, (q v).frozen? ⟨b2, i, none⟩ = false := fun v i => (KZ.to (hgq v)).frozen i
    have HGQ := hide hgq
    have hb5le := HB5LE5.out
    have HKZ := hide KZ
    have HWB := hide WBB
    clear hgq hiq CT KB KZ WBB
    go_wp2_with ((with_reducible refine (CTq _).mono ?_); rintro e w' ⟨rfl, uz, rfl⟩)
    have hbk := ((((((HKZ.out.to (HGQ.out uz)).set_ 0 (.string (bs o.i))).set_ 1 (.string (bs o.p))).set_ 2 (.string (bs o.f))).set_ 3 (.string (bs o.t))).set_ 4 (.int .i64 o.a)).set_ 5 (.int .i64 o.b)
    refine bodyPost_ret (results_c1 (p := 2) (u := 3) rfl _ _ b2 39 _ _ rfl hbk Tryz.underlying39 rfl (by kernel_rfl)) rfl ⟨by rfl, ?_⟩
    have hfin : Below w.heap.size w (q uz) := HB2.out.trans ((HWB.out.trans ((HGQ.out uz).mono hb5le)).mono (by rw [← hb5.out]; exact HB2.out.size))
    exact (((((hfin.setCell (p := ⟨b2, 0, none⟩) (Nat.le_of_eq hb2.out) _).setCell (p := ⟨b2, 1, none⟩) (Nat.le_of_eq hb2.out) _).setCell (p := ⟨b2, 2, none⟩) (Nat.le_of_eq hb2.out) _).setCell (p := ⟨b2, 3, none⟩) (Nat.le_of_eq hb2.out) _).setCell (p := ⟨b2, 4, none⟩) (Nat.le_of_eq hb2.out) _).setCell (p := ⟨b2, 5, none⟩) (Nat.le_of_eq hb2.out) _
end Go.Proofs.YtgdgdhpmjkefjaaGreatDoor

/- The walk of the statement TopErased. -/
set_option linter.unusedVariables false
set_option linter.unusedSimpArgs false
namespace Go.Proofs.YtgdgdhpmjkefjaaGreatDoor
open Go.RowKit Go.Shelf

theorem odq_no (x : Od) (w : World) : (binOp .neq 39 (.agg #[.string (bs x.i), .string (bs x.p), .string (bs x.f), .string (bs x.t), .int .i64 x.a, .int .i64 x.b]) (.agg #[.string (bs x.i), .string (bs x.p), .string (bs x.f), .string (bs x.t), .int .i64 x.a, .int .i64 x.b])).run Tryz.prog w = .ok (.bool false) w := by
  rw [run_neq_struct]
  go_simp
set_option maxRecDepth 100000 in
set_option maxHeartbeats 4000000 in
theorem Texts_any (a b : List (List UInt8)) (ha : a.length ≤ 1000000000) (hb : b.length ≤ 1000000000) (v u : Value) (w : World) (hv : TextsAt w v a) (hu : TextsAt w u b) : Calls Tryz.prog 13 #[v, u] w fun e w' => e = .returned (.bool (decide (a = b))) ∧ Below w.heap.size w w' := by
  obtain ⟨A, c, rfl, _⟩ := hv.slice
  obtain ⟨B, d, rfl, _⟩ := hu.slice
  have HS := hide hv
  have HU := hide hu
  clear hv hu
  by_cases hab : a.length = b.length
  · have HAB := hide hab
    rw [← hab] at HU hb ⊢
    clear hab
    go_enter Tryz.func13, Tryz.ntmps13
    go_wp2_with fail
    go_loopw [5] (fun i wr => ∃ k : Nat, i = .int .i64 (k : Int) ∧ k ≤ a.length ∧ Aside (Below w.heap.size w wr) ∧ Aside (a.take k = b.take k)) (fun i _ => a.length - (intOf i).toNat)
    case atStart => exact ⟨0, rfl, by omega, Below.refl _ _, rfl⟩
    case round =>
      obtain ⟨k, rfl, hk, hB, hT⟩ := hrel
      have HB : Hid (Below w.heap.size w wr) := hB
      have HT : Hid (a.take k = b.take k) := hT
      clear hB hT
      by_cases hlt : k < a.length
      · have e1 : decide ((k : Int) < (a.length : Int)) = true := decide_eq_true (by omega)
        obtain ⟨x, hx⟩ : ∃ x, a[k]? = some x := ⟨_, List.getElem?_eq_getElem hlt⟩
        obtain ⟨y, hy⟩ : ∃ y, b[k]? = some y := ⟨_, List.getElem?_eq_getElem (by have := HAB.out; omega)⟩
        obtain ⟨aa, rfl, ha0, c0⟩ := (HS.out.to HB.out).at_ hx
        obtain ⟨ba, rfl, hb0, d0⟩ := (HU.out.to HB.out).at_ hy
        have i0 : (0 : Int) ≤ (k : Int) := by omega
        have i1 : (k : Int) < (a.length : Int) := by omega
        by_cases hxy : x = y
        · have HN : Hid (a.take (k + 1) = b.take (k + 1)) := by show _ = _; rw [List.take_add_one, List.take_add_one, hx, hy, HT.out, hxy]
          subst hxy
          have q : ((bs x).toList == (bs x).toList) = true := by simp
          clear hx hy
          go_wp2_with fail
          go_quiet (fail)
          go_wp2_with fail
          refine ⟨⟨k + 1, by go_num, by omega, below_drewN HB.out _, HN.out⟩, ?_⟩
          simp [intOf]; omega
        · have HN : Hid (decide (a = b) = false) := by
            show _ = _
            apply decide_eq_false
            rintro rfl
            exact hxy (Option.some.inj (hx.symm.trans hy))
          have q : ((bs x).toList == (bs y).toList) = false := by rw [beq_eq_false_iff_ne, bs_toList, bs_toList]; exact hxy
          clear hx hy hxy
          go_wp2_with fail
          go_quiet (fail)
          go_wp2_with fail
          go_ret
          exact ⟨ret_bool (by rw [HN.out]), below_drewN HB.out _⟩
      · obtain rfl : k = a.length := by omega
        have e1 : decide ((a.length : Int) < (a.length : Int)) = false := by simp
        have HN : Hid (decide (a = b) = true) := by
          show _ = _
          apply decide_eq_true
          have := HT.out
          rwa [List.take_length, HAB.out, List.take_length] at this
        go_wp2_with fail
        go_ret
        exact ⟨ret_bool (by rw [HN.out]), HB.out⟩
  · have HN : Hid (decide (a = b) = false) := by
      show _ = _
      apply decide_eq_false
      rintro rfl
      exact hab rfl
    have e1 : ((a.length : Int) == (b.length : Int)) = false := by rw [beq_eq_false_iff_ne]; omega
    have e2 : (a.length == b.length) = false := by rw [beq_eq_false_iff_ne]; exact hab
    clear hab
    go_enter Tryz.func13, Tryz.ntmps13
    go_wp2_with fail
    go_ret
    exact ⟨ret_bool (by rw [HN.out]), Below.refl _ _⟩
theorem hits_orders (l : List Od) (q : List UInt8) : hitsP (l.map lineO) q + (ordersP l q).length = l.length := by
  induction l with
  | nil => rfl
  | cons o r ih =>
    unfold hitsP ordersP at ih ⊢
    rw [List.map_cons, List.filter_cons, List.filter_cons]
    have e : (lineO o).p = o.p := rfl
    rw [e]
    by_cases h : o.p = q
    · simp [h]
      omega
    · simp [h]
      omega
theorem orders_take {l : List Od} {q : List UInt8} {k : Nat} {o : Od} (h : l[k]? = some o) : ordersP (l.take (k + 1)) q = if o.p = q then ordersP (l.take k) q else ordersP (l.take k) q ++ [o] := by
  unfold ordersP
  rw [List.take_add_one, h, List.filter_append]
  by_cases hp : o.p = q
  · simp [hp]
  · simp [hp]
theorem orders_at {l : List Od} {q : List UInt8} {k : Nat} {o : Od} (h : l[k]? = some o) (hp : o.p ≠ q) : (ordersP l q)[(ordersP (l.take k) q).length]? = some o := by
  have e : ordersP l q = ordersP (l.take k) q ++ ordersP (l.drop k) q := by unfold ordersP; rw [← List.filter_append, List.take_append_drop]
  have hd : l.drop k = o :: l.drop (k + 1) := by
    obtain ⟨h1, h2⟩ := List.getElem?_eq_some_iff.1 h
    rw [List.drop_eq_getElem_cons h1, h2]
  rw [e, List.getElem?_append_right (Nat.le_refl _), Nat.sub_self, hd]
  unfold ordersP
  rw [List.filter_cons_of_pos (by simpa using hp)]; rfl
theorem less_at {l : List Od} {q : List UInt8} {k : Nat} {o : Od} (h : l[k]? = some o) : (eraseP (l.map lineO) q)[k]? = some (if o.p = q then er (lineO o) else lineO o) := by
  rw [erase_at, List.getElem?_map, h]; rfl
theorem settleF_len (F : List UInt8 → Option Od) : ∀ (n : Nat) (way : List Od) (x : List UInt8), (settleF F n way x).2.length ≤ way.length + n
  | 0, way, x => Nat.le_refl _
  | n + 1, way, x => by
    unfold settleF
    split
    · show way.length ≤ _; omega
    · split
      · show way.length ≤ _; omega
      · rename_i o _
        have := settleF_len F n (way ++ [o]) o.t
        rw [List.length_append, List.length_singleton] at this
        omega
theorem setI_len (l : List Od) (p door : List UInt8) (day : Int) : (setI l p door day).length ≤ 1000000000 := by
  unfold setI settleR
  split
  · rw [List.length_map]
    have := settleF_len (fun x => cand p day x l) 2000 [] door
    simp at this
    omega
  · show (0 : Nat) ≤ _; omega
theorem kept_le (l : List Od) (q : List UInt8) : (ordersP l q).length ≤ l.length := List.length_filter_le _ _
set_option maxRecDepth 100000 in
set_option maxHeartbeats 16000000 in
theorem Erased_any (l : List Od) (hf : ∀ o ∈ l, o.fit) (hl : l.length ≤ 8796093022208) (q r d : List UInt8) (hq0 : q.length ≤ 140737488355328) (hr0 : r.length ≤ 140737488355328) (hd0 : d.length ≤ 140737488355328) (day : Int) (v : Value) (w : World) (hv : OdsAt w v l) (hg : GlobD w) :
    Calls Tryz.prog 3 #[v, .string (bs q), .string (bs r), .string (bs d), .int .i64 day] w fun e w' => e = .returned (.bool true) ∧ Below w.heap.size w w' := by
  obtain ⟨Ao, co, rfl⟩ := hv.slice
  have HB0 := hide (Below.refl w.heap.size w)
  have HO0 := hide hv
  have HG := hide hg
  have HF := hide hf
  clear hv hg hf
  have CMV := Moved_any w HG.out.g
  by_cases g1 : 12 < l.length
  · have e1 : decide ((12 : Int) < (l.length : Int)) = true := decide_eq_true (by omega)
    clear g1
    go_enter Tryz.func3, Tryz.ntmps3
    go_wp2_with (first | ((with_reducible refine CMV.mono ?_); rintro e w' ⟨rfl, hb⟩; have HBV := hide hb; clear hb) | ((with_reducible refine (CPV _ HBV.out).mono ?_); rintro e w' ⟨rfl, hb⟩; have HBW := hide (below_to HBV.out (Nat.le_refl _) hb); clear hb))
    go_ret
    first | exact ⟨rfl, HBW.out⟩ | exact ⟨rfl, HBV.out⟩
  by_cases g2 : 100 < q.length
  · have e1 : decide ((12 : Int) < (l.length : Int)) = false := decide_eq_false (by omega)
    have z2 := bs_size q
    have e2 : decide ((100 : Int) < ((bs q).size : Int)) = true := decide_eq_true (by omega)
    have e2' : decide ((100 : Int) < (q.length : Int)) = true := decide_eq_true (by omega)
    clear g1 g2
    go_enter Tryz.func3, Tryz.ntmps3
    go_wp2_with (first | ((with_reducible refine CMV.mono ?_); rintro e w' ⟨rfl, hb⟩; have HBV := hide hb; clear hb) | ((with_reducible refine (CPV _ HBV.out).mono ?_); rintro e w' ⟨rfl, hb⟩; have HBW := hide (below_to HBV.out (Nat.le_refl _) hb); clear hb))
    go_ret
    first | exact ⟨rfl, HBW.out⟩ | exact ⟨rfl, HBV.out⟩
  by_cases g3 : 100 < r.length
  · have e1 : decide ((12 : Int) < (l.length : Int)) = false := decide_eq_false (by omega)
    have z2 := bs_size q
    have e2 : decide ((100 : Int) < (q.length : Int)) = false := decide_eq_false (by omega)
    have z3 := bs_size r
    have e3 : decide ((100 : Int) < (r.length : Int)) = true := decide_eq_true (by omega)
    clear g1 g2 g3
    go_enter Tryz.func3, Tryz.ntmps3
    go_wp2_with (first | ((with_reducible refine CMV.mono ?_); rintro e w' ⟨rfl, hb⟩; have HBV := hide hb; clear hb) | ((with_reducible refine (CPV _ HBV.out).mono ?_); rintro e w' ⟨rfl, hb⟩; have HBW := hide (below_to HBV.out (Nat.le_refl _) hb); clear hb))
    go_ret
    first | exact ⟨rfl, HBW.out⟩ | exact ⟨rfl, HBV.out⟩
  by_cases g4 : 100 < d.length
  · have e1 : decide ((12 : Int) < (l.length : Int)) = false := decide_eq_false (by omega)
    have z2 := bs_size q
    have e2 : decide ((100 : Int) < (q.length : Int)) = false := decide_eq_false (by omega)
    have z3 := bs_size r
    have e3 : decide ((100 : Int) < (r.length : Int)) = false := decide_eq_false (by omega)
    have z4 := bs_size d
    have e4 : decide ((100 : Int) < (d.length : Int)) = true := decide_eq_true (by omega)
    clear g1 g2 g3 g4
    go_enter Tryz.func3, Tryz.ntmps3
    go_wp2_with (first | ((with_reducible refine CMV.mono ?_); rintro e w' ⟨rfl, hb⟩; have HBV := hide hb; clear hb) | ((with_reducible refine (CPV _ HBV.out).mono ?_); rintro e w' ⟨rfl, hb⟩; have HBW := hide (below_to HBV.out (Nat.le_refl _) hb); clear hb))
    go_ret
    first | exact ⟨rfl, HBW.out⟩ | exact ⟨rfl, HBV.out⟩
  have e1 : decide ((12 : Int) < (l.length : Int)) = false := decide_eq_false (by omega)
  have z2 := bs_size q
  have e2 : decide ((100 : Int) < (q.length : Int)) = false := decide_eq_false (by omega)
  have z3 := bs_size r
  have e3 : decide ((100 : Int) < (r.length : Int)) = false := decide_eq_false (by omega)
  have z4 := bs_size d
  have e4 : decide ((100 : Int) < (d.length : Int)) = false := decide_eq_false (by omega)
  have CPV := fun (w' : World) (hb : Below w.heap.size w w') => Proper_any l HF.out (by omega) _ w' (HO0.out.to hb)
  have hl12 : l.length ≤ 12 := by omega
  have hq1 : q.length ≤ 100 := by omega
  have hr1 : r.length ≤ 100 := by omega
  have hd1 : d.length ≤ 100 := by omega
  clear g1 g2 g3 g4
  cases hP : properL l with
  | false =>
    rw [hP] at CPV
    clear hP
    go_enter Tryz.func3, Tryz.ntmps3
    go_wp2_with (first | ((with_reducible refine CMV.mono ?_); rintro e w' ⟨rfl, hb⟩; have HBV := hide hb; clear hb) | ((with_reducible refine (CPV _ HBV.out).mono ?_); rintro e w' ⟨rfl, hb⟩; have HBW := hide (below_to HBV.out (Nat.le_refl _) hb); clear hb))
    go_ret
    first | exact ⟨rfl, HBW.out⟩ | exact ⟨rfl, HBV.out⟩
  | true =>
    rw [hP] at CPV
    have HPR := hide hP
    have HOK := hide (proper_ok hP)
    have HLV := hide (log_valid (proper_ok hP) (by omega))
    have HLF := hide (log_fit (proper_ok hP))
    have HLD := hide (log_dig (proper_ok hP))
    have hll : (l.map lineO).length = l.length := List.length_map _
    clear hP
    go_enter Tryz.func3, Tryz.ntmps3
    go_wp2_with fail
    refine CMV.mono ?_
    rintro e w1 ⟨rfl, hb⟩
    have HB1 := hide (below_to HB0.out (Nat.le_refl _) hb)
    have HO1 := hide (HO0.out.to hb)
    clear hb HO0
    have CP := CPV w1 HB1.out
    go_wp2_with fail
    refine CP.mono ?_
    rintro e w2 ⟨rfl, hb⟩
    clear CP CPV CMV
    have HB2 := hide (below_to HB1.out (Nat.le_refl _) hb)
    have HO2 := hide (HO1.out.to hb)
    clear hb HO1
    have CL := Logged_any l HOK.out (by omega) _ w2 HO2.out (HG.out.to HB2.out).g
    go_wp2_with fail
    refine CL.mono ?_
    rintro e w3 ⟨vl, rfl, hL, hb⟩
    have HL3 := hide hL
    clear hL CL
    have HB3 := hide (below_to HB2.out (Nat.le_refl _) hb)
    have HO3 := hide (HO2.out.to hb)
    clear hb HO2
    have CE := Erase_any (l.map lineO) HLF.out (by omega) q (by omega) vl w3 HL3.out (HG.out.to HB3.out).g
    have HOA : Hid (okA (l.map lineO) q = isNm q) := by show _ = _; unfold okA; rw [HLV.out]; rfl
    cases hq : isNm q with
    | false =>
      rw [hq] at HOA
      unfold EraseR at CE
      rw [HOA.out, show errE false = 1 from rfl] at CE
      go_wp2_with fail
      refine CE.mono ?_
      rintro e w4 ⟨ve, rfl, hE, hb⟩
      have HB4 := hide (below_to HB3.out (Nat.le_refl _) hb)
      clear hE hb CE
      go_wp2_with fail
      go_ret
      exact ⟨rfl, HB4.out⟩
    | true =>
      rw [hq] at HOA
      have HQ := hide hq
      clear hq
      unfold EraseR eraseV hitsV at CE
      rw [HOA.out, if_pos rfl, if_pos rfl, show errE true = 0 from rfl] at CE
      go_wp2_with fail
      refine CE.mono ?_
      rintro e w4 ⟨ve, rfl, hE, hb⟩
      have hE' := hE
      obtain ⟨Ae, ce, rfl⟩ := hE'.slice
      have hel : (eraseP (l.map lineO) q).length = l.length := by rw [erase_len, hll]
      rw [hel] at hE' ⊢
      have HE4 := hide hE'
      clear hE hE' CE
      have HB4 := hide (below_to HB3.out (Nat.le_refl _) hb)
      have HO4 := hide (HO3.out.to hb)
      have HL4 := hide (HL3.out.to hb)
      clear hb HO3 HL3
      have HEF : Hid (∀ x ∈ eraseP (l.map lineO) q, x.fit) := fun x hx => by
        obtain ⟨y, hy, rfl⟩ := List.mem_map.1 hx
        have := HLF.out y hy
        split
        · exact ⟨by show (0 : Nat) ≤ _; omega, by show (0 : Nat) ≤ _; omega, by show (0 : Nat) ≤ _; omega, this.d⟩
        · exact this
      have HED : Hid (∀ x ∈ eraseP (l.map lineO) q, x.d.length ≤ 100000000000) := fun x hx => by
        obtain ⟨y, hy, rfl⟩ := List.mem_map.1 hx
        have := HLD.out y hy
        split <;> exact this
      have HEV := hide (valid_erase (q := q) HLV.out)
      have CO := Orders_any l (by omega) q _ w4 HO4.out
      go_wp2_with fail
      refine CO.mono ?_
      rintro e w5 ⟨vk, rfl, hK, hb⟩
      obtain ⟨Ak, ck, rfl⟩ := hK.slice
      have HK5 := hide hK
      clear hK CO
      have HB5 := hide (below_to HB4.out (Nat.le_refl _) hb)
      have HO5 := hide (HO4.out.to hb)
      have HL5 := hide (HL4.out.to hb)
      have HE5 := hide (HE4.out.to hb)
      clear hb HO4 HL4 HE4
      have HKF : Hid (∀ o ∈ ordersP l q, o.fit) := kept_fit HF.out
      have HKP := hide (proper_filter q HPR.out)
      have hkl := kept_le l q
      have HHO := hide (hits_orders l q)
      have CR := Root_any (l.map lineO) HLF.out HLD.out (by omega) vl w5 HL5.out (HG.out.to HB5.out).g
      rw [HLV.out, if_pos rfl, show errE true = 0 from rfl] at CR
      go_wp2_with fail
      refine CR.mono ?_
      rintro e w6 ⟨rfl, hb⟩
      clear CR
      have HB6 := hide (below_to HB5.out (Nat.le_refl _) hb)
      have HO6 := hide (HO5.out.to hb)
      have HL6 := hide (HL5.out.to hb)
      have HE6 := hide (HE5.out.to hb)
      have HK6 := hide (HK5.out.to hb)
      clear hb HO5 HL5 HE5 HK5
      have CR := Root_any (eraseP (l.map lineO) q) HEF.out HED.out (by omega) _ w6 HE6.out (HG.out.to HB6.out).g
      rw [HEV.out, if_pos rfl, show errE true = 0 from rfl, leaves_erase] at CR
      generalize totalT (leavesP (l.map lineO)) = RT at *
      go_wp2_with fail
      refine CR.mono ?_
      rintro e w7 ⟨rfl, hb⟩
      clear CR
      have HB7 := hide (below_to HB6.out (Nat.le_refl _) hb)
      have HO7 := hide (HO6.out.to hb)
      have HL7 := hide (HL6.out.to hb)
      have HE7 := hide (HE6.out.to hb)
      have HK7 := hide (HK6.out.to hb)
      clear hb HO6 HL6 HE6 HK6
      have CP := Proper_any (ordersP l q) HKF.out (by omega) _ w7 HK7.out
      rw [HKP.out] at CP
      have eR : ((bs RT).toList == (bs RT).toList) = true := by simp
      have hsub : ((hitsP (l.map lineO) q : Nat) : Int) = (l.length : Int) - ((ordersP l q).length : Int) := by have := HHO.out; omega
      generalize hitsP (l.map lineO) q = HN at *
      obtain ⟨KN, hKN⟩ : ∃ n, Hid ((ordersP l q).length = n) := ⟨_, rfl⟩
      rw [hKN.out] at HK7 hkl hsub CP ⊢
      have esub : (((HN : Nat) : Int) == (l.length : Int) - (KN : Int)) = true := by rw [beq_iff_eq]; exact hsub
      have wsub : IntKind.i64.wrap ((l.length : Int) - (KN : Int)) = (l.length : Int) - (KN : Int) := IntWalk.i64_in _ (by omega)
      clear HHO
      go_wp2_with fail
      refine CP.mono ?_
      rintro e w8 ⟨rfl, hb⟩
      have HB8 := hide (below_to HB7.out (Nat.le_refl _) hb)
      have HO8 := hide (HO7.out.to hb)
      have HL8 := hide (HL7.out.to hb)
      have HE8 := hide (HE7.out.to hb)
      have HK8 := hide (HK7.out.to hb)
      clear hb HO7 HL7 HE7 HK7
      go_wp2_with fail
      clear CP eR esub wsub hsub
      go_loopw [22, 23] (fun kk ii wr => ∃ i : Nat, ii = .int .i64 (i : Int) ∧ kk = .int .i64 ((ordersP (l.take i) q).length : Int) ∧ i ≤ l.length ∧ Aside (Below w8.heap.size w8 wr)) (fun _ i _ => l.length - (intOf i).toNat)
      case atStart => exact ⟨0, rfl, rfl, by omega, Below.refl _ _⟩
      case round =>
        obtain ⟨i, rfl, rfl, hi, hB⟩ := hrel
        have HBr : Hid (Below w8.heap.size w8 wr) := hB
        clear hB
        by_cases hlt : i < l.length
        · have c1 : decide ((i : Int) < (l.length : Int)) = true := decide_eq_true (by omega)
          obtain ⟨o, ho⟩ : ∃ o, l[i]? = some o := ⟨_, List.getElem?_eq_getElem hlt⟩
          have hoo := HOK.out o (List.mem_of_getElem? ho)
          have HLA := hide (less_at (q := q) ho)
          have HTK := hide (orders_take (q := q) ho)
          obtain ⟨a, rfl, ha, p0, p1, p2, p3, p4, p5⟩ := OdsAt.at_ (HO8.out.to HBr.out) ho
          obtain ⟨b, rfl, hb, q0, q1, q2, q3⟩ := LnsAt.at_ (HE8.out.to HBr.out) HLA.out
          have i0 : (0 : Int) ≤ (i : Int) := by omega
          have i1 : (i : Int) < (l.length : Int) := by omega
          by_cases hp : o.p = q
          · have HTN : Hid ((ordersP (l.take (i + 1)) q).length = (ordersP (l.take i) q).length) := by show _ = _; rw [HTK.out, if_pos hp]
            rw [if_pos hp] at q0 q1 q2 q3
            have q0' : wr.cell? (b.add (i * 4)) = some (.string ⟨#[]⟩) := q0
            have q1' : wr.cell? ⟨(b.add (i * 4)).block, (b.add (i * 4)).off + 1, none⟩ = some (.string ⟨#[]⟩) := q1
            have ep : ((bs o.p).toList == (bs q).toList) = true := by rw [hp]; simp
            clear q0 q1 q2 q3 p0 p2 p3 p4 p5 hp ho
            go_wp2_with fail
            refine ⟨⟨i + 1, by go_num, by rw [HTN.out], by omega, HBr.out⟩, ?_⟩
            simp [intOf]; omega
          · have HTN : Hid ((ordersP (l.take (i + 1)) q).length = (ordersP (l.take i) q).length + 1) := by show _ = _; rw [HTK.out, if_neg hp, List.length_append]; rfl
            have HKA := orders_at (q := q) ho hp
            have hkn : (ordersP (l.take i) q).length < KN := by rw [← hKN.out]; exact (List.getElem?_eq_some_iff.1 HKA).1
            obtain ⟨ka, rfl, hka, k0, k1, k2, k3, k4, k5⟩ := OdsAt.at_ (HK8.out.to HBr.out) HKA
            rw [if_neg hp] at q0 q1 q2 q3
            have q0' : wr.cell? (b.add (i * 4)) = some (.string (bs o.p)) := q0
            have q1' : wr.cell? ⟨(b.add (i * 4)).block, (b.add (i * 4)).off + 1, none⟩ = some (.string (bs (orderT o))) := q1
            have ep : ((bs o.p).toList == (bs q).toList) = false := by rw [beq_eq_false_iff_ne, bs_toList, bs_toList]; exact hp
            have eE : ((bs o.p).toList == (⟨#[]⟩ : ByteArray).toList) = false := by
              rw [beq_eq_false_iff_ne, bs_toList]
              intro h
              exact nm_ne hoo.p (h.trans (show (⟨#[]⟩ : ByteArray).toList = [] from bs_toList []))
            have eE2 : (bs o.p).toList.isEmpty = false := by rw [bs_toList]; cases hc : o.p with | nil => exact absurd hc (nm_ne hoo.p) | cons _ _ => rfl
            have eE3 : ¬ (bs o.p).toList = [] := by rw [bs_toList]; exact nm_ne hoo.p
            have eS : ((bs o.p).toList == (bs o.p).toList) = true := by simp
            have CX := oParse_any o hoo wr (HG.out.to (HB8.out.trans (HBr.out.mono HB8.out.size)))
            generalize hKI : (ordersP (l.take i) q).length = KI at *
            have c2 : decide ((KN : Int) ≤ (KI : Int)) = false := decide_eq_false (by omega)
            have j0 : (0 : Int) ≤ (KI : Int) := by omega
            have j1 : (KI : Int) < (KN : Int) := by omega
            have hq' := odq_no o
            clear q0 q1 q2 q3 p0 p1 p2 p3 p4 p5 ho HKA hoo
            go_wp2_with fail
            refine CX.mono ?_
            rintro e w9 ⟨rfl, hb9⟩
            go_upto_region 23 with fail
            have HW10 : Hid (Below wr.heap.size wr (w9.alloc (.cells #[.string (bs o.i), .string (bs o.p), .string (bs o.f), .string (bs o.t), .int .i64 o.a, .int .i64 o.b] 39))) := (hb9.trans ((below_one w9 _).mono hb9.size))
            have HX10 := hide (Blk.new w9 39 #[.string (bs o.i), .string (bs o.p), .string (bs o.f), .string (bs o.t), .int .i64 o.a, .int .i64 o.b])
            generalize w9.alloc (.cells #[.string (bs o.i), .string (bs o.p), .string (bs o.f), .string (bs o.t), .int .i64 o.a, .int .i64 o.b] 39) = w10 at *
            generalize w9.heap.size = b24 at *
            have bka : (ka.add (KI * 6)).block < wr.heap.size := by rw [block_of_add]; exact hka
            have bkb : (b.add (i * 4)).block < wr.heap.size := by rw [block_of_add]; exact hb
            have m0 : w10.cell? (ka.add (KI * 6)) = some (Value.string (bs o.i)) := (HW10.out.cell (p := (ka.add (KI * 6))) bka).trans k0
            have m1 : w10.cell? (⟨(ka.add (KI * 6)).block, (ka.add (KI * 6)).off + 1, none⟩ : Addr) = some (Value.string (bs o.p)) := (HW10.out.cell (p := (⟨(ka.add (KI * 6)).block, (ka.add (KI * 6)).off + 1, none⟩ : Addr)) bka).trans k1
            have m2 : w10.cell? (⟨(ka.add (KI * 6)).block, (ka.add (KI * 6)).off + 2, none⟩ : Addr) = some (Value.string (bs o.f)) := (HW10.out.cell (p := (⟨(ka.add (KI * 6)).block, (ka.add (KI * 6)).off + 2, none⟩ : Addr)) bka).trans k2
            have m3 : w10.cell? (⟨(ka.add (KI * 6)).block, (ka.add (KI * 6)).off + 3, none⟩ : Addr) = some (Value.string (bs o.t)) := (HW10.out.cell (p := (⟨(ka.add (KI * 6)).block, (ka.add (KI * 6)).off + 3, none⟩ : Addr)) bka).trans k3
            have m4 : w10.cell? (⟨(ka.add (KI * 6)).block, (ka.add (KI * 6)).off + 4, none⟩ : Addr) = some (Value.int .i64 o.a) := (HW10.out.cell (p := (⟨(ka.add (KI * 6)).block, (ka.add (KI * 6)).off + 4, none⟩ : Addr)) bka).trans k4
            have m5 : w10.cell? (⟨(ka.add (KI * 6)).block, (ka.add (KI * 6)).off + 5, none⟩ : Addr) = some (Value.int .i64 o.b) := (HW10.out.cell (p := (⟨(ka.add (KI * 6)).block, (ka.add (KI * 6)).off + 5, none⟩ : Addr)) bka).trans k5
            have n0 : w10.cell? (b.add (i * 4)) = some (.string (bs o.p)) := (HW10.out.cell (p := b.add (i * 4)) bkb).trans q0'
            have x0 := HX10.out.cell 0
            have x1 := HX10.out.cell 1
            have x2 := HX10.out.cell 2
            have x3 := HX10.out.cell 3
            have x4 := HX10.out.cell 4
            have x5 := HX10.out.cell 5
            clear k0 k1 k2 k3 k4 k5 q0' q1' hb9 CX bka bkb hka hb
            go_quiet (fail)
            go_wp2_with fail
            refine ⟨⟨i + 1, by go_num, by rw [HTN.out]; go_num, by omega, below_drewN (HBr.out.trans (HW10.out.mono HBr.out.size)) _⟩, ?_⟩
            simp [intOf]; omega
        · obtain rfl : i = l.length := by omega
          have c1 : decide ((l.length : Int) < (l.length : Int)) = false := by simp
          have hke : (ordersP (l.take l.length) q).length = KN := by rw [List.take_length, hKN.out]
          rw [hke]
          have eKK : ((KN : Int) == (KN : Int)) = true := by simp
          have HB9 := hide (below_to HB8.out (Nat.le_refl _) HBr.out)
          have HO9 := hide (HO8.out.to HBr.out)
          have HL9 := hide (HL8.out.to HBr.out)
          have HE9 := hide (HE8.out.to HBr.out)
          have HK9 := hide (HK8.out.to HBr.out)
          clear HB8 HO8 HL8 HE8 HK8 HBr
          have CS := Settle_any (ordersP l q) HKF.out (by have := hKN.out; omega) q d (by omega) (by omega) day _ wr HK9.out (HG.out.to HB9.out).g
          go_wp2_with fail
          refine CS.mono ?_
          rintro e w10 ⟨v1, rfl, hT, hb⟩
          obtain ⟨A1, s1, rfl, _⟩ := hT.slice
          have HOWN := hide (fun h => settle_own (l := l) (q := q) (door := d) (day := day) h)
          clear hT CS eKK
          have HB10 := hide (below_to HB9.out (Nat.le_refl _) hb)
          have HO10 := hide (HO9.out.to hb)
          have HL10 := hide (HL9.out.to hb)
          have HE10 := hide (HE9.out.to hb)
          have HK10 := hide (HK9.out.to hb)
          clear hb HO9 HL9 HE9 HK9
          by_cases hz : setE (ordersP l q) q d day = 0
          · obtain ⟨g1, g2⟩ := HOWN.out hz
            have g3 : (setI (ordersP l q) q d day).length = 0 := by rw [g2]; rfl
            rw [hz, g1, g3]
            have ed : ((bs d).toList == (bs d).toList) = true := by simp
            clear hz g1 g2 g3 HOWN
            by_cases hrq : r = q
            · have er : ((bs r).toList == (bs q).toList) = true := by rw [hrq]; simp
              clear hrq
              go_wp2_with fail
              go_ret
              exact ⟨rfl, HB10.out⟩
            have er : ((bs r).toList == (bs q).toList) = false := by rw [beq_eq_false_iff_ne, bs_toList, bs_toList]; exact hrq
            obtain ⟨so1, so2, so3⟩ := settle_other (l := l) hrq HPR.out d day
            have CS := Settle_any l HF.out (by omega) r d (by omega) (by omega) day _ w10 HO10.out (HG.out.to HB10.out).g
            go_wp2_with fail
            refine CS.mono ?_
            rintro e w11 ⟨v2, rfl, hT, hb⟩
            have HT11 := hide hT
            clear hT CS
            have HB11 := hide (below_to HB10.out (Nat.le_refl _) hb)
            have HO11 := hide (HO10.out.to hb)
            have HL11 := hide (HL10.out.to hb)
            have HE11 := hide (HE10.out.to hb)
            have HK11 := hide (HK10.out.to hb)
            clear hb HO10 HL10 HE10 HK10
            have CS := Settle_any (ordersP l q) HKF.out (by have := hKN.out; omega) r d (by omega) (by omega) day _ w11 HK11.out (HG.out.to HB11.out).g
            unfold SetR at CS
            rw [so1, so2, so3] at CS
            go_wp2_with fail
            refine CS.mono ?_
            rintro e w12 ⟨v3, rfl, hT, hb⟩
            have HU12 := hide hT
            have HNR := hide hrq
            clear hT CS so1 so2 so3 hrq
            have HB12 := hide (below_to HB11.out (Nat.le_refl _) hb)
            have HO12 := hide (HO11.out.to hb)
            have HL12 := hide (HL11.out.to hb)
            have HE12 := hide (HE11.out.to hb)
            have HK12 := hide (HK11.out.to hb)
            have HT12 := hide (HT11.out.to hb)
            clear hb HO11 HL11 HE11 HK11 HT11
            have CA := About_any (eraseP (l.map lineO) q) HEF.out (by omega) r (by omega) _ w12 HE12.out (HG.out.to HB12.out).g
            have CB := fun (w' : World) (hL : LnsAt w' vl (l.map lineO)) (hG : Glob w') => About_any (l.map lineO) HLF.out (by omega) r (by omega) vl w' hL hG
            unfold AboutR at CA CB
            have ho1 : okA (eraseP (l.map lineO) q) r = isNm r := by unfold okA; rw [HEV.out]; rfl
            have ho2 : okA (l.map lineO) r = isNm r := by unfold okA; rw [HLV.out]; rfl
            have hab : aboutV (eraseP (l.map lineO) q) r = aboutV (l.map lineO) r := by
              unfold aboutV
              rw [ho1, ho2]
              cases hr : isNm r with
              | false => rfl
              | true => rw [if_pos rfl, if_pos rfl]; exact about_other hr (fun h => HNR.out h.symm) _
            rw [ho1, hab] at CA
            rw [ho2] at CB
            clear ho1 ho2 hab
            have HAL : Hid ((aboutV (l.map lineO) r).length ≤ 1000000000) := by
              show _ ≤ _
              unfold aboutV aboutP
              split
              · rw [List.length_map]
                have := List.length_filter_le (fun x : Ln => decide (x.p = r)) (l.map lineO)
                omega
              · show (0 : Nat) ≤ _; omega
            generalize aboutV (l.map lineO) r = AV at *
            generalize errE (isNm r) = AE at *
            go_wp2_with fail
            refine CA.mono ?_
            rintro e w13 ⟨v4, rfl, hT, hb⟩
            have HV13 := hide hT
            clear hT CA
            have HB13 := hide (below_to HB12.out (Nat.le_refl _) hb)
            have HO13 := hide (HO12.out.to hb)
            have HL13 := hide (HL12.out.to hb)
            have HE13 := hide (HE12.out.to hb)
            have HK13 := hide (HK12.out.to hb)
            have HT13 := hide (HT12.out.to hb)
            have HU13 := hide (HU12.out.to hb)
            clear hb HO12 HL12 HE12 HK12 HT12 HU12
            have CB' := CB w13 HL13.out (HG.out.to HB13.out).g
            go_wp2_with fail
            refine CB'.mono ?_
            rintro e w14 ⟨v5, rfl, hT, hb⟩
            have HW14 := hide hT
            clear hT CB CB'
            have HB14 := hide (below_to HB13.out (Nat.le_refl _) hb)
            have HO14 := hide (HO13.out.to hb)
            have HL14 := hide (HL13.out.to hb)
            have HE14 := hide (HE13.out.to hb)
            have HK14 := hide (HK13.out.to hb)
            have HT14 := hide (HT13.out.to hb)
            have HU14 := hide (HU13.out.to hb)
            have HV14 := hide (HV13.out.to hb)
            clear hb HO13 HL13 HE13 HK13 HT13 HU13 HV13
            have HSL : Hid ((setI l r d day).length ≤ 1000000000) := by
              show _ ≤ _
              exact setI_len l r d day
            have C1 := Texts_any (setI l r d day) (setI l r d day) HSL.out HSL.out v2 v3 w14 HT14.out HU14.out
            rw [decide_eq_true rfl] at C1
            generalize setE l r d day = SE at *
            generalize setT l r d day = ST at *
            generalize setI l r d day = SI at *
            have eT : ((bs ST).toList == (bs ST).toList) = true := by simp
            have eE : (SE == SE) = true := by simp
            have eA : (AE == AE) = true := by simp
            go_wp2_with fail
            refine C1.mono ?_
            rintro e w15 ⟨rfl, hb⟩
            clear C1
            have HB15 := hide (below_to HB14.out (Nat.le_refl _) hb)
            have HO15 := hide (HO14.out.to hb)
            have HL15 := hide (HL14.out.to hb)
            have HE15 := hide (HE14.out.to hb)
            have HK15 := hide (HK14.out.to hb)
            have HT15 := hide (HT14.out.to hb)
            have HU15 := hide (HU14.out.to hb)
            have HV15 := hide (HV14.out.to hb)
            have HW15 := hide (HW14.out.to hb)
            clear hb HO14 HL14 HE14 HK14 HT14 HU14 HV14 HW14
            have C2 := Texts_any AV AV HAL.out HAL.out v4 v5 w15 HV15.out HW15.out
            rw [decide_eq_true rfl] at C2
            go_wp2_with fail
            refine C2.mono ?_
            rintro e w16 ⟨rfl, hb⟩
            have HB16 := hide (below_to HB15.out (Nat.le_refl _) hb)
            clear C2
            go_wp2_with fail
            go_ret
            exact ⟨rfl, HB16.out⟩
          · have ez : (setE (ordersP l q) q d day == 0) = false := by rw [beq_eq_false_iff_ne]; exact hz
            have ez' : ¬ setE (ordersP l q) q d day = 0 := hz
            clear hz HOWN
            generalize setE (ordersP l q) q d day = ZE at *
            generalize setT (ordersP l q) q d day = ZT at *
            generalize (setI (ordersP l q) q d day).length = ZI at *
            by_cases hrq : r = q
            · have er : ((bs r).toList == (bs q).toList) = true := by rw [hrq]; simp
              clear hrq
              go_wp2_with fail
              go_ret
              exact ⟨rfl, HB10.out⟩
            have er : ((bs r).toList == (bs q).toList) = false := by rw [beq_eq_false_iff_ne, bs_toList, bs_toList]; exact hrq
            obtain ⟨so1, so2, so3⟩ := settle_other (l := l) hrq HPR.out d day
            have CS := Settle_any l HF.out (by omega) r d (by omega) (by omega) day _ w10 HO10.out (HG.out.to HB10.out).g
            go_wp2_with fail
            refine CS.mono ?_
            rintro e w11 ⟨v2, rfl, hT, hb⟩
            have HT11 := hide hT
            clear hT CS
            have HB11 := hide (below_to HB10.out (Nat.le_refl _) hb)
            have HO11 := hide (HO10.out.to hb)
            have HL11 := hide (HL10.out.to hb)
            have HE11 := hide (HE10.out.to hb)
            have HK11 := hide (HK10.out.to hb)
            clear hb HO10 HL10 HE10 HK10
            have CS := Settle_any (ordersP l q) HKF.out (by have := hKN.out; omega) r d (by omega) (by omega) day _ w11 HK11.out (HG.out.to HB11.out).g
            unfold SetR at CS
            rw [so1, so2, so3] at CS
            go_wp2_with fail
            refine CS.mono ?_
            rintro e w12 ⟨v3, rfl, hT, hb⟩
            have HU12 := hide hT
            have HNR := hide hrq
            clear hT CS so1 so2 so3 hrq
            have HB12 := hide (below_to HB11.out (Nat.le_refl _) hb)
            have HO12 := hide (HO11.out.to hb)
            have HL12 := hide (HL11.out.to hb)
            have HE12 := hide (HE11.out.to hb)
            have HK12 := hide (HK11.out.to hb)
            have HT12 := hide (HT11.out.to hb)
            clear hb HO11 HL11 HE11 HK11 HT11
            have CA := About_any (eraseP (l.map lineO) q) HEF.out (by omega) r (by omega) _ w12 HE12.out (HG.out.to HB12.out).g
            have CB := fun (w' : World) (hL : LnsAt w' vl (l.map lineO)) (hG : Glob w') => About_any (l.map lineO) HLF.out (by omega) r (by omega) vl w' hL hG
            unfold AboutR at CA CB
            have ho1 : okA (eraseP (l.map lineO) q) r = isNm r := by unfold okA; rw [HEV.out]; rfl
            have ho2 : okA (l.map lineO) r = isNm r := by unfold okA; rw [HLV.out]; rfl
            have hab : aboutV (eraseP (l.map lineO) q) r = aboutV (l.map lineO) r := by
              unfold aboutV
              rw [ho1, ho2]
              cases hr : isNm r with
              | false => rfl
              | true => rw [if_pos rfl, if_pos rfl]; exact about_other hr (fun h => HNR.out h.symm) _
            rw [ho1, hab] at CA
            rw [ho2] at CB
            clear ho1 ho2 hab
            have HAL : Hid ((aboutV (l.map lineO) r).length ≤ 1000000000) := by
              show _ ≤ _
              unfold aboutV aboutP
              split
              · rw [List.length_map]
                have := List.length_filter_le (fun x : Ln => decide (x.p = r)) (l.map lineO)
                omega
              · show (0 : Nat) ≤ _; omega
            generalize aboutV (l.map lineO) r = AV at *
            generalize errE (isNm r) = AE at *
            go_wp2_with fail
            refine CA.mono ?_
            rintro e w13 ⟨v4, rfl, hT, hb⟩
            have HV13 := hide hT
            clear hT CA
            have HB13 := hide (below_to HB12.out (Nat.le_refl _) hb)
            have HO13 := hide (HO12.out.to hb)
            have HL13 := hide (HL12.out.to hb)
            have HE13 := hide (HE12.out.to hb)
            have HK13 := hide (HK12.out.to hb)
            have HT13 := hide (HT12.out.to hb)
            have HU13 := hide (HU12.out.to hb)
            clear hb HO12 HL12 HE12 HK12 HT12 HU12
            have CB' := CB w13 HL13.out (HG.out.to HB13.out).g
            go_wp2_with fail
            refine CB'.mono ?_
            rintro e w14 ⟨v5, rfl, hT, hb⟩
            have HW14 := hide hT
            clear hT CB CB'
            have HB14 := hide (below_to HB13.out (Nat.le_refl _) hb)
            have HO14 := hide (HO13.out.to hb)
            have HL14 := hide (HL13.out.to hb)
            have HE14 := hide (HE13.out.to hb)
            have HK14 := hide (HK13.out.to hb)
            have HT14 := hide (HT13.out.to hb)
            have HU14 := hide (HU13.out.to hb)
            have HV14 := hide (HV13.out.to hb)
            clear hb HO13 HL13 HE13 HK13 HT13 HU13 HV13
            have HSL : Hid ((setI l r d day).length ≤ 1000000000) := by
              show _ ≤ _
              exact setI_len l r d day
            have C1 := Texts_any (setI l r d day) (setI l r d day) HSL.out HSL.out v2 v3 w14 HT14.out HU14.out
            rw [decide_eq_true rfl] at C1
            generalize setE l r d day = SE at *
            generalize setT l r d day = ST at *
            generalize setI l r d day = SI at *
            have eT : ((bs ST).toList == (bs ST).toList) = true := by simp
            have eE : (SE == SE) = true := by simp
            have eA : (AE == AE) = true := by simp
            go_wp2_with fail
            refine C1.mono ?_
            rintro e w15 ⟨rfl, hb⟩
            clear C1
            have HB15 := hide (below_to HB14.out (Nat.le_refl _) hb)
            have HO15 := hide (HO14.out.to hb)
            have HL15 := hide (HL14.out.to hb)
            have HE15 := hide (HE14.out.to hb)
            have HK15 := hide (HK14.out.to hb)
            have HT15 := hide (HT14.out.to hb)
            have HU15 := hide (HU14.out.to hb)
            have HV15 := hide (HV14.out.to hb)
            have HW15 := hide (HW14.out.to hb)
            clear hb HO14 HL14 HE14 HK14 HT14 HU14 HV14 HW14
            have C2 := Texts_any AV AV HAL.out HAL.out v4 v5 w15 HV15.out HW15.out
            rw [decide_eq_true rfl] at C2
            go_wp2_with fail
            refine C2.mono ?_
            rintro e w16 ⟨rfl, hb⟩
            have HB16 := hide (below_to HB15.out (Nat.le_refl _) hb)
            clear C2
            go_wp2_with fail
            go_ret
            exact ⟨rfl, HB16.out⟩
end Go.Proofs.YtgdgdhpmjkefjaaGreatDoor

/- What a row of the seat gives: the variables' cells. -/
set_option linter.unusedVariables false
set_option linter.unusedSimpArgs false
namespace Go.Proofs.YtgdgdhpmjkefjaaGreatDoor
open Go.RowKit

theorem iface_of_trod {H : Type} {enc : TypeId × Value → H} {P : Program} {w : World} {base : Nat} {sp : Nat → Bool} {held : Bool} {fuel : Nat} {t : TypeId} {ms : Array (String × TypeId)} {cs : List Value} {y : DataW H} {p : List MemPlace}
    (ht : P.underlying t = some (.interface ms)) (h : DataW.trod enc P w base sp held fuel t cs = some (y, p)) : ∃ v, cs = [v] ∧ (v = .nilIface ∨ ∃ te pe, v = .iface te pe) := by
  cases fuel with
  | zero => simp [DataW.trod] at h
  | succ fuel =>
    match cs, h with
    | [], h => simp [DataW.trod, ht] at h
    | [v], h =>
      refine ⟨v, rfl, ?_⟩
      cases v <;> simp [DataW.trod, ht] at h <;> simp
    | _ :: _ :: _, h => simp [DataW.trod, ht] at h
theorem iface_head {P : Program} {n : String} {d : DataW Unit} {r : List (String × DataW Unit)} {W : World} {g : Nat} {ti : TypeId} {ms : Array (String × TypeId)}
    (h : laidMet P ((n, d) :: r) W) (hg : P.globalNamed n = some g) (ht : (P.globals[g]?).map (·.type) = some ti) (hi : P.underlying ti = some (.interface ms)) :
    ∃ ev, W.cell? ⟨g, 0, none⟩ = some ev ∧ (ev = .nilIface ∨ ∃ te pe, ev = .iface te pe) := by
  obtain ⟨ps, ⟨g0, t0, cs0, f0, p0, q0, hg0, ht0, hv0, hd0, _, e0⟩, _, _⟩ := h
  obtain rfl := Option.some.inj (hg.symm.trans hg0)
  obtain rfl := Option.some.inj (ht.symm.trans ht0)
  obtain ⟨v, hv, hc⟩ := iface_of_trod hi hd0
  obtain rfl : cs0 = #[v] := by cases cs0; simpa using hv
  exact ⟨v, by simpa using World.var?_cell hg0 hv0 0, hc⟩
theorem int_of_shape {P : Program} {w : World} {g : Nat} {t : TypeId} {zero : Array Value} (h : w.ShapedOpen P) (hg : g < P.globals.size)
    (h0 : ((begin P (fun _ _ => 0) default).world.heap[g]?).bind Obj.row? = some (zero, t)) (hz : zero.size = 1)
    (hb : P.buildable t = true) (hc : P.cellTypes P.depth t = some [t]) (hu : P.underlying t = some (.int .i64)) : ∃ p, w.cell? ⟨g, 0, none⟩ = some (.int .i64 p) := by
  obtain ⟨cs, hh, hs, hr⟩ := h.1 g zero t hg h0
  obtain ⟨ts, hts, _, hall⟩ := hr hb
  rw [hc] at hts
  cases hts
  have h1 : 0 < cs.size := by omega
  obtain ⟨u, hu', hok⟩ := hall 0 cs[0] (by simp [h1])
  have : u = t := by simpa using hu'.symm
  subst this
  have hcell : w.cell? ⟨g, 0, none⟩ = some cs[0] := by simp [World.cell?, hh, h1]
  rw [hcell]
  unfold Cell.ok at hok
  rw [hu] at hok
  cases hv : cs[0] <;> rw [hv] at hok <;> simp at hok
  obtain ⟨rfl, _⟩ := hok
  exact ⟨_, rfl⟩
theorem glob0_of {w : World} (hs : w.ShapedOpen Tryz.prog) (hL : laidMet Tryz.prog Rows.topErasedRow.laid w) : Glob w := by
  have h2 := hL.tail
  have h3 := h2.tail
  have h5 := h3.tail.tail
  refine ⟨?_, ?_, ?_, ?_, ?_, ?_⟩
  · obtain ⟨⟨z, ty⟩, h0⟩ := Option.isSome_iff_exists.1 (show (((begin Tryz.prog (fun _ _ => 0) default).world.heap[8]?).bind Obj.row?).isSome = true by kernel_rfl)
    obtain ⟨cs, h, _⟩ := hs.1 8 z ty (of_decide_eq_true (by kernel_rfl)) h0
    have hz : Tryz.prog.globals.size = 9 := by kernel_rfl
    rw [hz]
    rcases Nat.lt_or_ge 8 w.heap.size with h' | h'
    · omega
    · rw [Array.getElem?_eq_none h'] at h; cases h
  · exact int_of_shape (g := 1) (t := 3) (zero := #[.int .i64 0]) hs (of_decide_eq_true (by kernel_rfl)) (by kernel_rfl) rfl (by kernel_rfl) (by kernel_rfl) Tryz.underlying3
  · exact iface_head (g := 3) (ti := 95) h5.tail (by kernel_rfl) (by kernel_rfl) Tryz.underlying95
  · exact iface_head (g := 4) (ti := 95) h5 (by kernel_rfl) (by kernel_rfl) Tryz.underlying95
  · exact Lib.tabIs_of_head (t := 198) (e := 5) (n := 64) (g := 8) (by kernel_rfl) (by kernel_rfl) Tryz.underlying198 Tryz.underlying5 (by kernel_rfl) (by kernel_rfl) h2
  · exact Lib.tabIs_of_head (t := 174) (e := 82) (n := 20) (g := 2) (by kernel_rfl) (by kernel_rfl) Tryz.underlying174 Tryz.underlying82 (by kernel_rfl) (by kernel_rfl) h3
theorem days_of {w : World} (hL : laidMet Tryz.prog Rows.topErasedRow.laid w) : Days w := by
  have h7 := hL.tail.tail.tail.tail.tail.tail
  have h : Lib.TabIs Tryz.prog w "gazetteer/date.lengths" .i64 lensL := Lib.tabIs_of_head (t := 163) (e := 3) (n := 12) (g := 0) (by kernel_rfl) (by kernel_rfl) Tryz.underlying163 Tryz.underlying3 (by kernel_rfl) (by kernel_rfl) h7
  intro j x hx
  have := World.var?_cell (P := Tryz.prog) (show Tryz.prog.globalNamed "gazetteer/date.lengths" = some 0 by kernel_rfl) h j
  rw [this]
  simp [hx]
theorem glob_of {w : World} (hs : w.ShapedOpen Tryz.prog) (hL : laidMet Tryz.prog Rows.topErasedRow.laid w) : GlobD w := ⟨glob0_of hs hL, days_of hL⟩
open Go.ChangeShapes Go.WideShapes Go.Deep
end Go.Proofs.YtgdgdhpmjkefjaaGreatDoor

/- Slices of records and of texts that came in. -/
set_option linter.unusedVariables false
set_option linter.unusedSimpArgs false
namespace Go.Proofs.YtgdgdhpmjkefjaaGreatDoor
open Go.RowKit Go.ChangeShapes Go.WideShapes Go.Deep

theorem reachC {n : Nat} (h : n ≤ reachBytes) : n ≤ 140737488351232 := by unfold reachBytes at h; omega
theorem rows_came {α : Type} {w : World} {a : Addr} {n c size : Nat} (enc : α → List Value) (Q : α → Prop) (hs : ∀ x, (enc x).length = size) (h0 : 0 < size) (hc : n ≤ c)
    (h : ∀ i, i < n → ∃ x : α, Q x ∧ ∀ j u, (enc x)[j]? = some u → w.cell? (a.add (i * size + j)) = some u) : ∃ ls : List α, ls.length = n ∧ (∀ x ∈ ls, Q x) ∧ RowsAt w size (.slice (some a) n c) (ls.map enc) := by
  have hex : ∀ m, m ≤ n → ∃ ls : List α, ls.length = m ∧ (∀ x ∈ ls, Q x) ∧ ∀ (i : Nat) x, ls[i]? = some x → ∀ j u, (enc x)[j]? = some u → w.cell? (a.add (i * size + j)) = some u := by
    intro m
    induction m with
    | zero => exact fun _ => ⟨[], rfl, by simp, by simp⟩
    | succ m ih =>
      intro hm
      obtain ⟨ls, h1, h2, h3⟩ := ih (by omega)
      obtain ⟨x, hq, hx⟩ := h m (by omega)
      refine ⟨ls ++ [x], by simp [h1], fun y hy => ?_, fun i y hy j u hu => ?_⟩
      · rcases List.mem_append.1 hy with hy | hy
        · exact h2 y hy
        · rw [List.mem_singleton.1 hy]; exact hq
      · rcases Nat.lt_or_ge i ls.length with hi | hi
        · rw [List.getElem?_append_left hi] at hy
          exact h3 i y hy j u hu
        · rw [List.getElem?_append_right hi] at hy
          have hz : i - ls.length = 0 := by
            rcases Nat.eq_zero_or_pos (i - ls.length) with hz | hz
            · exact hz
            · rw [List.getElem?_eq_none (by simp only [List.length_cons, List.length_nil]; omega)] at hy; cases hy
          rw [hz] at hy
          simp at hy
          subst hy
          obtain rfl : i = m := by omega
          exact hx j u hu
  obtain ⟨ls, h1, h2, h3⟩ := hex n (Nat.le_refl _)
  refine ⟨ls, h1, h2, some a, c, by rw [List.length_map, h1], by rw [List.length_map]; omega, fun x hx => ?_, fun k x hx => ?_⟩
  · obtain ⟨y, _, rfl⟩ := List.mem_map.1 hx
    exact hs y
  · rw [List.getElem?_map, Option.map_eq_some_iff] at hx
    obtain ⟨y, hy, rfl⟩ := hx
    have hk := h3 k y hy
    refine ⟨a, rfl, ?_, fun j u hu => by rw [add_of_add]; exact hk j u hu⟩
    have hl : 0 < (enc y).length := by rw [hs]; exact h0
    have := World.block_lt_of_cell? w _ (hk 0 _ (List.getElem?_eq_getElem hl))
    rwa [block_of_add] at this
end Go.Proofs.YtgdgdhpmjkefjaaGreatDoor

/- Logs, lines and orders that came in. -/
set_option linter.unusedVariables false
set_option linter.unusedSimpArgs false
namespace Go.Proofs.YtgdgdhpmjkefjaaGreatDoor
open Go.RowKit Go.ChangeShapes Go.WideShapes Go.Deep

theorem len_of {s : ByteArray} (h : s.size ≤ reachBytes) : s.data.toList.length ≤ 140737488355328 := by
  have := reachC h
  have h3 := Lib.size_eq s
  omega
set_option maxRecDepth 100000 in
theorem came_order {H : Type} {enc : TypeId × Value → H} {w : World} {cs : List Value} (h : CameC enc Tryz.prog w 39 cs) : ∃ l : Od, cs = odV l ∧ l.fit := by
  obtain ⟨h1, h2⟩ := h.struct Tryz.underlying39
  have h1' : cs.length = 6 := h1.trans (by kernel_rfl)
  have k1 : Tryz.prog.cellsOf 9 = 1 := by kernel_rfl
  have k2 : Tryz.prog.cellsOf 37 = 2 := by kernel_rfl
  match cs, h1' with
  | [y0, y1, y2, y3, y4, y5], _ =>
    have c0 : CameC enc Tryz.prog w 9 (([y0, y1, y2, y3, y4, y5].drop 0).take (Tryz.prog.cellsOf 9)) := h2 0 _ rfl
    have c1 : CameC enc Tryz.prog w 9 (([y0, y1, y2, y3, y4, y5].drop 1).take (Tryz.prog.cellsOf 9)) := h2 1 _ rfl
    have c2 : CameC enc Tryz.prog w 9 (([y0, y1, y2, y3, y4, y5].drop 2).take (Tryz.prog.cellsOf 9)) := h2 2 _ rfl
    have c3 : CameC enc Tryz.prog w 9 (([y0, y1, y2, y3, y4, y5].drop 3).take (Tryz.prog.cellsOf 9)) := h2 3 _ rfl
    have c4 : CameC enc Tryz.prog w 37 (([y0, y1, y2, y3, y4, y5].drop 4).take (Tryz.prog.cellsOf 37)) := h2 4 _ rfl
    rw [k1] at c0 c1 c2 c3
    rw [k2] at c4
    obtain ⟨s0, g0, l0⟩ := c0.string Tryz.underlying9
    obtain ⟨s1, g1, l1⟩ := c1.string Tryz.underlying9
    obtain ⟨s2, g2, l2⟩ := c2.string Tryz.underlying9
    obtain ⟨s3, g3, l3⟩ := c3.string Tryz.underlying9
    obtain ⟨_, p2⟩ := c4.fields Tryz.underlying37 (by kernel_rfl) (by kernel_rfl)
    obtain ⟨v4, e4, c4⟩ := p2 0 _ rfl
    obtain ⟨v5, e5, c5⟩ := p2 1 _ rfl
    obtain ⟨x4, g4, _⟩ := c4.int Tryz.underlying3
    obtain ⟨x5, g5, _⟩ := c5.int Tryz.underlying3
    simp at g0 g1 g2 g3 g4 g5 e4 e5
    subst g0 g1 g2 g3 g4 g5 e4 e5
    exact ⟨⟨s0.data.toList, s1.data.toList, s2.data.toList, s3.data.toList, x4, x5⟩, rfl, ⟨len_of l0, len_of l1, len_of l2, len_of l3⟩⟩
theorem came_orders {H : Type} {enc : TypeId × Value → H} {w : World} {cs : List Value} (h : CameC enc Tryz.prog w 22 cs) :
    ∃ (v : Value) (l : List Od), cs = [v] ∧ OdsAt w v l ∧ (∀ o ∈ l, o.fit) ∧ l.length ≤ 8796093022208 := by
  rcases h.slice Tryz.underlying22 with rfl | ⟨a, n, c, rfl, hn, hb, _, hi⟩
  · exact ⟨_, [], rfl, RowsAt.nil _ _, by simp, by simp⟩
  · have h1 : Tryz.prog.cellsOf 39 = 6 := by kernel_rfl
    have h2 : Tryz.prog.bytesOf 39 = 80 := by kernel_rfl
    rw [h1] at hi
    rw [h2] at hb
    obtain ⟨ls, e, hq, hr⟩ := rows_came (w := w) (a := a) (c := c) (size := 6) odV (fun x => x.fit) (fun _ => rfl) (by decide) hn fun i hi' => by
      obtain ⟨cs', hl, hat, hcm⟩ := hi i hi'
      obtain ⟨l, rfl, hfl⟩ := came_order hcm
      refine ⟨l, hfl, fun j u hu => ?_⟩
      rw [hat j (by rcases Nat.lt_or_ge j 6 with h | h; exact h; rw [List.getElem?_eq_none (by simpa [odV] using h)] at hu; cases hu)]
      exact hu
    refine ⟨_, ls, rfl, e ▸ hr, hq, ?_⟩
    have := reachC hb
    omega
end Go.Proofs.YtgdgdhpmjkefjaaGreatDoor
