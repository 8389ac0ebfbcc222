/- Walk of the law NumberParts. -/
import Derived.Test.YtabphhclnboknaaDoorLC
set_option linter.unusedVariables false
set_option linter.unusedSimpArgs false
namespace Go.Proofs.YtabphhclnboknaaDoor
open Go.RowKit

theorem HBox.drew {w1 : World} {b : Nat} {h : HN} (H : HBox w1 b h) : HBox w1.drew b h := ⟨H.blk.drew⟩
theorem box3 (w : World) (a b c : HN) : HBox ((((w.alloc (.cells #[.int .i64 a.n, .string ⟨a.l.toArray⟩, .int .i64 a.num, .int .i64 a.den] 23)).alloc (.cells #[.int .i64 b.n, .string ⟨b.l.toArray⟩, .int .i64 b.num, .int .i64 b.den] 23)).alloc (.cells #[.int .i64 c.n, .string ⟨c.l.toArray⟩, .int .i64 c.num, .int .i64 c.den] 23)).drew) w.heap.size a ∧ HBox ((((w.alloc (.cells #[.int .i64 a.n, .string ⟨a.l.toArray⟩, .int .i64 a.num, .int .i64 a.den] 23)).alloc (.cells #[.int .i64 b.n, .string ⟨b.l.toArray⟩, .int .i64 b.num, .int .i64 b.den] 23)).alloc (.cells #[.int .i64 c.n, .string ⟨c.l.toArray⟩, .int .i64 c.num, .int .i64 c.den] 23)).drew) (w.heap.size + 1) b ∧ HBox ((((w.alloc (.cells #[.int .i64 a.n, .string ⟨a.l.toArray⟩, .int .i64 a.num, .int .i64 a.den] 23)).alloc (.cells #[.int .i64 b.n, .string ⟨b.l.toArray⟩, .int .i64 b.num, .int .i64 b.den] 23)).alloc (.cells #[.int .i64 c.n, .string ⟨c.l.toArray⟩, .int .i64 c.num, .int .i64 c.den] 23)).drew) (w.heap.size + 1 + 1) c :=
  ⟨(hNew3 w a b c).1.drew, (hNew3 w a b c).2.1.drew, (hNew3 w a b c).2.2.drew⟩
theorem whole_fit (n : Int) : (whole n).fit := fit_of rfl
set_option maxHeartbeats 8000000 in
theorem parts_law (a : HN) (q : Nat) (hq : q < 256) (w : World) (ha : a.fit) (hg : Glob w) : Calls Tryd.prog 5 #[hval a, .int .u8 q] w fun e w' => e = .returned (.bool true) ∧ Below w.heap.size w w' := by
  have HX := hide (HBox.new w a)
  have HB := hide ((Below.refl w.heap.size w).alloc (Nat.le_refl _) (.cells #[.int .i64 a.n, .string ⟨a.l.toArray⟩, .int .i64 a.num, .int .i64 a.den] 23))
  have HG := hide (hg.alloc (.cells #[.int .i64 a.n, .string ⟨a.l.toArray⟩, .int .i64 a.num, .int .i64 a.den] 23))
  have Fa := hide ha
  clear ha hg
  go_enter Tryd.func5, Tryd.ntmps5
  unfold hval
  go_wp2_with fail
  generalize w.alloc (.cells #[.int .i64 a.n, .string ⟨a.l.toArray⟩, .int .i64 a.num, .int .i64 a.den] 23) = w1 at *
  refine (head_any _ HG.out).mono ?_
  rintro e w2 ⟨rfl, hb⟩
  have HB2 := hide (below_to HB.out (Nat.le_refl _) hb)
  have HG2 := hide (HG.out.to hb)
  have Xa := hide (HX.out.to hb)
  clear hb HX HB HG
  obtain ⟨U, hU, g, u0, rfl, hgu, hi⟩ := cls w2
  obtain ⟨a0, a1, a2, a3⟩ := box_all hgu Xa.out
  have Ca := cls_call hgu hi (fun w _ => Valid_any a w Fa.out)
  unfold hval at Ca
  cases hva : a.valid
  · rw [hva] at Ca
    go_wp2_with (first | ((with_reducible refine (Ca _).mono ?_); rintro e w' ⟨rfl, u, rfl⟩))
    go_ret
    exact ⟨ret_bool (rfl), below_to HB2.out (Nat.le_refl _) (hgu _)⟩
  rw [hva] at Ca
  obtain ⟨va1, va2, va3, va4⟩ := (valid_iff a).1 hva
  have lu := fun u => (Xa.out.to (hgu u)).blk.lt
  have nu := fun u => Nat.ne_of_lt (lu u)
  have nu2 : ∀ u, w.heap.size ≠ (g u).heap.size + 1 := fun u => by have := lu u; omega
  have lu2 : ∀ u, w.heap.size < (g u).heap.size + 1 := fun u => by have := lu u; omega
  have lu3 : ∀ u, w.heap.size < (g u).heap.size + 1 + 1 := fun u => by have := lu u; omega
  have nu3 : ∀ u, w.heap.size ≠ (g u).heap.size + 1 + 1 := fun u => by have := lu u; omega
  go_wp2_with (first | ((with_reducible refine (Ca _).mono ?_); rintro e w' ⟨rfl, u, rfl⟩))
  have hw : IntKind.i64.wrap (a.n + 1) = a.n + 1 := by rw [IntKind.wrap_i64]; omega
  go_region
  · obtain ⟨t0, t1, t2⟩ := box3 (g u) a.rest (whole a.n) (whole (a.n + 1))
    have Zr : Hid (HBox (((((g u).alloc (.cells #[.int .i64 a.n, .string ⟨a.l.toArray⟩, .int .i64 0, .int .i64 0] 23)).alloc (.cells #[.int .i64 a.n, .string ⟨#[]⟩, .int .i64 0, .int .i64 0] 23)).alloc (.cells #[.int .i64 (a.n + 1), .string ⟨#[]⟩, .int .i64 0, .int .i64 0] 23)).drew) (g u).heap.size a.rest) := t0
    have Zwh : Hid (HBox (((((g u).alloc (.cells #[.int .i64 a.n, .string ⟨a.l.toArray⟩, .int .i64 0, .int .i64 0] 23)).alloc (.cells #[.int .i64 a.n, .string ⟨#[]⟩, .int .i64 0, .int .i64 0] 23)).alloc (.cells #[.int .i64 (a.n + 1), .string ⟨#[]⟩, .int .i64 0, .int .i64 0] 23)).drew) ((g u).heap.size + 1) (whole a.n)) := t1
    have Znx : Hid (HBox (((((g u).alloc (.cells #[.int .i64 a.n, .string ⟨a.l.toArray⟩, .int .i64 0, .int .i64 0] 23)).alloc (.cells #[.int .i64 a.n, .string ⟨#[]⟩, .int .i64 0, .int .i64 0] 23)).alloc (.cells #[.int .i64 (a.n + 1), .string ⟨#[]⟩, .int .i64 0, .int .i64 0] 23)).drew) ((g u).heap.size + 1 + 1) (whole (a.n + 1))) := t2
    have Za : Hid (HBox (((((g u).alloc (.cells #[.int .i64 a.n, .string ⟨a.l.toArray⟩, .int .i64 0, .int .i64 0] 23)).alloc (.cells #[.int .i64 a.n, .string ⟨#[]⟩, .int .i64 0, .int .i64 0] 23)).alloc (.cells #[.int .i64 (a.n + 1), .string ⟨#[]⟩, .int .i64 0, .int .i64 0] 23)).drew) w.heap.size a) := ((((Xa.out.to (hgu u)).alloc _).alloc _).alloc _).drew
    have HB3n : Hid (Below w.heap.size w (((((g u).alloc (.cells #[.int .i64 a.n, .string ⟨a.l.toArray⟩, .int .i64 0, .int .i64 0] 23)).alloc (.cells #[.int .i64 a.n, .string ⟨#[]⟩, .int .i64 0, .int .i64 0] 23)).alloc (.cells #[.int .i64 (a.n + 1), .string ⟨#[]⟩, .int .i64 0, .int .i64 0] 23)).drew)) := (below_to HB2.out (Nat.le_refl _) ((hgu u).trans ((below3 (g u) (.cells #[.int .i64 a.n, .string ⟨a.l.toArray⟩, .int .i64 0, .int .i64 0] 23) (.cells #[.int .i64 a.n, .string ⟨#[]⟩, .int .i64 0, .int .i64 0] 23) (.cells #[.int .i64 (a.n + 1), .string ⟨#[]⟩, .int .i64 0, .int .i64 0] 23)).mono (hgu u).size))).drew
    clear t0 t1 t2 lu nu nu2 lu2 lu3 nu3 a0 a1 a2 a3 Ca hw
    generalize ((((g u).alloc (.cells #[.int .i64 a.n, .string ⟨a.l.toArray⟩, .int .i64 0, .int .i64 0] 23)).alloc (.cells #[.int .i64 a.n, .string ⟨#[]⟩, .int .i64 0, .int .i64 0] 23)).alloc (.cells #[.int .i64 (a.n + 1), .string ⟨#[]⟩, .int .i64 0, .int .i64 0] 23)).drew = w3n at *
    generalize (g u).heap.size + 1 + 1 = B2 at *
    generalize (g u).heap.size + 1 = B1 at *
    generalize (g u).heap.size = B0 at *
    obtain ⟨U3, hU3, g3, u30, rfl, hgu3, hi3⟩ := cls w3n
    obtain ⟨a0, a1, a2, a3⟩ := box_all hgu3 Za.out
    obtain ⟨r0, r1, r2, r3⟩ := box_all hgu3 Zr.out
    obtain ⟨x0, x1, x2, x3⟩ := box_all hgu3 Zwh.out
    obtain ⟨y0, y1, y2, y3⟩ := box_all hgu3 Znx.out
    have Lw := cls_call hgu3 hi3 (fun w _ => less_any a (whole a.n) w Fa.out (whole_fit _))
    rw [lt_whole] at Lw
    have Lr := cls_call hgu3 hi3 (fun w _ => less_any a.rest a w Fa.out Fa.out)
    have Ln := cls_call hgu3 hi3 (fun w _ => less_any a (whole (a.n + 1)) w Fa.out (whole_fit _))
    have Q1 := hide (fun h => rest_lt hva h)
    have Q2 := hide (fun h => lt_next hva h)
    generalize a.rest.lt a = p1 at *
    generalize a.lt (whole (a.n + 1)) = p2 at *
    unfold hval HN.rest at Lr
    unfold hval whole at Lw Ln
    unfold HN.rest at r0 r1 r2 r3
    unfold whole at x0 x1 x2 x3 y0 y1 y2 y3
    simp only at r0 r1 r2 r3 x0 x1 x2 x3 y0 y1 y2 y3 Lr Lw Ln
    have hP : partOf a.n q = ⟨a.n, [], 1, 2 + (q : Int) % 8⟩ := by unfold partOf; rw [Int.natCast_emod]; rfl
    have Q3 := hide (part_valid hva q)
    have Q4 := hide (fun h => part_lt hva h q)
    rw [hP] at Q3 Q4
    clear hP hva
    by_cases hd : 0 < a.den
    · obtain rfl := Q1.out hd
      by_cases hn9 : a.n < 9999
      · obtain rfl := Q2.out hn9
        go_wp2_with (first | ((with_reducible refine (Lw _).mono ?_); rintro e w' ⟨rfl, u, rfl⟩) | ((with_reducible refine (Lr _).mono ?_); rintro e w' ⟨rfl, u, rfl⟩) | ((with_reducible refine (Ln _).mono ?_); rintro e w' ⟨rfl, u, rfl⟩))
        have HB4n := hide (below_alloc (below_to HB3n.out (Nat.le_refl _) (hgu3 u)) (Nat.le_refl _) (.cells #[.int .i64 a.n, .string ⟨#[]⟩, .int .i64 1, .int .i64 (2 + (q : Int) % 8)] 23))
        have Ya := hide ((Za.out.to (hgu3 u)).alloc (.cells #[.int .i64 a.n, .string ⟨#[]⟩, .int .i64 1, .int .i64 (2 + (q : Int) % 8)] 23))
        have Yp : Hid (HBox ((g3 u).alloc (.cells #[.int .i64 a.n, .string ⟨#[]⟩, .int .i64 1, .int .i64 (2 + (q : Int) % 8)] 23)) (g3 u).heap.size ⟨a.n, [], 1, 2 + (q : Int) % 8⟩) := HBox.new (g3 u) ⟨a.n, [], 1, 2 + (q : Int) % 8⟩
        clear a0 a1 a2 a3 r0 r1 r2 r3 x0 x1 x2 x3 y0 y1 y2 y3 Lw Lr Ln
        generalize (g3 u).alloc (.cells #[.int .i64 a.n, .string ⟨#[]⟩, .int .i64 1, .int .i64 (2 + (q : Int) % 8)] 23) = w4n at *
        generalize (g3 u).heap.size = B at *
        obtain ⟨U4, hU4, g4, u40, rfl, hgu4, hi4⟩ := cls w4n
        obtain ⟨a0, a1, a2, a3⟩ := box_all hgu4 Ya.out
        obtain ⟨p0, p1, p2, p3⟩ := box_all hgu4 Yp.out
        have Vp := cls_call hgu4 hi4 (fun w _ => Valid_any ⟨a.n, [], 1, 2 + (q : Int) % 8⟩ w (fit_of rfl))
        have Lp := cls_call hgu4 hi4 (fun w _ => less_any ⟨a.n, [], 1, 2 + (q : Int) % 8⟩ a w (fit_of rfl) Fa.out)
        rw [Q3.out] at Vp
        generalize HN.lt ⟨a.n, [], 1, 2 + (q : Int) % 8⟩ a = p5 at *
        unfold hval at Vp Lp
        simp only at Vp Lp p0 p1 p2 p3
        by_cases hl : a.l = []
        · have he : a.l.isEmpty = true := by simpa using hl
          clear Q4 hl
          go_wp2_with (first | ((with_reducible refine (Vp _).mono ?_); rintro e w' ⟨rfl, u, rfl⟩) | ((with_reducible refine (Lp _).mono ?_); rintro e w' ⟨rfl, u, rfl⟩))
          go_ret
          exact ⟨ret_bool (rfl), below_to HB4n.out (Nat.le_refl _) (hgu4 _)⟩
        · have he : a.l.isEmpty = false := by simpa using hl
          obtain rfl := Q4.out hl
          clear Q4 hl
          go_wp2_with (first | ((with_reducible refine (Vp _).mono ?_); rintro e w' ⟨rfl, u, rfl⟩) | ((with_reducible refine (Lp _).mono ?_); rintro e w' ⟨rfl, u, rfl⟩))
          go_ret
          exact ⟨ret_bool (rfl), below_to HB4n.out (Nat.le_refl _) (hgu4 _)⟩
      · go_wp2_with (first | ((with_reducible refine (Lw _).mono ?_); rintro e w' ⟨rfl, u, rfl⟩) | ((with_reducible refine (Lr _).mono ?_); rintro e w' ⟨rfl, u, rfl⟩) | ((with_reducible refine (Ln _).mono ?_); rintro e w' ⟨rfl, u, rfl⟩))
        have HB4n := hide (below_alloc (below_to HB3n.out (Nat.le_refl _) (hgu3 u)) (Nat.le_refl _) (.cells #[.int .i64 a.n, .string ⟨#[]⟩, .int .i64 1, .int .i64 (2 + (q : Int) % 8)] 23))
        have Ya := hide ((Za.out.to (hgu3 u)).alloc (.cells #[.int .i64 a.n, .string ⟨#[]⟩, .int .i64 1, .int .i64 (2 + (q : Int) % 8)] 23))
        have Yp : Hid (HBox ((g3 u).alloc (.cells #[.int .i64 a.n, .string ⟨#[]⟩, .int .i64 1, .int .i64 (2 + (q : Int) % 8)] 23)) (g3 u).heap.size ⟨a.n, [], 1, 2 + (q : Int) % 8⟩) := HBox.new (g3 u) ⟨a.n, [], 1, 2 + (q : Int) % 8⟩
        clear a0 a1 a2 a3 r0 r1 r2 r3 x0 x1 x2 x3 y0 y1 y2 y3 Lw Lr Ln
        generalize (g3 u).alloc (.cells #[.int .i64 a.n, .string ⟨#[]⟩, .int .i64 1, .int .i64 (2 + (q : Int) % 8)] 23) = w4n at *
        generalize (g3 u).heap.size = B at *
        obtain ⟨U4, hU4, g4, u40, rfl, hgu4, hi4⟩ := cls w4n
        obtain ⟨a0, a1, a2, a3⟩ := box_all hgu4 Ya.out
        obtain ⟨p0, p1, p2, p3⟩ := box_all hgu4 Yp.out
        have Vp := cls_call hgu4 hi4 (fun w _ => Valid_any ⟨a.n, [], 1, 2 + (q : Int) % 8⟩ w (fit_of rfl))
        have Lp := cls_call hgu4 hi4 (fun w _ => less_any ⟨a.n, [], 1, 2 + (q : Int) % 8⟩ a w (fit_of rfl) Fa.out)
        rw [Q3.out] at Vp
        generalize HN.lt ⟨a.n, [], 1, 2 + (q : Int) % 8⟩ a = p5 at *
        unfold hval at Vp Lp
        simp only at Vp Lp p0 p1 p2 p3
        by_cases hl : a.l = []
        · have he : a.l.isEmpty = true := by simpa using hl
          clear Q4 hl
          go_wp2_with (first | ((with_reducible refine (Vp _).mono ?_); rintro e w' ⟨rfl, u, rfl⟩) | ((with_reducible refine (Lp _).mono ?_); rintro e w' ⟨rfl, u, rfl⟩))
          go_ret
          exact ⟨ret_bool (rfl), below_to HB4n.out (Nat.le_refl _) (hgu4 _)⟩
        · have he : a.l.isEmpty = false := by simpa using hl
          obtain rfl := Q4.out hl
          clear Q4 hl
          go_wp2_with (first | ((with_reducible refine (Vp _).mono ?_); rintro e w' ⟨rfl, u, rfl⟩) | ((with_reducible refine (Lp _).mono ?_); rintro e w' ⟨rfl, u, rfl⟩))
          go_ret
          exact ⟨ret_bool (rfl), below_to HB4n.out (Nat.le_refl _) (hgu4 _)⟩
    · by_cases hn9 : a.n < 9999
      · obtain rfl := Q2.out hn9
        go_wp2_with (first | ((with_reducible refine (Lw _).mono ?_); rintro e w' ⟨rfl, u, rfl⟩) | ((with_reducible refine (Lr _).mono ?_); rintro e w' ⟨rfl, u, rfl⟩) | ((with_reducible refine (Ln _).mono ?_); rintro e w' ⟨rfl, u, rfl⟩))
        have HB4n := hide (below_alloc (below_to HB3n.out (Nat.le_refl _) (hgu3 u)) (Nat.le_refl _) (.cells #[.int .i64 a.n, .string ⟨#[]⟩, .int .i64 1, .int .i64 (2 + (q : Int) % 8)] 23))
        have Ya := hide ((Za.out.to (hgu3 u)).alloc (.cells #[.int .i64 a.n, .string ⟨#[]⟩, .int .i64 1, .int .i64 (2 + (q : Int) % 8)] 23))
        have Yp : Hid (HBox ((g3 u).alloc (.cells #[.int .i64 a.n, .string ⟨#[]⟩, .int .i64 1, .int .i64 (2 + (q : Int) % 8)] 23)) (g3 u).heap.size ⟨a.n, [], 1, 2 + (q : Int) % 8⟩) := HBox.new (g3 u) ⟨a.n, [], 1, 2 + (q : Int) % 8⟩
        clear a0 a1 a2 a3 r0 r1 r2 r3 x0 x1 x2 x3 y0 y1 y2 y3 Lw Lr Ln
        generalize (g3 u).alloc (.cells #[.int .i64 a.n, .string ⟨#[]⟩, .int .i64 1, .int .i64 (2 + (q : Int) % 8)] 23) = w4n at *
        generalize (g3 u).heap.size = B at *
        obtain ⟨U4, hU4, g4, u40, rfl, hgu4, hi4⟩ := cls w4n
        obtain ⟨a0, a1, a2, a3⟩ := box_all hgu4 Ya.out
        obtain ⟨p0, p1, p2, p3⟩ := box_all hgu4 Yp.out
        have Vp := cls_call hgu4 hi4 (fun w _ => Valid_any ⟨a.n, [], 1, 2 + (q : Int) % 8⟩ w (fit_of rfl))
        have Lp := cls_call hgu4 hi4 (fun w _ => less_any ⟨a.n, [], 1, 2 + (q : Int) % 8⟩ a w (fit_of rfl) Fa.out)
        rw [Q3.out] at Vp
        generalize HN.lt ⟨a.n, [], 1, 2 + (q : Int) % 8⟩ a = p5 at *
        unfold hval at Vp Lp
        simp only at Vp Lp p0 p1 p2 p3
        by_cases hl : a.l = []
        · have he : a.l.isEmpty = true := by simpa using hl
          clear Q4 hl
          go_wp2_with (first | ((with_reducible refine (Vp _).mono ?_); rintro e w' ⟨rfl, u, rfl⟩) | ((with_reducible refine (Lp _).mono ?_); rintro e w' ⟨rfl, u, rfl⟩))
          go_ret
          exact ⟨ret_bool (rfl), below_to HB4n.out (Nat.le_refl _) (hgu4 _)⟩
        · have he : a.l.isEmpty = false := by simpa using hl
          obtain rfl := Q4.out hl
          clear Q4 hl
          go_wp2_with (first | ((with_reducible refine (Vp _).mono ?_); rintro e w' ⟨rfl, u, rfl⟩) | ((with_reducible refine (Lp _).mono ?_); rintro e w' ⟨rfl, u, rfl⟩))
          go_ret
          exact ⟨ret_bool (rfl), below_to HB4n.out (Nat.le_refl _) (hgu4 _)⟩
      · go_wp2_with (first | ((with_reducible refine (Lw _).mono ?_); rintro e w' ⟨rfl, u, rfl⟩) | ((with_reducible refine (Lr _).mono ?_); rintro e w' ⟨rfl, u, rfl⟩) | ((with_reducible refine (Ln _).mono ?_); rintro e w' ⟨rfl, u, rfl⟩))
        have HB4n := hide (below_alloc (below_to HB3n.out (Nat.le_refl _) (hgu3 u)) (Nat.le_refl _) (.cells #[.int .i64 a.n, .string ⟨#[]⟩, .int .i64 1, .int .i64 (2 + (q : Int) % 8)] 23))
        have Ya := hide ((Za.out.to (hgu3 u)).alloc (.cells #[.int .i64 a.n, .string ⟨#[]⟩, .int .i64 1, .int .i64 (2 + (q : Int) % 8)] 23))
        have Yp : Hid (HBox ((g3 u).alloc (.cells #[.int .i64 a.n, .string ⟨#[]⟩, .int .i64 1, .int .i64 (2 + (q : Int) % 8)] 23)) (g3 u).heap.size ⟨a.n, [], 1, 2 + (q : Int) % 8⟩) := HBox.new (g3 u) ⟨a.n, [], 1, 2 + (q : Int) % 8⟩
        clear a0 a1 a2 a3 r0 r1 r2 r3 x0 x1 x2 x3 y0 y1 y2 y3 Lw Lr Ln
        generalize (g3 u).alloc (.cells #[.int .i64 a.n, .string ⟨#[]⟩, .int .i64 1, .int .i64 (2 + (q : Int) % 8)] 23) = w4n at *
        generalize (g3 u).heap.size = B at *
        obtain ⟨U4, hU4, g4, u40, rfl, hgu4, hi4⟩ := cls w4n
        obtain ⟨a0, a1, a2, a3⟩ := box_all hgu4 Ya.out
        obtain ⟨p0, p1, p2, p3⟩ := box_all hgu4 Yp.out
        have Vp := cls_call hgu4 hi4 (fun w _ => Valid_any ⟨a.n, [], 1, 2 + (q : Int) % 8⟩ w (fit_of rfl))
        have Lp := cls_call hgu4 hi4 (fun w _ => less_any ⟨a.n, [], 1, 2 + (q : Int) % 8⟩ a w (fit_of rfl) Fa.out)
        rw [Q3.out] at Vp
        generalize HN.lt ⟨a.n, [], 1, 2 + (q : Int) % 8⟩ a = p5 at *
        unfold hval at Vp Lp
        simp only at Vp Lp p0 p1 p2 p3
        by_cases hl : a.l = []
        · have he : a.l.isEmpty = true := by simpa using hl
          clear Q4 hl
          go_wp2_with (first | ((with_reducible refine (Vp _).mono ?_); rintro e w' ⟨rfl, u, rfl⟩) | ((with_reducible refine (Lp _).mono ?_); rintro e w' ⟨rfl, u, rfl⟩))
          go_ret
          exact ⟨ret_bool (rfl), below_to HB4n.out (Nat.le_refl _) (hgu4 _)⟩
        · have he : a.l.isEmpty = false := by simpa using hl
          obtain rfl := Q4.out hl
          clear Q4 hl
          go_wp2_with (first | ((with_reducible refine (Vp _).mono ?_); rintro e w' ⟨rfl, u, rfl⟩) | ((with_reducible refine (Lp _).mono ?_); rintro e w' ⟨rfl, u, rfl⟩))
          go_ret
          exact ⟨ret_bool (rfl), below_to HB4n.out (Nat.le_refl _) (hgu4 _)⟩
  · obtain ⟨t0, t1, t2⟩ := box3 (g u) a.rest (whole (a.n + 1)) (whole a.n)
    have Zr : Hid (HBox (((((g u).alloc (.cells #[.int .i64 a.n, .string ⟨a.l.toArray⟩, .int .i64 0, .int .i64 0] 23)).alloc (.cells #[.int .i64 (a.n + 1), .string ⟨#[]⟩, .int .i64 0, .int .i64 0] 23)).alloc (.cells #[.int .i64 a.n, .string ⟨#[]⟩, .int .i64 0, .int .i64 0] 23)).drew) (g u).heap.size a.rest) := t0
    have Znx : Hid (HBox (((((g u).alloc (.cells #[.int .i64 a.n, .string ⟨a.l.toArray⟩, .int .i64 0, .int .i64 0] 23)).alloc (.cells #[.int .i64 (a.n + 1), .string ⟨#[]⟩, .int .i64 0, .int .i64 0] 23)).alloc (.cells #[.int .i64 a.n, .string ⟨#[]⟩, .int .i64 0, .int .i64 0] 23)).drew) ((g u).heap.size + 1) (whole (a.n + 1))) := t1
    have Zwh : Hid (HBox (((((g u).alloc (.cells #[.int .i64 a.n, .string ⟨a.l.toArray⟩, .int .i64 0, .int .i64 0] 23)).alloc (.cells #[.int .i64 (a.n + 1), .string ⟨#[]⟩, .int .i64 0, .int .i64 0] 23)).alloc (.cells #[.int .i64 a.n, .string ⟨#[]⟩, .int .i64 0, .int .i64 0] 23)).drew) ((g u).heap.size + 1 + 1) (whole a.n)) := t2
    have Za : Hid (HBox (((((g u).alloc (.cells #[.int .i64 a.n, .string ⟨a.l.toArray⟩, .int .i64 0, .int .i64 0] 23)).alloc (.cells #[.int .i64 (a.n + 1), .string ⟨#[]⟩, .int .i64 0, .int .i64 0] 23)).alloc (.cells #[.int .i64 a.n, .string ⟨#[]⟩, .int .i64 0, .int .i64 0] 23)).drew) w.heap.size a) := ((((Xa.out.to (hgu u)).alloc _).alloc _).alloc _).drew
    have HB3n : Hid (Below w.heap.size w (((((g u).alloc (.cells #[.int .i64 a.n, .string ⟨a.l.toArray⟩, .int .i64 0, .int .i64 0] 23)).alloc (.cells #[.int .i64 (a.n + 1), .string ⟨#[]⟩, .int .i64 0, .int .i64 0] 23)).alloc (.cells #[.int .i64 a.n, .string ⟨#[]⟩, .int .i64 0, .int .i64 0] 23)).drew)) := (below_to HB2.out (Nat.le_refl _) ((hgu u).trans ((below3 (g u) (.cells #[.int .i64 a.n, .string ⟨a.l.toArray⟩, .int .i64 0, .int .i64 0] 23) (.cells #[.int .i64 (a.n + 1), .string ⟨#[]⟩, .int .i64 0, .int .i64 0] 23) (.cells #[.int .i64 a.n, .string ⟨#[]⟩, .int .i64 0, .int .i64 0] 23)).mono (hgu u).size))).drew
    clear t0 t1 t2 lu nu nu2 lu2 lu3 nu3 a0 a1 a2 a3 Ca hw
    generalize ((((g u).alloc (.cells #[.int .i64 a.n, .string ⟨a.l.toArray⟩, .int .i64 0, .int .i64 0] 23)).alloc (.cells #[.int .i64 (a.n + 1), .string ⟨#[]⟩, .int .i64 0, .int .i64 0] 23)).alloc (.cells #[.int .i64 a.n, .string ⟨#[]⟩, .int .i64 0, .int .i64 0] 23)).drew = w3n at *
    generalize (g u).heap.size + 1 + 1 = B2 at *
    generalize (g u).heap.size + 1 = B1 at *
    generalize (g u).heap.size = B0 at *
    obtain ⟨U3, hU3, g3, u30, rfl, hgu3, hi3⟩ := cls w3n
    obtain ⟨a0, a1, a2, a3⟩ := box_all hgu3 Za.out
    obtain ⟨r0, r1, r2, r3⟩ := box_all hgu3 Zr.out
    obtain ⟨x0, x1, x2, x3⟩ := box_all hgu3 Zwh.out
    obtain ⟨y0, y1, y2, y3⟩ := box_all hgu3 Znx.out
    have Lw := cls_call hgu3 hi3 (fun w _ => less_any a (whole a.n) w Fa.out (whole_fit _))
    rw [lt_whole] at Lw
    have Lr := cls_call hgu3 hi3 (fun w _ => less_any a.rest a w Fa.out Fa.out)
    have Ln := cls_call hgu3 hi3 (fun w _ => less_any a (whole (a.n + 1)) w Fa.out (whole_fit _))
    have Q1 := hide (fun h => rest_lt hva h)
    have Q2 := hide (fun h => lt_next hva h)
    generalize a.rest.lt a = p1 at *
    generalize a.lt (whole (a.n + 1)) = p2 at *
    unfold hval HN.rest at Lr
    unfold hval whole at Lw Ln
    unfold HN.rest at r0 r1 r2 r3
    unfold whole at x0 x1 x2 x3 y0 y1 y2 y3
    simp only at r0 r1 r2 r3 x0 x1 x2 x3 y0 y1 y2 y3 Lr Lw Ln
    have hP : partOf a.n q = ⟨a.n, [], 1, 2 + (q : Int) % 8⟩ := by unfold partOf; rw [Int.natCast_emod]; rfl
    have Q3 := hide (part_valid hva q)
    have Q4 := hide (fun h => part_lt hva h q)
    rw [hP] at Q3 Q4
    clear hP hva
    by_cases hd : 0 < a.den
    · obtain rfl := Q1.out hd
      by_cases hn9 : a.n < 9999
      · obtain rfl := Q2.out hn9
        go_wp2_with (first | ((with_reducible refine (Lw _).mono ?_); rintro e w' ⟨rfl, u, rfl⟩) | ((with_reducible refine (Lr _).mono ?_); rintro e w' ⟨rfl, u, rfl⟩) | ((with_reducible refine (Ln _).mono ?_); rintro e w' ⟨rfl, u, rfl⟩))
        have HB4n := hide (below_alloc (below_to HB3n.out (Nat.le_refl _) (hgu3 u)) (Nat.le_refl _) (.cells #[.int .i64 a.n, .string ⟨#[]⟩, .int .i64 1, .int .i64 (2 + (q : Int) % 8)] 23))
        have Ya := hide ((Za.out.to (hgu3 u)).alloc (.cells #[.int .i64 a.n, .string ⟨#[]⟩, .int .i64 1, .int .i64 (2 + (q : Int) % 8)] 23))
        have Yp : Hid (HBox ((g3 u).alloc (.cells #[.int .i64 a.n, .string ⟨#[]⟩, .int .i64 1, .int .i64 (2 + (q : Int) % 8)] 23)) (g3 u).heap.size ⟨a.n, [], 1, 2 + (q : Int) % 8⟩) := HBox.new (g3 u) ⟨a.n, [], 1, 2 + (q : Int) % 8⟩
        clear a0 a1 a2 a3 r0 r1 r2 r3 x0 x1 x2 x3 y0 y1 y2 y3 Lw Lr Ln
        generalize (g3 u).alloc (.cells #[.int .i64 a.n, .string ⟨#[]⟩, .int .i64 1, .int .i64 (2 + (q : Int) % 8)] 23) = w4n at *
        generalize (g3 u).heap.size = B at *
        obtain ⟨U4, hU4, g4, u40, rfl, hgu4, hi4⟩ := cls w4n
        obtain ⟨a0, a1, a2, a3⟩ := box_all hgu4 Ya.out
        obtain ⟨p0, p1, p2, p3⟩ := box_all hgu4 Yp.out
        have Vp := cls_call hgu4 hi4 (fun w _ => Valid_any ⟨a.n, [], 1, 2 + (q : Int) % 8⟩ w (fit_of rfl))
        have Lp := cls_call hgu4 hi4 (fun w _ => less_any ⟨a.n, [], 1, 2 + (q : Int) % 8⟩ a w (fit_of rfl) Fa.out)
        rw [Q3.out] at Vp
        generalize HN.lt ⟨a.n, [], 1, 2 + (q : Int) % 8⟩ a = p5 at *
        unfold hval at Vp Lp
        simp only at Vp Lp p0 p1 p2 p3
        by_cases hl : a.l = []
        · have he : a.l.isEmpty = true := by simpa using hl
          clear Q4 hl
          go_wp2_with (first | ((with_reducible refine (Vp _).mono ?_); rintro e w' ⟨rfl, u, rfl⟩) | ((with_reducible refine (Lp _).mono ?_); rintro e w' ⟨rfl, u, rfl⟩))
          go_ret
          exact ⟨ret_bool (rfl), below_to HB4n.out (Nat.le_refl _) (hgu4 _)⟩
        · have he : a.l.isEmpty = false := by simpa using hl
          obtain rfl := Q4.out hl
          clear Q4 hl
          go_wp2_with (first | ((with_reducible refine (Vp _).mono ?_); rintro e w' ⟨rfl, u, rfl⟩) | ((with_reducible refine (Lp _).mono ?_); rintro e w' ⟨rfl, u, rfl⟩))
          go_ret
          exact ⟨ret_bool (rfl), below_to HB4n.out (Nat.le_refl _) (hgu4 _)⟩
      · go_wp2_with (first | ((with_reducible refine (Lw _).mono ?_); rintro e w' ⟨rfl, u, rfl⟩) | ((with_reducible refine (Lr _).mono ?_); rintro e w' ⟨rfl, u, rfl⟩) | ((with_reducible refine (Ln _).mono ?_); rintro e w' ⟨rfl, u, rfl⟩))
        have HB4n := hide (below_alloc (below_to HB3n.out (Nat.le_refl _) (hgu3 u)) (Nat.le_refl _) (.cells #[.int .i64 a.n, .string ⟨#[]⟩, .int .i64 1, .int .i64 (2 + (q : Int) % 8)] 23))
        have Ya := hide ((Za.out.to (hgu3 u)).alloc (.cells #[.int .i64 a.n, .string ⟨#[]⟩, .int .i64 1, .int .i64 (2 + (q : Int) % 8)] 23))
        have Yp : Hid (HBox ((g3 u).alloc (.cells #[.int .i64 a.n, .string ⟨#[]⟩, .int .i64 1, .int .i64 (2 + (q : Int) % 8)] 23)) (g3 u).heap.size ⟨a.n, [], 1, 2 + (q : Int) % 8⟩) := HBox.new (g3 u) ⟨a.n, [], 1, 2 + (q : Int) % 8⟩
        clear a0 a1 a2 a3 r0 r1 r2 r3 x0 x1 x2 x3 y0 y1 y2 y3 Lw Lr Ln
        generalize (g3 u).alloc (.cells #[.int .i64 a.n, .string ⟨#[]⟩, .int .i64 1, .int .i64 (2 + (q : Int) % 8)] 23) = w4n at *
        generalize (g3 u).heap.size = B at *
        obtain ⟨U4, hU4, g4, u40, rfl, hgu4, hi4⟩ := cls w4n
        obtain ⟨a0, a1, a2, a3⟩ := box_all hgu4 Ya.out
        obtain ⟨p0, p1, p2, p3⟩ := box_all hgu4 Yp.out
        have Vp := cls_call hgu4 hi4 (fun w _ => Valid_any ⟨a.n, [], 1, 2 + (q : Int) % 8⟩ w (fit_of rfl))
        have Lp := cls_call hgu4 hi4 (fun w _ => less_any ⟨a.n, [], 1, 2 + (q : Int) % 8⟩ a w (fit_of rfl) Fa.out)
        rw [Q3.out] at Vp
        generalize HN.lt ⟨a.n, [], 1, 2 + (q : Int) % 8⟩ a = p5 at *
        unfold hval at Vp Lp
        simp only at Vp Lp p0 p1 p2 p3
        by_cases hl : a.l = []
        · have he : a.l.isEmpty = true := by simpa using hl
          clear Q4 hl
          go_wp2_with (first | ((with_reducible refine (Vp _).mono ?_); rintro e w' ⟨rfl, u, rfl⟩) | ((with_reducible refine (Lp _).mono ?_); rintro e w' ⟨rfl, u, rfl⟩))
          go_ret
          exact ⟨ret_bool (rfl), below_to HB4n.out (Nat.le_refl _) (hgu4 _)⟩
        · have he : a.l.isEmpty = false := by simpa using hl
          obtain rfl := Q4.out hl
          clear Q4 hl
          go_wp2_with (first | ((with_reducible refine (Vp _).mono ?_); rintro e w' ⟨rfl, u, rfl⟩) | ((with_reducible refine (Lp _).mono ?_); rintro e w' ⟨rfl, u, rfl⟩))
          go_ret
          exact ⟨ret_bool (rfl), below_to HB4n.out (Nat.le_refl _) (hgu4 _)⟩
    · by_cases hn9 : a.n < 9999
      · obtain rfl := Q2.out hn9
        go_wp2_with (first | ((with_reducible refine (Lw _).mono ?_); rintro e w' ⟨rfl, u, rfl⟩) | ((with_reducible refine (Lr _).mono ?_); rintro e w' ⟨rfl, u, rfl⟩) | ((with_reducible refine (Ln _).mono ?_); rintro e w' ⟨rfl, u, rfl⟩))
        have HB4n := hide (below_alloc (below_to HB3n.out (Nat.le_refl _) (hgu3 u)) (Nat.le_refl _) (.cells #[.int .i64 a.n, .string ⟨#[]⟩, .int .i64 1, .int .i64 (2 + (q : Int) % 8)] 23))
        have Ya := hide ((Za.out.to (hgu3 u)).alloc (.cells #[.int .i64 a.n, .string ⟨#[]⟩, .int .i64 1, .int .i64 (2 + (q : Int) % 8)] 23))
        have Yp : Hid (HBox ((g3 u).alloc (.cells #[.int .i64 a.n, .string ⟨#[]⟩, .int .i64 1, .int .i64 (2 + (q : Int) % 8)] 23)) (g3 u).heap.size ⟨a.n, [], 1, 2 + (q : Int) % 8⟩) := HBox.new (g3 u) ⟨a.n, [], 1, 2 + (q : Int) % 8⟩
        clear a0 a1 a2 a3 r0 r1 r2 r3 x0 x1 x2 x3 y0 y1 y2 y3 Lw Lr Ln
        generalize (g3 u).alloc (.cells #[.int .i64 a.n, .string ⟨#[]⟩, .int .i64 1, .int .i64 (2 + (q : Int) % 8)] 23) = w4n at *
        generalize (g3 u).heap.size = B at *
        obtain ⟨U4, hU4, g4, u40, rfl, hgu4, hi4⟩ := cls w4n
        obtain ⟨a0, a1, a2, a3⟩ := box_all hgu4 Ya.out
        obtain ⟨p0, p1, p2, p3⟩ := box_all hgu4 Yp.out
        have Vp := cls_call hgu4 hi4 (fun w _ => Valid_any ⟨a.n, [], 1, 2 + (q : Int) % 8⟩ w (fit_of rfl))
        have Lp := cls_call hgu4 hi4 (fun w _ => less_any ⟨a.n, [], 1, 2 + (q : Int) % 8⟩ a w (fit_of rfl) Fa.out)
        rw [Q3.out] at Vp
        generalize HN.lt ⟨a.n, [], 1, 2 + (q : Int) % 8⟩ a = p5 at *
        unfold hval at Vp Lp
        simp only at Vp Lp p0 p1 p2 p3
        by_cases hl : a.l = []
        · have he : a.l.isEmpty = true := by simpa using hl
          clear Q4 hl
          go_wp2_with (first | ((with_reducible refine (Vp _).mono ?_); rintro e w' ⟨rfl, u, rfl⟩) | ((with_reducible refine (Lp _).mono ?_); rintro e w' ⟨rfl, u, rfl⟩))
          go_ret
          exact ⟨ret_bool (rfl), below_to HB4n.out (Nat.le_refl _) (hgu4 _)⟩
        · have he : a.l.isEmpty = false := by simpa using hl
          obtain rfl := Q4.out hl
          clear Q4 hl
          go_wp2_with (first | ((with_reducible refine (Vp _).mono ?_); rintro e w' ⟨rfl, u, rfl⟩) | ((with_reducible refine (Lp _).mono ?_); rintro e w' ⟨rfl, u, rfl⟩))
          go_ret
          exact ⟨ret_bool (rfl), below_to HB4n.out (Nat.le_refl _) (hgu4 _)⟩
      · go_wp2_with (first | ((with_reducible refine (Lw _).mono ?_); rintro e w' ⟨rfl, u, rfl⟩) | ((with_reducible refine (Lr _).mono ?_); rintro e w' ⟨rfl, u, rfl⟩) | ((with_reducible refine (Ln _).mono ?_); rintro e w' ⟨rfl, u, rfl⟩))
        have HB4n := hide (below_alloc (below_to HB3n.out (Nat.le_refl _) (hgu3 u)) (Nat.le_refl _) (.cells #[.int .i64 a.n, .string ⟨#[]⟩, .int .i64 1, .int .i64 (2 + (q : Int) % 8)] 23))
        have Ya := hide ((Za.out.to (hgu3 u)).alloc (.cells #[.int .i64 a.n, .string ⟨#[]⟩, .int .i64 1, .int .i64 (2 + (q : Int) % 8)] 23))
        have Yp : Hid (HBox ((g3 u).alloc (.cells #[.int .i64 a.n, .string ⟨#[]⟩, .int .i64 1, .int .i64 (2 + (q : Int) % 8)] 23)) (g3 u).heap.size ⟨a.n, [], 1, 2 + (q : Int) % 8⟩) := HBox.new (g3 u) ⟨a.n, [], 1, 2 + (q : Int) % 8⟩
        clear a0 a1 a2 a3 r0 r1 r2 r3 x0 x1 x2 x3 y0 y1 y2 y3 Lw Lr Ln
        generalize (g3 u).alloc (.cells #[.int .i64 a.n, .string ⟨#[]⟩, .int .i64 1, .int .i64 (2 + (q : Int) % 8)] 23) = w4n at *
        generalize (g3 u).heap.size = B at *
        obtain ⟨U4, hU4, g4, u40, rfl, hgu4, hi4⟩ := cls w4n
        obtain ⟨a0, a1, a2, a3⟩ := box_all hgu4 Ya.out
        obtain ⟨p0, p1, p2, p3⟩ := box_all hgu4 Yp.out
        have Vp := cls_call hgu4 hi4 (fun w _ => Valid_any ⟨a.n, [], 1, 2 + (q : Int) % 8⟩ w (fit_of rfl))
        have Lp := cls_call hgu4 hi4 (fun w _ => less_any ⟨a.n, [], 1, 2 + (q : Int) % 8⟩ a w (fit_of rfl) Fa.out)
        rw [Q3.out] at Vp
        generalize HN.lt ⟨a.n, [], 1, 2 + (q : Int) % 8⟩ a = p5 at *
        unfold hval at Vp Lp
        simp only at Vp Lp p0 p1 p2 p3
        by_cases hl : a.l = []
        · have he : a.l.isEmpty = true := by simpa using hl
          clear Q4 hl
          go_wp2_with (first | ((with_reducible refine (Vp _).mono ?_); rintro e w' ⟨rfl, u, rfl⟩) | ((with_reducible refine (Lp _).mono ?_); rintro e w' ⟨rfl, u, rfl⟩))
          go_ret
          exact ⟨ret_bool (rfl), below_to HB4n.out (Nat.le_refl _) (hgu4 _)⟩
        · have he : a.l.isEmpty = false := by simpa using hl
          obtain rfl := Q4.out hl
          clear Q4 hl
          go_wp2_with (first | ((with_reducible refine (Vp _).mono ?_); rintro e w' ⟨rfl, u, rfl⟩) | ((with_reducible refine (Lp _).mono ?_); rintro e w' ⟨rfl, u, rfl⟩))
          go_ret
          exact ⟨ret_bool (rfl), below_to HB4n.out (Nat.le_refl _) (hgu4 _)⟩
end Go.Proofs.YtabphhclnboknaaDoor
