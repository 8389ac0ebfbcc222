/- Walk of the law NumberSides. -/
import Derived.Test.YtabphhclnboknaaDoorW11
set_option linter.unusedVariables false
set_option linter.unusedSimpArgs false
namespace Go.Proofs.YtabphhclnboknaaDoor
open Go.RowKit

theorem odd_whole {n : Int} (h1 : 1 ≤ n) (h2 : n ≤ 9999) : (whole n).odd = decide (n % 2 = 1) := by
  unfold HN.odd
  rw [whole_valid h1 h2]; rfl
theorem odd_next {n : Int} (h1 : 1 ≤ n) (h2 : n < 9999) : (whole (n + 1)).odd = !decide (n % 2 = 1) := by
  rw [odd_whole (by omega) (by omega)]
  by_cases h : n % 2 = 1
  · simp [h]; omega
  · simp [h]; omega
theorem whole_fit (n : Int) : (whole n).fit := fit_of rfl
theorem hbox_second (w : World) (o : Obj) (h : HN) : HBox ((w.alloc o).alloc (.cells #[.int .i64 h.n, .string ⟨h.l.toArray⟩, .int .i64 h.num, .int .i64 h.den] 23)) (w.heap.size + 1) h := by
  have := HBox.new (w.alloc o) h
  simpa using this
theorem zfacts {wc : World} {b : Nat} {n : Int} (H : HBox wc b (whole n)) : wc.cell? ⟨b, 0, none⟩ = some (.int .i64 n) ∧ wc.cell? ⟨b, 1, none⟩ = some (.string ⟨#[]⟩) ∧ wc.cell? ⟨b, 2, none⟩ = some (.int .i64 0) ∧ wc.cell? ⟨b, 3, none⟩ = some (.int .i64 0) := H.facts
theorem Odd_at {p : Bool} (h : HN) (hp : h.odd = p) (w : World) (hl : h.fit) : Calls Tryd.prog 21 #[hval h] w fun e w' => e = .returned (.bool p) ∧ Below w.heap.size w w' := hp ▸ Odd_any h w hl
theorem Odd_w {p : Bool} {n : Int} (hp : (whole n).odd = p) (w : World) : Calls Tryd.prog 21 #[.agg #[.int .i64 n, .string ⟨#[]⟩, .int .i64 0, .int .i64 0]] w fun e w' => e = .returned (.bool p) ∧ Below w.heap.size w w' := Odd_at (whole n) hp w (whole_fit n)
theorem Odd_h {p : Bool} {h : HN} {S : ByteArray} (hS : ByteArray.mk h.l.toArray = S) (hp : h.odd = p) (w : World) (hl : h.fit) : Calls Tryd.prog 21 #[.agg #[.int .i64 h.n, .string S, .int .i64 h.num, .int .i64 h.den]] w fun e w' => e = .returned (.bool p) ∧ Below w.heap.size w w' := hS ▸ Odd_at h hp w hl
set_option maxHeartbeats 4000000 in
theorem sides_law (h : HN) (w : World) (hl : h.fit) (hg : Glob w) : Calls Tryd.prog 9 #[hval h] w fun e w' => e = .returned (.bool true) ∧ Below w.heap.size w w' := by
  have HX0 := hide (HBox.new w h)
  have HB0 := hide ((Below.refl w.heap.size w).alloc (Nat.le_refl _) (.cells #[.int .i64 h.n, .string ⟨h.l.toArray⟩, .int .i64 h.num, .int .i64 h.den] 23))
  have HL := hide hl
  have HG0 := hide (hg.alloc (.cells #[.int .i64 h.n, .string ⟨h.l.toArray⟩, .int .i64 h.num, .int .i64 h.den] 23))
  clear hl hg
  go_enter Tryd.func9, Tryd.ntmps9
  unfold hval
  go_wp2_with fail
  refine (head_any _ HG0.out).mono ?_
  rintro e w1 ⟨rfl, hb⟩
  have HB1 := hide (HB0.out.trans (hb.mono HB0.out.size))
  have HX1 := hide (HX0.out.below hb (by simp))
  have HS1 : Hid (w.heap.size < w1.heap.size) := by have := hb.size; simp at this; exact this
  clear hb HX0 HB0 HG0
  obtain ⟨x0, x1, x2, x3⟩ := HX1.out.facts
  go_wp2_with fail
  refine (Valid_any h _ HL.out).mono ?_
  rintro e w2 ⟨rfl, hb⟩
  have HB2 := hide (HB1.out.trans (hb.mono HB1.out.size))
  have HX2 := hide (HX1.out.below hb HS1.out)
  have HS2 : Hid (w.heap.size < w2.heap.size) := by have := hb.size; have := HS1.out; simp only [Hid]; omega
  clear hb HX1 HB1 HS1 x0 x1 x2 x3
  obtain ⟨x0, x1, x2, x3⟩ := HX2.out.facts
  cases hv : h.valid
  · have HO : Hid (h.odd = false) := by show _ = _; unfold HN.odd; rw [hv]; rfl
    clear hv
    go_wp2_with fail
    refine (Odd_any h _ HL.out).mono ?_
    rw [HO.out]
    rintro e w3 ⟨rfl, hb⟩
    have HB3 := hide (HB2.out.trans (hb.mono HB2.out.size))
    clear hb
    go_wp2_with fail
    go_ret
    exact ⟨ret_bool rfl, HB3.out⟩
  · obtain ⟨n1, n2, _, _⟩ := (valid_iff h).1 hv
    have HO : Hid (h.odd = decide (h.n % 2 = 1)) := by show _ = _; unfold HN.odd; rw [hv]; rfl
    have HW : Hid ((whole h.n).odd = decide (h.n % 2 = 1)) := odd_whole n1 n2
    have HN : Hid (h.n < 9999 → (whole (h.n + 1)).odd = !decide (h.n % 2 = 1)) := fun hh => odd_next n1 hh
    clear hv
    go_wp2_with fail
    have hw : IntKind.i64.wrap (h.n + 1) = h.n + 1 := by rw [IntKind.wrap_i64]; omega
    have hlt := HS2.out
    have hne : w.heap.size ≠ w2.heap.size := by omega
    have hne2 : w.heap.size ≠ w2.heap.size + 1 := by omega
    have hlt2 : w.heap.size < w2.heap.size + 1 := by omega
    go_region
    all_goals
      go_wp2_with fail
      first
      | (
         (with_reducible show Code.wp _ _ _ _ ((w2.alloc (.cells #[.int .i64 h.n, .string ⟨#[]⟩, .int .i64 0, .int .i64 0] 23)).alloc (.cells #[.int .i64 (h.n + 1), .string ⟨#[]⟩, .int .i64 0, .int .i64 0] 23)).drew)
         have HX3 : Hid (HBox ((w2.alloc (.cells #[.int .i64 h.n, .string ⟨#[]⟩, .int .i64 0, .int .i64 0] 23)).alloc (.cells #[.int .i64 (h.n + 1), .string ⟨#[]⟩, .int .i64 0, .int .i64 0] 23)).drew w.heap.size h) := HBox.mk (((HX2.out.blk.alloc (.cells #[.int .i64 h.n, .string ⟨#[]⟩, .int .i64 0, .int .i64 0] 23)).alloc (.cells #[.int .i64 (h.n + 1), .string ⟨#[]⟩, .int .i64 0, .int .i64 0] 23)).drew)
         have HB3 : Hid (Below w.heap.size w ((w2.alloc (.cells #[.int .i64 h.n, .string ⟨#[]⟩, .int .i64 0, .int .i64 0] 23)).alloc (.cells #[.int .i64 (h.n + 1), .string ⟨#[]⟩, .int .i64 0, .int .i64 0] 23)).drew) := ((HB2.out.alloc HB2.out.size (.cells #[.int .i64 h.n, .string ⟨#[]⟩, .int .i64 0, .int .i64 0] 23)).alloc (by have := HB2.out.size; simp; omega) (.cells #[.int .i64 (h.n + 1), .string ⟨#[]⟩, .int .i64 0, .int .i64 0] 23)).drew
         have HS3 : Hid (w.heap.size < (((w2.alloc (.cells #[.int .i64 h.n, .string ⟨#[]⟩, .int .i64 0, .int .i64 0] 23)).alloc (.cells #[.int .i64 (h.n + 1), .string ⟨#[]⟩, .int .i64 0, .int .i64 0] 23)).drew).heap.size ∧ w2.heap.size + 1 < (((w2.alloc (.cells #[.int .i64 h.n, .string ⟨#[]⟩, .int .i64 0, .int .i64 0] 23)).alloc (.cells #[.int .i64 (h.n + 1), .string ⟨#[]⟩, .int .i64 0, .int .i64 0] 23)).drew).heap.size) := by have := HS2.out; simp only [Hid]; show _ < _ ∧ _ < _; simp [World.drew]; omega
         have HWH : Hid (HBox ((w2.alloc (.cells #[.int .i64 h.n, .string ⟨#[]⟩, .int .i64 0, .int .i64 0] 23)).alloc (.cells #[.int .i64 (h.n + 1), .string ⟨#[]⟩, .int .i64 0, .int .i64 0] 23)).drew w2.heap.size (whole h.n)) := HBox.mk (((HBox.new w2 (whole h.n)).blk.alloc (.cells #[.int .i64 (h.n + 1), .string ⟨#[]⟩, .int .i64 0, .int .i64 0] 23)).drew)
         have HNX : Hid (HBox ((w2.alloc (.cells #[.int .i64 h.n, .string ⟨#[]⟩, .int .i64 0, .int .i64 0] 23)).alloc (.cells #[.int .i64 (h.n + 1), .string ⟨#[]⟩, .int .i64 0, .int .i64 0] 23)).drew (w2.heap.size + 1) (whole (h.n + 1))) := HBox.mk ((hbox_second w2 (.cells #[.int .i64 h.n, .string ⟨#[]⟩, .int .i64 0, .int .i64 0] 23) (whole (h.n + 1))).blk.drew)
         generalize ((w2.alloc (.cells #[.int .i64 h.n, .string ⟨#[]⟩, .int .i64 0, .int .i64 0] 23)).alloc (.cells #[.int .i64 (h.n + 1), .string ⟨#[]⟩, .int .i64 0, .int .i64 0] 23)).drew = w3 at *
         have HS4 : Hid ((w2.heap.size) < w3.heap.size ∧ (w2.heap.size + 1) < w3.heap.size) := by have := HS3.out; simp only [Hid]; omega
         clear HX2 HB2 HS2 x0 x1 x2 x3 hne hne2 hlt2 hlt hw
         generalize h.n + 1 = m at *
         have hc : (∃ p : Bool, Hid (decide (h.n % 2 = 1) = p)) := ⟨_, rfl⟩
         obtain ⟨p, HP⟩ := hc
         rw [HP.out] at HO HW HN
         have e1 := HO.out
         have e2 := HW.out
         by_cases hm : h.n < 9999
         · have e3 := HN.out hm
           have hb : (h.n == 9999) = false := by simp; omega
           obtain ⟨U, hU, g, hgu, hi⟩ := the_class (fun w' => Below w3.heap.size w3 w') (Below.refl w3.heap.size w3)
           have q0 := fun u => (HX3.out.below (hgu u) HS3.out.1).facts.1
           obtain ⟨S, hS⟩ : ∃ S, ByteArray.mk h.l.toArray = S := ⟨_, rfl⟩
           have q1 := fun u => hS ▸ (HX3.out.below (hgu u) HS3.out.1).facts.2.1
           have q2 := fun u => (HX3.out.below (hgu u) HS3.out.1).facts.2.2.1
           have q3 := fun u => (HX3.out.below (hgu u) HS3.out.1).facts.2.2.2
           have r0 := fun u => (zfacts (HWH.out.below (hgu u) HS4.out.1)).1
           have r1 := fun u => (zfacts (HWH.out.below (hgu u) HS4.out.1)).2.1
           have r2 := fun u => (zfacts (HWH.out.below (hgu u) HS4.out.1)).2.2.1
           have r3 := fun u => (zfacts (HWH.out.below (hgu u) HS4.out.1)).2.2.2
           have s0 := fun u => (zfacts (HNX.out.below (hgu u) HS4.out.2)).1
           have s1 := fun u => (zfacts (HNX.out.below (hgu u) HS4.out.2)).2.1
           have s2 := fun u => (zfacts (HNX.out.below (hgu u) HS4.out.2)).2.2.1
           have s3 := fun u => (zfacts (HNX.out.below (hgu u) HS4.out.2)).2.2.2
           cases p
           all_goals
             simp only [Bool.not_true, Bool.not_false] at e3
             refine wp_region_class g (by kernel_rfl) (by kernel_rfl) (hi _ (Below.refl w3.heap.size w3).drew) ?_
             have OH := fun u => class_call hi ((Odd_h hS e1 (g u) HL.out).mono (fun _ _ h => ⟨h.1, (hgu u).trans (h.2.mono (hgu u).size)⟩))
             have OW := fun u => class_call hi ((Odd_w e2 (g u)).mono (fun _ _ h => ⟨h.1, (hgu u).trans (h.2.mono (hgu u).size)⟩))
             have ON := fun u => class_call hi ((Odd_w e3 (g u)).mono (fun _ _ h => ⟨h.1, (hgu u).trans (h.2.mono (hgu u).size)⟩))
             repeat (go_big_quiet_step (first | with_reducible exact OH _ | with_reducible exact OW _ | with_reducible exact ON _))
             refine wpQuiet_nil ?_
             intro w4 hw4
             obtain ⟨u, rfl⟩ := hw4
             have HB5 := hide (HB3.out.trans ((hgu u).mono HB3.out.size))
             clear q0 q1 q2 q3 r0 r1 r2 r3 s0 s1 s2 s3 hi
             go_wp2_with fail
             go_ret
             exact ⟨ret_bool rfl, HB5.out⟩
         · have hn9 : h.n = 9999 := by omega
           have hb : (h.n == 9999) = true := by simpa using hn9
           clear hn9
           obtain ⟨U, hU, g, hgu, hi⟩ := the_class (fun w' => Below w3.heap.size w3 w') (Below.refl w3.heap.size w3)
           have q0 := fun u => (HX3.out.below (hgu u) HS3.out.1).facts.1
           obtain ⟨S, hS⟩ : ∃ S, ByteArray.mk h.l.toArray = S := ⟨_, rfl⟩
           have q1 := fun u => hS ▸ (HX3.out.below (hgu u) HS3.out.1).facts.2.1
           have q2 := fun u => (HX3.out.below (hgu u) HS3.out.1).facts.2.2.1
           have q3 := fun u => (HX3.out.below (hgu u) HS3.out.1).facts.2.2.2
           have r0 := fun u => (zfacts (HWH.out.below (hgu u) HS4.out.1)).1
           have r1 := fun u => (zfacts (HWH.out.below (hgu u) HS4.out.1)).2.1
           have r2 := fun u => (zfacts (HWH.out.below (hgu u) HS4.out.1)).2.2.1
           have r3 := fun u => (zfacts (HWH.out.below (hgu u) HS4.out.1)).2.2.2
           have s0 := fun u => (zfacts (HNX.out.below (hgu u) HS4.out.2)).1
           have s1 := fun u => (zfacts (HNX.out.below (hgu u) HS4.out.2)).2.1
           have s2 := fun u => (zfacts (HNX.out.below (hgu u) HS4.out.2)).2.2.1
           have s3 := fun u => (zfacts (HNX.out.below (hgu u) HS4.out.2)).2.2.2
           cases p
           all_goals
             refine wp_region_class g (by kernel_rfl) (by kernel_rfl) (hi _ (Below.refl w3.heap.size w3).drew) ?_
             have OH := fun u => class_call hi ((Odd_h hS e1 (g u) HL.out).mono (fun _ _ h => ⟨h.1, (hgu u).trans (h.2.mono (hgu u).size)⟩))
             have OW := fun u => class_call hi ((Odd_w e2 (g u)).mono (fun _ _ h => ⟨h.1, (hgu u).trans (h.2.mono (hgu u).size)⟩))
             repeat (go_big_quiet_step (first | with_reducible exact OH _ | with_reducible exact OW _))
             refine wpQuiet_nil ?_
             intro w4 hw4
             obtain ⟨u, rfl⟩ := hw4
             have HB5 := hide (HB3.out.trans ((hgu u).mono HB3.out.size))
             clear q0 q1 q2 q3 r0 r1 r2 r3 s0 s1 s2 s3 hi
             go_wp2_with fail
             go_ret
             exact ⟨ret_bool rfl, HB5.out⟩
         )
      | (
         (with_reducible show Code.wp _ _ _ _ ((w2.alloc (.cells #[.int .i64 (h.n + 1), .string ⟨#[]⟩, .int .i64 0, .int .i64 0] 23)).alloc (.cells #[.int .i64 h.n, .string ⟨#[]⟩, .int .i64 0, .int .i64 0] 23)).drew)
         have HX3 : Hid (HBox ((w2.alloc (.cells #[.int .i64 (h.n + 1), .string ⟨#[]⟩, .int .i64 0, .int .i64 0] 23)).alloc (.cells #[.int .i64 h.n, .string ⟨#[]⟩, .int .i64 0, .int .i64 0] 23)).drew w.heap.size h) := HBox.mk (((HX2.out.blk.alloc (.cells #[.int .i64 (h.n + 1), .string ⟨#[]⟩, .int .i64 0, .int .i64 0] 23)).alloc (.cells #[.int .i64 h.n, .string ⟨#[]⟩, .int .i64 0, .int .i64 0] 23)).drew)
         have HB3 : Hid (Below w.heap.size w ((w2.alloc (.cells #[.int .i64 (h.n + 1), .string ⟨#[]⟩, .int .i64 0, .int .i64 0] 23)).alloc (.cells #[.int .i64 h.n, .string ⟨#[]⟩, .int .i64 0, .int .i64 0] 23)).drew) := ((HB2.out.alloc HB2.out.size (.cells #[.int .i64 (h.n + 1), .string ⟨#[]⟩, .int .i64 0, .int .i64 0] 23)).alloc (by have := HB2.out.size; simp; omega) (.cells #[.int .i64 h.n, .string ⟨#[]⟩, .int .i64 0, .int .i64 0] 23)).drew
         have HS3 : Hid (w.heap.size < (((w2.alloc (.cells #[.int .i64 (h.n + 1), .string ⟨#[]⟩, .int .i64 0, .int .i64 0] 23)).alloc (.cells #[.int .i64 h.n, .string ⟨#[]⟩, .int .i64 0, .int .i64 0] 23)).drew).heap.size ∧ w2.heap.size + 1 < (((w2.alloc (.cells #[.int .i64 (h.n + 1), .string ⟨#[]⟩, .int .i64 0, .int .i64 0] 23)).alloc (.cells #[.int .i64 h.n, .string ⟨#[]⟩, .int .i64 0, .int .i64 0] 23)).drew).heap.size) := by have := HS2.out; simp only [Hid]; show _ < _ ∧ _ < _; simp [World.drew]; omega
         have HNX : Hid (HBox ((w2.alloc (.cells #[.int .i64 (h.n + 1), .string ⟨#[]⟩, .int .i64 0, .int .i64 0] 23)).alloc (.cells #[.int .i64 h.n, .string ⟨#[]⟩, .int .i64 0, .int .i64 0] 23)).drew w2.heap.size (whole (h.n + 1))) := HBox.mk (((HBox.new w2 (whole (h.n + 1))).blk.alloc (.cells #[.int .i64 h.n, .string ⟨#[]⟩, .int .i64 0, .int .i64 0] 23)).drew)
         have HWH : Hid (HBox ((w2.alloc (.cells #[.int .i64 (h.n + 1), .string ⟨#[]⟩, .int .i64 0, .int .i64 0] 23)).alloc (.cells #[.int .i64 h.n, .string ⟨#[]⟩, .int .i64 0, .int .i64 0] 23)).drew (w2.heap.size + 1) (whole h.n)) := HBox.mk ((hbox_second w2 (.cells #[.int .i64 (h.n + 1), .string ⟨#[]⟩, .int .i64 0, .int .i64 0] 23) (whole h.n)).blk.drew)
         generalize ((w2.alloc (.cells #[.int .i64 (h.n + 1), .string ⟨#[]⟩, .int .i64 0, .int .i64 0] 23)).alloc (.cells #[.int .i64 h.n, .string ⟨#[]⟩, .int .i64 0, .int .i64 0] 23)).drew = w3 at *
         have HS4 : Hid ((w2.heap.size + 1) < w3.heap.size ∧ (w2.heap.size) < w3.heap.size) := by have := HS3.out; simp only [Hid]; omega
         clear HX2 HB2 HS2 x0 x1 x2 x3 hne hne2 hlt2 hlt hw
         generalize h.n + 1 = m at *
         have hc : (∃ p : Bool, Hid (decide (h.n % 2 = 1) = p)) := ⟨_, rfl⟩
         obtain ⟨p, HP⟩ := hc
         rw [HP.out] at HO HW HN
         have e1 := HO.out
         have e2 := HW.out
         by_cases hm : h.n < 9999
         · have e3 := HN.out hm
           have hb : (h.n == 9999) = false := by simp; omega
           obtain ⟨U, hU, g, hgu, hi⟩ := the_class (fun w' => Below w3.heap.size w3 w') (Below.refl w3.heap.size w3)
           have q0 := fun u => (HX3.out.below (hgu u) HS3.out.1).facts.1
           obtain ⟨S, hS⟩ : ∃ S, ByteArray.mk h.l.toArray = S := ⟨_, rfl⟩
           have q1 := fun u => hS ▸ (HX3.out.below (hgu u) HS3.out.1).facts.2.1
           have q2 := fun u => (HX3.out.below (hgu u) HS3.out.1).facts.2.2.1
           have q3 := fun u => (HX3.out.below (hgu u) HS3.out.1).facts.2.2.2
           have r0 := fun u => (zfacts (HWH.out.below (hgu u) HS4.out.1)).1
           have r1 := fun u => (zfacts (HWH.out.below (hgu u) HS4.out.1)).2.1
           have r2 := fun u => (zfacts (HWH.out.below (hgu u) HS4.out.1)).2.2.1
           have r3 := fun u => (zfacts (HWH.out.below (hgu u) HS4.out.1)).2.2.2
           have s0 := fun u => (zfacts (HNX.out.below (hgu u) HS4.out.2)).1
           have s1 := fun u => (zfacts (HNX.out.below (hgu u) HS4.out.2)).2.1
           have s2 := fun u => (zfacts (HNX.out.below (hgu u) HS4.out.2)).2.2.1
           have s3 := fun u => (zfacts (HNX.out.below (hgu u) HS4.out.2)).2.2.2
           cases p
           all_goals
             simp only [Bool.not_true, Bool.not_false] at e3
             refine wp_region_class g (by kernel_rfl) (by kernel_rfl) (hi _ (Below.refl w3.heap.size w3).drew) ?_
             have OH := fun u => class_call hi ((Odd_h hS e1 (g u) HL.out).mono (fun _ _ h => ⟨h.1, (hgu u).trans (h.2.mono (hgu u).size)⟩))
             have OW := fun u => class_call hi ((Odd_w e2 (g u)).mono (fun _ _ h => ⟨h.1, (hgu u).trans (h.2.mono (hgu u).size)⟩))
             have ON := fun u => class_call hi ((Odd_w e3 (g u)).mono (fun _ _ h => ⟨h.1, (hgu u).trans (h.2.mono (hgu u).size)⟩))
             repeat (go_big_quiet_step (first | with_reducible exact OH _ | with_reducible exact OW _ | with_reducible exact ON _))
             refine wpQuiet_nil ?_
             intro w4 hw4
             obtain ⟨u, rfl⟩ := hw4
             have HB5 := hide (HB3.out.trans ((hgu u).mono HB3.out.size))
             clear q0 q1 q2 q3 r0 r1 r2 r3 s0 s1 s2 s3 hi
             go_wp2_with fail
             go_ret
             exact ⟨ret_bool rfl, HB5.out⟩
         · have hn9 : h.n = 9999 := by omega
           have hb : (h.n == 9999) = true := by simpa using hn9
           clear hn9
           obtain ⟨U, hU, g, hgu, hi⟩ := the_class (fun w' => Below w3.heap.size w3 w') (Below.refl w3.heap.size w3)
           have q0 := fun u => (HX3.out.below (hgu u) HS3.out.1).facts.1
           obtain ⟨S, hS⟩ : ∃ S, ByteArray.mk h.l.toArray = S := ⟨_, rfl⟩
           have q1 := fun u => hS ▸ (HX3.out.below (hgu u) HS3.out.1).facts.2.1
           have q2 := fun u => (HX3.out.below (hgu u) HS3.out.1).facts.2.2.1
           have q3 := fun u => (HX3.out.below (hgu u) HS3.out.1).facts.2.2.2
           have r0 := fun u => (zfacts (HWH.out.below (hgu u) HS4.out.1)).1
           have r1 := fun u => (zfacts (HWH.out.below (hgu u) HS4.out.1)).2.1
           have r2 := fun u => (zfacts (HWH.out.below (hgu u) HS4.out.1)).2.2.1
           have r3 := fun u => (zfacts (HWH.out.below (hgu u) HS4.out.1)).2.2.2
           have s0 := fun u => (zfacts (HNX.out.below (hgu u) HS4.out.2)).1
           have s1 := fun u => (zfacts (HNX.out.below (hgu u) HS4.out.2)).2.1
           have s2 := fun u => (zfacts (HNX.out.below (hgu u) HS4.out.2)).2.2.1
           have s3 := fun u => (zfacts (HNX.out.below (hgu u) HS4.out.2)).2.2.2
           cases p
           all_goals
             refine wp_region_class g (by kernel_rfl) (by kernel_rfl) (hi _ (Below.refl w3.heap.size w3).drew) ?_
             have OH := fun u => class_call hi ((Odd_h hS e1 (g u) HL.out).mono (fun _ _ h => ⟨h.1, (hgu u).trans (h.2.mono (hgu u).size)⟩))
             have OW := fun u => class_call hi ((Odd_w e2 (g u)).mono (fun _ _ h => ⟨h.1, (hgu u).trans (h.2.mono (hgu u).size)⟩))
             repeat (go_big_quiet_step (first | with_reducible exact OH _ | with_reducible exact OW _))
             refine wpQuiet_nil ?_
             intro w4 hw4
             obtain ⟨u, rfl⟩ := hw4
             have HB5 := hide (HB3.out.trans ((hgu u).mono HB3.out.size))
             clear q0 q1 q2 q3 r0 r1 r2 r3 s0 s1 s2 s3 hi
             go_wp2_with fail
             go_ret
             exact ⟨ret_bool rfl, HB5.out⟩
         )
end Go.Proofs.YtabphhclnboknaaDoor
