/- Package lexer: next at every text. -/
import Derived.Test.YtdiebacfbhjbdaaGreatDoorY3
set_option linter.unusedVariables false
set_option linter.unusedSimpArgs false
namespace Go.Proofs.YtdiebacfbhjbdaaGreatDoor
open Go.RowKit

def nval (r : Int × Tk × Nat) : Value := .tuple #[tval r.2.1, .int .i64 (r.2.2 : Int), .int .i64 r.1]
theorem nval_mk (e : Int) (x : Tk) (n : Nat) : nval (e, x, n) = .tuple #[tval x, .int .i64 (n : Int), .int .i64 e] := rfl
/-- strconv.Atoi at digits -/
theorem Atoi_dg {l : List UInt8} (hd : ∀ c ∈ l, isDi c = true) (hn : l ≠ []) (hl : l.length ≤ 17) (w : World) : Calls Tryz.prog 132 #[.string (bs l)] w fun e w' => e = .returned (.tuple #[.int .i64 (numD l : Int), .nilIface]) ∧ Below w.heap.size w w' :=
  (Tryz.strconv_Atoi_ok (bs l) (by rw [bs_size]; omega) (numD l : Int) (atoi_numD hd hn hl) w).mono fun e w' ⟨he, hw⟩ => ⟨he, by
    rcases hw with h | ⟨t, h⟩
    · rw [h]; exact Below.refl _ _
    · rw [h]; exact Lib.bytesWorld_below _ _ _⟩
theorem cls4 {c : UInt8} (h : clsB c = 4) : isDi c = true := by
  revert h
  rw [isDi_iff]
  unfold clsB clsN
  split
  · intro h; cases h
  · split
    · intro _; assumption
    · (repeat' split) <;> intro h <;> cases h
theorem wh_all (t : List UInt8) (i : Nat) (K : List Int) : ∀ c ∈ sub t i (whP t i K), K.contains (clsB c) = true := by
  have key : ∀ (l : List UInt8), ∀ c ∈ l.take (runL K l), K.contains (clsB c) = true := by
    intro l
    induction l with
    | nil => intro c h; simp at h
    | cons a r ih =>
      intro c h
      by_cases hc : K.contains (clsB a) = true
      · have e : runL K (a :: r) = runL K r + 1 := by unfold runL; rw [List.takeWhile_cons, if_pos hc]; rfl
        rw [e, List.take_succ_cons] at h
        rcases List.mem_cons.1 h with h | h
        · rw [h]; exact hc
        · exact ih c h
      · have e : runL K (a :: r) = 0 := by unfold runL; rw [List.takeWhile_cons, if_neg hc]; rfl
        rw [e] at h; simp at h
  unfold sub whP
  rw [Nat.add_sub_cancel_left]
  exact key _
theorem sub_len {t : List UInt8} {i e : Nat} (h : e ≤ t.length) : (sub t i e).length = e - i := by
  unfold sub
  rw [List.length_take, List.length_drop]
  omega
set_option maxRecDepth 100000 in
set_option maxHeartbeats 4000000 in
theorem next_long (t : List UInt8) (ht : t.length ≤ 1000000000) (i : Nat) (hi : i < t.length) (e : Nat) (ha : atP t i = 3) (he : whP t i [3, 4, 5] = e) (hie : i ≤ e) (hel : e ≤ t.length) (h24 : 24 < e - i) (sc : Nat) (T : TypeId) (w : World) (h : Blk w sc T (scC t)) :
    Calls Tryz.prog 105 #[.pointer (some ⟨sc, 0, none⟩), .int .i64 (i : Int)] w fun r w' => r = .returned (nval (2, zTk, 0)) ∧ Below w.heap.size w w' := by
  rw [nval_mk]
  have HB := hide (below_one w (.cells #[.int .i64 0, .int .i64 0, .int .i64 0, .string ⟨#[]⟩] 107))
  have HR := hide (Blk.new w 107 #[.int .i64 0, .int .i64 0, .int .i64 0, .string ⟨#[]⟩])
  have HS := hide (h.to (below_one w (.cells #[.int .i64 0, .int .i64 0, .int .i64 0, .string ⟨#[]⟩] 107)))
  have hsz : (bs t).size = t.length := bs_size t
  clear h
  go_enter Tryz.func105, Tryz.ntmps105
  go_wp2_with fail
  generalize w.alloc (.cells #[.int .i64 0, .int .i64 0, .int .i64 0, .string ⟨#[]⟩] 107) = w1 at *
  obtain ⟨br, hbr⟩ : ∃ b, Hid (w.heap.size = b) := ⟨_, rfl⟩
  rw [hbr.out] at HR ⊢
  obtain ⟨U, hU, g, u0, rfl, hgu, hi'⟩ := cls w1
  have C1 := cls_call hgu hi' (fun w hb => at_any t i (by omega) sc T w (HS.out.to hb))
  rw [ha] at C1
  have s0 := blk_all hgu HS.out 0 (scC_0 t)
  have r0 := blk_all hgu HR.out 0 rfl
  have r1 := blk_all hgu HR.out 1 rfl
  have r2 := blk_all hgu HR.out 2 rfl
  have r3 := blk_all hgu HR.out 3 rfl
  have f0 : ∀ u i, (g u).frozen? ⟨br, i, none⟩ = false := fun u i => (HR.out.to (hgu u)).frozen i
  have C2 : ∀ u, Calls Tryz.prog 129 #[.pointer (some ⟨sc, 0, none⟩), .int .i64 (i : Int), .slice (some ⟨(g u).heap.size, 0, none⟩) 3 3] ((g u).alloc (.cells #[.int .i64 3, .int .i64 4, .int .i64 5] 3)) fun e' w' => e' = .returned (.int .i64 (e : Int)) ∧ ∃ u', w' = g u' := fun u => by
    have hb := below_alloc (hgu u) (Nat.le_refl _) (.cells #[.int .i64 3, .int .i64 4, .int .i64 5] 3)
    have hn := Blk.new (g u) 3 #[.int .i64 3, .int .i64 4, .int .i64 5]
    have := while_any t ht i (by omega) [3, 4, 5] (by simp) (.slice (some ⟨(g u).heap.size, 0, none⟩) 3 3) sc T _ (HS.out.to hb) ⟨_, 3, rfl, hn.lt, Nat.le_refl _, fun k x hx => by
      match k, hx with
      | 0, hx => simp at hx; subst hx; exact (hn.cell 0).trans rfl
      | 1, hx => simp at hx; subst hx; exact (hn.cell 1).trans rfl
      | 2, hx => simp at hx; subst hx; exact (hn.cell 2).trans rfl⟩
    rw [he] at this
    exact this.mono fun e' w' ⟨he, hb2⟩ => ⟨he, hi' _ (below_to hb (Nat.le_refl _) hb2)⟩
  have HGU := hide hgu
  clear hgu hi' ha he
  have e1 : decide ((24 : Int) < (e : Int) - (i : Int)) = true := by simp; omega
  go_wp2_with (first | ((with_reducible refine (C2 _).mono ?_); rintro e' w' ⟨rfl, uz, rfl⟩) | ((with_reducible refine (C1 _).mono ?_); rintro e' w' ⟨rfl, uz, rfl⟩))
  have hbk := (((HR.out.to (HGU.out uz)).set_ 0 (.int .i64 0)).set_ 1 (.int .i64 0)).set_ 2 (.int .i64 0) |>.set_ 3 (.string ⟨#[]⟩)
  refine bodyPost_ret (results_c2 (p := 4) (u := 5) (v := 6) rfl _ _ br 107 _ _ rfl hbk Tryz.underlying107 rfl (by kernel_rfl)) rfl ⟨rfl, ?_⟩
  exact ((((below_to HB.out (Nat.le_refl _) (HGU.out uz)).setCell (p := ⟨br, 0, none⟩) (Nat.le_of_eq hbr.out) _).setCell (p := ⟨br, 1, none⟩) (Nat.le_of_eq hbr.out) _).setCell (p := ⟨br, 2, none⟩) (Nat.le_of_eq hbr.out) _).setCell (p := ⟨br, 3, none⟩) (Nat.le_of_eq hbr.out) _
set_option maxRecDepth 100000 in
set_option maxHeartbeats 4000000 in
theorem next_nm (t : List UInt8) (ht : t.length ≤ 1000000000) (i : Nat) (hi : i < t.length) (e : Nat) (ha : atP t i = 3) (he : whP t i [3, 4, 5] = e) (hie : i ≤ e) (hel : e ≤ t.length) (h24 : e - i ≤ 24) (sc : Nat) (T : TypeId) (w : World) (h : Blk w sc T (scC t)) :
    Calls Tryz.prog 105 #[.pointer (some ⟨sc, 0, none⟩), .int .i64 (i : Int)] w fun r w' => r = .returned (nval (0, ⟨1, i, 0, sub t i e⟩, e)) ∧ Below w.heap.size w w' := by
  rw [nval_mk]
  have HB := hide (below_one w (.cells #[.int .i64 0, .int .i64 0, .int .i64 0, .string ⟨#[]⟩] 107))
  have HR := hide (Blk.new w 107 #[.int .i64 0, .int .i64 0, .int .i64 0, .string ⟨#[]⟩])
  have HS := hide (h.to (below_one w (.cells #[.int .i64 0, .int .i64 0, .int .i64 0, .string ⟨#[]⟩] 107)))
  have hsz : (bs t).size = t.length := bs_size t
  clear h
  go_enter Tryz.func105, Tryz.ntmps105
  go_wp2_with fail
  generalize w.alloc (.cells #[.int .i64 0, .int .i64 0, .int .i64 0, .string ⟨#[]⟩] 107) = w1 at *
  obtain ⟨br, hbr⟩ : ∃ b, Hid (w.heap.size = b) := ⟨_, rfl⟩
  rw [hbr.out] at HR ⊢
  obtain ⟨U, hU, g, u0, rfl, hgu, hi'⟩ := cls w1
  have C1 := cls_call hgu hi' (fun w hb => at_any t i (by omega) sc T w (HS.out.to hb))
  rw [ha] at C1
  have s0 := blk_all hgu HS.out 0 (scC_0 t)
  have r0 := blk_all hgu HR.out 0 rfl
  have r1 := blk_all hgu HR.out 1 rfl
  have r2 := blk_all hgu HR.out 2 rfl
  have r3 := blk_all hgu HR.out 3 rfl
  have f0 : ∀ u i, (g u).frozen? ⟨br, i, none⟩ = false := fun u i => (HR.out.to (hgu u)).frozen i
  have C2 : ∀ u, Calls Tryz.prog 129 #[.pointer (some ⟨sc, 0, none⟩), .int .i64 (i : Int), .slice (some ⟨(g u).heap.size, 0, none⟩) 3 3] ((g u).alloc (.cells #[.int .i64 3, .int .i64 4, .int .i64 5] 3)) fun e' w' => e' = .returned (.int .i64 (e : Int)) ∧ ∃ u', w' = g u' := fun u => by
    have hb := below_alloc (hgu u) (Nat.le_refl _) (.cells #[.int .i64 3, .int .i64 4, .int .i64 5] 3)
    have hn := Blk.new (g u) 3 #[.int .i64 3, .int .i64 4, .int .i64 5]
    have := while_any t ht i (by omega) [3, 4, 5] (by simp) (.slice (some ⟨(g u).heap.size, 0, none⟩) 3 3) sc T _ (HS.out.to hb) ⟨_, 3, rfl, hn.lt, Nat.le_refl _, fun k x hx => by
      match k, hx with
      | 0, hx => simp at hx; subst hx; exact (hn.cell 0).trans rfl
      | 1, hx => simp at hx; subst hx; exact (hn.cell 1).trans rfl
      | 2, hx => simp at hx; subst hx; exact (hn.cell 2).trans rfl⟩
    rw [he] at this
    exact this.mono fun e' w' ⟨he, hb2⟩ => ⟨he, hi' _ (below_to hb (Nat.le_refl _) hb2)⟩
  have hx : (bs t).extract i e = bs (sub t i e) := bs_cut t i e
  have HGU := hide hgu
  clear hgu hi' ha he
  go_wp2_with (first | ((with_reducible refine (C2 _).mono ?_); rintro e' w' ⟨rfl, uz, rfl⟩) | ((with_reducible refine (C1 _).mono ?_); rintro e' w' ⟨rfl, uz, rfl⟩))
  have hbk := (((HR.out.to (HGU.out uz)).set_ 0 (.int .i64 1)).set_ 1 (.int .i64 (i : Int))).set_ 2 (.int .i64 0) |>.set_ 3 (.string (bs (sub t i e)))
  refine bodyPost_ret (results_c2 (p := 4) (u := 5) (v := 6) rfl _ _ br 107 _ _ rfl hbk Tryz.underlying107 rfl (by kernel_rfl)) rfl ⟨rfl, ?_⟩
  exact ((((below_to HB.out (Nat.le_refl _) (HGU.out uz)).setCell (p := ⟨br, 0, none⟩) (Nat.le_of_eq hbr.out) _).setCell (p := ⟨br, 1, none⟩) (Nat.le_of_eq hbr.out) _).setCell (p := ⟨br, 2, none⟩) (Nat.le_of_eq hbr.out) _).setCell (p := ⟨br, 3, none⟩) (Nat.le_of_eq hbr.out) _
set_option maxRecDepth 100000 in
set_option maxHeartbeats 4000000 in
theorem next_num_a (t : List UInt8) (ht : t.length ≤ 1000000000) (i : Nat) (hi : i < t.length) (e : Nat) (ha : atP t i = 4) (he : whP t i [4] = e) (hie : i < e) (hel : e ≤ t.length) (h13 : 13 < e - i) (sc : Nat) (T : TypeId) (w : World) (h : Blk w sc T (scC t)) :
    Calls Tryz.prog 105 #[.pointer (some ⟨sc, 0, none⟩), .int .i64 (i : Int)] w fun r w' => r = .returned (nval (4, zTk, 0)) ∧ Below w.heap.size w w' := by
  rw [nval_mk]
  have HB := hide (below_one w (.cells #[.int .i64 0, .int .i64 0, .int .i64 0, .string ⟨#[]⟩] 107))
  have HR := hide (Blk.new w 107 #[.int .i64 0, .int .i64 0, .int .i64 0, .string ⟨#[]⟩])
  have HS := hide (h.to (below_one w (.cells #[.int .i64 0, .int .i64 0, .int .i64 0, .string ⟨#[]⟩] 107)))
  have hsz : (bs t).size = t.length := bs_size t
  clear h
  go_enter Tryz.func105, Tryz.ntmps105
  go_wp2_with fail
  generalize w.alloc (.cells #[.int .i64 0, .int .i64 0, .int .i64 0, .string ⟨#[]⟩] 107) = w1 at *
  obtain ⟨br, hbr⟩ : ∃ b, Hid (w.heap.size = b) := ⟨_, rfl⟩
  rw [hbr.out] at HR ⊢
  obtain ⟨U, hU, g, u0, rfl, hgu, hi'⟩ := cls w1
  have C1 := cls_call hgu hi' (fun w hb => at_any t i (by omega) sc T w (HS.out.to hb))
  rw [ha] at C1
  have s0 := blk_all hgu HS.out 0 (scC_0 t)
  have r0 := blk_all hgu HR.out 0 rfl
  have r1 := blk_all hgu HR.out 1 rfl
  have r2 := blk_all hgu HR.out 2 rfl
  have r3 := blk_all hgu HR.out 3 rfl
  have f0 : ∀ u i, (g u).frozen? ⟨br, i, none⟩ = false := fun u i => (HR.out.to (hgu u)).frozen i
  have C2 : ∀ u, Calls Tryz.prog 129 #[.pointer (some ⟨sc, 0, none⟩), .int .i64 (i : Int), .slice (some ⟨(g u).heap.size, 0, none⟩) 1 1] ((g u).alloc (.cells #[.int .i64 4] 3)) fun e' w' => e' = .returned (.int .i64 (e : Int)) ∧ ∃ u', w' = g u' := fun u => by
    have hb := below_alloc (hgu u) (Nat.le_refl _) (.cells #[.int .i64 4] 3)
    have hn := Blk.new (g u) 3 #[.int .i64 4]
    have := while_any t ht i (by omega) [4] (by simp) (.slice (some ⟨(g u).heap.size, 0, none⟩) 1 1) sc T _ (HS.out.to hb) ⟨_, 1, rfl, hn.lt, Nat.le_refl _, fun k x hx => by
      match k, hx with
      | 0, hx => simp at hx; subst hx; exact (hn.cell 0).trans rfl⟩
    rw [he] at this
    exact this.mono fun e' w' ⟨he, hb2⟩ => ⟨he, hi' _ (below_to hb (Nat.le_refl _) hb2)⟩
  have C3 := cls_call hgu hi' (fun w hb => at_any t e (by omega) sc T w (HS.out.to hb))
  have HGU := hide hgu
  clear hgu hi' ha he
  have e1 : decide ((13 : Int) < (e : Int) - (i : Int)) = true := by simp; omega
  generalize atP t e = A at *
  go_wp2_with (first | ((with_reducible refine (C2 _).mono ?_); rintro e' w' ⟨rfl, uz, rfl⟩) | ((with_reducible refine (C1 _).mono ?_); rintro e' w' ⟨rfl, uz, rfl⟩) | ((with_reducible refine (C3 _).mono ?_); rintro e' w' ⟨rfl, uz, rfl⟩))
  have hbk := (((HR.out.to (HGU.out uz)).set_ 0 (.int .i64 0)).set_ 1 (.int .i64 0)).set_ 2 (.int .i64 0) |>.set_ 3 (.string ⟨#[]⟩)
  refine bodyPost_ret (results_c2 (p := 4) (u := 5) (v := 6) rfl _ _ br 107 _ _ rfl hbk Tryz.underlying107 rfl (by kernel_rfl)) rfl ⟨rfl, ?_⟩
  exact ((((below_to HB.out (Nat.le_refl _) (HGU.out uz)).setCell (p := ⟨br, 0, none⟩) (Nat.le_of_eq hbr.out) _).setCell (p := ⟨br, 1, none⟩) (Nat.le_of_eq hbr.out) _).setCell (p := ⟨br, 2, none⟩) (Nat.le_of_eq hbr.out) _).setCell (p := ⟨br, 3, none⟩) (Nat.le_of_eq hbr.out) _
set_option maxRecDepth 100000 in
set_option maxHeartbeats 4000000 in
theorem next_num_b (t : List UInt8) (ht : t.length ≤ 1000000000) (i : Nat) (hi : i < t.length) (e : Nat) (ha : atP t i = 4) (he : whP t i [4] = e) (hie : i < e) (hel : e ≤ t.length) (h13 : e - i ≤ 13) (hae : atP t e = 3 ∨ atP t e = 5) (sc : Nat) (T : TypeId) (w : World) (h : Blk w sc T (scC t)) :
    Calls Tryz.prog 105 #[.pointer (some ⟨sc, 0, none⟩), .int .i64 (i : Int)] w fun r w' => r = .returned (nval (4, zTk, 0)) ∧ Below w.heap.size w w' := by
  rw [nval_mk]
  have HB := hide (below_one w (.cells #[.int .i64 0, .int .i64 0, .int .i64 0, .string ⟨#[]⟩] 107))
  have HR := hide (Blk.new w 107 #[.int .i64 0, .int .i64 0, .int .i64 0, .string ⟨#[]⟩])
  have HS := hide (h.to (below_one w (.cells #[.int .i64 0, .int .i64 0, .int .i64 0, .string ⟨#[]⟩] 107)))
  have hsz : (bs t).size = t.length := bs_size t
  clear h
  go_enter Tryz.func105, Tryz.ntmps105
  go_wp2_with fail
  generalize w.alloc (.cells #[.int .i64 0, .int .i64 0, .int .i64 0, .string ⟨#[]⟩] 107) = w1 at *
  obtain ⟨br, hbr⟩ : ∃ b, Hid (w.heap.size = b) := ⟨_, rfl⟩
  rw [hbr.out] at HR ⊢
  obtain ⟨U, hU, g, u0, rfl, hgu, hi'⟩ := cls w1
  have C1 := cls_call hgu hi' (fun w hb => at_any t i (by omega) sc T w (HS.out.to hb))
  rw [ha] at C1
  have s0 := blk_all hgu HS.out 0 (scC_0 t)
  have r0 := blk_all hgu HR.out 0 rfl
  have r1 := blk_all hgu HR.out 1 rfl
  have r2 := blk_all hgu HR.out 2 rfl
  have r3 := blk_all hgu HR.out 3 rfl
  have f0 : ∀ u i, (g u).frozen? ⟨br, i, none⟩ = false := fun u i => (HR.out.to (hgu u)).frozen i
  have C2 : ∀ u, Calls Tryz.prog 129 #[.pointer (some ⟨sc, 0, none⟩), .int .i64 (i : Int), .slice (some ⟨(g u).heap.size, 0, none⟩) 1 1] ((g u).alloc (.cells #[.int .i64 4] 3)) fun e' w' => e' = .returned (.int .i64 (e : Int)) ∧ ∃ u', w' = g u' := fun u => by
    have hb := below_alloc (hgu u) (Nat.le_refl _) (.cells #[.int .i64 4] 3)
    have hn := Blk.new (g u) 3 #[.int .i64 4]
    have := while_any t ht i (by omega) [4] (by simp) (.slice (some ⟨(g u).heap.size, 0, none⟩) 1 1) sc T _ (HS.out.to hb) ⟨_, 1, rfl, hn.lt, Nat.le_refl _, fun k x hx => by
      match k, hx with
      | 0, hx => simp at hx; subst hx; exact (hn.cell 0).trans rfl⟩
    rw [he] at this
    exact this.mono fun e' w' ⟨he, hb2⟩ => ⟨he, hi' _ (below_to hb (Nat.le_refl _) hb2)⟩
  have C3 := cls_call hgu hi' (fun w hb => at_any t e (by omega) sc T w (HS.out.to hb))
  have HGU := hide hgu
  clear hgu hi' ha he
  have e1 : decide ((13 : Int) < (e : Int) - (i : Int)) = false := by simp; omega
  generalize atP t e = A at *
  rcases hae with rfl | rfl
  · go_wp2_with (first | ((with_reducible refine (C2 _).mono ?_); rintro e' w' ⟨rfl, uz, rfl⟩) | ((with_reducible refine (C1 _).mono ?_); rintro e' w' ⟨rfl, uz, rfl⟩) | ((with_reducible refine (C3 _).mono ?_); rintro e' w' ⟨rfl, uz, rfl⟩))
    have hbk := (((HR.out.to (HGU.out uz)).set_ 0 (.int .i64 0)).set_ 1 (.int .i64 0)).set_ 2 (.int .i64 0) |>.set_ 3 (.string ⟨#[]⟩)
    refine bodyPost_ret (results_c2 (p := 4) (u := 5) (v := 6) rfl _ _ br 107 _ _ rfl hbk Tryz.underlying107 rfl (by kernel_rfl)) rfl ⟨rfl, ?_⟩
    exact ((((below_to HB.out (Nat.le_refl _) (HGU.out uz)).setCell (p := ⟨br, 0, none⟩) (Nat.le_of_eq hbr.out) _).setCell (p := ⟨br, 1, none⟩) (Nat.le_of_eq hbr.out) _).setCell (p := ⟨br, 2, none⟩) (Nat.le_of_eq hbr.out) _).setCell (p := ⟨br, 3, none⟩) (Nat.le_of_eq hbr.out) _
  · go_wp2_with (first | ((with_reducible refine (C2 _).mono ?_); rintro e' w' ⟨rfl, uz, rfl⟩) | ((with_reducible refine (C1 _).mono ?_); rintro e' w' ⟨rfl, uz, rfl⟩) | ((with_reducible refine (C3 _).mono ?_); rintro e' w' ⟨rfl, uz, rfl⟩))
    have hbk := (((HR.out.to (HGU.out uz)).set_ 0 (.int .i64 0)).set_ 1 (.int .i64 0)).set_ 2 (.int .i64 0) |>.set_ 3 (.string ⟨#[]⟩)
    refine bodyPost_ret (results_c2 (p := 4) (u := 5) (v := 6) rfl _ _ br 107 _ _ rfl hbk Tryz.underlying107 rfl (by kernel_rfl)) rfl ⟨rfl, ?_⟩
    exact ((((below_to HB.out (Nat.le_refl _) (HGU.out uz)).setCell (p := ⟨br, 0, none⟩) (Nat.le_of_eq hbr.out) _).setCell (p := ⟨br, 1, none⟩) (Nat.le_of_eq hbr.out) _).setCell (p := ⟨br, 2, none⟩) (Nat.le_of_eq hbr.out) _).setCell (p := ⟨br, 3, none⟩) (Nat.le_of_eq hbr.out) _
set_option maxRecDepth 100000 in
set_option maxHeartbeats 4000000 in
theorem next_num (t : List UInt8) (ht : t.length ≤ 1000000000) (i : Nat) (hi : i < t.length) (e : Nat) (ha : atP t i = 4) (he : whP t i [4] = e) (hie : i < e) (hel : e ≤ t.length) (h13 : e - i ≤ 13) (hae : ¬ (atP t e = 3 ∨ atP t e = 5)) (sc : Nat) (T : TypeId) (w : World) (h : Blk w sc T (scC t)) :
    Calls Tryz.prog 105 #[.pointer (some ⟨sc, 0, none⟩), .int .i64 (i : Int)] w fun r w' => r = .returned (nval (0, ⟨2, i, (numD (sub t i e) : Nat), sub t i e⟩, e)) ∧ Below w.heap.size w w' := by
  rw [nval_mk]
  have HB := hide (below_one w (.cells #[.int .i64 0, .int .i64 0, .int .i64 0, .string ⟨#[]⟩] 107))
  have HR := hide (Blk.new w 107 #[.int .i64 0, .int .i64 0, .int .i64 0, .string ⟨#[]⟩])
  have HS := hide (h.to (below_one w (.cells #[.int .i64 0, .int .i64 0, .int .i64 0, .string ⟨#[]⟩] 107)))
  have hsz : (bs t).size = t.length := bs_size t
  clear h
  go_enter Tryz.func105, Tryz.ntmps105
  go_wp2_with fail
  generalize w.alloc (.cells #[.int .i64 0, .int .i64 0, .int .i64 0, .string ⟨#[]⟩] 107) = w1 at *
  obtain ⟨br, hbr⟩ : ∃ b, Hid (w.heap.size = b) := ⟨_, rfl⟩
  rw [hbr.out] at HR ⊢
  obtain ⟨U, hU, g, u0, rfl, hgu, hi'⟩ := cls w1
  have C1 := cls_call hgu hi' (fun w hb => at_any t i (by omega) sc T w (HS.out.to hb))
  rw [ha] at C1
  have s0 := blk_all hgu HS.out 0 (scC_0 t)
  have r0 := blk_all hgu HR.out 0 rfl
  have r1 := blk_all hgu HR.out 1 rfl
  have r2 := blk_all hgu HR.out 2 rfl
  have r3 := blk_all hgu HR.out 3 rfl
  have f0 : ∀ u i, (g u).frozen? ⟨br, i, none⟩ = false := fun u i => (HR.out.to (hgu u)).frozen i
  have C2 : ∀ u, Calls Tryz.prog 129 #[.pointer (some ⟨sc, 0, none⟩), .int .i64 (i : Int), .slice (some ⟨(g u).heap.size, 0, none⟩) 1 1] ((g u).alloc (.cells #[.int .i64 4] 3)) fun e' w' => e' = .returned (.int .i64 (e : Int)) ∧ ∃ u', w' = g u' := fun u => by
    have hb := below_alloc (hgu u) (Nat.le_refl _) (.cells #[.int .i64 4] 3)
    have hn := Blk.new (g u) 3 #[.int .i64 4]
    have := while_any t ht i (by omega) [4] (by simp) (.slice (some ⟨(g u).heap.size, 0, none⟩) 1 1) sc T _ (HS.out.to hb) ⟨_, 1, rfl, hn.lt, Nat.le_refl _, fun k x hx => by
      match k, hx with
      | 0, hx => simp at hx; subst hx; exact (hn.cell 0).trans rfl⟩
    rw [he] at this
    exact this.mono fun e' w' ⟨he, hb2⟩ => ⟨he, hi' _ (below_to hb (Nat.le_refl _) hb2)⟩
  have C3 := cls_call hgu hi' (fun w hb => at_any t e (by omega) sc T w (HS.out.to hb))
  have hx : (bs t).extract i e = bs (sub t i e) := bs_cut t i e
  have C4 := cls_call hgu hi' (fun w hb => Atoi_dg (l := sub t i e) (fun c hc => cls4 (by have := wh_all t i [4] c (by rw [he]; exact hc); simpa using this)) (fun h0 => by have := sub_len (t := t) (i := i) hel; rw [h0] at this; simp at this; omega) (by rw [sub_len hel]; omega) w)
  have HGU := hide hgu
  clear hgu hi' ha he
  have e1 : decide ((13 : Int) < (e : Int) - (i : Int)) = false := by simp; omega
  have e2 : (atP t e == 3) = false := by rw [beq_eq_false_iff_ne]; exact fun h => hae (.inl h)
  have e3 : (atP t e == 5) = false := by rw [beq_eq_false_iff_ne]; exact fun h => hae (.inr h)
  clear hae
  generalize atP t e = A at *
  go_wp2_with (first | ((with_reducible refine (C2 _).mono ?_); rintro e' w' ⟨rfl, uz, rfl⟩) | ((with_reducible refine (C1 _).mono ?_); rintro e' w' ⟨rfl, uz, rfl⟩) | ((with_reducible refine (C3 _).mono ?_); rintro e' w' ⟨rfl, uz, rfl⟩) | ((with_reducible refine (C4 _).mono ?_); rintro e' w' ⟨rfl, uz, rfl⟩))
  have hbk := (((HR.out.to (HGU.out uz)).set_ 0 (.int .i64 2)).set_ 1 (.int .i64 (i : Int))).set_ 2 (.int .i64 ((numD (sub t i e) : Nat) : Int)) |>.set_ 3 (.string (bs (sub t i e)))
  refine bodyPost_ret (results_c2 (p := 4) (u := 5) (v := 6) rfl _ _ br 107 _ _ rfl hbk Tryz.underlying107 rfl (by kernel_rfl)) rfl ⟨rfl, ?_⟩
  exact ((((below_to HB.out (Nat.le_refl _) (HGU.out uz)).setCell (p := ⟨br, 0, none⟩) (Nat.le_of_eq hbr.out) _).setCell (p := ⟨br, 1, none⟩) (Nat.le_of_eq hbr.out) _).setCell (p := ⟨br, 2, none⟩) (Nat.le_of_eq hbr.out) _).setCell (p := ⟨br, 3, none⟩) (Nat.le_of_eq hbr.out) _
set_option maxRecDepth 100000 in
set_option maxHeartbeats 4000000 in
theorem next_str_a (t : List UInt8) (ht : t.length ≤ 1000000000) (i : Nat) (hi : i < t.length) (ha : atP t i = 6) (hn : strN t i < 0) (sc : Nat) (T : TypeId) (w : World) (h : Blk w sc T (scC t)) :
    Calls Tryz.prog 105 #[.pointer (some ⟨sc, 0, none⟩), .int .i64 (i : Int)] w fun r w' => r = .returned (nval (6, zTk, 0)) ∧ Below w.heap.size w w' := by
  rw [nval_mk]
  have HB := hide (below_one w (.cells #[.int .i64 0, .int .i64 0, .int .i64 0, .string ⟨#[]⟩] 107))
  have HR := hide (Blk.new w 107 #[.int .i64 0, .int .i64 0, .int .i64 0, .string ⟨#[]⟩])
  have HS := hide (h.to (below_one w (.cells #[.int .i64 0, .int .i64 0, .int .i64 0, .string ⟨#[]⟩] 107)))
  have hsz : (bs t).size = t.length := bs_size t
  clear h
  go_enter Tryz.func105, Tryz.ntmps105
  go_wp2_with fail
  generalize w.alloc (.cells #[.int .i64 0, .int .i64 0, .int .i64 0, .string ⟨#[]⟩] 107) = w1 at *
  obtain ⟨br, hbr⟩ : ∃ b, Hid (w.heap.size = b) := ⟨_, rfl⟩
  rw [hbr.out] at HR ⊢
  obtain ⟨U, hU, g, u0, rfl, hgu, hi'⟩ := cls w1
  have C1 := cls_call hgu hi' (fun w hb => at_any t i (by omega) sc T w (HS.out.to hb))
  rw [ha] at C1
  have s0 := blk_all hgu HS.out 0 (scC_0 t)
  have r0 := blk_all hgu HR.out 0 rfl
  have r1 := blk_all hgu HR.out 1 rfl
  have r2 := blk_all hgu HR.out 2 rfl
  have r3 := blk_all hgu HR.out 3 rfl
  have f0 : ∀ u i, (g u).frozen? ⟨br, i, none⟩ = false := fun u i => (HR.out.to (hgu u)).frozen i
  have hr : (bs t).extract (i + 1) t.length = bs (t.drop (i + 1)) := bs_from t (i + 1)
  have hrz : (bs (t.drop (i + 1))).size = t.length - (i + 1) := by rw [bs_size, List.length_drop]
  have CI : ∀ u, Calls Tryz.prog 133 #[.string (bs (t.drop (i + 1))), .string ⟨#[34, 10]⟩] (g u) fun e w' => e = .returned (.int .i64 (strN t i)) ∧ ∃ u', w' = g u' := cls_call hgu hi' (fun w hb => IndexAny_qn (bs (t.drop (i + 1))) (by rw [hrz]; omega) w)
  have HGU := hide hgu
  clear hgu hi' ha
  generalize strN t i = N at *
  generalize bs (t.drop (i + 1)) = R at *
  go_wp2_with (first | ((with_reducible refine (C1 _).mono ?_); rintro e' w' ⟨rfl, uz, rfl⟩) | ((with_reducible refine (CI _).mono ?_); rintro e' w' ⟨rfl, uz, rfl⟩))
  have hbk := (((HR.out.to (HGU.out uz)).set_ 0 (.int .i64 0)).set_ 1 (.int .i64 0)).set_ 2 (.int .i64 0) |>.set_ 3 (.string ⟨#[]⟩)
  refine bodyPost_ret (results_c2 (p := 4) (u := 5) (v := 6) rfl _ _ br 107 _ _ rfl hbk Tryz.underlying107 rfl (by kernel_rfl)) rfl ⟨rfl, ?_⟩
  exact ((((below_to HB.out (Nat.le_refl _) (HGU.out uz)).setCell (p := ⟨br, 0, none⟩) (Nat.le_of_eq hbr.out) _).setCell (p := ⟨br, 1, none⟩) (Nat.le_of_eq hbr.out) _).setCell (p := ⟨br, 2, none⟩) (Nat.le_of_eq hbr.out) _).setCell (p := ⟨br, 3, none⟩) (Nat.le_of_eq hbr.out) _
set_option maxRecDepth 100000 in
set_option maxHeartbeats 4000000 in
theorem next_str_b (t : List UInt8) (ht : t.length ≤ 1000000000) (i : Nat) (hi : i < t.length) (ha : atP t i = 6) (n : Nat) (hn : strN t i = n) (c : UInt8) (hc : (t.drop (i + 1))[n]? = some c) (h10 : c = 10) (sc : Nat) (T : TypeId) (w : World) (h : Blk w sc T (scC t)) :
    Calls Tryz.prog 105 #[.pointer (some ⟨sc, 0, none⟩), .int .i64 (i : Int)] w fun r w' => r = .returned (nval (6, zTk, 0)) ∧ Below w.heap.size w w' := by
  rw [nval_mk]
  have HB := hide (below_one w (.cells #[.int .i64 0, .int .i64 0, .int .i64 0, .string ⟨#[]⟩] 107))
  have HR := hide (Blk.new w 107 #[.int .i64 0, .int .i64 0, .int .i64 0, .string ⟨#[]⟩])
  have HS := hide (h.to (below_one w (.cells #[.int .i64 0, .int .i64 0, .int .i64 0, .string ⟨#[]⟩] 107)))
  have hsz : (bs t).size = t.length := bs_size t
  clear h
  go_enter Tryz.func105, Tryz.ntmps105
  go_wp2_with fail
  generalize w.alloc (.cells #[.int .i64 0, .int .i64 0, .int .i64 0, .string ⟨#[]⟩] 107) = w1 at *
  obtain ⟨br, hbr⟩ : ∃ b, Hid (w.heap.size = b) := ⟨_, rfl⟩
  rw [hbr.out] at HR ⊢
  obtain ⟨U, hU, g, u0, rfl, hgu, hi'⟩ := cls w1
  have C1 := cls_call hgu hi' (fun w hb => at_any t i (by omega) sc T w (HS.out.to hb))
  rw [ha] at C1
  have s0 := blk_all hgu HS.out 0 (scC_0 t)
  have r0 := blk_all hgu HR.out 0 rfl
  have r1 := blk_all hgu HR.out 1 rfl
  have r2 := blk_all hgu HR.out 2 rfl
  have r3 := blk_all hgu HR.out 3 rfl
  have f0 : ∀ u i, (g u).frozen? ⟨br, i, none⟩ = false := fun u i => (HR.out.to (hgu u)).frozen i
  have hr : (bs t).extract (i + 1) t.length = bs (t.drop (i + 1)) := bs_from t (i + 1)
  have hrz : (bs (t.drop (i + 1))).size = t.length - (i + 1) := by rw [bs_size, List.length_drop]
  have CI : ∀ u, Calls Tryz.prog 133 #[.string (bs (t.drop (i + 1))), .string ⟨#[34, 10]⟩] (g u) fun e w' => e = .returned (.int .i64 (strN t i)) ∧ ∃ u', w' = g u' := cls_call hgu hi' (fun w hb => IndexAny_qn (bs (t.drop (i + 1))) (by rw [hrz]; omega) w)
  have ci := index_bs (t.drop (i + 1)) n c hc
  have hnl : n < t.length - (i + 1) := by
    rcases Nat.lt_or_ge n (t.drop (i + 1)).length with h | h
    · rwa [List.length_drop] at h
    · rw [List.getElem?_eq_none h] at hc; cases hc
  rw [hn] at CI
  have HGU := hide hgu
  clear hgu hi' ha hn hc
  subst h10
  generalize bs (t.drop (i + 1)) = R at *
  go_wp2_with (first | ((with_reducible refine (C1 _).mono ?_); rintro e' w' ⟨rfl, uz, rfl⟩) | ((with_reducible refine (CI _).mono ?_); rintro e' w' ⟨rfl, uz, rfl⟩))
  have hbk := (((HR.out.to (HGU.out uz)).set_ 0 (.int .i64 0)).set_ 1 (.int .i64 0)).set_ 2 (.int .i64 0) |>.set_ 3 (.string ⟨#[]⟩)
  refine bodyPost_ret (results_c2 (p := 4) (u := 5) (v := 6) rfl _ _ br 107 _ _ rfl hbk Tryz.underlying107 rfl (by kernel_rfl)) rfl ⟨rfl, ?_⟩
  exact ((((below_to HB.out (Nat.le_refl _) (HGU.out uz)).setCell (p := ⟨br, 0, none⟩) (Nat.le_of_eq hbr.out) _).setCell (p := ⟨br, 1, none⟩) (Nat.le_of_eq hbr.out) _).setCell (p := ⟨br, 2, none⟩) (Nat.le_of_eq hbr.out) _).setCell (p := ⟨br, 3, none⟩) (Nat.le_of_eq hbr.out) _
set_option maxRecDepth 100000 in
set_option maxHeartbeats 4000000 in
theorem next_str_c (t : List UInt8) (ht : t.length ≤ 1000000000) (i : Nat) (hi : i < t.length) (ha : atP t i = 6) (n : Nat) (hn : strN t i = n) (c : UInt8) (hc : (t.drop (i + 1))[n]? = some c) (h10 : c ≠ 10) (h400 : 400 < n) (sc : Nat) (T : TypeId) (w : World) (h : Blk w sc T (scC t)) :
    Calls Tryz.prog 105 #[.pointer (some ⟨sc, 0, none⟩), .int .i64 (i : Int)] w fun r w' => r = .returned (nval (2, zTk, 0)) ∧ Below w.heap.size w w' := by
  rw [nval_mk]
  have HB := hide (below_one w (.cells #[.int .i64 0, .int .i64 0, .int .i64 0, .string ⟨#[]⟩] 107))
  have HR := hide (Blk.new w 107 #[.int .i64 0, .int .i64 0, .int .i64 0, .string ⟨#[]⟩])
  have HS := hide (h.to (below_one w (.cells #[.int .i64 0, .int .i64 0, .int .i64 0, .string ⟨#[]⟩] 107)))
  have hsz : (bs t).size = t.length := bs_size t
  clear h
  go_enter Tryz.func105, Tryz.ntmps105
  go_wp2_with fail
  generalize w.alloc (.cells #[.int .i64 0, .int .i64 0, .int .i64 0, .string ⟨#[]⟩] 107) = w1 at *
  obtain ⟨br, hbr⟩ : ∃ b, Hid (w.heap.size = b) := ⟨_, rfl⟩
  rw [hbr.out] at HR ⊢
  obtain ⟨U, hU, g, u0, rfl, hgu, hi'⟩ := cls w1
  have C1 := cls_call hgu hi' (fun w hb => at_any t i (by omega) sc T w (HS.out.to hb))
  rw [ha] at C1
  have s0 := blk_all hgu HS.out 0 (scC_0 t)
  have r0 := blk_all hgu HR.out 0 rfl
  have r1 := blk_all hgu HR.out 1 rfl
  have r2 := blk_all hgu HR.out 2 rfl
  have r3 := blk_all hgu HR.out 3 rfl
  have f0 : ∀ u i, (g u).frozen? ⟨br, i, none⟩ = false := fun u i => (HR.out.to (hgu u)).frozen i
  have hr : (bs t).extract (i + 1) t.length = bs (t.drop (i + 1)) := bs_from t (i + 1)
  have hrz : (bs (t.drop (i + 1))).size = t.length - (i + 1) := by rw [bs_size, List.length_drop]
  have CI : ∀ u, Calls Tryz.prog 133 #[.string (bs (t.drop (i + 1))), .string ⟨#[34, 10]⟩] (g u) fun e w' => e = .returned (.int .i64 (strN t i)) ∧ ∃ u', w' = g u' := cls_call hgu hi' (fun w hb => IndexAny_qn (bs (t.drop (i + 1))) (by rw [hrz]; omega) w)
  have ci := index_bs (t.drop (i + 1)) n c hc
  have hnl : n < t.length - (i + 1) := by
    rcases Nat.lt_or_ge n (t.drop (i + 1)).length with h | h
    · rwa [List.length_drop] at h
    · rw [List.getElem?_eq_none h] at hc; cases hc
  rw [hn] at CI
  have HGU := hide hgu
  clear hgu hi' ha hn hc
  have e1 : ((c.toNat : Int) == 10) = false := by
    rw [beq_eq_false_iff_ne]
    intro h
    exact h10 (UInt8.toNat_inj.1 (by show c.toNat = 10; omega))
  clear h10
  generalize bs (t.drop (i + 1)) = R at *
  go_wp2_with (first | ((with_reducible refine (C1 _).mono ?_); rintro e' w' ⟨rfl, uz, rfl⟩) | ((with_reducible refine (CI _).mono ?_); rintro e' w' ⟨rfl, uz, rfl⟩))
  have hbk := (((HR.out.to (HGU.out uz)).set_ 0 (.int .i64 0)).set_ 1 (.int .i64 0)).set_ 2 (.int .i64 0) |>.set_ 3 (.string ⟨#[]⟩)
  refine bodyPost_ret (results_c2 (p := 4) (u := 5) (v := 6) rfl _ _ br 107 _ _ rfl hbk Tryz.underlying107 rfl (by kernel_rfl)) rfl ⟨rfl, ?_⟩
  exact ((((below_to HB.out (Nat.le_refl _) (HGU.out uz)).setCell (p := ⟨br, 0, none⟩) (Nat.le_of_eq hbr.out) _).setCell (p := ⟨br, 1, none⟩) (Nat.le_of_eq hbr.out) _).setCell (p := ⟨br, 2, none⟩) (Nat.le_of_eq hbr.out) _).setCell (p := ⟨br, 3, none⟩) (Nat.le_of_eq hbr.out) _
set_option maxRecDepth 100000 in
set_option maxHeartbeats 4000000 in
theorem next_str (t : List UInt8) (ht : t.length ≤ 1000000000) (i : Nat) (hi : i < t.length) (ha : atP t i = 6) (n : Nat) (hn : strN t i = n) (c : UInt8) (hc : (t.drop (i + 1))[n]? = some c) (h10 : c ≠ 10) (h400 : n ≤ 400) (sc : Nat) (T : TypeId) (w : World) (h : Blk w sc T (scC t)) :
    Calls Tryz.prog 105 #[.pointer (some ⟨sc, 0, none⟩), .int .i64 (i : Int)] w fun r w' => r = .returned (nval (0, ⟨3, i, 0, (t.drop (i + 1)).take n⟩, i + n + 2)) ∧ Below w.heap.size w w' := by
  rw [nval_mk]
  have HB := hide (below_one w (.cells #[.int .i64 0, .int .i64 0, .int .i64 0, .string ⟨#[]⟩] 107))
  have HR := hide (Blk.new w 107 #[.int .i64 0, .int .i64 0, .int .i64 0, .string ⟨#[]⟩])
  have HS := hide (h.to (below_one w (.cells #[.int .i64 0, .int .i64 0, .int .i64 0, .string ⟨#[]⟩] 107)))
  have hsz : (bs t).size = t.length := bs_size t
  clear h
  go_enter Tryz.func105, Tryz.ntmps105
  go_wp2_with fail
  generalize w.alloc (.cells #[.int .i64 0, .int .i64 0, .int .i64 0, .string ⟨#[]⟩] 107) = w1 at *
  obtain ⟨br, hbr⟩ : ∃ b, Hid (w.heap.size = b) := ⟨_, rfl⟩
  rw [hbr.out] at HR ⊢
  obtain ⟨U, hU, g, u0, rfl, hgu, hi'⟩ := cls w1
  have C1 := cls_call hgu hi' (fun w hb => at_any t i (by omega) sc T w (HS.out.to hb))
  rw [ha] at C1
  have s0 := blk_all hgu HS.out 0 (scC_0 t)
  have r0 := blk_all hgu HR.out 0 rfl
  have r1 := blk_all hgu HR.out 1 rfl
  have r2 := blk_all hgu HR.out 2 rfl
  have r3 := blk_all hgu HR.out 3 rfl
  have f0 : ∀ u i, (g u).frozen? ⟨br, i, none⟩ = false := fun u i => (HR.out.to (hgu u)).frozen i
  have hr : (bs t).extract (i + 1) t.length = bs (t.drop (i + 1)) := bs_from t (i + 1)
  have hrz : (bs (t.drop (i + 1))).size = t.length - (i + 1) := by rw [bs_size, List.length_drop]
  have CI : ∀ u, Calls Tryz.prog 133 #[.string (bs (t.drop (i + 1))), .string ⟨#[34, 10]⟩] (g u) fun e w' => e = .returned (.int .i64 (strN t i)) ∧ ∃ u', w' = g u' := cls_call hgu hi' (fun w hb => IndexAny_qn (bs (t.drop (i + 1))) (by rw [hrz]; omega) w)
  have ci := index_bs (t.drop (i + 1)) n c hc
  have hnl : n < t.length - (i + 1) := by
    rcases Nat.lt_or_ge n (t.drop (i + 1)).length with h | h
    · rwa [List.length_drop] at h
    · rw [List.getElem?_eq_none h] at hc; cases hc
  rw [hn] at CI
  have hx : (bs (t.drop (i + 1))).extract 0 n = bs ((t.drop (i + 1)).take n) := by rw [bs_cut, List.drop_zero, Nat.sub_zero]
  have HGU := hide hgu
  clear hgu hi' ha hn hc
  have e1 : ((c.toNat : Int) == 10) = false := by
    rw [beq_eq_false_iff_ne]
    intro h
    exact h10 (UInt8.toNat_inj.1 (by show c.toNat = 10; omega))
  clear h10
  generalize bs (t.drop (i + 1)) = R at *
  go_wp2_with (first | ((with_reducible refine (C1 _).mono ?_); rintro e' w' ⟨rfl, uz, rfl⟩) | ((with_reducible refine (CI _).mono ?_); rintro e' w' ⟨rfl, uz, rfl⟩))
  have hbk := (((HR.out.to (HGU.out uz)).set_ 0 (.int .i64 3)).set_ 1 (.int .i64 (i : Int))).set_ 2 (.int .i64 0) |>.set_ 3 (.string (bs ((t.drop (i + 1)).take n)))
  refine bodyPost_ret (results_c2 (p := 4) (u := 5) (v := 6) rfl _ _ br 107 _ _ rfl hbk Tryz.underlying107 rfl (by kernel_rfl)) rfl ⟨rfl, ?_⟩
  exact ((((below_to HB.out (Nat.le_refl _) (HGU.out uz)).setCell (p := ⟨br, 0, none⟩) (Nat.le_of_eq hbr.out) _).setCell (p := ⟨br, 1, none⟩) (Nat.le_of_eq hbr.out) _).setCell (p := ⟨br, 2, none⟩) (Nat.le_of_eq hbr.out) _).setCell (p := ⟨br, 3, none⟩) (Nat.le_of_eq hbr.out) _
set_option maxRecDepth 100000 in
set_option maxHeartbeats 4000000 in
theorem next_eq7 (t : List UInt8) (ht : t.length ≤ 1000000000) (i : Nat) (hi : i < t.length) (ha : atP t i = 7) (hp : Lib.hasPrefix (t.drop (i + 1)) [61] = true) (sc : Nat) (T : TypeId) (w : World) (h : Blk w sc T (scC t)) :
    Calls Tryz.prog 105 #[.pointer (some ⟨sc, 0, none⟩), .int .i64 (i : Int)] w fun r w' => r = .returned (nval (0, ⟨4, i, 0, sub t i (i + 2)⟩, i + 2)) ∧ Below w.heap.size w w' := by
  rw [nval_mk]
  have HB := hide (below_one w (.cells #[.int .i64 0, .int .i64 0, .int .i64 0, .string ⟨#[]⟩] 107))
  have HR := hide (Blk.new w 107 #[.int .i64 0, .int .i64 0, .int .i64 0, .string ⟨#[]⟩])
  have HS := hide (h.to (below_one w (.cells #[.int .i64 0, .int .i64 0, .int .i64 0, .string ⟨#[]⟩] 107)))
  have hsz : (bs t).size = t.length := bs_size t
  clear h
  go_enter Tryz.func105, Tryz.ntmps105
  go_wp2_with fail
  generalize w.alloc (.cells #[.int .i64 0, .int .i64 0, .int .i64 0, .string ⟨#[]⟩] 107) = w1 at *
  obtain ⟨br, hbr⟩ : ∃ b, Hid (w.heap.size = b) := ⟨_, rfl⟩
  rw [hbr.out] at HR ⊢
  obtain ⟨U, hU, g, u0, rfl, hgu, hi'⟩ := cls w1
  have C1 := cls_call hgu hi' (fun w hb => at_any t i (by omega) sc T w (HS.out.to hb))
  rw [ha] at C1
  have s0 := blk_all hgu HS.out 0 (scC_0 t)
  have r0 := blk_all hgu HR.out 0 rfl
  have r1 := blk_all hgu HR.out 1 rfl
  have r2 := blk_all hgu HR.out 2 rfl
  have r3 := blk_all hgu HR.out 3 rfl
  have f0 : ∀ u i, (g u).frozen? ⟨br, i, none⟩ = false := fun u i => (HR.out.to (hgu u)).frozen i
  have hr : (bs t).extract (i + 1) t.length = bs (t.drop (i + 1)) := bs_from t (i + 1)
  have CP : ∀ u, Calls Tryz.prog 93 #[.string (bs (t.drop (i + 1))), .string ⟨#[61]⟩] (g u) fun e w' => e = .returned (.bool (Lib.hasPrefix (t.drop (i + 1)) [61])) ∧ ∃ u', w' = g u' := fun u => (Tryz.strings_HasPrefix (bs (t.drop (i + 1))) ⟨#[61]⟩ (g u)).mono fun e w' ⟨he, hw⟩ => ⟨he, u, hw⟩
  rw [hp] at CP
  have hl2 : i + 2 ≤ t.length := by
    have := hasPrefix_one.1 hp
    rw [List.getElem?_drop] at this
    rcases Nat.lt_or_ge (i + 1 + 0) t.length with h | h
    · omega
    · rw [List.getElem?_eq_none h] at this; cases this
  have hx : (bs t).extract i (i + 2) = bs (sub t i (i + 2)) := bs_cut t i (i + 2)
  have HGU := hide hgu
  clear hgu hi' ha hp
  generalize bs (t.drop (i + 1)) = R at *
  go_wp2_with (first | ((with_reducible refine (C1 _).mono ?_); rintro e' w' ⟨rfl, uz, rfl⟩) | ((with_reducible refine (CP _).mono ?_); rintro e' w' ⟨rfl, uz, rfl⟩))
  have hbk := (((HR.out.to (HGU.out uz)).set_ 0 (.int .i64 4)).set_ 1 (.int .i64 (i : Int))).set_ 2 (.int .i64 0) |>.set_ 3 (.string (bs (sub t i (i + 2))))
  refine bodyPost_ret (results_c2 (p := 4) (u := 5) (v := 6) rfl _ _ br 107 _ _ rfl hbk Tryz.underlying107 rfl (by kernel_rfl)) rfl ⟨rfl, ?_⟩
  exact ((((below_to HB.out (Nat.le_refl _) (HGU.out uz)).setCell (p := ⟨br, 0, none⟩) (Nat.le_of_eq hbr.out) _).setCell (p := ⟨br, 1, none⟩) (Nat.le_of_eq hbr.out) _).setCell (p := ⟨br, 2, none⟩) (Nat.le_of_eq hbr.out) _).setCell (p := ⟨br, 3, none⟩) (Nat.le_of_eq hbr.out) _
set_option maxRecDepth 100000 in
set_option maxHeartbeats 4000000 in
theorem next_eq8 (t : List UInt8) (ht : t.length ≤ 1000000000) (i : Nat) (hi : i < t.length) (ha : atP t i = 8) (hp : Lib.hasPrefix (t.drop (i + 1)) [61] = true) (sc : Nat) (T : TypeId) (w : World) (h : Blk w sc T (scC t)) :
    Calls Tryz.prog 105 #[.pointer (some ⟨sc, 0, none⟩), .int .i64 (i : Int)] w fun r w' => r = .returned (nval (0, ⟨4, i, 0, sub t i (i + 2)⟩, i + 2)) ∧ Below w.heap.size w w' := by
  rw [nval_mk]
  have HB := hide (below_one w (.cells #[.int .i64 0, .int .i64 0, .int .i64 0, .string ⟨#[]⟩] 107))
  have HR := hide (Blk.new w 107 #[.int .i64 0, .int .i64 0, .int .i64 0, .string ⟨#[]⟩])
  have HS := hide (h.to (below_one w (.cells #[.int .i64 0, .int .i64 0, .int .i64 0, .string ⟨#[]⟩] 107)))
  have hsz : (bs t).size = t.length := bs_size t
  clear h
  go_enter Tryz.func105, Tryz.ntmps105
  go_wp2_with fail
  generalize w.alloc (.cells #[.int .i64 0, .int .i64 0, .int .i64 0, .string ⟨#[]⟩] 107) = w1 at *
  obtain ⟨br, hbr⟩ : ∃ b, Hid (w.heap.size = b) := ⟨_, rfl⟩
  rw [hbr.out] at HR ⊢
  obtain ⟨U, hU, g, u0, rfl, hgu, hi'⟩ := cls w1
  have C1 := cls_call hgu hi' (fun w hb => at_any t i (by omega) sc T w (HS.out.to hb))
  rw [ha] at C1
  have s0 := blk_all hgu HS.out 0 (scC_0 t)
  have r0 := blk_all hgu HR.out 0 rfl
  have r1 := blk_all hgu HR.out 1 rfl
  have r2 := blk_all hgu HR.out 2 rfl
  have r3 := blk_all hgu HR.out 3 rfl
  have f0 : ∀ u i, (g u).frozen? ⟨br, i, none⟩ = false := fun u i => (HR.out.to (hgu u)).frozen i
  have hr : (bs t).extract (i + 1) t.length = bs (t.drop (i + 1)) := bs_from t (i + 1)
  have CP : ∀ u, Calls Tryz.prog 93 #[.string (bs (t.drop (i + 1))), .string ⟨#[61]⟩] (g u) fun e w' => e = .returned (.bool (Lib.hasPrefix (t.drop (i + 1)) [61])) ∧ ∃ u', w' = g u' := fun u => (Tryz.strings_HasPrefix (bs (t.drop (i + 1))) ⟨#[61]⟩ (g u)).mono fun e w' ⟨he, hw⟩ => ⟨he, u, hw⟩
  rw [hp] at CP
  have hl2 : i + 2 ≤ t.length := by
    have := hasPrefix_one.1 hp
    rw [List.getElem?_drop] at this
    rcases Nat.lt_or_ge (i + 1 + 0) t.length with h | h
    · omega
    · rw [List.getElem?_eq_none h] at this; cases this
  have hx : (bs t).extract i (i + 2) = bs (sub t i (i + 2)) := bs_cut t i (i + 2)
  have HGU := hide hgu
  clear hgu hi' ha hp
  generalize bs (t.drop (i + 1)) = R at *
  go_wp2_with (first | ((with_reducible refine (C1 _).mono ?_); rintro e' w' ⟨rfl, uz, rfl⟩) | ((with_reducible refine (CP _).mono ?_); rintro e' w' ⟨rfl, uz, rfl⟩))
  have hbk := (((HR.out.to (HGU.out uz)).set_ 0 (.int .i64 4)).set_ 1 (.int .i64 (i : Int))).set_ 2 (.int .i64 0) |>.set_ 3 (.string (bs (sub t i (i + 2))))
  refine bodyPost_ret (results_c2 (p := 4) (u := 5) (v := 6) rfl _ _ br 107 _ _ rfl hbk Tryz.underlying107 rfl (by kernel_rfl)) rfl ⟨rfl, ?_⟩
  exact ((((below_to HB.out (Nat.le_refl _) (HGU.out uz)).setCell (p := ⟨br, 0, none⟩) (Nat.le_of_eq hbr.out) _).setCell (p := ⟨br, 1, none⟩) (Nat.le_of_eq hbr.out) _).setCell (p := ⟨br, 2, none⟩) (Nat.le_of_eq hbr.out) _).setCell (p := ⟨br, 3, none⟩) (Nat.le_of_eq hbr.out) _
set_option maxRecDepth 100000 in
set_option maxHeartbeats 4000000 in
theorem next_mark (t : List UInt8) (ht : t.length ≤ 1000000000) (i : Nat) (hi : i < t.length) (ha : atP t i = 7) (hp : Lib.hasPrefix (t.drop (i + 1)) [61] = false) (sc : Nat) (T : TypeId) (w : World) (h : Blk w sc T (scC t)) :
    Calls Tryz.prog 105 #[.pointer (some ⟨sc, 0, none⟩), .int .i64 (i : Int)] w fun r w' => r = .returned (nval (3, zTk, 0)) ∧ Below w.heap.size w w' := by
  rw [nval_mk]
  have HB := hide (below_one w (.cells #[.int .i64 0, .int .i64 0, .int .i64 0, .string ⟨#[]⟩] 107))
  have HR := hide (Blk.new w 107 #[.int .i64 0, .int .i64 0, .int .i64 0, .string ⟨#[]⟩])
  have HS := hide (h.to (below_one w (.cells #[.int .i64 0, .int .i64 0, .int .i64 0, .string ⟨#[]⟩] 107)))
  have hsz : (bs t).size = t.length := bs_size t
  clear h
  go_enter Tryz.func105, Tryz.ntmps105
  go_wp2_with fail
  generalize w.alloc (.cells #[.int .i64 0, .int .i64 0, .int .i64 0, .string ⟨#[]⟩] 107) = w1 at *
  obtain ⟨br, hbr⟩ : ∃ b, Hid (w.heap.size = b) := ⟨_, rfl⟩
  rw [hbr.out] at HR ⊢
  obtain ⟨U, hU, g, u0, rfl, hgu, hi'⟩ := cls w1
  have C1 := cls_call hgu hi' (fun w hb => at_any t i (by omega) sc T w (HS.out.to hb))
  rw [ha] at C1
  have s0 := blk_all hgu HS.out 0 (scC_0 t)
  have r0 := blk_all hgu HR.out 0 rfl
  have r1 := blk_all hgu HR.out 1 rfl
  have r2 := blk_all hgu HR.out 2 rfl
  have r3 := blk_all hgu HR.out 3 rfl
  have f0 : ∀ u i, (g u).frozen? ⟨br, i, none⟩ = false := fun u i => (HR.out.to (hgu u)).frozen i
  have hr : (bs t).extract (i + 1) t.length = bs (t.drop (i + 1)) := bs_from t (i + 1)
  have CP : ∀ u, Calls Tryz.prog 93 #[.string (bs (t.drop (i + 1))), .string ⟨#[61]⟩] (g u) fun e w' => e = .returned (.bool (Lib.hasPrefix (t.drop (i + 1)) [61])) ∧ ∃ u', w' = g u' := fun u => (Tryz.strings_HasPrefix (bs (t.drop (i + 1))) ⟨#[61]⟩ (g u)).mono fun e w' ⟨he, hw⟩ => ⟨he, u, hw⟩
  rw [hp] at CP
  have HGU := hide hgu
  clear hgu hi' ha hp
  generalize bs (t.drop (i + 1)) = R at *
  go_wp2_with (first | ((with_reducible refine (C1 _).mono ?_); rintro e' w' ⟨rfl, uz, rfl⟩) | ((with_reducible refine (CP _).mono ?_); rintro e' w' ⟨rfl, uz, rfl⟩))
  have hbk := (((HR.out.to (HGU.out uz)).set_ 0 (.int .i64 0)).set_ 1 (.int .i64 0)).set_ 2 (.int .i64 0) |>.set_ 3 (.string ⟨#[]⟩)
  refine bodyPost_ret (results_c2 (p := 4) (u := 5) (v := 6) rfl _ _ br 107 _ _ rfl hbk Tryz.underlying107 rfl (by kernel_rfl)) rfl ⟨rfl, ?_⟩
  exact ((((below_to HB.out (Nat.le_refl _) (HGU.out uz)).setCell (p := ⟨br, 0, none⟩) (Nat.le_of_eq hbr.out) _).setCell (p := ⟨br, 1, none⟩) (Nat.le_of_eq hbr.out) _).setCell (p := ⟨br, 2, none⟩) (Nat.le_of_eq hbr.out) _).setCell (p := ⟨br, 3, none⟩) (Nat.le_of_eq hbr.out) _
set_option maxRecDepth 100000 in
set_option maxHeartbeats 4000000 in
theorem next_angle (t : List UInt8) (ht : t.length ≤ 1000000000) (i : Nat) (hi : i < t.length) (ha : atP t i = 8) (hp : Lib.hasPrefix (t.drop (i + 1)) [61] = false) (sc : Nat) (T : TypeId) (w : World) (h : Blk w sc T (scC t)) :
    Calls Tryz.prog 105 #[.pointer (some ⟨sc, 0, none⟩), .int .i64 (i : Int)] w fun r w' => r = .returned (nval (0, ⟨4, i, 0, sub t i (i + 1)⟩, i + 1)) ∧ Below w.heap.size w w' := by
  rw [nval_mk]
  have HB := hide (below_one w (.cells #[.int .i64 0, .int .i64 0, .int .i64 0, .string ⟨#[]⟩] 107))
  have HR := hide (Blk.new w 107 #[.int .i64 0, .int .i64 0, .int .i64 0, .string ⟨#[]⟩])
  have HS := hide (h.to (below_one w (.cells #[.int .i64 0, .int .i64 0, .int .i64 0, .string ⟨#[]⟩] 107)))
  have hsz : (bs t).size = t.length := bs_size t
  clear h
  go_enter Tryz.func105, Tryz.ntmps105
  go_wp2_with fail
  generalize w.alloc (.cells #[.int .i64 0, .int .i64 0, .int .i64 0, .string ⟨#[]⟩] 107) = w1 at *
  obtain ⟨br, hbr⟩ : ∃ b, Hid (w.heap.size = b) := ⟨_, rfl⟩
  rw [hbr.out] at HR ⊢
  obtain ⟨U, hU, g, u0, rfl, hgu, hi'⟩ := cls w1
  have C1 := cls_call hgu hi' (fun w hb => at_any t i (by omega) sc T w (HS.out.to hb))
  rw [ha] at C1
  have s0 := blk_all hgu HS.out 0 (scC_0 t)
  have r0 := blk_all hgu HR.out 0 rfl
  have r1 := blk_all hgu HR.out 1 rfl
  have r2 := blk_all hgu HR.out 2 rfl
  have r3 := blk_all hgu HR.out 3 rfl
  have f0 : ∀ u i, (g u).frozen? ⟨br, i, none⟩ = false := fun u i => (HR.out.to (hgu u)).frozen i
  have hr : (bs t).extract (i + 1) t.length = bs (t.drop (i + 1)) := bs_from t (i + 1)
  have CP : ∀ u, Calls Tryz.prog 93 #[.string (bs (t.drop (i + 1))), .string ⟨#[61]⟩] (g u) fun e w' => e = .returned (.bool (Lib.hasPrefix (t.drop (i + 1)) [61])) ∧ ∃ u', w' = g u' := fun u => (Tryz.strings_HasPrefix (bs (t.drop (i + 1))) ⟨#[61]⟩ (g u)).mono fun e w' ⟨he, hw⟩ => ⟨he, u, hw⟩
  rw [hp] at CP
  have hx : (bs t).extract i (i + 1) = bs (sub t i (i + 1)) := bs_cut t i (i + 1)
  have HGU := hide hgu
  clear hgu hi' ha hp
  generalize bs (t.drop (i + 1)) = R at *
  go_wp2_with (first | ((with_reducible refine (C1 _).mono ?_); rintro e' w' ⟨rfl, uz, rfl⟩) | ((with_reducible refine (CP _).mono ?_); rintro e' w' ⟨rfl, uz, rfl⟩))
  have hbk := (((HR.out.to (HGU.out uz)).set_ 0 (.int .i64 4)).set_ 1 (.int .i64 (i : Int))).set_ 2 (.int .i64 0) |>.set_ 3 (.string (bs (sub t i (i + 1))))
  refine bodyPost_ret (results_c2 (p := 4) (u := 5) (v := 6) rfl _ _ br 107 _ _ rfl hbk Tryz.underlying107 rfl (by kernel_rfl)) rfl ⟨rfl, ?_⟩
  exact ((((below_to HB.out (Nat.le_refl _) (HGU.out uz)).setCell (p := ⟨br, 0, none⟩) (Nat.le_of_eq hbr.out) _).setCell (p := ⟨br, 1, none⟩) (Nat.le_of_eq hbr.out) _).setCell (p := ⟨br, 2, none⟩) (Nat.le_of_eq hbr.out) _).setCell (p := ⟨br, 3, none⟩) (Nat.le_of_eq hbr.out) _
set_option maxRecDepth 100000 in
set_option maxHeartbeats 4000000 in
theorem next_sym (t : List UInt8) (ht : t.length ≤ 1000000000) (i : Nat) (hi : i < t.length) (ha : atP t i = 9) (sc : Nat) (T : TypeId) (w : World) (h : Blk w sc T (scC t)) :
    Calls Tryz.prog 105 #[.pointer (some ⟨sc, 0, none⟩), .int .i64 (i : Int)] w fun r w' => r = .returned (nval (0, ⟨4, i, 0, sub t i (i + 1)⟩, i + 1)) ∧ Below w.heap.size w w' := by
  rw [nval_mk]
  have HB := hide (below_one w (.cells #[.int .i64 0, .int .i64 0, .int .i64 0, .string ⟨#[]⟩] 107))
  have HR := hide (Blk.new w 107 #[.int .i64 0, .int .i64 0, .int .i64 0, .string ⟨#[]⟩])
  have HS := hide (h.to (below_one w (.cells #[.int .i64 0, .int .i64 0, .int .i64 0, .string ⟨#[]⟩] 107)))
  have hsz : (bs t).size = t.length := bs_size t
  clear h
  go_enter Tryz.func105, Tryz.ntmps105
  go_wp2_with fail
  generalize w.alloc (.cells #[.int .i64 0, .int .i64 0, .int .i64 0, .string ⟨#[]⟩] 107) = w1 at *
  obtain ⟨br, hbr⟩ : ∃ b, Hid (w.heap.size = b) := ⟨_, rfl⟩
  rw [hbr.out] at HR ⊢
  obtain ⟨U, hU, g, u0, rfl, hgu, hi'⟩ := cls w1
  have C1 := cls_call hgu hi' (fun w hb => at_any t i (by omega) sc T w (HS.out.to hb))
  rw [ha] at C1
  have s0 := blk_all hgu HS.out 0 (scC_0 t)
  have r0 := blk_all hgu HR.out 0 rfl
  have r1 := blk_all hgu HR.out 1 rfl
  have r2 := blk_all hgu HR.out 2 rfl
  have r3 := blk_all hgu HR.out 3 rfl
  have f0 : ∀ u i, (g u).frozen? ⟨br, i, none⟩ = false := fun u i => (HR.out.to (hgu u)).frozen i
  have hx : (bs t).extract i (i + 1) = bs (sub t i (i + 1)) := bs_cut t i (i + 1)
  have HGU := hide hgu
  clear hgu hi' ha
  go_wp2_with (first | ((with_reducible refine (C1 _).mono ?_); rintro e' w' ⟨rfl, uz, rfl⟩))
  have hbk := (((HR.out.to (HGU.out uz)).set_ 0 (.int .i64 4)).set_ 1 (.int .i64 (i : Int))).set_ 2 (.int .i64 0) |>.set_ 3 (.string (bs (sub t i (i + 1))))
  refine bodyPost_ret (results_c2 (p := 4) (u := 5) (v := 6) rfl _ _ br 107 _ _ rfl hbk Tryz.underlying107 rfl (by kernel_rfl)) rfl ⟨rfl, ?_⟩
  exact ((((below_to HB.out (Nat.le_refl _) (HGU.out uz)).setCell (p := ⟨br, 0, none⟩) (Nat.le_of_eq hbr.out) _).setCell (p := ⟨br, 1, none⟩) (Nat.le_of_eq hbr.out) _).setCell (p := ⟨br, 2, none⟩) (Nat.le_of_eq hbr.out) _).setCell (p := ⟨br, 3, none⟩) (Nat.le_of_eq hbr.out) _
set_option maxRecDepth 100000 in
set_option maxHeartbeats 4000000 in
theorem next_other (t : List UInt8) (ht : t.length ≤ 1000000000) (i : Nat) (hi : i < t.length) (A : Int) (ha : atP t i = A) (hA : A ≠ 3 ∧ A ≠ 4 ∧ A ≠ 6 ∧ A ≠ 7 ∧ A ≠ 8 ∧ A ≠ 9) (sc : Nat) (T : TypeId) (w : World) (h : Blk w sc T (scC t)) :
    Calls Tryz.prog 105 #[.pointer (some ⟨sc, 0, none⟩), .int .i64 (i : Int)] w fun r w' => r = .returned (nval (3, zTk, 0)) ∧ Below w.heap.size w w' := by
  rw [nval_mk]
  have HB := hide (below_one w (.cells #[.int .i64 0, .int .i64 0, .int .i64 0, .string ⟨#[]⟩] 107))
  have HR := hide (Blk.new w 107 #[.int .i64 0, .int .i64 0, .int .i64 0, .string ⟨#[]⟩])
  have HS := hide (h.to (below_one w (.cells #[.int .i64 0, .int .i64 0, .int .i64 0, .string ⟨#[]⟩] 107)))
  have hsz : (bs t).size = t.length := bs_size t
  clear h
  go_enter Tryz.func105, Tryz.ntmps105
  go_wp2_with fail
  generalize w.alloc (.cells #[.int .i64 0, .int .i64 0, .int .i64 0, .string ⟨#[]⟩] 107) = w1 at *
  obtain ⟨br, hbr⟩ : ∃ b, Hid (w.heap.size = b) := ⟨_, rfl⟩
  rw [hbr.out] at HR ⊢
  obtain ⟨U, hU, g, u0, rfl, hgu, hi'⟩ := cls w1
  have C1 := cls_call hgu hi' (fun w hb => at_any t i (by omega) sc T w (HS.out.to hb))
  rw [ha] at C1
  have s0 := blk_all hgu HS.out 0 (scC_0 t)
  have r0 := blk_all hgu HR.out 0 rfl
  have r1 := blk_all hgu HR.out 1 rfl
  have r2 := blk_all hgu HR.out 2 rfl
  have r3 := blk_all hgu HR.out 3 rfl
  have f0 : ∀ u i, (g u).frozen? ⟨br, i, none⟩ = false := fun u i => (HR.out.to (hgu u)).frozen i
  have HGU := hide hgu
  clear hgu hi' ha
  obtain ⟨h3, h4, h6, h7, h8, h9⟩ := hA
  have e3 : (A == 3) = false := by rw [beq_eq_false_iff_ne]; exact h3
  have e4 : (A == 4) = false := by rw [beq_eq_false_iff_ne]; exact h4
  have e6 : (A == 6) = false := by rw [beq_eq_false_iff_ne]; exact h6
  have e7 : (A == 7) = false := by rw [beq_eq_false_iff_ne]; exact h7
  have e8 : (A == 8) = false := by rw [beq_eq_false_iff_ne]; exact h8
  have e9 : (A == 9) = false := by rw [beq_eq_false_iff_ne]; exact h9
  clear h3 h4 h6 h7 h8 h9
  go_wp2_with (first | ((with_reducible refine (C1 _).mono ?_); rintro e' w' ⟨rfl, uz, rfl⟩))
  have hbk := (((HR.out.to (HGU.out uz)).set_ 0 (.int .i64 0)).set_ 1 (.int .i64 0)).set_ 2 (.int .i64 0) |>.set_ 3 (.string ⟨#[]⟩)
  refine bodyPost_ret (results_c2 (p := 4) (u := 5) (v := 6) rfl _ _ br 107 _ _ rfl hbk Tryz.underlying107 rfl (by kernel_rfl)) rfl ⟨rfl, ?_⟩
  exact ((((below_to HB.out (Nat.le_refl _) (HGU.out uz)).setCell (p := ⟨br, 0, none⟩) (Nat.le_of_eq hbr.out) _).setCell (p := ⟨br, 1, none⟩) (Nat.le_of_eq hbr.out) _).setCell (p := ⟨br, 2, none⟩) (Nat.le_of_eq hbr.out) _).setCell (p := ⟨br, 3, none⟩) (Nat.le_of_eq hbr.out) _
theorem next_any (t : List UInt8) (ht : t.length ≤ 1000000000) (i : Nat) (hi : i < t.length) (sc : Nat) (T : TypeId) (w : World) (h : Blk w sc T (scC t)) :
    Calls Tryz.prog 105 #[.pointer (some ⟨sc, 0, none⟩), .int .i64 (i : Int)] w fun r w' => r = .returned (nval (nextP t i)) ∧ Below w.heap.size w w' := by
  unfold nextP
  by_cases h3 : atP t i = 3
  · rw [if_pos h3]
    split
    · exact next_long t ht i hi _ h3 rfl (whP_ge _ _ _) (whP_le (by omega) _) (by omega) sc T w h
    · exact next_nm t ht i hi _ h3 rfl (whP_ge _ _ _) (whP_le (by omega) _) (by omega) sc T w h
  rw [if_neg h3]
  by_cases h4 : atP t i = 4
  · rw [if_pos h4]
    have hgt := whP_gt (t := t) (i := i) (K := [4]) (by rw [h4]; rfl) hi
    split
    · rename_i hc
      by_cases h13 : 13 < whP t i [4] - i
      · exact next_num_a t ht i hi _ h4 rfl hgt (whP_le (by omega) _) h13 sc T w h
      · exact next_num_b t ht i hi _ h4 rfl hgt (whP_le (by omega) _) (by omega) (hc.resolve_left h13) sc T w h
    · rename_i hc
      exact next_num t ht i hi _ h4 rfl hgt (whP_le (by omega) _) (by omega) (fun h => hc (.inr h)) sc T w h
  rw [if_neg h4]
  by_cases h6 : atP t i = 6
  · rw [if_pos h6]
    rcases Int.lt_or_le (strN t i) 0 with hn | hn
    · rw [if_pos (.inl hn)]
      exact next_str_a t ht i hi h6 hn sc T w h
    · obtain ⟨n, hn'⟩ : ∃ n : Nat, strN t i = n := ⟨(strN t i).toNat, by omega⟩
      obtain ⟨c, hc, _⟩ := indexAny_some hn'
      rw [hn', Int.toNat_natCast, hc]
      by_cases h10 : c = 10
      · rw [if_pos (.inr (by rw [h10]))]
        exact next_str_b t ht i hi h6 n hn' c hc h10 sc T w h
      · rw [if_neg (by rintro (h | h); omega; exact h10 (Option.some.inj h))]
        split
        · exact next_str_c t ht i hi h6 n hn' c hc h10 (by omega) sc T w h
        · exact next_str t ht i hi h6 n hn' c hc h10 (by omega) sc T w h
  rw [if_neg h6]
  cases hp : Lib.hasPrefix (t.drop (i + 1)) [61] with
  | true =>
    by_cases h7 : atP t i = 7
    · rw [if_pos ⟨.inl h7, rfl⟩]; exact next_eq7 t ht i hi h7 hp sc T w h
    by_cases h8 : atP t i = 8
    · rw [if_pos ⟨.inr h8, rfl⟩]; exact next_eq8 t ht i hi h8 hp sc T w h
    rw [if_neg (by rintro ⟨h | h, _⟩; exact h7 h; exact h8 h)]
    by_cases h9 : atP t i = 9
    · rw [if_pos (.inr h9)]; exact next_sym t ht i hi h9 sc T w h
    · rw [if_neg (by rintro (h | h); exact h8 h; exact h9 h)]; exact next_other t ht i hi _ rfl ⟨h3, h4, h6, h7, h8, h9⟩ sc T w h
  | false =>
    rw [if_neg (by rintro ⟨_, h⟩; cases h)]
    by_cases h8 : atP t i = 8
    · rw [if_pos (.inl h8)]; exact next_angle t ht i hi h8 hp sc T w h
    by_cases h9 : atP t i = 9
    · rw [if_pos (.inr h9)]; exact next_sym t ht i hi h9 sc T w h
    rw [if_neg (by rintro (h | h); exact h8 h; exact h9 h)]
    by_cases h7 : atP t i = 7
    · exact next_mark t ht i hi h7 hp sc T w h
    · exact next_other t ht i hi _ rfl ⟨h3, h4, h6, h7, h8, h9⟩ sc T w h
end Go.Proofs.YtdiebacfbhjbdaaGreatDoor
