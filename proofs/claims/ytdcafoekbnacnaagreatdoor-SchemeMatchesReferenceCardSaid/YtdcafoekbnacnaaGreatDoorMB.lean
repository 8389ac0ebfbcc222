/- Several texts as one, in build order. -/
import Derived.Test.YtdcafoekbnacnaaGreatDoorMA
import Derived.Great.Walk
import Derived.Test.YtdcafoekbnacnaaGreatDoorShelf
import Derived.Lib.IndexLaws
import Derived.RangeFuncNested
import Derived.RangeFuncBound
import Derived.RangeFuncCalls
import Derived.RangeFuncLeaves
import Derived.Shelf.Abstract
import Derived.WalkKit
import Derived.OwnWalkIn
import Derived.TacticsInMore
import Derived.LoopNIn
import Derived.LoopIn
/- Package lexer: next at every text. -/
set_option linter.unusedVariables false
set_option linter.unusedSimpArgs false
namespace Go.Proofs.YtdcafoekbnacnaaGreatDoor
open Go.RowKit

def nval (r : Int × Tk × Nat) : Value := .tuple #[tval r.2.1, .int .i64 (r.2.2 : Int), .int .i64 r.1]
theorem nval_mk (e : Int) (x : Tk) (n : Nat) : nval (e, x, n) = .tuple #[tval x, .int .i64 (n : Int), .int .i64 e] := rfl
/-- strconv.Atoi at digits -/
theorem Atoi_dg {l : List UInt8} (hd : ∀ c ∈ l, isDi c = true) (hn : l ≠ []) (hl : l.length ≤ 17) (w : World) : Calls Tryz.prog 103 #[.string (bs l)] w fun e w' => e = .returned (.tuple #[.int .i64 (numD l : Int), .nilIface]) ∧ Below w.heap.size w w' :=
  (Tryz.strconv_Atoi_ok (bs l) (by rw [bs_size]; omega) (numD l : Int) (atoi_numD hd hn hl) w).mono fun e w' ⟨he, hw⟩ => ⟨he, by
    rcases hw with h | ⟨t, h⟩
    · rw [h]; exact Below.refl _ _
    · rw [h]; exact Lib.bytesWorld_below _ _ _⟩
theorem cls4 {c : UInt8} (h : clsB c = 4) : isDi c = true := by
  revert h
  rw [isDi_iff]
  unfold clsB clsN
  split
  · intro h; cases h
  · split
    · intro _; assumption
    · (repeat' split) <;> intro h <;> cases h
theorem wh_all (t : List UInt8) (i : Nat) (K : List Int) : ∀ c ∈ sub t i (whP t i K), K.contains (clsB c) = true := by
  have key : ∀ (l : List UInt8), ∀ c ∈ l.take (runL K l), K.contains (clsB c) = true := by
    intro l
    induction l with
    | nil => intro c h; simp at h
    | cons a r ih =>
      intro c h
      by_cases hc : K.contains (clsB a) = true
      · have e : runL K (a :: r) = runL K r + 1 := by unfold runL; rw [List.takeWhile_cons, if_pos hc]; rfl
        rw [e, List.take_succ_cons] at h
        rcases List.mem_cons.1 h with h | h
        · rw [h]; exact hc
        · exact ih c h
      · have e : runL K (a :: r) = 0 := by unfold runL; rw [List.takeWhile_cons, if_neg hc]; rfl
        rw [e] at h; simp at h
  unfold sub whP
  rw [Nat.add_sub_cancel_left]
  exact key _
theorem sub_len {t : List UInt8} {i e : Nat} (h : e ≤ t.length) : (sub t i e).length = e - i := by
  unfold sub
  rw [List.length_take, List.length_drop]
  omega
set_option maxRecDepth 100000 in
set_option maxHeartbeats 4000000 in
theorem next_long (t : List UInt8) (ht : t.length ≤ 1000000000) (i : Nat) (hi : i < t.length) (e : Nat) (ha : atP t i = 3) (he : whP t i [3, 4, 5] = e) (hie : i ≤ e) (hel : e ≤ t.length) (h24 : 24 < e - i) (sc : Nat) (T : TypeId) (w : World) (h : Blk w sc T (scC t)) :
    Calls Tryz.prog 68 #[.pointer (some ⟨sc, 0, none⟩), .int .i64 (i : Int)] w fun r w' => r = .returned (nval (2, zTk, 0)) ∧ Below w.heap.size w w' := by
  rw [nval_mk]
  have HB := hide (below_one w (.cells #[.int .i64 0, .int .i64 0, .int .i64 0, .string ⟨#[]⟩] 50))
  have HR := hide (Blk.new w 50 #[.int .i64 0, .int .i64 0, .int .i64 0, .string ⟨#[]⟩])
  have HS := hide (h.to (below_one w (.cells #[.int .i64 0, .int .i64 0, .int .i64 0, .string ⟨#[]⟩] 50)))
  have hsz : (bs t).size = t.length := bs_size t
  clear h
  go_enter Tryz.func68, Tryz.ntmps68
  go_wp2_with fail
  generalize w.alloc (.cells #[.int .i64 0, .int .i64 0, .int .i64 0, .string ⟨#[]⟩] 50) = w1 at *
  obtain ⟨br, hbr⟩ : ∃ b, Hid (w.heap.size = b) := ⟨_, rfl⟩
  rw [hbr.out] at HR ⊢
  obtain ⟨U, hU, g, u0, rfl, hgu, hi'⟩ := cls w1
  have C1 := cls_call hgu hi' (fun w hb => at_any t i (by omega) sc T w (HS.out.to hb))
  rw [ha] at C1
  have s0 := blk_all hgu HS.out 0 (scC_0 t)
  have r0 := blk_all hgu HR.out 0 rfl
  have r1 := blk_all hgu HR.out 1 rfl
  have r2 := blk_all hgu HR.out 2 rfl
  have r3 := blk_all hgu HR.out 3 rfl
  have f0 : ∀ u i, (g u).frozen? ⟨br, i, none⟩ = false := fun u i => (HR.out.to (hgu u)).frozen i
  have C2 : ∀ u, Calls Tryz.prog 107 #[.pointer (some ⟨sc, 0, none⟩), .int .i64 (i : Int), .slice (some ⟨(g u).heap.size, 0, none⟩) 3 3] ((g u).alloc (.cells #[.int .i64 3, .int .i64 4, .int .i64 5] 3)) fun e' w' => e' = .returned (.int .i64 (e : Int)) ∧ ∃ u', w' = g u' := fun u => by
    have hb := below_alloc (hgu u) (Nat.le_refl _) (.cells #[.int .i64 3, .int .i64 4, .int .i64 5] 3)
    have hn := Blk.new (g u) 3 #[.int .i64 3, .int .i64 4, .int .i64 5]
    have := while_any t ht i (by omega) [3, 4, 5] (by simp) (.slice (some ⟨(g u).heap.size, 0, none⟩) 3 3) sc T _ (HS.out.to hb) ⟨_, 3, rfl, hn.lt, Nat.le_refl _, fun k x hx => by
      match k, hx with
      | 0, hx => simp at hx; subst hx; exact (hn.cell 0).trans rfl
      | 1, hx => simp at hx; subst hx; exact (hn.cell 1).trans rfl
      | 2, hx => simp at hx; subst hx; exact (hn.cell 2).trans rfl⟩
    rw [he] at this
    exact this.mono fun e' w' ⟨he, hb2⟩ => ⟨he, hi' _ (below_to hb (Nat.le_refl _) hb2)⟩
  have HGU := hide hgu
  clear hgu hi' ha he
  have e1 : decide ((24 : Int) < (e : Int) - (i : Int)) = true := by simp; omega
  go_wp2_with (first | ((with_reducible refine (C2 _).mono ?_); rintro e' w' ⟨rfl, uz, rfl⟩) | ((with_reducible refine (C1 _).mono ?_); rintro e' w' ⟨rfl, uz, rfl⟩))
  have hbk := (((HR.out.to (HGU.out uz)).set_ 0 (.int .i64 0)).set_ 1 (.int .i64 0)).set_ 2 (.int .i64 0) |>.set_ 3 (.string ⟨#[]⟩)
  refine bodyPost_ret (results_c2 (p := 4) (u := 5) (v := 6) rfl _ _ br 50 _ _ rfl hbk Tryz.underlying50 rfl (by kernel_rfl)) rfl ⟨rfl, ?_⟩
  exact ((((below_to HB.out (Nat.le_refl _) (HGU.out uz)).setCell (p := ⟨br, 0, none⟩) (Nat.le_of_eq hbr.out) _).setCell (p := ⟨br, 1, none⟩) (Nat.le_of_eq hbr.out) _).setCell (p := ⟨br, 2, none⟩) (Nat.le_of_eq hbr.out) _).setCell (p := ⟨br, 3, none⟩) (Nat.le_of_eq hbr.out) _
set_option maxRecDepth 100000 in
set_option maxHeartbeats 4000000 in
theorem next_nm (t : List UInt8) (ht : t.length ≤ 1000000000) (i : Nat) (hi : i < t.length) (e : Nat) (ha : atP t i = 3) (he : whP t i [3, 4, 5] = e) (hie : i ≤ e) (hel : e ≤ t.length) (h24 : e - i ≤ 24) (sc : Nat) (T : TypeId) (w : World) (h : Blk w sc T (scC t)) :
    Calls Tryz.prog 68 #[.pointer (some ⟨sc, 0, none⟩), .int .i64 (i : Int)] w fun r w' => r = .returned (nval (0, ⟨1, i, 0, sub t i e⟩, e)) ∧ Below w.heap.size w w' := by
  rw [nval_mk]
  have HB := hide (below_one w (.cells #[.int .i64 0, .int .i64 0, .int .i64 0, .string ⟨#[]⟩] 50))
  have HR := hide (Blk.new w 50 #[.int .i64 0, .int .i64 0, .int .i64 0, .string ⟨#[]⟩])
  have HS := hide (h.to (below_one w (.cells #[.int .i64 0, .int .i64 0, .int .i64 0, .string ⟨#[]⟩] 50)))
  have hsz : (bs t).size = t.length := bs_size t
  clear h
  go_enter Tryz.func68, Tryz.ntmps68
  go_wp2_with fail
  generalize w.alloc (.cells #[.int .i64 0, .int .i64 0, .int .i64 0, .string ⟨#[]⟩] 50) = w1 at *
  obtain ⟨br, hbr⟩ : ∃ b, Hid (w.heap.size = b) := ⟨_, rfl⟩
  rw [hbr.out] at HR ⊢
  obtain ⟨U, hU, g, u0, rfl, hgu, hi'⟩ := cls w1
  have C1 := cls_call hgu hi' (fun w hb => at_any t i (by omega) sc T w (HS.out.to hb))
  rw [ha] at C1
  have s0 := blk_all hgu HS.out 0 (scC_0 t)
  have r0 := blk_all hgu HR.out 0 rfl
  have r1 := blk_all hgu HR.out 1 rfl
  have r2 := blk_all hgu HR.out 2 rfl
  have r3 := blk_all hgu HR.out 3 rfl
  have f0 : ∀ u i, (g u).frozen? ⟨br, i, none⟩ = false := fun u i => (HR.out.to (hgu u)).frozen i
  have C2 : ∀ u, Calls Tryz.prog 107 #[.pointer (some ⟨sc, 0, none⟩), .int .i64 (i : Int), .slice (some ⟨(g u).heap.size, 0, none⟩) 3 3] ((g u).alloc (.cells #[.int .i64 3, .int .i64 4, .int .i64 5] 3)) fun e' w' => e' = .returned (.int .i64 (e : Int)) ∧ ∃ u', w' = g u' := fun u => by
    have hb := below_alloc (hgu u) (Nat.le_refl _) (.cells #[.int .i64 3, .int .i64 4, .int .i64 5] 3)
    have hn := Blk.new (g u) 3 #[.int .i64 3, .int .i64 4, .int .i64 5]
    have := while_any t ht i (by omega) [3, 4, 5] (by simp) (.slice (some ⟨(g u).heap.size, 0, none⟩) 3 3) sc T _ (HS.out.to hb) ⟨_, 3, rfl, hn.lt, Nat.le_refl _, fun k x hx => by
      match k, hx with
      | 0, hx => simp at hx; subst hx; exact (hn.cell 0).trans rfl
      | 1, hx => simp at hx; subst hx; exact (hn.cell 1).trans rfl
      | 2, hx => simp at hx; subst hx; exact (hn.cell 2).trans rfl⟩
    rw [he] at this
    exact this.mono fun e' w' ⟨he, hb2⟩ => ⟨he, hi' _ (below_to hb (Nat.le_refl _) hb2)⟩
  have hx : (bs t).extract i e = bs (sub t i e) := bs_cut t i e
  have HGU := hide hgu
  clear hgu hi' ha he
  go_wp2_with (first | ((with_reducible refine (C2 _).mono ?_); rintro e' w' ⟨rfl, uz, rfl⟩) | ((with_reducible refine (C1 _).mono ?_); rintro e' w' ⟨rfl, uz, rfl⟩))
  have hbk := (((HR.out.to (HGU.out uz)).set_ 0 (.int .i64 1)).set_ 1 (.int .i64 (i : Int))).set_ 2 (.int .i64 0) |>.set_ 3 (.string (bs (sub t i e)))
  refine bodyPost_ret (results_c2 (p := 4) (u := 5) (v := 6) rfl _ _ br 50 _ _ rfl hbk Tryz.underlying50 rfl (by kernel_rfl)) rfl ⟨rfl, ?_⟩
  exact ((((below_to HB.out (Nat.le_refl _) (HGU.out uz)).setCell (p := ⟨br, 0, none⟩) (Nat.le_of_eq hbr.out) _).setCell (p := ⟨br, 1, none⟩) (Nat.le_of_eq hbr.out) _).setCell (p := ⟨br, 2, none⟩) (Nat.le_of_eq hbr.out) _).setCell (p := ⟨br, 3, none⟩) (Nat.le_of_eq hbr.out) _
set_option maxRecDepth 100000 in
set_option maxHeartbeats 4000000 in
theorem next_num_a (t : List UInt8) (ht : t.length ≤ 1000000000) (i : Nat) (hi : i < t.length) (e : Nat) (ha : atP t i = 4) (he : whP t i [4] = e) (hie : i < e) (hel : e ≤ t.length) (h13 : 13 < e - i) (sc : Nat) (T : TypeId) (w : World) (h : Blk w sc T (scC t)) :
    Calls Tryz.prog 68 #[.pointer (some ⟨sc, 0, none⟩), .int .i64 (i : Int)] w fun r w' => r = .returned (nval (4, zTk, 0)) ∧ Below w.heap.size w w' := by
  rw [nval_mk]
  have HB := hide (below_one w (.cells #[.int .i64 0, .int .i64 0, .int .i64 0, .string ⟨#[]⟩] 50))
  have HR := hide (Blk.new w 50 #[.int .i64 0, .int .i64 0, .int .i64 0, .string ⟨#[]⟩])
  have HS := hide (h.to (below_one w (.cells #[.int .i64 0, .int .i64 0, .int .i64 0, .string ⟨#[]⟩] 50)))
  have hsz : (bs t).size = t.length := bs_size t
  clear h
  go_enter Tryz.func68, Tryz.ntmps68
  go_wp2_with fail
  generalize w.alloc (.cells #[.int .i64 0, .int .i64 0, .int .i64 0, .string ⟨#[]⟩] 50) = w1 at *
  obtain ⟨br, hbr⟩ : ∃ b, Hid (w.heap.size = b) := ⟨_, rfl⟩
  rw [hbr.out] at HR ⊢
  obtain ⟨U, hU, g, u0, rfl, hgu, hi'⟩ := cls w1
  have C1 := cls_call hgu hi' (fun w hb => at_any t i (by omega) sc T w (HS.out.to hb))
  rw [ha] at C1
  have s0 := blk_all hgu HS.out 0 (scC_0 t)
  have r0 := blk_all hgu HR.out 0 rfl
  have r1 := blk_all hgu HR.out 1 rfl
  have r2 := blk_all hgu HR.out 2 rfl
  have r3 := blk_all hgu HR.out 3 rfl
  have f0 : ∀ u i, (g u).frozen? ⟨br, i, none⟩ = false := fun u i => (HR.out.to (hgu u)).frozen i
  have C2 : ∀ u, Calls Tryz.prog 107 #[.pointer (some ⟨sc, 0, none⟩), .int .i64 (i : Int), .slice (some ⟨(g u).heap.size, 0, none⟩) 1 1] ((g u).alloc (.cells #[.int .i64 4] 3)) fun e' w' => e' = .returned (.int .i64 (e : Int)) ∧ ∃ u', w' = g u' := fun u => by
    have hb := below_alloc (hgu u) (Nat.le_refl _) (.cells #[.int .i64 4] 3)
    have hn := Blk.new (g u) 3 #[.int .i64 4]
    have := while_any t ht i (by omega) [4] (by simp) (.slice (some ⟨(g u).heap.size, 0, none⟩) 1 1) sc T _ (HS.out.to hb) ⟨_, 1, rfl, hn.lt, Nat.le_refl _, fun k x hx => by
      match k, hx with
      | 0, hx => simp at hx; subst hx; exact (hn.cell 0).trans rfl⟩
    rw [he] at this
    exact this.mono fun e' w' ⟨he, hb2⟩ => ⟨he, hi' _ (below_to hb (Nat.le_refl _) hb2)⟩
  have C3 := cls_call hgu hi' (fun w hb => at_any t e (by omega) sc T w (HS.out.to hb))
  have HGU := hide hgu
  clear hgu hi' ha he
  have e1 : decide ((13 : Int) < (e : Int) - (i : Int)) = true := by simp; omega
  generalize atP t e = A at *
  go_wp2_with (first | ((with_reducible refine (C2 _).mono ?_); rintro e' w' ⟨rfl, uz, rfl⟩) | ((with_reducible refine (C1 _).mono ?_); rintro e' w' ⟨rfl, uz, rfl⟩) | ((with_reducible refine (C3 _).mono ?_); rintro e' w' ⟨rfl, uz, rfl⟩))
  have hbk := (((HR.out.to (HGU.out uz)).set_ 0 (.int .i64 0)).set_ 1 (.int .i64 0)).set_ 2 (.int .i64 0) |>.set_ 3 (.string ⟨#[]⟩)
  refine bodyPost_ret (results_c2 (p := 4) (u := 5) (v := 6) rfl _ _ br 50 _ _ rfl hbk Tryz.underlying50 rfl (by kernel_rfl)) rfl ⟨rfl, ?_⟩
  exact ((((below_to HB.out (Nat.le_refl _) (HGU.out uz)).setCell (p := ⟨br, 0, none⟩) (Nat.le_of_eq hbr.out) _).setCell (p := ⟨br, 1, none⟩) (Nat.le_of_eq hbr.out) _).setCell (p := ⟨br, 2, none⟩) (Nat.le_of_eq hbr.out) _).setCell (p := ⟨br, 3, none⟩) (Nat.le_of_eq hbr.out) _
set_option maxRecDepth 100000 in
set_option maxHeartbeats 4000000 in
theorem next_num_b (t : List UInt8) (ht : t.length ≤ 1000000000) (i : Nat) (hi : i < t.length) (e : Nat) (ha : atP t i = 4) (he : whP t i [4] = e) (hie : i < e) (hel : e ≤ t.length) (h13 : e - i ≤ 13) (hae : atP t e = 3 ∨ atP t e = 5) (sc : Nat) (T : TypeId) (w : World) (h : Blk w sc T (scC t)) :
    Calls Tryz.prog 68 #[.pointer (some ⟨sc, 0, none⟩), .int .i64 (i : Int)] w fun r w' => r = .returned (nval (4, zTk, 0)) ∧ Below w.heap.size w w' := by
  rw [nval_mk]
  have HB := hide (below_one w (.cells #[.int .i64 0, .int .i64 0, .int .i64 0, .string ⟨#[]⟩] 50))
  have HR := hide (Blk.new w 50 #[.int .i64 0, .int .i64 0, .int .i64 0, .string ⟨#[]⟩])
  have HS := hide (h.to (below_one w (.cells #[.int .i64 0, .int .i64 0, .int .i64 0, .string ⟨#[]⟩] 50)))
  have hsz : (bs t).size = t.length := bs_size t
  clear h
  go_enter Tryz.func68, Tryz.ntmps68
  go_wp2_with fail
  generalize w.alloc (.cells #[.int .i64 0, .int .i64 0, .int .i64 0, .string ⟨#[]⟩] 50) = w1 at *
  obtain ⟨br, hbr⟩ : ∃ b, Hid (w.heap.size = b) := ⟨_, rfl⟩
  rw [hbr.out] at HR ⊢
  obtain ⟨U, hU, g, u0, rfl, hgu, hi'⟩ := cls w1
  have C1 := cls_call hgu hi' (fun w hb => at_any t i (by omega) sc T w (HS.out.to hb))
  rw [ha] at C1
  have s0 := blk_all hgu HS.out 0 (scC_0 t)
  have r0 := blk_all hgu HR.out 0 rfl
  have r1 := blk_all hgu HR.out 1 rfl
  have r2 := blk_all hgu HR.out 2 rfl
  have r3 := blk_all hgu HR.out 3 rfl
  have f0 : ∀ u i, (g u).frozen? ⟨br, i, none⟩ = false := fun u i => (HR.out.to (hgu u)).frozen i
  have C2 : ∀ u, Calls Tryz.prog 107 #[.pointer (some ⟨sc, 0, none⟩), .int .i64 (i : Int), .slice (some ⟨(g u).heap.size, 0, none⟩) 1 1] ((g u).alloc (.cells #[.int .i64 4] 3)) fun e' w' => e' = .returned (.int .i64 (e : Int)) ∧ ∃ u', w' = g u' := fun u => by
    have hb := below_alloc (hgu u) (Nat.le_refl _) (.cells #[.int .i64 4] 3)
    have hn := Blk.new (g u) 3 #[.int .i64 4]
    have := while_any t ht i (by omega) [4] (by simp) (.slice (some ⟨(g u).heap.size, 0, none⟩) 1 1) sc T _ (HS.out.to hb) ⟨_, 1, rfl, hn.lt, Nat.le_refl _, fun k x hx => by
      match k, hx with
      | 0, hx => simp at hx; subst hx; exact (hn.cell 0).trans rfl⟩
    rw [he] at this
    exact this.mono fun e' w' ⟨he, hb2⟩ => ⟨he, hi' _ (below_to hb (Nat.le_refl _) hb2)⟩
  have C3 := cls_call hgu hi' (fun w hb => at_any t e (by omega) sc T w (HS.out.to hb))
  have HGU := hide hgu
  clear hgu hi' ha he
  have e1 : decide ((13 : Int) < (e : Int) - (i : Int)) = false := by simp; omega
  generalize atP t e = A at *
  rcases hae with rfl | rfl
  · go_wp2_with (first | ((with_reducible refine (C2 _).mono ?_); rintro e' w' ⟨rfl, uz, rfl⟩) | ((with_reducible refine (C1 _).mono ?_); rintro e' w' ⟨rfl, uz, rfl⟩) | ((with_reducible refine (C3 _).mono ?_); rintro e' w' ⟨rfl, uz, rfl⟩))
    have hbk := (((HR.out.to (HGU.out uz)).set_ 0 (.int .i64 0)).set_ 1 (.int .i64 0)).set_ 2 (.int .i64 0) |>.set_ 3 (.string ⟨#[]⟩)
    refine bodyPost_ret (results_c2 (p := 4) (u := 5) (v := 6) rfl _ _ br 50 _ _ rfl hbk Tryz.underlying50 rfl (by kernel_rfl)) rfl ⟨rfl, ?_⟩
    exact ((((below_to HB.out (Nat.le_refl _) (HGU.out uz)).setCell (p := ⟨br, 0, none⟩) (Nat.le_of_eq hbr.out) _).setCell (p := ⟨br, 1, none⟩) (Nat.le_of_eq hbr.out) _).setCell (p := ⟨br, 2, none⟩) (Nat.le_of_eq hbr.out) _).setCell (p := ⟨br, 3, none⟩) (Nat.le_of_eq hbr.out) _
  · go_wp2_with (first | ((with_reducible refine (C2 _).mono ?_); rintro e' w' ⟨rfl, uz, rfl⟩) | ((with_reducible refine (C1 _).mono ?_); rintro e' w' ⟨rfl, uz, rfl⟩) | ((with_reducible refine (C3 _).mono ?_); rintro e' w' ⟨rfl, uz, rfl⟩))
    have hbk := (((HR.out.to (HGU.out uz)).set_ 0 (.int .i64 0)).set_ 1 (.int .i64 0)).set_ 2 (.int .i64 0) |>.set_ 3 (.string ⟨#[]⟩)
    refine bodyPost_ret (results_c2 (p := 4) (u := 5) (v := 6) rfl _ _ br 50 _ _ rfl hbk Tryz.underlying50 rfl (by kernel_rfl)) rfl ⟨rfl, ?_⟩
    exact ((((below_to HB.out (Nat.le_refl _) (HGU.out uz)).setCell (p := ⟨br, 0, none⟩) (Nat.le_of_eq hbr.out) _).setCell (p := ⟨br, 1, none⟩) (Nat.le_of_eq hbr.out) _).setCell (p := ⟨br, 2, none⟩) (Nat.le_of_eq hbr.out) _).setCell (p := ⟨br, 3, none⟩) (Nat.le_of_eq hbr.out) _
set_option maxRecDepth 100000 in
set_option maxHeartbeats 4000000 in
theorem next_num (t : List UInt8) (ht : t.length ≤ 1000000000) (i : Nat) (hi : i < t.length) (e : Nat) (ha : atP t i = 4) (he : whP t i [4] = e) (hie : i < e) (hel : e ≤ t.length) (h13 : e - i ≤ 13) (hae : ¬ (atP t e = 3 ∨ atP t e = 5)) (sc : Nat) (T : TypeId) (w : World) (h : Blk w sc T (scC t)) :
    Calls Tryz.prog 68 #[.pointer (some ⟨sc, 0, none⟩), .int .i64 (i : Int)] w fun r w' => r = .returned (nval (0, ⟨2, i, (numD (sub t i e) : Nat), sub t i e⟩, e)) ∧ Below w.heap.size w w' := by
  rw [nval_mk]
  have HB := hide (below_one w (.cells #[.int .i64 0, .int .i64 0, .int .i64 0, .string ⟨#[]⟩] 50))
  have HR := hide (Blk.new w 50 #[.int .i64 0, .int .i64 0, .int .i64 0, .string ⟨#[]⟩])
  have HS := hide (h.to (below_one w (.cells #[.int .i64 0, .int .i64 0, .int .i64 0, .string ⟨#[]⟩] 50)))
  have hsz : (bs t).size = t.length := bs_size t
  clear h
  go_enter Tryz.func68, Tryz.ntmps68
  go_wp2_with fail
  generalize w.alloc (.cells #[.int .i64 0, .int .i64 0, .int .i64 0, .string ⟨#[]⟩] 50) = w1 at *
  obtain ⟨br, hbr⟩ : ∃ b, Hid (w.heap.size = b) := ⟨_, rfl⟩
  rw [hbr.out] at HR ⊢
  obtain ⟨U, hU, g, u0, rfl, hgu, hi'⟩ := cls w1
  have C1 := cls_call hgu hi' (fun w hb => at_any t i (by omega) sc T w (HS.out.to hb))
  rw [ha] at C1
  have s0 := blk_all hgu HS.out 0 (scC_0 t)
  have r0 := blk_all hgu HR.out 0 rfl
  have r1 := blk_all hgu HR.out 1 rfl
  have r2 := blk_all hgu HR.out 2 rfl
  have r3 := blk_all hgu HR.out 3 rfl
  have f0 : ∀ u i, (g u).frozen? ⟨br, i, none⟩ = false := fun u i => (HR.out.to (hgu u)).frozen i
  have C2 : ∀ u, Calls Tryz.prog 107 #[.pointer (some ⟨sc, 0, none⟩), .int .i64 (i : Int), .slice (some ⟨(g u).heap.size, 0, none⟩) 1 1] ((g u).alloc (.cells #[.int .i64 4] 3)) fun e' w' => e' = .returned (.int .i64 (e : Int)) ∧ ∃ u', w' = g u' := fun u => by
    have hb := below_alloc (hgu u) (Nat.le_refl _) (.cells #[.int .i64 4] 3)
    have hn := Blk.new (g u) 3 #[.int .i64 4]
    have := while_any t ht i (by omega) [4] (by simp) (.slice (some ⟨(g u).heap.size, 0, none⟩) 1 1) sc T _ (HS.out.to hb) ⟨_, 1, rfl, hn.lt, Nat.le_refl _, fun k x hx => by
      match k, hx with
      | 0, hx => simp at hx; subst hx; exact (hn.cell 0).trans rfl⟩
    rw [he] at this
    exact this.mono fun e' w' ⟨he, hb2⟩ => ⟨he, hi' _ (below_to hb (Nat.le_refl _) hb2)⟩
  have C3 := cls_call hgu hi' (fun w hb => at_any t e (by omega) sc T w (HS.out.to hb))
  have hx : (bs t).extract i e = bs (sub t i e) := bs_cut t i e
  have C4 := cls_call hgu hi' (fun w hb => Atoi_dg (l := sub t i e) (fun c hc => cls4 (by have := wh_all t i [4] c (by rw [he]; exact hc); simpa using this)) (fun h0 => by have := sub_len (t := t) (i := i) hel; rw [h0] at this; simp at this; omega) (by rw [sub_len hel]; omega) w)
  have HGU := hide hgu
  clear hgu hi' ha he
  have e1 : decide ((13 : Int) < (e : Int) - (i : Int)) = false := by simp; omega
  have e2 : (atP t e == 3) = false := by rw [beq_eq_false_iff_ne]; exact fun h => hae (.inl h)
  have e3 : (atP t e == 5) = false := by rw [beq_eq_false_iff_ne]; exact fun h => hae (.inr h)
  clear hae
  generalize atP t e = A at *
  go_wp2_with (first | ((with_reducible refine (C2 _).mono ?_); rintro e' w' ⟨rfl, uz, rfl⟩) | ((with_reducible refine (C1 _).mono ?_); rintro e' w' ⟨rfl, uz, rfl⟩) | ((with_reducible refine (C3 _).mono ?_); rintro e' w' ⟨rfl, uz, rfl⟩) | ((with_reducible refine (C4 _).mono ?_); rintro e' w' ⟨rfl, uz, rfl⟩))
  have hbk := (((HR.out.to (HGU.out uz)).set_ 0 (.int .i64 2)).set_ 1 (.int .i64 (i : Int))).set_ 2 (.int .i64 ((numD (sub t i e) : Nat) : Int)) |>.set_ 3 (.string (bs (sub t i e)))
  refine bodyPost_ret (results_c2 (p := 4) (u := 5) (v := 6) rfl _ _ br 50 _ _ rfl hbk Tryz.underlying50 rfl (by kernel_rfl)) rfl ⟨rfl, ?_⟩
  exact ((((below_to HB.out (Nat.le_refl _) (HGU.out uz)).setCell (p := ⟨br, 0, none⟩) (Nat.le_of_eq hbr.out) _).setCell (p := ⟨br, 1, none⟩) (Nat.le_of_eq hbr.out) _).setCell (p := ⟨br, 2, none⟩) (Nat.le_of_eq hbr.out) _).setCell (p := ⟨br, 3, none⟩) (Nat.le_of_eq hbr.out) _
set_option maxRecDepth 100000 in
set_option maxHeartbeats 4000000 in
theorem next_str_a (t : List UInt8) (ht : t.length ≤ 1000000000) (i : Nat) (hi : i < t.length) (ha : atP t i = 6) (hn : strN t i < 0) (sc : Nat) (T : TypeId) (w : World) (h : Blk w sc T (scC t)) :
    Calls Tryz.prog 68 #[.pointer (some ⟨sc, 0, none⟩), .int .i64 (i : Int)] w fun r w' => r = .returned (nval (6, zTk, 0)) ∧ Below w.heap.size w w' := by
  rw [nval_mk]
  have HB := hide (below_one w (.cells #[.int .i64 0, .int .i64 0, .int .i64 0, .string ⟨#[]⟩] 50))
  have HR := hide (Blk.new w 50 #[.int .i64 0, .int .i64 0, .int .i64 0, .string ⟨#[]⟩])
  have HS := hide (h.to (below_one w (.cells #[.int .i64 0, .int .i64 0, .int .i64 0, .string ⟨#[]⟩] 50)))
  have hsz : (bs t).size = t.length := bs_size t
  clear h
  go_enter Tryz.func68, Tryz.ntmps68
  go_wp2_with fail
  generalize w.alloc (.cells #[.int .i64 0, .int .i64 0, .int .i64 0, .string ⟨#[]⟩] 50) = w1 at *
  obtain ⟨br, hbr⟩ : ∃ b, Hid (w.heap.size = b) := ⟨_, rfl⟩
  rw [hbr.out] at HR ⊢
  obtain ⟨U, hU, g, u0, rfl, hgu, hi'⟩ := cls w1
  have C1 := cls_call hgu hi' (fun w hb => at_any t i (by omega) sc T w (HS.out.to hb))
  rw [ha] at C1
  have s0 := blk_all hgu HS.out 0 (scC_0 t)
  have r0 := blk_all hgu HR.out 0 rfl
  have r1 := blk_all hgu HR.out 1 rfl
  have r2 := blk_all hgu HR.out 2 rfl
  have r3 := blk_all hgu HR.out 3 rfl
  have f0 : ∀ u i, (g u).frozen? ⟨br, i, none⟩ = false := fun u i => (HR.out.to (hgu u)).frozen i
  have hr : (bs t).extract (i + 1) t.length = bs (t.drop (i + 1)) := bs_from t (i + 1)
  have hrz : (bs (t.drop (i + 1))).size = t.length - (i + 1) := by rw [bs_size, List.length_drop]
  have CI : ∀ u, Calls Tryz.prog 93 #[.string (bs (t.drop (i + 1))), .string ⟨#[34, 10]⟩] (g u) fun e w' => e = .returned (.int .i64 (strN t i)) ∧ ∃ u', w' = g u' := cls_call hgu hi' (fun w hb => IndexAny_qn (bs (t.drop (i + 1))) (by rw [hrz]; omega) w)
  have HGU := hide hgu
  clear hgu hi' ha
  generalize strN t i = N at *
  generalize bs (t.drop (i + 1)) = R at *
  go_wp2_with (first | ((with_reducible refine (C1 _).mono ?_); rintro e' w' ⟨rfl, uz, rfl⟩) | ((with_reducible refine (CI _).mono ?_); rintro e' w' ⟨rfl, uz, rfl⟩))
  have hbk := (((HR.out.to (HGU.out uz)).set_ 0 (.int .i64 0)).set_ 1 (.int .i64 0)).set_ 2 (.int .i64 0) |>.set_ 3 (.string ⟨#[]⟩)
  refine bodyPost_ret (results_c2 (p := 4) (u := 5) (v := 6) rfl _ _ br 50 _ _ rfl hbk Tryz.underlying50 rfl (by kernel_rfl)) rfl ⟨rfl, ?_⟩
  exact ((((below_to HB.out (Nat.le_refl _) (HGU.out uz)).setCell (p := ⟨br, 0, none⟩) (Nat.le_of_eq hbr.out) _).setCell (p := ⟨br, 1, none⟩) (Nat.le_of_eq hbr.out) _).setCell (p := ⟨br, 2, none⟩) (Nat.le_of_eq hbr.out) _).setCell (p := ⟨br, 3, none⟩) (Nat.le_of_eq hbr.out) _
set_option maxRecDepth 100000 in
set_option maxHeartbeats 4000000 in
theorem next_str_b (t : List UInt8) (ht : t.length ≤ 1000000000) (i : Nat) (hi : i < t.length) (ha : atP t i = 6) (n : Nat) (hn : strN t i = n) (c : UInt8) (hc : (t.drop (i + 1))[n]? = some c) (h10 : c = 10) (sc : Nat) (T : TypeId) (w : World) (h : Blk w sc T (scC t)) :
    Calls Tryz.prog 68 #[.pointer (some ⟨sc, 0, none⟩), .int .i64 (i : Int)] w fun r w' => r = .returned (nval (6, zTk, 0)) ∧ Below w.heap.size w w' := by
  rw [nval_mk]
  have HB := hide (below_one w (.cells #[.int .i64 0, .int .i64 0, .int .i64 0, .string ⟨#[]⟩] 50))
  have HR := hide (Blk.new w 50 #[.int .i64 0, .int .i64 0, .int .i64 0, .string ⟨#[]⟩])
  have HS := hide (h.to (below_one w (.cells #[.int .i64 0, .int .i64 0, .int .i64 0, .string ⟨#[]⟩] 50)))
  have hsz : (bs t).size = t.length := bs_size t
  clear h
  go_enter Tryz.func68, Tryz.ntmps68
  go_wp2_with fail
  generalize w.alloc (.cells #[.int .i64 0, .int .i64 0, .int .i64 0, .string ⟨#[]⟩] 50) = w1 at *
  obtain ⟨br, hbr⟩ : ∃ b, Hid (w.heap.size = b) := ⟨_, rfl⟩
  rw [hbr.out] at HR ⊢
  obtain ⟨U, hU, g, u0, rfl, hgu, hi'⟩ := cls w1
  have C1 := cls_call hgu hi' (fun w hb => at_any t i (by omega) sc T w (HS.out.to hb))
  rw [ha] at C1
  have s0 := blk_all hgu HS.out 0 (scC_0 t)
  have r0 := blk_all hgu HR.out 0 rfl
  have r1 := blk_all hgu HR.out 1 rfl
  have r2 := blk_all hgu HR.out 2 rfl
  have r3 := blk_all hgu HR.out 3 rfl
  have f0 : ∀ u i, (g u).frozen? ⟨br, i, none⟩ = false := fun u i => (HR.out.to (hgu u)).frozen i
  have hr : (bs t).extract (i + 1) t.length = bs (t.drop (i + 1)) := bs_from t (i + 1)
  have hrz : (bs (t.drop (i + 1))).size = t.length - (i + 1) := by rw [bs_size, List.length_drop]
  have CI : ∀ u, Calls Tryz.prog 93 #[.string (bs (t.drop (i + 1))), .string ⟨#[34, 10]⟩] (g u) fun e w' => e = .returned (.int .i64 (strN t i)) ∧ ∃ u', w' = g u' := cls_call hgu hi' (fun w hb => IndexAny_qn (bs (t.drop (i + 1))) (by rw [hrz]; omega) w)
  have ci := index_bs (t.drop (i + 1)) n c hc
  have hnl : n < t.length - (i + 1) := by
    rcases Nat.lt_or_ge n (t.drop (i + 1)).length with h | h
    · rwa [List.length_drop] at h
    · rw [List.getElem?_eq_none h] at hc; cases hc
  rw [hn] at CI
  have HGU := hide hgu
  clear hgu hi' ha hn hc
  subst h10
  generalize bs (t.drop (i + 1)) = R at *
  go_wp2_with (first | ((with_reducible refine (C1 _).mono ?_); rintro e' w' ⟨rfl, uz, rfl⟩) | ((with_reducible refine (CI _).mono ?_); rintro e' w' ⟨rfl, uz, rfl⟩))
  have hbk := (((HR.out.to (HGU.out uz)).set_ 0 (.int .i64 0)).set_ 1 (.int .i64 0)).set_ 2 (.int .i64 0) |>.set_ 3 (.string ⟨#[]⟩)
  refine bodyPost_ret (results_c2 (p := 4) (u := 5) (v := 6) rfl _ _ br 50 _ _ rfl hbk Tryz.underlying50 rfl (by kernel_rfl)) rfl ⟨rfl, ?_⟩
  exact ((((below_to HB.out (Nat.le_refl _) (HGU.out uz)).setCell (p := ⟨br, 0, none⟩) (Nat.le_of_eq hbr.out) _).setCell (p := ⟨br, 1, none⟩) (Nat.le_of_eq hbr.out) _).setCell (p := ⟨br, 2, none⟩) (Nat.le_of_eq hbr.out) _).setCell (p := ⟨br, 3, none⟩) (Nat.le_of_eq hbr.out) _
set_option maxRecDepth 100000 in
set_option maxHeartbeats 4000000 in
theorem next_str_c (t : List UInt8) (ht : t.length ≤ 1000000000) (i : Nat) (hi : i < t.length) (ha : atP t i = 6) (n : Nat) (hn : strN t i = n) (c : UInt8) (hc : (t.drop (i + 1))[n]? = some c) (h10 : c ≠ 10) (h400 : 400 < n) (sc : Nat) (T : TypeId) (w : World) (h : Blk w sc T (scC t)) :
    Calls Tryz.prog 68 #[.pointer (some ⟨sc, 0, none⟩), .int .i64 (i : Int)] w fun r w' => r = .returned (nval (2, zTk, 0)) ∧ Below w.heap.size w w' := by
  rw [nval_mk]
  have HB := hide (below_one w (.cells #[.int .i64 0, .int .i64 0, .int .i64 0, .string ⟨#[]⟩] 50))
  have HR := hide (Blk.new w 50 #[.int .i64 0, .int .i64 0, .int .i64 0, .string ⟨#[]⟩])
  have HS := hide (h.to (below_one w (.cells #[.int .i64 0, .int .i64 0, .int .i64 0, .string ⟨#[]⟩] 50)))
  have hsz : (bs t).size = t.length := bs_size t
  clear h
  go_enter Tryz.func68, Tryz.ntmps68
  go_wp2_with fail
  generalize w.alloc (.cells #[.int .i64 0, .int .i64 0, .int .i64 0, .string ⟨#[]⟩] 50) = w1 at *
  obtain ⟨br, hbr⟩ : ∃ b, Hid (w.heap.size = b) := ⟨_, rfl⟩
  rw [hbr.out] at HR ⊢
  obtain ⟨U, hU, g, u0, rfl, hgu, hi'⟩ := cls w1
  have C1 := cls_call hgu hi' (fun w hb => at_any t i (by omega) sc T w (HS.out.to hb))
  rw [ha] at C1
  have s0 := blk_all hgu HS.out 0 (scC_0 t)
  have r0 := blk_all hgu HR.out 0 rfl
  have r1 := blk_all hgu HR.out 1 rfl
  have r2 := blk_all hgu HR.out 2 rfl
  have r3 := blk_all hgu HR.out 3 rfl
  have f0 : ∀ u i, (g u).frozen? ⟨br, i, none⟩ = false := fun u i => (HR.out.to (hgu u)).frozen i
  have hr : (bs t).extract (i + 1) t.length = bs (t.drop (i + 1)) := bs_from t (i + 1)
  have hrz : (bs (t.drop (i + 1))).size = t.length - (i + 1) := by rw [bs_size, List.length_drop]
  have CI : ∀ u, Calls Tryz.prog 93 #[.string (bs (t.drop (i + 1))), .string ⟨#[34, 10]⟩] (g u) fun e w' => e = .returned (.int .i64 (strN t i)) ∧ ∃ u', w' = g u' := cls_call hgu hi' (fun w hb => IndexAny_qn (bs (t.drop (i + 1))) (by rw [hrz]; omega) w)
  have ci := index_bs (t.drop (i + 1)) n c hc
  have hnl : n < t.length - (i + 1) := by
    rcases Nat.lt_or_ge n (t.drop (i + 1)).length with h | h
    · rwa [List.length_drop] at h
    · rw [List.getElem?_eq_none h] at hc; cases hc
  rw [hn] at CI
  have HGU := hide hgu
  clear hgu hi' ha hn hc
  have e1 : ((c.toNat : Int) == 10) = false := by
    rw [beq_eq_false_iff_ne]
    intro h
    exact h10 (UInt8.toNat_inj.1 (by show c.toNat = 10; omega))
  clear h10
  generalize bs (t.drop (i + 1)) = R at *
  go_wp2_with (first | ((with_reducible refine (C1 _).mono ?_); rintro e' w' ⟨rfl, uz, rfl⟩) | ((with_reducible refine (CI _).mono ?_); rintro e' w' ⟨rfl, uz, rfl⟩))
  have hbk := (((HR.out.to (HGU.out uz)).set_ 0 (.int .i64 0)).set_ 1 (.int .i64 0)).set_ 2 (.int .i64 0) |>.set_ 3 (.string ⟨#[]⟩)
  refine bodyPost_ret (results_c2 (p := 4) (u := 5) (v := 6) rfl _ _ br 50 _ _ rfl hbk Tryz.underlying50 rfl (by kernel_rfl)) rfl ⟨rfl, ?_⟩
  exact ((((below_to HB.out (Nat.le_refl _) (HGU.out uz)).setCell (p := ⟨br, 0, none⟩) (Nat.le_of_eq hbr.out) _).setCell (p := ⟨br, 1, none⟩) (Nat.le_of_eq hbr.out) _).setCell (p := ⟨br, 2, none⟩) (Nat.le_of_eq hbr.out) _).setCell (p := ⟨br, 3, none⟩) (Nat.le_of_eq hbr.out) _
set_option maxRecDepth 100000 in
set_option maxHeartbeats 4000000 in
theorem next_str (t : List UInt8) (ht : t.length ≤ 1000000000) (i : Nat) (hi : i < t.length) (ha : atP t i = 6) (n : Nat) (hn : strN t i = n) (c : UInt8) (hc : (t.drop (i + 1))[n]? = some c) (h10 : c ≠ 10) (h400 : n ≤ 400) (sc : Nat) (T : TypeId) (w : World) (h : Blk w sc T (scC t)) :
    Calls Tryz.prog 68 #[.pointer (some ⟨sc, 0, none⟩), .int .i64 (i : Int)] w fun r w' => r = .returned (nval (0, ⟨3, i, 0, (t.drop (i + 1)).take n⟩, i + n + 2)) ∧ Below w.heap.size w w' := by
  rw [nval_mk]
  have HB := hide (below_one w (.cells #[.int .i64 0, .int .i64 0, .int .i64 0, .string ⟨#[]⟩] 50))
  have HR := hide (Blk.new w 50 #[.int .i64 0, .int .i64 0, .int .i64 0, .string ⟨#[]⟩])
  have HS := hide (h.to (below_one w (.cells #[.int .i64 0, .int .i64 0, .int .i64 0, .string ⟨#[]⟩] 50)))
  have hsz : (bs t).size = t.length := bs_size t
  clear h
  go_enter Tryz.func68, Tryz.ntmps68
  go_wp2_with fail
  generalize w.alloc (.cells #[.int .i64 0, .int .i64 0, .int .i64 0, .string ⟨#[]⟩] 50) = w1 at *
  obtain ⟨br, hbr⟩ : ∃ b, Hid (w.heap.size = b) := ⟨_, rfl⟩
  rw [hbr.out] at HR ⊢
  obtain ⟨U, hU, g, u0, rfl, hgu, hi'⟩ := cls w1
  have C1 := cls_call hgu hi' (fun w hb => at_any t i (by omega) sc T w (HS.out.to hb))
  rw [ha] at C1
  have s0 := blk_all hgu HS.out 0 (scC_0 t)
  have r0 := blk_all hgu HR.out 0 rfl
  have r1 := blk_all hgu HR.out 1 rfl
  have r2 := blk_all hgu HR.out 2 rfl
  have r3 := blk_all hgu HR.out 3 rfl
  have f0 : ∀ u i, (g u).frozen? ⟨br, i, none⟩ = false := fun u i => (HR.out.to (hgu u)).frozen i
  have hr : (bs t).extract (i + 1) t.length = bs (t.drop (i + 1)) := bs_from t (i + 1)
  have hrz : (bs (t.drop (i + 1))).size = t.length - (i + 1) := by rw [bs_size, List.length_drop]
  have CI : ∀ u, Calls Tryz.prog 93 #[.string (bs (t.drop (i + 1))), .string ⟨#[34, 10]⟩] (g u) fun e w' => e = .returned (.int .i64 (strN t i)) ∧ ∃ u', w' = g u' := cls_call hgu hi' (fun w hb => IndexAny_qn (bs (t.drop (i + 1))) (by rw [hrz]; omega) w)
  have ci := index_bs (t.drop (i + 1)) n c hc
  have hnl : n < t.length - (i + 1) := by
    rcases Nat.lt_or_ge n (t.drop (i + 1)).length with h | h
    · rwa [List.length_drop] at h
    · rw [List.getElem?_eq_none h] at hc; cases hc
  rw [hn] at CI
  have hx : (bs (t.drop (i + 1))).extract 0 n = bs ((t.drop (i + 1)).take n) := by rw [bs_cut, List.drop_zero, Nat.sub_zero]
  have HGU := hide hgu
  clear hgu hi' ha hn hc
  have e1 : ((c.toNat : Int) == 10) = false := by
    rw [beq_eq_false_iff_ne]
    intro h
    exact h10 (UInt8.toNat_inj.1 (by show c.toNat = 10; omega))
  clear h10
  generalize bs (t.drop (i + 1)) = R at *
  go_wp2_with (first | ((with_reducible refine (C1 _).mono ?_); rintro e' w' ⟨rfl, uz, rfl⟩) | ((with_reducible refine (CI _).mono ?_); rintro e' w' ⟨rfl, uz, rfl⟩))
  have hbk := (((HR.out.to (HGU.out uz)).set_ 0 (.int .i64 3)).set_ 1 (.int .i64 (i : Int))).set_ 2 (.int .i64 0) |>.set_ 3 (.string (bs ((t.drop (i + 1)).take n)))
  refine bodyPost_ret (results_c2 (p := 4) (u := 5) (v := 6) rfl _ _ br 50 _ _ rfl hbk Tryz.underlying50 rfl (by kernel_rfl)) rfl ⟨rfl, ?_⟩
  exact ((((below_to HB.out (Nat.le_refl _) (HGU.out uz)).setCell (p := ⟨br, 0, none⟩) (Nat.le_of_eq hbr.out) _).setCell (p := ⟨br, 1, none⟩) (Nat.le_of_eq hbr.out) _).setCell (p := ⟨br, 2, none⟩) (Nat.le_of_eq hbr.out) _).setCell (p := ⟨br, 3, none⟩) (Nat.le_of_eq hbr.out) _
set_option maxRecDepth 100000 in
set_option maxHeartbeats 4000000 in
theorem next_eq7 (t : List UInt8) (ht : t.length ≤ 1000000000) (i : Nat) (hi : i < t.length) (ha : atP t i = 7) (hp : Lib.hasPrefix (t.drop (i + 1)) [61] = true) (sc : Nat) (T : TypeId) (w : World) (h : Blk w sc T (scC t)) :
    Calls Tryz.prog 68 #[.pointer (some ⟨sc, 0, none⟩), .int .i64 (i : Int)] w fun r w' => r = .returned (nval (0, ⟨4, i, 0, sub t i (i + 2)⟩, i + 2)) ∧ Below w.heap.size w w' := by
  rw [nval_mk]
  have HB := hide (below_one w (.cells #[.int .i64 0, .int .i64 0, .int .i64 0, .string ⟨#[]⟩] 50))
  have HR := hide (Blk.new w 50 #[.int .i64 0, .int .i64 0, .int .i64 0, .string ⟨#[]⟩])
  have HS := hide (h.to (below_one w (.cells #[.int .i64 0, .int .i64 0, .int .i64 0, .string ⟨#[]⟩] 50)))
  have hsz : (bs t).size = t.length := bs_size t
  clear h
  go_enter Tryz.func68, Tryz.ntmps68
  go_wp2_with fail
  generalize w.alloc (.cells #[.int .i64 0, .int .i64 0, .int .i64 0, .string ⟨#[]⟩] 50) = w1 at *
  obtain ⟨br, hbr⟩ : ∃ b, Hid (w.heap.size = b) := ⟨_, rfl⟩
  rw [hbr.out] at HR ⊢
  obtain ⟨U, hU, g, u0, rfl, hgu, hi'⟩ := cls w1
  have C1 := cls_call hgu hi' (fun w hb => at_any t i (by omega) sc T w (HS.out.to hb))
  rw [ha] at C1
  have s0 := blk_all hgu HS.out 0 (scC_0 t)
  have r0 := blk_all hgu HR.out 0 rfl
  have r1 := blk_all hgu HR.out 1 rfl
  have r2 := blk_all hgu HR.out 2 rfl
  have r3 := blk_all hgu HR.out 3 rfl
  have f0 : ∀ u i, (g u).frozen? ⟨br, i, none⟩ = false := fun u i => (HR.out.to (hgu u)).frozen i
  have hr : (bs t).extract (i + 1) t.length = bs (t.drop (i + 1)) := bs_from t (i + 1)
  have CP : ∀ u, Calls Tryz.prog 74 #[.string (bs (t.drop (i + 1))), .string ⟨#[61]⟩] (g u) fun e w' => e = .returned (.bool (Lib.hasPrefix (t.drop (i + 1)) [61])) ∧ ∃ u', w' = g u' := fun u => (Tryz.strings_HasPrefix (bs (t.drop (i + 1))) ⟨#[61]⟩ (g u)).mono fun e w' ⟨he, hw⟩ => ⟨he, u, hw⟩
  rw [hp] at CP
  have hl2 : i + 2 ≤ t.length := by
    have := hasPrefix_one.1 hp
    rw [List.getElem?_drop] at this
    rcases Nat.lt_or_ge (i + 1 + 0) t.length with h | h
    · omega
    · rw [List.getElem?_eq_none h] at this; cases this
  have hx : (bs t).extract i (i + 2) = bs (sub t i (i + 2)) := bs_cut t i (i + 2)
  have HGU := hide hgu
  clear hgu hi' ha hp
  generalize bs (t.drop (i + 1)) = R at *
  go_wp2_with (first | ((with_reducible refine (C1 _).mono ?_); rintro e' w' ⟨rfl, uz, rfl⟩) | ((with_reducible refine (CP _).mono ?_); rintro e' w' ⟨rfl, uz, rfl⟩))
  have hbk := (((HR.out.to (HGU.out uz)).set_ 0 (.int .i64 4)).set_ 1 (.int .i64 (i : Int))).set_ 2 (.int .i64 0) |>.set_ 3 (.string (bs (sub t i (i + 2))))
  refine bodyPost_ret (results_c2 (p := 4) (u := 5) (v := 6) rfl _ _ br 50 _ _ rfl hbk Tryz.underlying50 rfl (by kernel_rfl)) rfl ⟨rfl, ?_⟩
  exact ((((below_to HB.out (Nat.le_refl _) (HGU.out uz)).setCell (p := ⟨br, 0, none⟩) (Nat.le_of_eq hbr.out) _).setCell (p := ⟨br, 1, none⟩) (Nat.le_of_eq hbr.out) _).setCell (p := ⟨br, 2, none⟩) (Nat.le_of_eq hbr.out) _).setCell (p := ⟨br, 3, none⟩) (Nat.le_of_eq hbr.out) _
set_option maxRecDepth 100000 in
set_option maxHeartbeats 4000000 in
theorem next_eq8 (t : List UInt8) (ht : t.length ≤ 1000000000) (i : Nat) (hi : i < t.length) (ha : atP t i = 8) (hp : Lib.hasPrefix (t.drop (i + 1)) [61] = true) (sc : Nat) (T : TypeId) (w : World) (h : Blk w sc T (scC t)) :
    Calls Tryz.prog 68 #[.pointer (some ⟨sc, 0, none⟩), .int .i64 (i : Int)] w fun r w' => r = .returned (nval (0, ⟨4, i, 0, sub t i (i + 2)⟩, i + 2)) ∧ Below w.heap.size w w' := by
  rw [nval_mk]
  have HB := hide (below_one w (.cells #[.int .i64 0, .int .i64 0, .int .i64 0, .string ⟨#[]⟩] 50))
  have HR := hide (Blk.new w 50 #[.int .i64 0, .int .i64 0, .int .i64 0, .string ⟨#[]⟩])
  have HS := hide (h.to (below_one w (.cells #[.int .i64 0, .int .i64 0, .int .i64 0, .string ⟨#[]⟩] 50)))
  have hsz : (bs t).size = t.length := bs_size t
  clear h
  go_enter Tryz.func68, Tryz.ntmps68
  go_wp2_with fail
  generalize w.alloc (.cells #[.int .i64 0, .int .i64 0, .int .i64 0, .string ⟨#[]⟩] 50) = w1 at *
  obtain ⟨br, hbr⟩ : ∃ b, Hid (w.heap.size = b) := ⟨_, rfl⟩
  rw [hbr.out] at HR ⊢
  obtain ⟨U, hU, g, u0, rfl, hgu, hi'⟩ := cls w1
  have C1 := cls_call hgu hi' (fun w hb => at_any t i (by omega) sc T w (HS.out.to hb))
  rw [ha] at C1
  have s0 := blk_all hgu HS.out 0 (scC_0 t)
  have r0 := blk_all hgu HR.out 0 rfl
  have r1 := blk_all hgu HR.out 1 rfl
  have r2 := blk_all hgu HR.out 2 rfl
  have r3 := blk_all hgu HR.out 3 rfl
  have f0 : ∀ u i, (g u).frozen? ⟨br, i, none⟩ = false := fun u i => (HR.out.to (hgu u)).frozen i
  have hr : (bs t).extract (i + 1) t.length = bs (t.drop (i + 1)) := bs_from t (i + 1)
  have CP : ∀ u, Calls Tryz.prog 74 #[.string (bs (t.drop (i + 1))), .string ⟨#[61]⟩] (g u) fun e w' => e = .returned (.bool (Lib.hasPrefix (t.drop (i + 1)) [61])) ∧ ∃ u', w' = g u' := fun u => (Tryz.strings_HasPrefix (bs (t.drop (i + 1))) ⟨#[61]⟩ (g u)).mono fun e w' ⟨he, hw⟩ => ⟨he, u, hw⟩
  rw [hp] at CP
  have hl2 : i + 2 ≤ t.length := by
    have := hasPrefix_one.1 hp
    rw [List.getElem?_drop] at this
    rcases Nat.lt_or_ge (i + 1 + 0) t.length with h | h
    · omega
    · rw [List.getElem?_eq_none h] at this; cases this
  have hx : (bs t).extract i (i + 2) = bs (sub t i (i + 2)) := bs_cut t i (i + 2)
  have HGU := hide hgu
  clear hgu hi' ha hp
  generalize bs (t.drop (i + 1)) = R at *
  go_wp2_with (first | ((with_reducible refine (C1 _).mono ?_); rintro e' w' ⟨rfl, uz, rfl⟩) | ((with_reducible refine (CP _).mono ?_); rintro e' w' ⟨rfl, uz, rfl⟩))
  have hbk := (((HR.out.to (HGU.out uz)).set_ 0 (.int .i64 4)).set_ 1 (.int .i64 (i : Int))).set_ 2 (.int .i64 0) |>.set_ 3 (.string (bs (sub t i (i + 2))))
  refine bodyPost_ret (results_c2 (p := 4) (u := 5) (v := 6) rfl _ _ br 50 _ _ rfl hbk Tryz.underlying50 rfl (by kernel_rfl)) rfl ⟨rfl, ?_⟩
  exact ((((below_to HB.out (Nat.le_refl _) (HGU.out uz)).setCell (p := ⟨br, 0, none⟩) (Nat.le_of_eq hbr.out) _).setCell (p := ⟨br, 1, none⟩) (Nat.le_of_eq hbr.out) _).setCell (p := ⟨br, 2, none⟩) (Nat.le_of_eq hbr.out) _).setCell (p := ⟨br, 3, none⟩) (Nat.le_of_eq hbr.out) _
set_option maxRecDepth 100000 in
set_option maxHeartbeats 4000000 in
theorem next_mark (t : List UInt8) (ht : t.length ≤ 1000000000) (i : Nat) (hi : i < t.length) (ha : atP t i = 7) (hp : Lib.hasPrefix (t.drop (i + 1)) [61] = false) (sc : Nat) (T : TypeId) (w : World) (h : Blk w sc T (scC t)) :
    Calls Tryz.prog 68 #[.pointer (some ⟨sc, 0, none⟩), .int .i64 (i : Int)] w fun r w' => r = .returned (nval (3, zTk, 0)) ∧ Below w.heap.size w w' := by
  rw [nval_mk]
  have HB := hide (below_one w (.cells #[.int .i64 0, .int .i64 0, .int .i64 0, .string ⟨#[]⟩] 50))
  have HR := hide (Blk.new w 50 #[.int .i64 0, .int .i64 0, .int .i64 0, .string ⟨#[]⟩])
  have HS := hide (h.to (below_one w (.cells #[.int .i64 0, .int .i64 0, .int .i64 0, .string ⟨#[]⟩] 50)))
  have hsz : (bs t).size = t.length := bs_size t
  clear h
  go_enter Tryz.func68, Tryz.ntmps68
  go_wp2_with fail
  generalize w.alloc (.cells #[.int .i64 0, .int .i64 0, .int .i64 0, .string ⟨#[]⟩] 50) = w1 at *
  obtain ⟨br, hbr⟩ : ∃ b, Hid (w.heap.size = b) := ⟨_, rfl⟩
  rw [hbr.out] at HR ⊢
  obtain ⟨U, hU, g, u0, rfl, hgu, hi'⟩ := cls w1
  have C1 := cls_call hgu hi' (fun w hb => at_any t i (by omega) sc T w (HS.out.to hb))
  rw [ha] at C1
  have s0 := blk_all hgu HS.out 0 (scC_0 t)
  have r0 := blk_all hgu HR.out 0 rfl
  have r1 := blk_all hgu HR.out 1 rfl
  have r2 := blk_all hgu HR.out 2 rfl
  have r3 := blk_all hgu HR.out 3 rfl
  have f0 : ∀ u i, (g u).frozen? ⟨br, i, none⟩ = false := fun u i => (HR.out.to (hgu u)).frozen i
  have hr : (bs t).extract (i + 1) t.length = bs (t.drop (i + 1)) := bs_from t (i + 1)
  have CP : ∀ u, Calls Tryz.prog 74 #[.string (bs (t.drop (i + 1))), .string ⟨#[61]⟩] (g u) fun e w' => e = .returned (.bool (Lib.hasPrefix (t.drop (i + 1)) [61])) ∧ ∃ u', w' = g u' := fun u => (Tryz.strings_HasPrefix (bs (t.drop (i + 1))) ⟨#[61]⟩ (g u)).mono fun e w' ⟨he, hw⟩ => ⟨he, u, hw⟩
  rw [hp] at CP
  have HGU := hide hgu
  clear hgu hi' ha hp
  generalize bs (t.drop (i + 1)) = R at *
  go_wp2_with (first | ((with_reducible refine (C1 _).mono ?_); rintro e' w' ⟨rfl, uz, rfl⟩) | ((with_reducible refine (CP _).mono ?_); rintro e' w' ⟨rfl, uz, rfl⟩))
  have hbk := (((HR.out.to (HGU.out uz)).set_ 0 (.int .i64 0)).set_ 1 (.int .i64 0)).set_ 2 (.int .i64 0) |>.set_ 3 (.string ⟨#[]⟩)
  refine bodyPost_ret (results_c2 (p := 4) (u := 5) (v := 6) rfl _ _ br 50 _ _ rfl hbk Tryz.underlying50 rfl (by kernel_rfl)) rfl ⟨rfl, ?_⟩
  exact ((((below_to HB.out (Nat.le_refl _) (HGU.out uz)).setCell (p := ⟨br, 0, none⟩) (Nat.le_of_eq hbr.out) _).setCell (p := ⟨br, 1, none⟩) (Nat.le_of_eq hbr.out) _).setCell (p := ⟨br, 2, none⟩) (Nat.le_of_eq hbr.out) _).setCell (p := ⟨br, 3, none⟩) (Nat.le_of_eq hbr.out) _
set_option maxRecDepth 100000 in
set_option maxHeartbeats 4000000 in
theorem next_angle (t : List UInt8) (ht : t.length ≤ 1000000000) (i : Nat) (hi : i < t.length) (ha : atP t i = 8) (hp : Lib.hasPrefix (t.drop (i + 1)) [61] = false) (sc : Nat) (T : TypeId) (w : World) (h : Blk w sc T (scC t)) :
    Calls Tryz.prog 68 #[.pointer (some ⟨sc, 0, none⟩), .int .i64 (i : Int)] w fun r w' => r = .returned (nval (0, ⟨4, i, 0, sub t i (i + 1)⟩, i + 1)) ∧ Below w.heap.size w w' := by
  rw [nval_mk]
  have HB := hide (below_one w (.cells #[.int .i64 0, .int .i64 0, .int .i64 0, .string ⟨#[]⟩] 50))
  have HR := hide (Blk.new w 50 #[.int .i64 0, .int .i64 0, .int .i64 0, .string ⟨#[]⟩])
  have HS := hide (h.to (below_one w (.cells #[.int .i64 0, .int .i64 0, .int .i64 0, .string ⟨#[]⟩] 50)))
  have hsz : (bs t).size = t.length := bs_size t
  clear h
  go_enter Tryz.func68, Tryz.ntmps68
  go_wp2_with fail
  generalize w.alloc (.cells #[.int .i64 0, .int .i64 0, .int .i64 0, .string ⟨#[]⟩] 50) = w1 at *
  obtain ⟨br, hbr⟩ : ∃ b, Hid (w.heap.size = b) := ⟨_, rfl⟩
  rw [hbr.out] at HR ⊢
  obtain ⟨U, hU, g, u0, rfl, hgu, hi'⟩ := cls w1
  have C1 := cls_call hgu hi' (fun w hb => at_any t i (by omega) sc T w (HS.out.to hb))
  rw [ha] at C1
  have s0 := blk_all hgu HS.out 0 (scC_0 t)
  have r0 := blk_all hgu HR.out 0 rfl
  have r1 := blk_all hgu HR.out 1 rfl
  have r2 := blk_all hgu HR.out 2 rfl
  have r3 := blk_all hgu HR.out 3 rfl
  have f0 : ∀ u i, (g u).frozen? ⟨br, i, none⟩ = false := fun u i => (HR.out.to (hgu u)).frozen i
  have hr : (bs t).extract (i + 1) t.length = bs (t.drop (i + 1)) := bs_from t (i + 1)
  have CP : ∀ u, Calls Tryz.prog 74 #[.string (bs (t.drop (i + 1))), .string ⟨#[61]⟩] (g u) fun e w' => e = .returned (.bool (Lib.hasPrefix (t.drop (i + 1)) [61])) ∧ ∃ u', w' = g u' := fun u => (Tryz.strings_HasPrefix (bs (t.drop (i + 1))) ⟨#[61]⟩ (g u)).mono fun e w' ⟨he, hw⟩ => ⟨he, u, hw⟩
  rw [hp] at CP
  have hx : (bs t).extract i (i + 1) = bs (sub t i (i + 1)) := bs_cut t i (i + 1)
  have HGU := hide hgu
  clear hgu hi' ha hp
  generalize bs (t.drop (i + 1)) = R at *
  go_wp2_with (first | ((with_reducible refine (C1 _).mono ?_); rintro e' w' ⟨rfl, uz, rfl⟩) | ((with_reducible refine (CP _).mono ?_); rintro e' w' ⟨rfl, uz, rfl⟩))
  have hbk := (((HR.out.to (HGU.out uz)).set_ 0 (.int .i64 4)).set_ 1 (.int .i64 (i : Int))).set_ 2 (.int .i64 0) |>.set_ 3 (.string (bs (sub t i (i + 1))))
  refine bodyPost_ret (results_c2 (p := 4) (u := 5) (v := 6) rfl _ _ br 50 _ _ rfl hbk Tryz.underlying50 rfl (by kernel_rfl)) rfl ⟨rfl, ?_⟩
  exact ((((below_to HB.out (Nat.le_refl _) (HGU.out uz)).setCell (p := ⟨br, 0, none⟩) (Nat.le_of_eq hbr.out) _).setCell (p := ⟨br, 1, none⟩) (Nat.le_of_eq hbr.out) _).setCell (p := ⟨br, 2, none⟩) (Nat.le_of_eq hbr.out) _).setCell (p := ⟨br, 3, none⟩) (Nat.le_of_eq hbr.out) _
set_option maxRecDepth 100000 in
set_option maxHeartbeats 4000000 in
theorem next_sym (t : List UInt8) (ht : t.length ≤ 1000000000) (i : Nat) (hi : i < t.length) (ha : atP t i = 9) (sc : Nat) (T : TypeId) (w : World) (h : Blk w sc T (scC t)) :
    Calls Tryz.prog 68 #[.pointer (some ⟨sc, 0, none⟩), .int .i64 (i : Int)] w fun r w' => r = .returned (nval (0, ⟨4, i, 0, sub t i (i + 1)⟩, i + 1)) ∧ Below w.heap.size w w' := by
  rw [nval_mk]
  have HB := hide (below_one w (.cells #[.int .i64 0, .int .i64 0, .int .i64 0, .string ⟨#[]⟩] 50))
  have HR := hide (Blk.new w 50 #[.int .i64 0, .int .i64 0, .int .i64 0, .string ⟨#[]⟩])
  have HS := hide (h.to (below_one w (.cells #[.int .i64 0, .int .i64 0, .int .i64 0, .string ⟨#[]⟩] 50)))
  have hsz : (bs t).size = t.length := bs_size t
  clear h
  go_enter Tryz.func68, Tryz.ntmps68
  go_wp2_with fail
  generalize w.alloc (.cells #[.int .i64 0, .int .i64 0, .int .i64 0, .string ⟨#[]⟩] 50) = w1 at *
  obtain ⟨br, hbr⟩ : ∃ b, Hid (w.heap.size = b) := ⟨_, rfl⟩
  rw [hbr.out] at HR ⊢
  obtain ⟨U, hU, g, u0, rfl, hgu, hi'⟩ := cls w1
  have C1 := cls_call hgu hi' (fun w hb => at_any t i (by omega) sc T w (HS.out.to hb))
  rw [ha] at C1
  have s0 := blk_all hgu HS.out 0 (scC_0 t)
  have r0 := blk_all hgu HR.out 0 rfl
  have r1 := blk_all hgu HR.out 1 rfl
  have r2 := blk_all hgu HR.out 2 rfl
  have r3 := blk_all hgu HR.out 3 rfl
  have f0 : ∀ u i, (g u).frozen? ⟨br, i, none⟩ = false := fun u i => (HR.out.to (hgu u)).frozen i
  have hx : (bs t).extract i (i + 1) = bs (sub t i (i + 1)) := bs_cut t i (i + 1)
  have HGU := hide hgu
  clear hgu hi' ha
  go_wp2_with (first | ((with_reducible refine (C1 _).mono ?_); rintro e' w' ⟨rfl, uz, rfl⟩))
  have hbk := (((HR.out.to (HGU.out uz)).set_ 0 (.int .i64 4)).set_ 1 (.int .i64 (i : Int))).set_ 2 (.int .i64 0) |>.set_ 3 (.string (bs (sub t i (i + 1))))
  refine bodyPost_ret (results_c2 (p := 4) (u := 5) (v := 6) rfl _ _ br 50 _ _ rfl hbk Tryz.underlying50 rfl (by kernel_rfl)) rfl ⟨rfl, ?_⟩
  exact ((((below_to HB.out (Nat.le_refl _) (HGU.out uz)).setCell (p := ⟨br, 0, none⟩) (Nat.le_of_eq hbr.out) _).setCell (p := ⟨br, 1, none⟩) (Nat.le_of_eq hbr.out) _).setCell (p := ⟨br, 2, none⟩) (Nat.le_of_eq hbr.out) _).setCell (p := ⟨br, 3, none⟩) (Nat.le_of_eq hbr.out) _
set_option maxRecDepth 100000 in
set_option maxHeartbeats 4000000 in
theorem next_other (t : List UInt8) (ht : t.length ≤ 1000000000) (i : Nat) (hi : i < t.length) (A : Int) (ha : atP t i = A) (hA : A ≠ 3 ∧ A ≠ 4 ∧ A ≠ 6 ∧ A ≠ 7 ∧ A ≠ 8 ∧ A ≠ 9) (sc : Nat) (T : TypeId) (w : World) (h : Blk w sc T (scC t)) :
    Calls Tryz.prog 68 #[.pointer (some ⟨sc, 0, none⟩), .int .i64 (i : Int)] w fun r w' => r = .returned (nval (3, zTk, 0)) ∧ Below w.heap.size w w' := by
  rw [nval_mk]
  have HB := hide (below_one w (.cells #[.int .i64 0, .int .i64 0, .int .i64 0, .string ⟨#[]⟩] 50))
  have HR := hide (Blk.new w 50 #[.int .i64 0, .int .i64 0, .int .i64 0, .string ⟨#[]⟩])
  have HS := hide (h.to (below_one w (.cells #[.int .i64 0, .int .i64 0, .int .i64 0, .string ⟨#[]⟩] 50)))
  have hsz : (bs t).size = t.length := bs_size t
  clear h
  go_enter Tryz.func68, Tryz.ntmps68
  go_wp2_with fail
  generalize w.alloc (.cells #[.int .i64 0, .int .i64 0, .int .i64 0, .string ⟨#[]⟩] 50) = w1 at *
  obtain ⟨br, hbr⟩ : ∃ b, Hid (w.heap.size = b) := ⟨_, rfl⟩
  rw [hbr.out] at HR ⊢
  obtain ⟨U, hU, g, u0, rfl, hgu, hi'⟩ := cls w1
  have C1 := cls_call hgu hi' (fun w hb => at_any t i (by omega) sc T w (HS.out.to hb))
  rw [ha] at C1
  have s0 := blk_all hgu HS.out 0 (scC_0 t)
  have r0 := blk_all hgu HR.out 0 rfl
  have r1 := blk_all hgu HR.out 1 rfl
  have r2 := blk_all hgu HR.out 2 rfl
  have r3 := blk_all hgu HR.out 3 rfl
  have f0 : ∀ u i, (g u).frozen? ⟨br, i, none⟩ = false := fun u i => (HR.out.to (hgu u)).frozen i
  have HGU := hide hgu
  clear hgu hi' ha
  obtain ⟨h3, h4, h6, h7, h8, h9⟩ := hA
  have e3 : (A == 3) = false := by rw [beq_eq_false_iff_ne]; exact h3
  have e4 : (A == 4) = false := by rw [beq_eq_false_iff_ne]; exact h4
  have e6 : (A == 6) = false := by rw [beq_eq_false_iff_ne]; exact h6
  have e7 : (A == 7) = false := by rw [beq_eq_false_iff_ne]; exact h7
  have e8 : (A == 8) = false := by rw [beq_eq_false_iff_ne]; exact h8
  have e9 : (A == 9) = false := by rw [beq_eq_false_iff_ne]; exact h9
  clear h3 h4 h6 h7 h8 h9
  go_wp2_with (first | ((with_reducible refine (C1 _).mono ?_); rintro e' w' ⟨rfl, uz, rfl⟩))
  have hbk := (((HR.out.to (HGU.out uz)).set_ 0 (.int .i64 0)).set_ 1 (.int .i64 0)).set_ 2 (.int .i64 0) |>.set_ 3 (.string ⟨#[]⟩)
  refine bodyPost_ret (results_c2 (p := 4) (u := 5) (v := 6) rfl _ _ br 50 _ _ rfl hbk Tryz.underlying50 rfl (by kernel_rfl)) rfl ⟨rfl, ?_⟩
  exact ((((below_to HB.out (Nat.le_refl _) (HGU.out uz)).setCell (p := ⟨br, 0, none⟩) (Nat.le_of_eq hbr.out) _).setCell (p := ⟨br, 1, none⟩) (Nat.le_of_eq hbr.out) _).setCell (p := ⟨br, 2, none⟩) (Nat.le_of_eq hbr.out) _).setCell (p := ⟨br, 3, none⟩) (Nat.le_of_eq hbr.out) _
theorem next_any (t : List UInt8) (ht : t.length ≤ 1000000000) (i : Nat) (hi : i < t.length) (sc : Nat) (T : TypeId) (w : World) (h : Blk w sc T (scC t)) :
    Calls Tryz.prog 68 #[.pointer (some ⟨sc, 0, none⟩), .int .i64 (i : Int)] w fun r w' => r = .returned (nval (nextP t i)) ∧ Below w.heap.size w w' := by
  unfold nextP
  by_cases h3 : atP t i = 3
  · rw [if_pos h3]
    split
    · exact next_long t ht i hi _ h3 rfl (whP_ge _ _ _) (whP_le (by omega) _) (by omega) sc T w h
    · exact next_nm t ht i hi _ h3 rfl (whP_ge _ _ _) (whP_le (by omega) _) (by omega) sc T w h
  rw [if_neg h3]
  by_cases h4 : atP t i = 4
  · rw [if_pos h4]
    have hgt := whP_gt (t := t) (i := i) (K := [4]) (by rw [h4]; rfl) hi
    split
    · rename_i hc
      by_cases h13 : 13 < whP t i [4] - i
      · exact next_num_a t ht i hi _ h4 rfl hgt (whP_le (by omega) _) h13 sc T w h
      · exact next_num_b t ht i hi _ h4 rfl hgt (whP_le (by omega) _) (by omega) (hc.resolve_left h13) sc T w h
    · rename_i hc
      exact next_num t ht i hi _ h4 rfl hgt (whP_le (by omega) _) (by omega) (fun h => hc (.inr h)) sc T w h
  rw [if_neg h4]
  by_cases h6 : atP t i = 6
  · rw [if_pos h6]
    rcases Int.lt_or_le (strN t i) 0 with hn | hn
    · rw [if_pos (.inl hn)]
      exact next_str_a t ht i hi h6 hn sc T w h
    · obtain ⟨n, hn'⟩ : ∃ n : Nat, strN t i = n := ⟨(strN t i).toNat, by omega⟩
      obtain ⟨c, hc, _⟩ := indexAny_some hn'
      rw [hn', Int.toNat_natCast, hc]
      by_cases h10 : c = 10
      · rw [if_pos (.inr (by rw [h10]))]
        exact next_str_b t ht i hi h6 n hn' c hc h10 sc T w h
      · rw [if_neg (by rintro (h | h); omega; exact h10 (Option.some.inj h))]
        split
        · exact next_str_c t ht i hi h6 n hn' c hc h10 (by omega) sc T w h
        · exact next_str t ht i hi h6 n hn' c hc h10 (by omega) sc T w h
  rw [if_neg h6]
  cases hp : Lib.hasPrefix (t.drop (i + 1)) [61] with
  | true =>
    by_cases h7 : atP t i = 7
    · rw [if_pos ⟨.inl h7, rfl⟩]; exact next_eq7 t ht i hi h7 hp sc T w h
    by_cases h8 : atP t i = 8
    · rw [if_pos ⟨.inr h8, rfl⟩]; exact next_eq8 t ht i hi h8 hp sc T w h
    rw [if_neg (by rintro ⟨h | h, _⟩; exact h7 h; exact h8 h)]
    by_cases h9 : atP t i = 9
    · rw [if_pos (.inr h9)]; exact next_sym t ht i hi h9 sc T w h
    · rw [if_neg (by rintro (h | h); exact h8 h; exact h9 h)]; exact next_other t ht i hi _ rfl ⟨h3, h4, h6, h7, h8, h9⟩ sc T w h
  | false =>
    rw [if_neg (by rintro ⟨_, h⟩; cases h)]
    by_cases h8 : atP t i = 8
    · rw [if_pos (.inl h8)]; exact next_angle t ht i hi h8 hp sc T w h
    by_cases h9 : atP t i = 9
    · rw [if_pos (.inr h9)]; exact next_sym t ht i hi h9 sc T w h
    rw [if_neg (by rintro (h | h); exact h8 h; exact h9 h)]
    by_cases h7 : atP t i = 7
    · exact next_mark t ht i hi h7 hp sc T w h
    · exact next_other t ht i hi _ rfl ⟨h3, h4, h6, h7, h8, h9⟩ sc T w h
end Go.Proofs.YtdcafoekbnacnaaGreatDoor

/- Package lexer: Lex of a text that is one name. -/
set_option linter.unusedVariables false
set_option linter.unusedSimpArgs false
namespace Go.Proofs.YtdcafoekbnacnaaGreatDoor
open Go.RowKit

theorem scC_size (t : List UInt8) : (scC t).size = 257 := by unfold scC; rw [Array.size_append, intC_size, clsL_len]; rfl
theorem scC_one (t : List UInt8) : ∀ v ∈ (scC t).toList, v.oneCell' = true := by
  intro v hv
  unfold scC at hv
  rw [Array.toList_append, List.mem_append] at hv
  rcases hv with h | h
  · simp at h; subst h; rfl
  · exact intC_one _ v h
theorem info_token : (Tryz.prog.info? 50).map (fun i => (i.zero, i.size, i.bytes)) = some (some (.agg #[.int .i64 0, .int .i64 0, .int .i64 0, .string ⟨#[]⟩]), 4, 40) := by kernel_rfl
/-- a slice of one token -/
def TokAt (w : World) (v : Value) (x : Tk) : Prop := ∃ b c, v = .slice (some ⟨b, 0, none⟩) 1 c ∧ b < w.heap.size ∧ ∀ (j : Nat) u, (tcells x)[j]? = some u → w.cell? ⟨b, j, none⟩ = some u
theorem row_new {W : World} {a b c d : Value} {ty : TypeId} {n : Nat} (hb : n = W.heap.size) : ∀ (j : Nat) (u : Value), [a, b, c, d][j]? = some u → (W.alloc (.cells #[a, b, c, d] ty)).cell? ((⟨n, 0, none⟩ : Addr).add j) = some u := by
  subst hb
  intro j u hu
  rw [show (⟨W.heap.size, 0, none⟩ : Addr).add j = ⟨W.heap.size, j, none⟩ by unfold Addr.add; split <;> simp_all]
  refine ((Blk.new W ty #[a, b, c, d]).cell j).trans ?_
  simpa using hu
theorem own_to' {w w' : World} {base : Nat} {e : TypeId} {size n : Nat} {v : Value} {xs : List Value} (h : w.ownsRow base e size v n xs) (hb : Below w.heap.size w w') : w'.ownsRow base e size v n xs :=
  h.kept (show w.grownBy w' none from ⟨hb.os, hb.tape, hb.output, hb.size, fun i hi _ => hb.block i hi⟩) (by cases v.ownBlock <;> simp)
theorem tok_own {w : World} {B : Nat} {v : Value} {x : Tk} (h : w.ownsRow B 50 4 v 1 (tcells x).toList) : TokAt w v x := by
  obtain ⟨_, h⟩ := h
  rcases h with ⟨_, h0⟩ | ⟨g, cap, cur, hv, hB, hg, hn, _, hs, ht⟩
  · omega
  · refine ⟨g, cap, hv, ?_, fun k u hu => ?_⟩
    · rcases Nat.lt_or_ge g w.heap.size with h | h
      · exact h
      · rw [Array.getElem?_eq_none h] at hg; cases hg
    · rw [cell_of_row w g k cur 50 (0, 0) hg]
      have : (cur.toList.take (1 * 4))[k]? = some u := by rw [ht]; simpa using hu
      rw [List.getElem?_take] at this
      split at this
      · simpa using this
      · cases this
def LxI (t : List UInt8) (w0 wr : World) (v i : Value) : Prop := Below w0.heap.size w0 wr ∧
  ((v = .slice none 0 0 ∧ i = .int .i64 0) ∨ (i = .int .i64 (t.length : Int) ∧ wr.ownsRow w0.heap.size 50 4 v 1 (tcells ⟨1, 0, 0, t⟩).toList))
set_option maxRecDepth 100000 in
set_option maxHeartbeats 8000000 in
theorem Lex_name (t : List UInt8) (h : isNm t = true) (w : World) : Calls Tryz.prog 29 #[.string (bs t)] w fun e w' => ∃ v, e = .returned (.tuple #[v, .int .i64 0, .int .i64 0]) ∧ TokAt w' v ⟨1, 0, 0, t⟩ ∧ Below w.heap.size w w' := by
  obtain ⟨h1, h2, h3, h4⟩ := nm_facts h
  have hsz : (bs t).size = t.length := bs_size t
  have hi : (Tryz.prog.info? 100).map (·.size) = some (scC t).size := by rw [scC_size]; kernel_rfl
  have hs0 : 0 + (scC t).size ≤ (Tryz.zeroCells100).size := by rw [scC_size]; decide
  have hs1 : (scC t).size = (Tryz.zeroCells100).size := by rw [scC_size]; rfl
  have hend : atP t t.length = 0 := by unfold atP; rw [List.getElem?_eq_none (Nat.le_refl _)]
  obtain ⟨i0, hi0, hz0, hz1, hz2⟩ := info_parts info_token
  have HI := hide hi
  have HS0 := hide hs0
  have HS1 := hide hs1
  have H1 := hide h1
  have H2 := hide h2
  have HE := hide hend
  have e20 : decide ((20000 : Int) < (t.length : Int)) = false := by simp; omega
  clear hi hs0 hs1 h1 h2 hend h
  go_enter Tryz.func29, Tryz.ntmps29
  go_wp2_with fail
  refine (classes_any _).mono ?_
  rintro e w1 ⟨rfl, hb⟩
  have HSZ := hide hb.size
  have HB1 := hide (below_alloc hb (Nat.le_refl _) (.cells Tryz.zeroCells100 100))
  have HZ := hide (Blk.new w1 100 Tryz.zeroCells100)
  clear hb
  go_wp2_with (first | ((with_reducible show wpList _ _ _ (Oper.mk _ (Op.build 100 _) _ _ _ _ :: _) _ _); refine Great.wpList_readTo rfl _ rfl (.agg (scC t)) (by kernel_rfl) ?_) | ((with_reducible show wpList _ _ _ (Oper.mk _ (Op.store 100 _ _) _ _ _ _ :: _) _ _); refine wpList_store_part rfl 100 (.tmp 5) (.tmp 16) rfl w1.heap.size 0 (scC t) rfl rfl 100 Tryz.zeroCells100 HZ.out HI.out HS0.out (scC_one t) ?_; intro w2 ho hb2))
  have HS2 : Hid (Blk w2 w1.heap.size 100 (scC t)) := by have := hb2; rw [splice_all' HS1.out] at this; exact this
  have HB2 := hide (Only.below HB1.out ho HB1.out.size HSZ.out)
  clear hb2 ho HB1 HZ HI HS0 HS1 HSZ e20
  have HSC := hide HS2.out.lt
  generalize w1.heap.size = sc at *
  have hsub : sub t 0 t.length = t := by unfold sub; simp
  have CN := fun w h => next_name t (by omega) 0 t.length H1.out H2.out (by omega) (Nat.le_refl _) (by omega) sc 100 w h
  rw [hsub] at CN
  have C0 := fun w h => gap_none t (by omega) 0 (by omega) (by rw [H1.out]; decide) (by rw [H1.out]; decide) sc 100 w h
  have CE := fun w h => gap_none t (by omega) t.length (Nat.le_refl _) (by rw [HE.out]; decide) (by rw [HE.out]; decide) sc 100 w h
  refine (C0 _ HS2.out).mono ?_
  rintro e w3 ⟨rfl, hb⟩
  have HB3 := hide hb
  clear hb C0 hsub H1 H2 HE
  go_wp2_with fail
  go_loopw [6, 7] (fun v i wr => LxI t w2 wr v i) (fun _ i _ => t.length - (intOf i).toNat)
  case atStart => exact ⟨HB3.out, .inl ⟨rfl, rfl⟩⟩
  case round =>
    obtain ⟨hB, hst⟩ := hrel
    have HB := hide hB
    clear hB
    have HSr := hide (HS2.out.below HB.out HSC.out)
    rcases hst with ⟨rfl, rfl⟩ | ⟨rfl, hO⟩
    · have e1 : decide ((0 : Int) < (t.length : Int)) = true := by simp; omega
      have CN' : Calls Tryz.prog 68 #[.pointer (some ⟨sc, 0, none⟩), .int .i64 0] wr fun r w' => r = .returned (.tuple #[.agg #[.int .i64 1, .int .i64 0, .int .i64 0, .string (bs t)], .int .i64 (t.length : Int), .int .i64 0]) ∧ Below wr.heap.size wr w' := CN _ HSr.out
      have hsc := HSC.out
      go_wp2_with (first | ((with_reducible refine CN'.mono ?_); rintro e w4 ⟨rfl, hb4⟩) | (at_builtin; refine wpList_append_own _ rfl (.tmp 41) (.tmp 43) _ rfl w2.heap.size 50 i0 (.agg #[.int .i64 0, .int .i64 0, .int .i64 0, .string ⟨#[]⟩]) 4 40 Tryz.underlying46 hi0 hz0 hz1 hz2 rfl (by omega) _ 0 [] rfl (World.ownsRow_nil _ _ _ _) ⟨_, 0, none⟩ 1 1 [.int .i64 1, .int .i64 0, .int .i64 0, .string (bs t)] rfl rfl ?c1 ?c2 (by decide) (by decide) ?c3 ?_))
      case c1 => exact row_new (by simp)
      case c2 =>
        intro u hu
        simp only [List.mem_cons, List.not_mem_nil, or_false] at hu
        rcases hu with rfl | rfl | rfl | rfl <;> rfl
      case c3 =>
        have := HB.out.size
        have := hb4.size
        simp
        omega
      · intro v' w6 hown6 hgr6 _
        have HB5 := below_alloc (below_alloc (below_to HB.out (Nat.le_refl _) hb4) (Nat.le_refl _) (.cells #[.int .i64 1, .int .i64 0, .int .i64 0, .string (bs t)] 50)) (Nat.le_refl _) (.cells #[.int .i64 1, .int .i64 0, .int .i64 0, .string (bs t)] 50)
        have HB6 := hide (HB5.grown hgr6 HB5.size (fun k hk => by simp [Value.ownBlock] at hk))
        have HO6 : Hid (w6.ownsRow w2.heap.size 50 4 v' 1 (tcells ⟨1, 0, 0, t⟩).toList) := hown6
        have CG := CE w6 (HS2.out.below HB6.out HSC.out)
        clear hown6 hgr6 HB5 CN' CN CE hb4
        go_wp2_with ((with_reducible refine CG.mono ?_); rintro e w7 ⟨rfl, hb7⟩)
        refine ⟨⟨below_to HB6.out (Nat.le_refl _) hb7, .inr ⟨rfl, own_to' HO6.out hb7⟩⟩, ?_⟩
        simp [intOf]; omega
    · have e1 : decide ((t.length : Int) < (t.length : Int)) = false := by simp
      have HO := hide hO
      clear hO
      go_wp2_with fail
      go_ret3
      exact ⟨_, rfl, tok_own HO.out, below_to HB2.out (Nat.le_refl _) HB.out⟩
end Go.Proofs.YtdcafoekbnacnaaGreatDoor

/- Package lexer: Lex at every text. -/
set_option linter.unusedVariables false
set_option linter.unusedSimpArgs false
namespace Go.Proofs.YtdcafoekbnacnaaGreatDoor
open Go.RowKit

/-- a slice of tokens -/
def ToksAt (w : World) (v : Value) (l : List Tk) : Prop := (l = [] ∧ ∃ A c, v = .slice A 0 c) ∨
  ∃ b o c, v = .slice (some ⟨b, o, none⟩) l.length c ∧ b < w.heap.size ∧ ∀ (k : Nat) x, l[k]? = some x → ∀ (j : Nat) u, (tcells x)[j]? = some u → w.cell? ⟨b, o + 4 * k + j, none⟩ = some u
theorem ToksAt.to {w w' : World} {v : Value} {l : List Tk} (h : ToksAt w v l) (hb : Below w.heap.size w w') : ToksAt w' v l := by
  rcases h with h | ⟨b, o, c, h1, h2, h3⟩
  · exact .inl h
  · exact .inr ⟨b, o, c, h1, Nat.lt_of_lt_of_le h2 hb.size, fun k x hx j u hu => (hb.cell h2).trans (h3 k x hx j u hu)⟩
/-- the same at the head of a block -/
def TokRow (w : World) (v : Value) (l : List Tk) : Prop := (l = [] ∧ ∃ A c, v = .slice A 0 c) ∨
  ∃ b c, v = .slice (some ⟨b, 0, none⟩) l.length c ∧ l.length ≤ c ∧ b < w.heap.size ∧ ∀ (k : Nat) x, l[k]? = some x → ∀ (j : Nat) u, (tcells x)[j]? = some u → w.cell? ⟨b, 4 * k + j, none⟩ = some u
theorem TokRow.at {w : World} {v : Value} {l : List Tk} (h : TokRow w v l) : ToksAt w v l := by
  rcases h with h | ⟨b, c, h1, _, h2, h3⟩
  · exact .inl h
  · exact .inr ⟨b, 0, c, h1, h2, fun k x hx j u hu => by rw [Nat.zero_add]; exact h3 k x hx j u hu⟩
theorem TokRow.to {w w' : World} {v : Value} {l : List Tk} (h : TokRow w v l) (hb : Below w.heap.size w w') : TokRow w' v l := by
  rcases h with h | ⟨b, c, h1, h4, h2, h3⟩
  · exact .inl h
  · exact .inr ⟨b, c, h1, h4, Nat.lt_of_lt_of_le h2 hb.size, fun k x hx j u hu => (hb.cell h2).trans (h3 k x hx j u hu)⟩
def flatT (l : List Tk) : List Value := l.flatMap fun x => (tcells x).toList
theorem flatT_len : ∀ l : List Tk, (flatT l).length = l.length * 4
  | [] => rfl
  | x :: l => by
    have := flatT_len l
    unfold flatT at this ⊢
    rw [List.flatMap_cons, List.length_append, this, List.length_cons]
    show 4 + _ = _
    omega
theorem flatT_at : ∀ (l : List Tk) (k : Nat) (x : Tk) (j : Nat) (u : Value), l[k]? = some x → (tcells x)[j]? = some u → (flatT l)[4 * k + j]? = some u
  | [], k, x, j, u, h, _ => by simp at h
  | y :: l, 0, x, j, u, h, hu => by
    simp at h
    subst h
    have hj : j < 4 := by
      rcases Nat.lt_or_ge j (tcells y).size with h | h
      · exact h
      · rw [Array.getElem?_eq_none h] at hu; cases hu
    unfold flatT
    rw [List.flatMap_cons, List.getElem?_append_left (by show 4 * 0 + j < 4; omega)]
    simpa using hu
  | y :: l, k + 1, x, j, u, h, hu => by
    have ih := flatT_at l k x j u (by simpa using h) hu
    unfold flatT at ih ⊢
    rw [List.flatMap_cons, List.getElem?_append_right (by show 4 ≤ _; omega)]
    have : 4 * (k + 1) + j - (tcells y).toList.length = 4 * k + j := by show 4 * (k + 1) + j - 4 = _; omega
    rw [this]; exact ih
theorem flatT_snoc (l : List Tk) (x : Tk) : flatT (l ++ [x]) = flatT l ++ [.int .i64 x.k, .int .i64 x.a, .int .i64 x.n, .string (bs x.s)] := by simp [flatT, tcells]
theorem toks_own {w : World} {B : Nat} {v : Value} {l : List Tk} (h : w.ownsRow B 50 4 v l.length (flatT l)) : TokRow w v l := by
  obtain ⟨_, h⟩ := h
  rcases h with ⟨hv, h0⟩ | ⟨g, cap, cur, hv, hB, hg, hn, _, hs, ht⟩
  · exact .inl ⟨List.eq_nil_of_length_eq_zero h0, _, _, hv⟩
  · refine .inr ⟨g, cap, hv, hn, ?_, fun k x hx j u hu => ?_⟩
    · rcases Nat.lt_or_ge g w.heap.size with h | h
      · exact h
      · rw [Array.getElem?_eq_none h] at hg; cases hg
    · rw [cell_of_row w g _ cur 50 (0, 0) hg]
      have h1 := flatT_at l k x j u hx hu
      rw [← ht, List.getElem?_take] at h1
      split at h1
      · simpa using h1
      · cases h1
theorem own_slice {w : World} {B : Nat} {e : TypeId} {s n : Nat} {v : Value} {xs : List Value} (h : w.ownsRow B e s v n xs) : ∃ A c, v = .slice A n c := by
  obtain ⟨_, h⟩ := h
  rcases h with ⟨hv, h0⟩ | ⟨g, cap, cur, hv, _⟩
  · exact ⟨none, 0, by rw [hv, h0]⟩
  · exact ⟨_, _, hv⟩
def LexI (t : List UInt8) (w0 wr : World) (v i : Value) : Prop := Below w0.heap.size w0 wr ∧
  ∃ (f k : Nat) (acc : List Tk), i = .int .i64 (k : Int) ∧ (k ≤ t.length ∧ t.length - k < f ∧ acc.length ≤ 5000) ∧ lexA f t k acc = lexA (t.length + 1) t (gapP t 0) [] ∧ wr.ownsRow w0.heap.size 50 4 v acc.length (flatT acc)
set_option maxRecDepth 100000 in
set_option maxHeartbeats 8000000 in
theorem Lex_any (t : List UInt8) (ht' : t.length ≤ 140737488355328) (w : World) : Calls Tryz.prog 29 #[.string (bs t)] w fun e w' => ∃ v, e = .returned (.tuple #[v, .int .i64 (lexP t).2.1, .int .i64 (lexP t).2.2]) ∧ TokRow w' v (lexP t).1 ∧ Below w.heap.size w w' := by
  have hsz : (bs t).size = t.length := bs_size t
  by_cases hlim : t.length > 20000
  · have e20 : decide ((20000 : Int) < (t.length : Int)) = true := by simp; omega
    have HL : Hid (lexP t = ([], 2, -1)) := by show _ = _; unfold lexP; rw [if_pos hlim]
    rw [HL.out]
    go_enter Tryz.func29, Tryz.ntmps29
    go_wp2_with fail
    go_ret3
    exact ⟨_, rfl, .inl ⟨rfl, _, _, rfl⟩, Below.refl _ _⟩
  have ht2 : t.length ≤ 20000 := by omega
  have HL : Hid (lexP t = lexA (t.length + 1) t (gapP t 0) []) := by show _ = _; unfold lexP; rw [if_neg hlim]
  rw [HL.out]
  have hi : (Tryz.prog.info? 100).map (·.size) = some (scC t).size := by rw [scC_size]; kernel_rfl
  have hs0 : 0 + (scC t).size ≤ (Tryz.zeroCells100).size := by rw [scC_size]; decide
  have hs1 : (scC t).size = (Tryz.zeroCells100).size := by rw [scC_size]; rfl
  obtain ⟨i0, hi0, hz0, hz1, hz2⟩ := info_parts info_token
  have HI := hide hi
  have HS0 := hide hs0
  have HS1 := hide hs1
  have e20 : decide ((20000 : Int) < (t.length : Int)) = false := by simp; omega
  clear hi hs0 hs1 HL hlim
  go_enter Tryz.func29, Tryz.ntmps29
  go_wp2_with fail
  refine (classes_any _).mono ?_
  rintro e w1 ⟨rfl, hb⟩
  have HSZ := hide hb.size
  have HB1 := hide (below_alloc hb (Nat.le_refl _) (.cells Tryz.zeroCells100 100))
  have HZ := hide (Blk.new w1 100 Tryz.zeroCells100)
  clear hb
  go_wp2_with (first | ((with_reducible show wpList _ _ _ (Oper.mk _ (Op.build 100 _) _ _ _ _ :: _) _ _); refine Great.wpList_readTo rfl _ rfl (.agg (scC t)) (by kernel_rfl) ?_) | ((with_reducible show wpList _ _ _ (Oper.mk _ (Op.store 100 _ _) _ _ _ _ :: _) _ _); refine wpList_store_part rfl 100 (.tmp 5) (.tmp 16) rfl w1.heap.size 0 (scC t) rfl rfl 100 Tryz.zeroCells100 HZ.out HI.out HS0.out (scC_one t) ?_; intro w2 ho hb2))
  have HS2 : Hid (Blk w2 w1.heap.size 100 (scC t)) := by have := hb2; rw [splice_all' HS1.out] at this; exact this
  have HB2 := hide (Only.below HB1.out ho HB1.out.size HSZ.out)
  clear hb2 ho HB1 HZ HI HS0 HS1 HSZ e20
  have HSC := hide HS2.out.lt
  generalize w1.heap.size = sc at *
  have CG := fun k hk w h => gap_any t (by omega) k hk sc 100 w h
  have CN := fun k hk w h => next_any t (by omega) k hk sc 100 w h
  have C0 := CG 0 (Nat.zero_le _)
  have hg0 := gapP_le (Nat.zero_le t.length)
  refine (C0 _ HS2.out).mono ?_
  rintro e w3 ⟨rfl, hb⟩
  have HB3 := hide hb
  clear hb C0
  generalize hg : gapP t 0 = k0 at *
  have HK0 := hide hg
  clear hg
  go_wp2_with fail
  go_loopw [6, 7, 8, 9, 10] (fun v i _ _ _ wr => LexI t w2 wr v i) (fun _ i _ _ _ _ => t.length - (intOf i).toNat)
  case atStart => exact ⟨HB3.out, t.length + 1, k0, [], rfl, ⟨hg0, by omega, by simp⟩, by rw [HK0.out], World.ownsRow_nil _ _ _ _⟩
  case round =>
    obtain ⟨hB, f, k, acc, rfl, ⟨hk, hf, ha5⟩, hE, hO⟩ := hrel
    have HB := hide hB
    have HE := hide hE
    have HO := hide hO
    have HSr := hide (HS2.out.below HB.out HSC.out)
    obtain ⟨A, c, rfl⟩ := own_slice hO
    clear hB hE hO
    by_cases hlt : k < t.length
    · have e1 : decide ((k : Int) < (t.length : Int)) = true := by simp; omega
      obtain ⟨f', rfl⟩ : ∃ f', f = f' + 1 := ⟨f - 1, by omega⟩
      have hE2 := HE.out
      rw [lexA, if_pos hlt] at hE2
      have CN1 := CN k hlt
      have HOK := hide (fun h => next_ok (t := t) (i := k) h)
      generalize nextP t k = r at *
      obtain ⟨E, x, en⟩ := r
      have CN' : Calls Tryz.prog 68 #[.pointer (some ⟨sc, 0, none⟩), .int .i64 (k : Int)] wr fun r w' => r = .returned (.tuple #[.agg #[.int .i64 x.k, .int .i64 x.a, .int .i64 x.n, .string (bs x.s)], .int .i64 (en : Int), .int .i64 E]) ∧ Below wr.heap.size wr w' := CN1 _ HSr.out
      simp only [] at hE2
      clear CN CN1
      by_cases hE0 : E = 0
      · subst hE0
        by_cases h5 : acc.length = 5000
        · have e2 : ((acc.length : Int) == 5000) = true := by rw [h5]; rfl
          rw [if_pos ⟨rfl, h5⟩] at hE2
          have HE2 := hide hE2
          clear hE2 h5 HOK
          go_wp2_with ((with_reducible refine CN'.mono ?_); rintro e w4 ⟨rfl, hb4⟩)
          go_ret3
          rw [← HE2.out]
          exact ⟨_, rfl, .inl ⟨rfl, _, _, rfl⟩, below_alloc (below_to (below_to HB2.out (Nat.le_refl _) HB.out) (Nat.le_refl _) hb4) (Nat.le_refl _) _⟩
        · have e2 : ((acc.length : Int) == 5000) = false := by rw [beq_eq_false_iff_ne]; omega
          rw [if_neg (fun h => h5 h.2), if_neg (by simp)] at hE2
          have HE2 := hide hE2
          have ha4 : acc.length < 5000 := by omega
          obtain ⟨hen1, hen2⟩ := HOK.out rfl
          simp only [] at hen1 hen2
          have hge := gapP_ge t en
          have hgl := gapP_le hen2
          have CE := CG en hen2
          generalize hgp : gapP t en = m at *
          clear hE2 h5 HOK CG hgp
          have hsc := HSC.out
          have HXS := hide (flatT_snoc acc x)
          obtain ⟨xk, xa, xn, xs⟩ := x
          simp only [] at CN' HXS
          go_wp2_with (first | ((with_reducible refine CN'.mono ?_); rintro e w4 ⟨rfl, hb4⟩) | (at_builtin; refine wpList_append_own _ rfl (.tmp 41) (.tmp 43) _ rfl w2.heap.size 50 i0 (.agg #[.int .i64 0, .int .i64 0, .int .i64 0, .string ⟨#[]⟩]) 4 40 Tryz.underlying46 hi0 hz0 hz1 hz2 rfl (by omega) _ acc.length (flatT acc) rfl ?c0 ⟨_, 0, none⟩ 1 1 [.int .i64 xk, .int .i64 xa, .int .i64 xn, .string (bs xs)] rfl rfl ?c1 ?c2 ?c4 ?c5 ?c3 ?_))
          case c0 => exact own_to' HO.out (below_alloc (below_alloc hb4 (Nat.le_refl _) _) (by simp) _)
          case c1 => exact row_new (by simp)
          case c2 =>
            intro u hu
            simp only [List.mem_cons, List.not_mem_nil, or_false] at hu
            rcases hu with rfl | rfl | rfl | rfl <;> rfl
          case c4 => simp only [maxLen]; omega
          case c5 => omega
          case c3 =>
            have := HB.out.size
            have := hb4.size
            simp
            omega
          · intro v' w6 hown6 hgr6 _
            have HB5 := below_alloc (below_alloc (below_to HB.out (Nat.le_refl _) hb4) (Nat.le_refl _) (.cells #[.int .i64 xk, .int .i64 xa, .int .i64 xn, .string (bs xs)] 50)) (Nat.le_refl _) (.cells #[.int .i64 xk, .int .i64 xa, .int .i64 xn, .string (bs xs)] 50)
            have HB6 := hide (HB5.grown hgr6 HB5.size (fun k hk => (HO.out.lt k hk).1))
            have HO6 : Hid (w6.ownsRow w2.heap.size 50 4 v' (acc ++ [(⟨xk, xa, xn, xs⟩ : Tk)]).length (flatT (acc ++ [(⟨xk, xa, xn, xs⟩ : Tk)]))) := by show World.ownsRow _ _ _ _ _ _ _; rw [HXS.out, List.length_append]; exact hown6
            have CG' := CE w6 (HS2.out.below HB6.out HSC.out)
            clear hown6 hgr6 HB5 CN' CE hb4
            go_wp2_with ((with_reducible refine CG'.mono ?_); rintro e w7 ⟨rfl, hb7⟩)
            refine ⟨⟨below_to HB6.out (Nat.le_refl _) hb7, f', m, acc ++ [(⟨xk, xa, xn, xs⟩ : Tk)], rfl, ⟨hgl, by omega, by simp; omega⟩, HE2.out.trans (by rfl), own_to' HO6.out hb7⟩, ?_⟩
            simp [intOf]; omega
      · have e2 : (E == 0) = false := by rw [beq_eq_false_iff_ne]; exact hE0
        have e3 : (E != 0) = true := by rw [bne_iff_ne]; exact hE0
        rw [if_neg (fun h => hE0 h.1), if_pos hE0] at hE2
        have HE2 := hide hE2
        clear hE2 HOK hE0
        go_wp2_with ((with_reducible refine CN'.mono ?_); rintro e w4 ⟨rfl, hb4⟩)
        go_ret3
        rw [← HE2.out]
        exact ⟨_, rfl, .inl ⟨rfl, _, _, rfl⟩, below_alloc (below_to (below_to HB2.out (Nat.le_refl _) HB.out) (Nat.le_refl _) hb4) (Nat.le_refl _) _⟩
    · have e1 : decide ((k : Int) < (t.length : Int)) = false := by simp; omega
      obtain ⟨f', rfl⟩ : ∃ f', f = f' + 1 := ⟨f - 1, by omega⟩
      have hE2 := HE.out
      rw [lexA, if_neg hlt] at hE2
      have HE2 := hide hE2
      clear hE2
      go_wp2_with fail
      go_ret3
      rw [← HE2.out]
      exact ⟨_, rfl, toks_own HO.out, below_to HB2.out (Nat.le_refl _) HB.out⟩
end Go.Proofs.YtdcafoekbnacnaaGreatDoor

/- Package lexer: texts that are one name, out of what Lex gives. No program in sight. -/
set_option linter.unusedVariables false
set_option linter.unusedSimpArgs false
namespace Go.Proofs.YtdcafoekbnacnaaGreatDoor
open Go.RowKit

theorem lexA_pre : ∀ (f : Nat) (t : List UInt8) (i : Nat) (acc : List Tk), (lexA f t i acc).2.1 = 0 → ∃ r, (lexA f t i acc).1 = acc ++ r
  | 0, t, i, acc, _ => ⟨[], by simp [lexA]⟩
  | f + 1, t, i, acc, h => by
    rw [lexA] at h ⊢
    split at h
    · rename_i hi
      rw [if_pos hi]
      split at h
      · simp at h
      · rename_i h5
        rw [if_neg h5]
        split at h
        · rename_i hne; exact absurd h hne
        · rename_i hne
          rw [if_neg hne]
          obtain ⟨r, hr⟩ := lexA_pre f t _ _ h
          exact ⟨(nextP t i).2.1 :: r, by rw [hr]; simp⟩
    · rename_i hi
      rw [if_neg hi]
      exact ⟨[], by simp⟩
/-- Lex gives just one token, a name that is the whole text: the text is a name -/
theorem nm_of_lex {d : List UInt8} {xa xn : Int} (h0 : (lexP d).2.1 = 0) (h1 : (lexP d).1 = [⟨1, xa, xn, d⟩]) : isNm d = true := by
  unfold lexP at h0 h1
  split at h0
  · simp at h0
  · rename_i hl
    rw [if_neg hl] at h1
    rw [lexA] at h0 h1
    split at h0
    · rename_i hi
      rw [if_pos hi] at h1
      split at h0
      · simp at h0
      · rename_i h5
        rw [if_neg h5] at h1
        split at h0
        · rename_i hne; exact absurd h0 hne
        · rename_i hne
          rw [if_neg hne] at h1
          obtain ⟨r, hr⟩ := lexA_pre _ _ _ _ h0
          rw [h1, List.nil_append] at hr
          have hx : (nextP d (gapP d 0)).2.1 = ⟨1, xa, xn, d⟩ := by
            have := congrArg List.head? hr
            simpa using this.symm
          have hE : (nextP d (gapP d 0)).1 = 0 := by
            rcases Classical.em ((nextP d (gapP d 0)).1 = 0) with h | h
            · exact h
            · exact absurd h (by simpa using hne)
          clear hr h1 h0 hne h5
          generalize gapP d 0 = i at *
          unfold nextP at hx hE
          by_cases h3 : atP d i = 3
          · rw [if_pos h3] at hx hE
            split at hE
            · simp at hE
            · rename_i h24
              rw [if_neg h24] at hx
              simp only [Tk.mk.injEq] at hx
              have hw := whP_le (t := d) (i := i) (by omega) [3, 4, 5]
              have hge := whP_ge d i [3, 4, 5]
              have hlen := sub_len (t := d) (i := i) hw
              rw [hx.2.2.2] at hlen
              obtain rfl : i = 0 := by omega
              have hall := wh_all d 0 [3, 4, 5]
              rw [hx.2.2.2] at hall
              unfold isNm
              simp only [Bool.and_eq_true, decide_eq_true_eq]
              refine ⟨⟨?_, ?_⟩, by omega⟩
              · cases d with
                | nil => simp at hi
                | cons c r =>
                  unfold atP at h3
                  simp at h3
                  simp [isLet, h3]
              · exact List.all_eq_true.2 fun c hc => hall c hc
          · rw [if_neg h3] at hx hE
            exfalso
            have hz : ∀ {x : Tk}, x = ⟨1, xa, xn, d⟩ → x.k = 1 := fun h => by rw [h]
            have := hz hx
            revert this hE
            (repeat' split) <;> simp [zTk]
    · rename_i hi
      rw [if_neg hi] at h1
      simp at h1
theorem lex_of_nm {d : List UInt8} (h : isNm d = true) : lexP d = ([⟨1, 0, 0, d⟩], 0, 0) := by
  obtain ⟨h1, h2, h3, h4⟩ := nm_facts h
  have hg : gapP d 0 = 0 := gapP_none (by rw [h1]; decide) (by rw [h1]; decide)
  have hn : nextP d 0 = (0, ⟨1, 0, 0, d⟩, d.length) := by
    unfold nextP
    rw [if_pos h1, h2, if_neg (by omega)]
    have : sub d 0 d.length = d := by unfold sub; simp
    rw [this]; rfl
  have hge : gapP d d.length = d.length := by
    unfold gapP; rw [List.drop_length]; rfl
  unfold lexP
  rw [if_neg (by omega), hg, lexA, if_pos (by omega), hn]
  simp only []
  rw [if_neg (by simp), if_neg (by simp), hge]
  cases hd : d.length with
  | zero => omega
  | succ n =>
    rw [lexA, ← hd, if_neg (by omega)]
    rfl
end Go.Proofs.YtdcafoekbnacnaaGreatDoor

/- Plain laws of the lexer: what Lex gives of tokens that are written out one behind the other. No program in sight. -/
set_option linter.unusedVariables false
set_option linter.unusedSimpArgs false
namespace Go.Proofs.YtdcafoekbnacnaaGreatDoor
open Go.RowKit

/-- a token as it stands in a text -/
def rawT (x : Tk) : List UInt8 := if x.k = 3 then 34 :: (x.s ++ [34]) else x.s
/-- what Lex makes -/
inductive WfT : Tk → Prop where
  | name (a : Int) (s : List UInt8) (h : isNm s = true) : WfT ⟨1, a, 0, s⟩
  | num (a : Int) (s : List UInt8) (h0 : s ≠ []) (hd : ∀ c ∈ s, clsB c = 4) (hl : s.length ≤ 13) : WfT ⟨2, a, (numD s : Nat), s⟩
  | str (a : Int) (s : List UInt8) (h : ∀ c ∈ s, c ≠ 34 ∧ c ≠ 10) (hl : s.length ≤ 400) : WfT ⟨3, a, 0, s⟩
  | sym1 (a : Int) (c : UInt8) (h : clsB c = 8 ∨ clsB c = 9) : WfT ⟨4, a, 0, [c]⟩
  | sym2 (a : Int) (c : UInt8) (h : clsB c = 7 ∨ clsB c = 8) : WfT ⟨4, a, 0, [c, 61]⟩
/-- what may stand behind a token -/
def TermT (x : Tk) (c : Option UInt8) : Prop := ∀ d, c = some d → (x.k = 1 → clsB d ≠ 3 ∧ clsB d ≠ 4 ∧ clsB d ≠ 5) ∧ (x.k = 2 → clsB d ≠ 3 ∧ clsB d ≠ 4 ∧ clsB d ≠ 5) ∧ (x.k = 4 → d ≠ 61)
theorem runL_app (K : List Int) : ∀ (l m : List UInt8), (∀ c ∈ l, K.contains (clsB c) = true) → (∀ c, m.head? = some c → K.contains (clsB c) = false) → runL K (l ++ m) = l.length := by
  intro l m h1 h2
  have key : ∀ (l : List UInt8), (∀ c ∈ l, K.contains (clsB c) = true) → (l ++ m).takeWhile (fun c => K.contains (clsB c)) = l := by
    intro l
    induction l with
    | nil =>
      intro _
      cases m with
      | nil => rfl
      | cons c m => rw [List.nil_append, List.takeWhile_cons, h2 c rfl]; rfl
    | cons x l ih =>
      intro h
      rw [List.cons_append, List.takeWhile_cons, h x (List.mem_cons_self ..), if_pos rfl, ih (fun c hc => h c (List.mem_cons_of_mem _ hc))]
  unfold runL
  rw [key l h1]
theorem drop_mid {t A B : List UInt8} (h : t = A ++ B) : t.drop A.length = B := by rw [h]; simp
def clsH : List UInt8 → Int
  | c :: _ => clsB c
  | [] => 0
theorem atP_mid {t A B : List UInt8} (h : t = A ++ B) : atP t A.length = clsH B := by
  unfold atP
  rw [h, List.getElem?_append_right (Nat.le_refl _), Nat.sub_self]
  cases B <;> rfl
theorem atP_head {t A : List UInt8} {B : List UInt8} (h : t = A ++ B) {k : Int} (hk : k ≠ 0) : atP t A.length = k ↔ ∃ d, B.head? = some d ∧ clsB d = k := by
  rw [atP_mid h]
  cases B with
  | nil => constructor
           · intro e; exact absurd e.symm hk
           · rintro ⟨d, hd, _⟩; cases hd
  | cons c B => constructor
                · intro e; exact ⟨c, rfl, e⟩
                · rintro ⟨d, hd, e⟩; cases hd; exact e
theorem sub_mid {t A X B : List UInt8} (h : t = A ++ (X ++ B)) : sub t A.length (A.length + X.length) = X := by
  unfold sub
  rw [drop_mid h, show A.length + X.length - A.length = X.length by omega]; simp
theorem indexAny_app {cs : List UInt8} {d : UInt8} : ∀ (l m : List UInt8), (∀ c ∈ l, cs.contains c = false) → cs.contains d = true → Lib.indexAny (l ++ d :: m) cs = (l.length : Int)
  | [], m, _, hd => by rw [List.nil_append, Lib.indexAny, if_pos hd]; rfl
  | c :: l, m, h, hd => by
    have ih := indexAny_app l m (fun x hx => h x (List.mem_cons_of_mem _ hx)) hd
    rw [List.cons_append, Lib.indexAny, if_neg (by rw [h c (List.mem_cons_self ..)]; decide), ih, if_neg (by rw [beq_iff_eq]; omega)]
    simp
/-- one token at its place -/
theorem next_at {t A B : List UInt8} {x : Tk} (hx : WfT x) (h : t = A ++ (rawT x ++ B)) (hB : TermT x B.head?) : nextP t A.length = (0, ⟨x.k, A.length, x.n, x.s⟩, A.length + (rawT x).length) := by
  cases hx with
  | name a s hn =>
    have hr : rawT ⟨1, a, 0, s⟩ = s := rfl
    rw [hr] at h ⊢
    obtain ⟨h1, h2, h3, h4⟩ := nm_facts hn
    have ha : atP t A.length = 3 := by
      rw [atP_mid h]
      cases s with
      | nil => simp at h4
      | cons c s =>
        show clsB c = 3
        unfold atP at h1; simpa using h1
    have hall : ∀ c ∈ s, ([3, 4, 5] : List Int).contains (clsB c) = true := by
      unfold isNm at hn
      simp only [Bool.and_eq_true] at hn
      exact List.all_eq_true.1 hn.1.2
    have hw : whP t A.length [3, 4, 5] = A.length + s.length := by
      unfold whP
      rw [drop_mid h, runL_app _ s B hall (fun c hc => by
        have := (hB c hc).1 rfl
        simp [this.1, this.2.1, this.2.2])]
    unfold nextP
    rw [if_pos ha, hw, if_neg (by omega), sub_mid h]
  | num a s h0 hd hl =>
    have hr : rawT ⟨2, a, (numD s : Nat), s⟩ = s := rfl
    rw [hr] at h ⊢
    have ha : atP t A.length = 4 := by
      rw [atP_mid h]
      cases s with
      | nil => exact absurd rfl h0
      | cons c s => exact hd c (List.mem_cons_self ..)
    have hw : whP t A.length [4] = A.length + s.length := by
      unfold whP
      rw [drop_mid h, runL_app _ s B (fun c hc => by rw [hd c hc]; rfl) (fun c hc => by
        have := (hB c hc).2.1 rfl
        simp [this.2.1])]
    have hA : t = (A ++ s) ++ B := by rw [h]; simp
    have hn3 : atP t (A.length + s.length) ≠ 3 := fun e => by
      rw [← List.length_append, atP_head hA (by decide)] at e
      obtain ⟨d, hd', e⟩ := e
      exact ((hB d hd').2.1 rfl).1 e
    have hn5 : atP t (A.length + s.length) ≠ 5 := fun e => by
      rw [← List.length_append, atP_head hA (by decide)] at e
      obtain ⟨d, hd', e⟩ := e
      exact ((hB d hd').2.1 rfl).2.2 e
    unfold nextP
    rw [if_neg (by rw [ha]; decide), if_pos ha, hw, if_neg (by rintro (h | h | h); omega; exact hn3 h; exact hn5 h), sub_mid h]
  | str a s hs hl =>
    have hr : rawT ⟨3, a, 0, s⟩ = 34 :: (s ++ [34]) := rfl
    rw [hr] at h ⊢
    have ha : atP t A.length = 6 := by rw [atP_mid h]; show clsB 34 = 6; decide +kernel
    have hd1 : t.drop (A.length + 1) = s ++ (34 :: B) := by
      have : t = (A ++ [34]) ++ (s ++ (34 :: B)) := by rw [h]; simp
      have := drop_mid this
      rwa [List.length_append] at this
    have hN : strN t A.length = (s.length : Int) := by
      unfold strN
      rw [hd1]
      exact indexAny_app s B (fun c hc => by have := hs c hc; simp [this.1, this.2]) (by decide)
    unfold nextP
    rw [if_neg (by rw [ha]; decide), if_neg (by rw [ha]; decide), if_pos ha, hN, hd1]
    have h34 : (s ++ 34 :: B)[((s.length : Int)).toNat]? = some 34 := by
      rw [show ((s.length : Int)).toNat = s.length by omega, List.getElem?_append_right (Nat.le_refl _)]; simp
    rw [if_neg (by rintro (h | h); omega; rw [h34] at h; revert h; decide), if_neg (by omega)]
    rw [show ((s.length : Int)).toNat = s.length by omega]
    simp
    omega
  | sym1 a c hc =>
    have hr : rawT ⟨4, a, 0, [c]⟩ = [c] := rfl
    rw [hr] at h ⊢
    have ha : atP t A.length = clsB c := by rw [atP_mid h]; rfl
    have hd1 : t.drop (A.length + 1) = B := by
      have : t = (A ++ [c]) ++ B := by rw [h]; simp
      have := drop_mid this
      rwa [List.length_append] at this
    have hp : ¬ Lib.hasPrefix (t.drop (A.length + 1)) [61] = true := fun hp => by
      have := hasPrefix_one.1 hp
      rw [hd1] at this
      cases B with
      | nil => cases this
      | cons d B => exact (hB d rfl).2.2 rfl (by simpa using this)
    unfold nextP
    rw [ha, if_neg (by rcases hc with h | h <;> rw [h] <;> decide), if_neg (by rcases hc with h | h <;> rw [h] <;> decide), if_neg (by rcases hc with h | h <;> rw [h] <;> decide), if_neg (by intro h; exact hp h.2), if_pos (by rcases hc with h | h <;> simp [h])]
    have := sub_mid h
    rw [show A.length + [c].length = A.length + 1 from rfl] at this
    rw [this]; rfl
  | sym2 a c hc =>
    have hr : rawT ⟨4, a, 0, [c, 61]⟩ = [c, 61] := rfl
    rw [hr] at h ⊢
    have ha : atP t A.length = clsB c := by rw [atP_mid h]; rfl
    have hd1 : t.drop (A.length + 1) = 61 :: B := by
      have : t = (A ++ [c]) ++ (61 :: B) := by rw [h]; simp
      have := drop_mid this
      rwa [List.length_append] at this
    have hp : Lib.hasPrefix (t.drop (A.length + 1)) [61] = true := by rw [hd1]; exact hasPrefix_one.2 rfl
    unfold nextP
    rw [ha, if_neg (by rcases hc with h | h <;> rw [h] <;> decide), if_neg (by rcases hc with h | h <;> rw [h] <;> decide), if_neg (by rcases hc with h | h <;> rw [h] <;> decide), if_pos ⟨hc, hp⟩]
    have := sub_mid h
    rw [show A.length + [c, 61].length = A.length + 2 from rfl] at this
    rw [this]; rfl
/-- tokens with gaps behind them -/
def rend : List (Tk × List UInt8) → List UInt8
  | [] => []
  | (x, g) :: r => rawT x ++ (g ++ rend r)
/-- they can be told apart -/
def Apart : List (Tk × List UInt8) → Prop
  | [] => True
  | (x, g) :: r => WfT x ∧ (∀ c ∈ g, clsB c = 1) ∧ TermT x (g ++ rend r).head? ∧ Apart r
theorem raw_head {x : Tk} (h : WfT x) : ∃ c B, rawT x = c :: B ∧ clsB c ≠ 1 ∧ clsB c ≠ 2 := by
  cases h with
  | name a s hn =>
    obtain ⟨h1, _, _, h4⟩ := nm_facts hn
    cases s with
    | nil => simp at h4
    | cons c s =>
      have h3 : clsB c = 3 := by unfold atP at h1; simpa using h1
      exact ⟨c, s, rfl, by rw [h3]; decide, by rw [h3]; decide⟩
  | num a s h0 hd hl =>
    cases s with
    | nil => exact absurd rfl h0
    | cons c s =>
      have h3 := hd c (List.mem_cons_self ..)
      exact ⟨c, s, rfl, by rw [h3]; decide, by rw [h3]; decide⟩
  | str a s hs hl => exact ⟨34, s ++ [34], rfl, by decide, by decide⟩
  | sym1 a c hc => exact ⟨c, [], rfl, by rcases hc with h | h <;> rw [h] <;> decide, by rcases hc with h | h <;> rw [h] <;> decide⟩
  | sym2 a c hc => exact ⟨c, [61], rfl, by rcases hc with h | h <;> rw [h] <;> decide, by rcases hc with h | h <;> rw [h] <;> decide⟩
theorem gapS_blank : ∀ (g m : List UInt8), (∀ c ∈ g, clsB c = 1) → gapS false m = 0 → gapS false (g ++ m) = g.length
  | [], m, _, h => h
  | c :: g, m, hg, h => by
    rw [List.cons_append, gapS, if_pos (hg c (List.mem_cons_self ..)), gapS_blank g m (fun d hd => hg d (List.mem_cons_of_mem _ hd)) h]; rfl
theorem gapS_rend {l : List (Tk × List UInt8)} (h : Apart l) : gapS false (rend l) = 0 := by
  cases l with
  | nil => rfl
  | cons p r =>
    obtain ⟨x, g⟩ := p
    obtain ⟨c, B, e, h1, h2⟩ := raw_head h.1
    rw [rend, e, List.cons_append, gapS, if_neg h1, if_neg h2]
/-- the tokens with the places that they have in the text -/
def placed : Nat → List (Tk × List UInt8) → List Tk
  | _, [] => []
  | i, (x, g) :: r => ⟨x.k, i, x.n, x.s⟩ :: placed (i + (rawT x).length + g.length) r
theorem lexA_rend : ∀ (l : List (Tk × List UInt8)) (f : Nat) (t A : List UInt8) (acc : List Tk), Apart l → t = A ++ rend l → l.length < f → acc.length + l.length ≤ 5000 → lexA f t A.length acc = (acc ++ placed A.length l, 0, 0)
  | [], f, t, A, acc, _, h, hf, _ => by
    cases f with
    | zero => omega
    | succ f => rw [lexA, if_neg (by rw [h]; simp [rend])]; simp [placed]
  | (x, g) :: r, f, t, A, acc, ha, h, hf, hl => by
    cases f with
    | zero => omega
    | succ f =>
      obtain ⟨hw, hg, ht, hr⟩ := ha
      obtain ⟨c, B, e, _⟩ := raw_head hw
      rw [List.length_cons] at hf hl
      have hn := next_at hw h ht
      have hgap : gapP t (A.length + (rawT x).length) = A.length + (rawT x).length + g.length := by
        unfold gapP
        have : t = (A ++ rawT x) ++ (g ++ rend r) := by rw [h, rend]; simp
        have := drop_mid this
        rw [List.length_append] at this
        rw [this, gapS_blank g _ hg (gapS_rend hr)]
      have hlt : A.length < t.length := by rw [h, rend, e]; simp
      rw [lexA, if_pos hlt, hn]
      simp only []
      rw [if_neg (by omega), if_neg (by simp), hgap]
      have hrec := lexA_rend r f t (A ++ rawT x ++ g) (acc ++ [⟨x.k, A.length, x.n, x.s⟩]) hr (by rw [h, rend]; simp) (by omega) (by simp; omega)
      rw [show (A ++ rawT x ++ g).length = A.length + (rawT x).length + g.length by simp; omega] at hrec
      rw [hrec]
      simp [placed]
/-- Lex of tokens that are written out -/
theorem lex_rend {l : List (Tk × List UInt8)} (h : Apart l) (hn : (rend l).length ≤ 20000) (hl : l.length ≤ 5000) (hf : l.length ≤ (rend l).length) : lexP (rend l) = (placed 0 l, 0, 0) := by
  have hg : gapP (rend l) 0 = 0 := by unfold gapP; rw [List.drop_zero, gapS_rend h]
  unfold lexP
  rw [if_neg (by omega), hg]
  have := lexA_rend l ((rend l).length + 1) (rend l) [] [] h rfl (by omega) (by simpa using hl)
  simpa using this
end Go.Proofs.YtdcafoekbnacnaaGreatDoor

/- Plain laws of schemes: their texts, and the parser. No program in sight. -/
set_option linter.unusedVariables false
set_option linter.unusedSimpArgs false
namespace Go.Proofs.YtdcafoekbnacnaaGreatDoor
open Go.RowKit

/-! validity, as it is computed -/
def toldB (after : List UInt8) (l : List Prt) : Bool :=
  (List.range l.length).all fun k => match l[k]? with
    | none => true
    | some p => !(after.isEmpty && p.b.isEmpty) && (List.range l.length).all fun j => match l[j]? with
      | none => true
      | some q => decide (j = k) || !p.b.isPrefixOf q.b
theorem toldB_iff (after : List UInt8) (r : List Prt) : toldB after (nxtL r) = true ↔ Told after r := by
  unfold toldB
  rw [List.all_eq_true]
  constructor
  · intro h
    have h1 : ∀ (k : Nat) (p : Prt), (nxtL r)[k]? = some p → ¬ (after = [] ∧ p.b = []) ∧ ∀ (j : Nat) (q : Prt), (nxtL r)[j]? = some q → j ≠ k → ¬ p.b <+: q.b := fun k p hp => by
      have hk := (List.getElem?_eq_some_iff.1 hp).1
      have := h k (List.mem_range.2 hk)
      simp only [hp, Bool.and_eq_true, List.all_eq_true] at this
      refine ⟨fun e => ?_, fun j q hq hjk => ?_⟩
      · have h2 := this.1
        rw [e.1, e.2] at h2; simp at h2
      · have hj := (List.getElem?_eq_some_iff.1 hq).1
        have h2 := this.2 j (List.mem_range.2 hj)
        simp only [hq, decide_eq_false hjk, Bool.false_or, Bool.not_eq_true'] at h2
        intro hpre
        rw [List.isPrefixOf_iff_prefix.2 hpre] at h2; cases h2
    refine ⟨fun p hp => ?_, ?_⟩
    · obtain ⟨k, hk, rfl⟩ := List.getElem_of_mem hp
      exact (h1 k _ (List.getElem?_eq_getElem hk)).1
    · rw [List.pairwise_iff_getElem]
      intro i j hi hj hij
      exact ⟨(h1 i _ (List.getElem?_eq_getElem hi)).2 j _ (List.getElem?_eq_getElem hj) (by omega), (h1 j _ (List.getElem?_eq_getElem hj)).2 i _ (List.getElem?_eq_getElem hi) (by omega)⟩
  · intro h k hk
    have hk := List.mem_range.1 hk
    rw [List.getElem?_eq_getElem hk]
    simp only [Bool.and_eq_true, List.all_eq_true]
    refine ⟨?_, fun j hj => ?_⟩
    · have := h.ne _ (List.getElem_mem hk)
      cases ha : after with
      | cons c l => rfl
      | nil =>
        cases hb : ((nxtL r)[k]).b with
        | cons c l => rfl
        | nil => exact absurd ⟨ha, hb⟩ this
    · have hj := List.mem_range.1 hj
      rw [List.getElem?_eq_getElem hj]
      simp only []
      by_cases hjk : j = k
      · rw [decide_eq_true hjk]; rfl
      · rw [decide_eq_false hjk, Bool.false_or, Bool.not_eq_true']
        have hpw := List.pairwise_iff_getElem.1 h.pw
        cases hp : ((nxtL r)[k]).b.isPrefixOf ((nxtL r)[j]).b with
        | false => rfl
        | true =>
          have hpre := List.isPrefixOf_iff_prefix.1 hp
          rcases Nat.lt_or_ge k j with h1 | h1
          · exact absurd hpre (hpw k j hk hj h1).1
          · exact absurd hpre (hpw j k hj hk (by omega)).2
def partsB : List Int → List Prt → Bool
  | _, [] => true
  | seen, p :: r => decide (1 ≤ p.k) && (decide (p.k ≤ 8) && (!seen.contains p.k && (smallB p.b && (smallB p.a && partsB (p.k :: seen) r))))
theorem partsB_iff : ∀ (r : List Prt) (seen : List Int), partsB seen r = true ↔ (∀ p ∈ r, (1 ≤ p.k ∧ p.k ≤ 8) ∧ smallB p.b = true ∧ smallB p.a = true) ∧ r.Pairwise (fun x y => x.k ≠ y.k) ∧ ∀ p ∈ r, p.k ∉ seen
  | [], seen => by simp [partsB]
  | p :: r, seen => by
    rw [partsB]
    simp only [Bool.and_eq_true, decide_eq_true_eq, Bool.not_eq_true', partsB_iff r, List.pairwise_cons, List.mem_cons, forall_eq_or_imp]
    constructor
    · rintro ⟨h1, h2, h3, h4, h5, h6, h7, h8⟩
      refine ⟨⟨⟨⟨h1, h2⟩, h4, h5⟩, h6⟩, ⟨fun q hq e => (h8 q hq) (.inl e.symm), h7⟩, ?_, fun q hq hs => h8 q hq (.inr hs)⟩
      intro hs
      rw [List.contains_eq_mem, decide_eq_false_iff_not] at h3
      exact h3 hs
    · rintro ⟨⟨⟨⟨h1, h2⟩, h4, h5⟩, h6⟩, ⟨h9, h7⟩, h3, h8⟩
      refine ⟨h1, h2, ?_, h4, h5, h6, h7, fun q hq hs => ?_⟩
      · rw [List.contains_eq_mem, decide_eq_false_iff_not]; exact h3
      · rcases hs with e | hs
        · exact h9 q hq e.symm
        · exact h8 q hq hs
def validB (nm : List UInt8 → Bool) (s : Sch) : Bool := partsB [] s.ps && (nm s.c && (decide (1 ≤ s.ps.length) && (decide (s.ps.length ≤ 8) && (List.range (s.ps.length + 1)).all fun i => toldB (afterAt s.ps i) (nxtL (s.ps.drop i)))))
theorem validB_iff (nm : List UInt8 → Bool) (s : Sch) : validB nm s = true ↔ Valid nm s := by
  unfold validB
  simp only [Bool.and_eq_true, decide_eq_true_eq, List.all_eq_true, List.mem_range, partsB_iff]
  constructor
  · rintro ⟨⟨h1, h2, _⟩, h3, h4, h5, h6⟩
    exact ⟨h3, h4, h5, h1, h2, fun i hi => (toldB_iff _ _).1 (h6 i (by omega))⟩
  · intro h
    exact ⟨⟨h.part, h.nodup, fun p _ => by simp⟩, h.nm, h.n1, h.n8, fun i hi => (toldB_iff _ _).2 (h.told i (by omega))⟩
/-! words -/
def wScheme : List UInt8 := [115, 99, 104, 101, 109, 101]
def wNeed : List UInt8 := [110, 101, 101, 100]
def wBefore : List UInt8 := [98, 101, 102, 111, 114, 101]
def wAfter : List UInt8 := [97, 102, 116, 101, 114]
def wordsL : List (List UInt8) := [[], [117, 110, 105, 116], [102, 108, 111, 111, 114], [110, 117, 109, 98, 101, 114], [115, 116, 114, 101, 101, 116], [98, 108, 111, 99, 107], [100, 105, 115, 116, 114, 105, 99, 116], [99, 105, 116, 121], [99, 111, 100, 101]]
def wordK (k : Int) : List UInt8 := wordsL.getD k.toNat []
def kindW (s : List UInt8) : Int := match wordsL.findIdx? (· == s) with | some k => k | none => -1
theorem word_facts : ∀ k : Nat, 1 ≤ k → k ≤ 8 → isNm (wordsL.getD k []) = true ∧ kindW (wordsL.getD k []) = k ∧ wordsL.getD k [] ≠ wNeed := by
  intro k h1 h2
  have : k = 1 ∨ k = 2 ∨ k = 3 ∨ k = 4 ∨ k = 5 ∨ k = 6 ∨ k = 7 ∨ k = 8 := by omega
  rcases this with rfl | rfl | rfl | rfl | rfl | rfl | rfl | rfl <;> decide +kernel
theorem word_k {k : Int} (h : 1 ≤ k ∧ k ≤ 8) : isNm (wordK k) = true ∧ kindW (wordK k) = k ∧ wordK k ≠ wNeed := by
  have := word_facts k.toNat (by omega) (by omega)
  unfold wordK
  rw [show ((k.toNat : Nat) : Int) = k by omega] at this
  exact this
/-! texts -/
def betwT (w s : List UInt8) : List UInt8 := if s = [] then [] else 32 :: (w ++ (32 :: 34 :: (s ++ [34])))
def partT (p : Prt) : List UInt8 := (if p.need then wNeed ++ [32] else []) ++ wordK p.k ++ betwT wBefore p.b ++ betwT wAfter p.a ++ [59, 10]
def textS (s : Sch) : List UInt8 := wScheme ++ [32] ++ s.c ++ [32, 123, 10] ++ s.ps.flatMap partT ++ [125, 10]
def tkN (s : List UInt8) : Tk := ⟨1, 0, 0, s⟩
def tkS (s : List UInt8) : Tk := ⟨3, 0, 0, s⟩
def tkY (c : UInt8) : Tk := ⟨4, 0, 0, [c]⟩
def betwK (w s g : List UInt8) : List (Tk × List UInt8) := if s = [] then [] else [(tkN w, [32]), (tkS s, g)]
def gapOf (s : List UInt8) : List UInt8 := if s = [] then [] else [32]
def partK (p : Prt) : List (Tk × List UInt8) := (if p.need then [(tkN wNeed, [32])] else []) ++ (tkN (wordK p.k), gapOf (p.b ++ p.a)) :: (betwK wBefore p.b (gapOf p.a) ++ (betwK wAfter p.a [] ++ [(tkY 59, [10])]))
def schK (s : Sch) : List (Tk × List UInt8) := (tkN wScheme, [32]) :: (tkN s.c, [32]) :: (tkY 123, [10]) :: (s.ps.flatMap partK ++ [(tkY 125, [10])])
theorem rend_app : ∀ (l m : List (Tk × List UInt8)), rend (l ++ m) = rend l ++ rend m
  | [], m => rfl
  | (x, g) :: l, m => by rw [List.cons_append, rend, rend, rend_app l m]; simp
theorem rend_part (p : Prt) : rend (partK p) = partT p := by
  unfold partK partT betwK betwT gapOf
  cases p.need <;> by_cases hb : p.b = [] <;> by_cases ha : p.a = [] <;> simp [hb, ha, rend, rawT, tkN, tkS, tkY]
theorem rend_flat {α : Type} (f : α → List (Tk × List UInt8)) (g : α → List UInt8) (h : ∀ x, rend (f x) = g x) : ∀ l : List α, rend (l.flatMap f) = l.flatMap g
  | [] => rfl
  | x :: l => by rw [List.flatMap_cons, List.flatMap_cons, rend_app, h, rend_flat f g h l]
theorem rend_sch (s : Sch) : rend (schK s) = textS s := by
  unfold schK textS
  rw [rend, rend, rend, rend_app, rend_flat partK partT rend_part]
  simp [rend, rawT, tkN, tkY]
end Go.Proofs.YtdcafoekbnacnaaGreatDoor

/- Plain laws of schemes: the parser, and that it gives back a scheme for its text. No program in sight. -/
set_option linter.unusedVariables false
set_option linter.unusedSimpArgs false
namespace Go.Proofs.YtdcafoekbnacnaaGreatDoor
open Go.RowKit

inductive PR (α : Type) where
  | ok (x : α) (r : List Tk)
  | err (e : Int) (a : Int)
def takeP (en k : Int) (s : List UInt8) : List Tk → PR Tk
  | [] => .err 6 en
  | t :: r => if t.k ≠ k ∨ (s ≠ [] ∧ t.s ≠ s) then .err 5 t.a else .ok t r
def seesP (k : Int) (s : List UInt8) : List Tk → Bool
  | [] => false
  | t :: _ => decide (t.k = k) && decide (t.s = s)
def betwP (en : Int) (w : List UInt8) (l : List Tk) : PR (List UInt8) :=
  if seesP 1 w l then
    match takeP en 3 [] l.tail with
    | .err e a => .err e a
    | .ok t r => if t.s = [] ∨ smallB t.s = false then .err 1 t.a else .ok t.s r
  else .ok [] l
def partR (en : Int) (others : List Prt) (n : Bool) (l : List Tk) : PR Prt :=
  match takeP en 1 [] l with
  | .err e a => .err e a
  | .ok t r =>
    if kindW t.s < 1 then .err 7 t.a
    else if others.any (fun y => decide (y.k = kindW t.s)) then .err 8 t.a
    else match betwP en wBefore r with
      | .err e a => .err e a
      | .ok b r2 => match betwP en wAfter r2 with
        | .err e a => .err e a
        | .ok a r3 => match takeP en 4 [59] r3 with
          | .err e a => .err e a
          | .ok _ r4 => .ok ⟨kindW t.s, b, a, n⟩ r4
def partP (en : Int) (others : List Prt) (l : List Tk) : PR Prt := partR en others (seesP 1 wNeed l) (if seesP 1 wNeed l then l.tail else l)
def partsP (en : Int) : Nat → List Prt → List Tk → PR (List Prt)
  | 0, acc, l => .ok acc l
  | f + 1, acc, l => if acc ≠ [] ∧ seesP 4 [125] l = true then .ok acc l else match partP en acc l with
    | .err e a => .err e a
    | .ok p r => partsP en f (acc ++ [p]) r
def schR (nm : List UInt8 → Bool) (en : Int) (c : List UInt8) (l3 : List Tk) : PR Sch :=
  match partsP en (l3.length + 1) [] l3 with
  | .err e a => .err e a
  | .ok ps l4 => match takeP en 4 [125] l4 with
    | .err e a => .err e a
    | .ok stop l5 => if validB nm ⟨c, ps⟩ = false then .err 1 stop.a else match l5 with
      | [] => .ok ⟨c, ps⟩ []
      | t :: _ => .err 5 t.a
def schemeP (nm : List UInt8 → Bool) (en : Int) (l : List Tk) : PR Sch :=
  match takeP en 1 wScheme l with
  | .err e a => .err e a
  | .ok _ l1 => match takeP en 1 [] l1 with
    | .err e a => .err e a
    | .ok c l2 => match takeP en 4 [123] l2 with
      | .err e a => .err e a
      | .ok _ l3 => schR nm en c.s l3
def zSch : Sch := ⟨[], []⟩
/-- the scheme of a text, an error, its place -/
def parseS (nm : List UInt8 → Bool) (t : List UInt8) : Sch × Int × Int :=
  if (lexP t).2.1 ≠ 0 then (zSch, (lexP t).2.1, (lexP t).2.2) else match schemeP nm t.length (lexP t).1 with
    | .ok s _ => (s, 0, 0)
    | .err e a => (zSch, e, a)
/-! success -/
theorem placed_app : ∀ (l m : List (Tk × List UInt8)) (i : Nat), placed i (l ++ m) = placed i l ++ placed (i + (rend l).length) m
  | [], m, i => by simp [placed, rend]
  | (x, g) :: l, m, i => by
    rw [List.cons_append, placed, placed, placed_app l m, rend]
    simp [Nat.add_assoc]
theorem take_name (en : Int) (i : Nat) (s : List UInt8) (g : List UInt8) (l : List (Tk × List UInt8)) (w : List UInt8) (hw : w = [] ∨ w = s) : takeP en 1 w (placed i ((tkN s, g) :: l)) = .ok ⟨1, i, 0, s⟩ (placed (i + s.length + g.length) l) := by
  rw [placed, takeP, if_neg]
  · rfl
  · rintro (h | ⟨h1, h2⟩)
    · exact h rfl
    · rcases hw with rfl | rfl
      · exact h1 rfl
      · exact h2 rfl
theorem take_sym (en : Int) (i : Nat) (c : UInt8) (g : List UInt8) (l : List (Tk × List UInt8)) : takeP en 4 [c] (placed i ((tkY c, g) :: l)) = .ok ⟨4, i, 0, [c]⟩ (placed (i + 1 + g.length) l) := by
  rw [placed, takeP, if_neg]
  · rfl
  · rintro (h | ⟨_, h2⟩)
    · exact h rfl
    · exact h2 rfl
theorem sees_name (k : Int) (w : List UInt8) (i : Nat) (s : List UInt8) (g : List UInt8) (l : List (Tk × List UInt8)) : seesP k w (placed i ((tkN s, g) :: l)) = (decide (1 = k) && decide (s = w)) := by rw [placed, seesP]; rfl
theorem sees_sym (k : Int) (w : List UInt8) (i : Nat) (c : UInt8) (g : List UInt8) (l : List (Tk × List UInt8)) : seesP k w (placed i ((tkY c, g) :: l)) = (decide (4 = k) && decide ([c] = w)) := by rw [placed, seesP]; rfl
/-- what stands before or after a value, as it was written -/
theorem betw_ok (en : Int) (w s g : List UInt8) (hs : smallB s = true) (l : List (Tk × List UInt8)) (i : Nat) (hl : s = [] → ∀ i, seesP 1 w (placed i l) = false) : ∃ j, betwP en w (placed i (betwK w s g ++ l)) = .ok s (placed j l) := by
  unfold betwK
  by_cases h0 : s = []
  · rw [if_pos h0, List.nil_append]
    refine ⟨i, ?_⟩
    unfold betwP
    rw [hl h0 i, if_neg (by simp), h0]
  · rw [if_neg h0]
    show ∃ j, betwP en w (placed i ((tkN w, [32]) :: (tkS s, g) :: l)) = _
    have h1 : seesP 1 w (placed i ((tkN w, [32]) :: (tkS s, g) :: l)) = true := by rw [sees_name]; simp
    unfold betwP
    rw [h1, if_pos rfl, placed, List.tail_cons, placed, takeP, if_neg (by rintro (h | h); exact h rfl; exact h.1 rfl)]
    refine ⟨i + (rawT (tkN w)).length + ([32] : List UInt8).length + (rawT (tkS s)).length + g.length, ?_⟩
    show (if s = [] ∨ smallB s = false then _ else _) = _
    rw [if_neg (by rintro (h | h); exact h0 h; rw [hs] at h; cases h)]
    rfl
/-- a part, as it was written -/
theorem part_ok (en : Int) (others : List Prt) (p : Prt) (hk : 1 ≤ p.k ∧ p.k ≤ 8) (hb : smallB p.b = true) (ha : smallB p.a = true) (ho : ∀ q ∈ others, q.k ≠ p.k) (l : List (Tk × List UInt8)) (i : Nat) : ∃ j, partP en others (placed i (partK p ++ l)) = .ok p (placed j l) := by
  obtain ⟨_, w2, w3⟩ := word_k hk
  have hany : others.any (fun y => decide (y.k = p.k)) = false := by
    cases h : others.any (fun y => decide (y.k = p.k)) with
    | false => rfl
    | true =>
      obtain ⟨q, hq, e⟩ := List.any_eq_true.1 h
      exact absurd (of_decide_eq_true e) (ho q hq)
  have rest : ∀ (i : Nat) (n : Bool), ∃ j, partR en others n (placed i ((tkN (wordK p.k), gapOf (p.b ++ p.a)) :: (betwK wBefore p.b (gapOf p.a) ++ (betwK wAfter p.a [] ++ ((tkY 59, [10]) :: l))))) = .ok ⟨p.k, p.b, p.a, n⟩ (placed j l) := by
    intro i n
    unfold partR
    rw [take_name en i (wordK p.k) _ _ [] (.inl rfl)]
    simp only []
    rw [w2, if_neg (by omega), hany, if_neg (by simp)]
    obtain ⟨j1, h1⟩ := betw_ok en wBefore p.b (gapOf p.a) hb (betwK wAfter p.a [] ++ ((tkY 59, [10]) :: l)) (i + (wordK p.k).length + (gapOf (p.b ++ p.a)).length) (fun _ i => by
      unfold betwK
      split
      · rw [List.nil_append, sees_sym]; decide
      · show seesP 1 wBefore (placed i ((tkN wAfter, [32]) :: _)) = false
        rw [sees_name]; decide)
    rw [h1]
    simp only []
    obtain ⟨j2, h2⟩ := betw_ok en wAfter p.a [] ha ((tkY 59, [10]) :: l) j1 (fun _ i => by rw [sees_sym]; decide)
    rw [h2]
    simp only []
    rw [take_sym]
    exact ⟨_, rfl⟩
  unfold partK
  cases hn : p.need with
  | true =>
    rw [if_pos rfl]
    simp only [List.cons_append, List.nil_append, List.append_assoc]
    have hs : seesP 1 wNeed (placed i ((tkN wNeed, [32]) :: (tkN (wordK p.k), gapOf (p.b ++ p.a)) :: (betwK wBefore p.b (gapOf p.a) ++ (betwK wAfter p.a [] ++ ((tkY 59, [10]) :: l))))) = true := by rw [sees_name]; simp
    unfold partP
    rw [hs, if_pos rfl]
    rw [placed, List.tail_cons]
    obtain ⟨j, hj⟩ := rest (i + (rawT (tkN wNeed)).length + ([32] : List UInt8).length) true
    refine ⟨j, ?_⟩
    rw [← hn] at hj ⊢
    exact hj
  | false =>
    rw [if_neg (by simp)]
    simp only [List.cons_append, List.nil_append, List.append_assoc]
    have hs := sees_name 1 wNeed i (wordK p.k) (gapOf (p.b ++ p.a)) (betwK wBefore p.b (gapOf p.a) ++ (betwK wAfter p.a [] ++ ((tkY 59, [10]) :: l)))
    rw [decide_eq_false w3, Bool.and_false] at hs
    unfold partP
    rw [hs, if_neg (by simp)]
    obtain ⟨j, hj⟩ := rest i false
    refine ⟨j, ?_⟩
    rw [← hn] at hj ⊢
    exact hj
theorem sees_part (p : Prt) (l : List (Tk × List UInt8)) (i : Nat) : seesP 4 [125] (placed i (partK p ++ l)) = false := by
  unfold partK
  split
  · show seesP 4 [125] (placed i ((tkN wNeed, [32]) :: _)) = false
    rw [sees_name]; decide
  · show seesP 4 [125] (placed i ((tkN (wordK p.k), _) :: _)) = false
    rw [sees_name]; rfl
theorem parts_ok (en : Int) : ∀ (ps acc : List Prt) (f : Nat) (i : Nat), (∀ p ∈ ps, (1 ≤ p.k ∧ p.k ≤ 8) ∧ smallB p.b = true ∧ smallB p.a = true) → (acc ++ ps).Pairwise (fun x y => x.k ≠ y.k) → acc ++ ps ≠ [] → ps.length < f → ∃ j, partsP en f acc (placed i (ps.flatMap partK ++ [(tkY 125, [10])])) = .ok (acc ++ ps) (placed j [(tkY 125, [10])])
  | [], acc, f, i, _, _, hne, hf => by
    cases f with
    | zero => simp at hf
    | succ f =>
      rw [List.append_nil] at hne
      rw [List.flatMap_nil, List.nil_append, partsP, if_pos ⟨hne, by rw [sees_sym]; decide⟩, List.append_nil]
      exact ⟨i, rfl⟩
  | p :: ps, acc, f, i, hp, hnd, hne, hf => by
    cases f with
    | zero => simp at hf
    | succ f =>
      have hp0 := hp p (List.mem_cons_self ..)
      rw [List.flatMap_cons, List.append_assoc]
      obtain ⟨j, hj⟩ := part_ok en acc p hp0.1 hp0.2.1 hp0.2.2 (fun q hq => by
        have := (List.pairwise_append.1 hnd).2.2 q hq p (List.mem_cons_self ..)
        exact this) (ps.flatMap partK ++ [(tkY 125, [10])]) i
      rw [partsP, if_neg (by intro h; rw [sees_part] at h; exact absurd h.2 (by simp)), hj]
      simp only []
      have := parts_ok en ps (acc ++ [p]) f j (fun q hq => hp q (List.mem_cons_of_mem _ hq)) (by simpa using hnd) (by simp) (by simp at hf; omega)
      obtain ⟨j2, h2⟩ := this
      exact ⟨j2, by rw [h2]; simp⟩
theorem partK_pos (p : Prt) : 1 ≤ (partK p).length := by unfold partK; simp; omega
theorem flat_pos : ∀ ps : List Prt, ps.length ≤ (ps.flatMap partK).length
  | [] => Nat.zero_le _
  | p :: ps => by rw [List.flatMap_cons, List.length_append, List.length_cons]; have := partK_pos p; have := flat_pos ps; omega
theorem placed_len : ∀ (l : List (Tk × List UInt8)) (i : Nat), (placed i l).length = l.length
  | [], _ => rfl
  | (x, g) :: l, i => by rw [placed, List.length_cons, List.length_cons, placed_len l]
theorem schR_ok {nm : List UInt8 → Bool} {s : Sch} (h : Valid nm s) (en : Int) (i : Nat) : schR nm en s.c (placed i (s.ps.flatMap partK ++ [(tkY 125, [10])])) = .ok s [] := by
  obtain ⟨j, hj⟩ := parts_ok en s.ps [] ((placed i (s.ps.flatMap partK ++ [(tkY 125, [10])])).length + 1) i h.part (by simpa using h.nodup) (by intro e; have := h.n1; rw [List.nil_append] at e; rw [e] at this; simp at this) (by rw [placed_len, List.length_append]; have := flat_pos s.ps; omega)
  unfold schR
  rw [hj]
  simp only [List.nil_append]
  rw [take_sym]
  simp only []
  rw [(validB_iff nm s).2 h, if_neg (by simp)]
  rfl
theorem scheme_ok {nm : List UInt8 → Bool} {s : Sch} (h : Valid nm s) (en : Int) : schemeP nm en (placed 0 (schK s)) = .ok s [] := by
  unfold schK schemeP
  rw [take_name en 0 wScheme _ _ wScheme (.inr rfl)]
  simp only []
  rw [take_name en _ s.c _ _ [] (.inl rfl)]
  simp only []
  rw [take_sym]
  exact schR_ok h en _
end Go.Proofs.YtdcafoekbnacnaaGreatDoor

/- Plain laws of schemes: a text's tokens, and what the parser gives for texts. No program in sight. -/
set_option linter.unusedVariables false
set_option linter.unusedSimpArgs false
namespace Go.Proofs.YtdcafoekbnacnaaGreatDoor
open Go.RowKit

/-! tokens that are written out can be told apart -/
theorem term_blank {x : Tk} {g m : List UInt8} (h0 : g ≠ []) (h : ∀ c ∈ g, clsB c = 1) : TermT x (g ++ m).head? := by
  cases g with
  | nil => exact absurd rfl h0
  | cons c g =>
    intro d hd
    obtain rfl : c = d := by simpa using hd
    have h1 := h c (List.mem_cons_self ..)
    refine ⟨fun _ => ?_, fun _ => ?_, fun _ e => ?_⟩
    · rw [h1]; decide
    · rw [h1]; decide
    · rw [e] at h1; revert h1; decide
theorem blank32 : ∀ c ∈ ([32] : List UInt8), clsB c = 1 := by intro c hc; obtain rfl := List.mem_singleton.1 hc; decide
theorem blank10 : ∀ c ∈ ([10] : List UInt8), clsB c = 1 := by intro c hc; obtain rfl := List.mem_singleton.1 hc; decide
theorem blank_gapOf (s : List UInt8) : ∀ c ∈ gapOf s, clsB c = 1 := by
  unfold gapOf
  split
  · intro c hc; cases hc
  · exact blank32
theorem small_facts {s : List UInt8} (h : smallB s = true) : s.length ≤ 4 ∧ ∀ c ∈ s, c ≠ 34 ∧ c ≠ 10 := by
  unfold smallB at h
  simp only [Bool.and_eq_true, decide_eq_true_eq, Bool.not_eq_true'] at h
  refine ⟨h.1, fun c hc => ⟨fun e => ?_, fun e => ?_⟩⟩
  · have := h.2.2
    rw [e] at hc
    rw [List.contains_iff_mem.2 hc] at this
    cases this
  · have := h.2.1
    unfold prn at this
    have := List.all_eq_true.1 this c hc
    rw [e] at this
    revert this; decide
theorem term_str {s : List UInt8} {c : Option UInt8} : TermT (tkS s) c := fun d _ => ⟨fun h => absurd (show (3 : Int) = 1 from h) (by decide), fun h => absurd (show (3 : Int) = 2 from h) (by decide), fun h => absurd (show (3 : Int) = 4 from h) (by decide)⟩
theorem apart_betw {w s g : List UInt8} {l : List (Tk × List UInt8)} (hw : isNm w = true) (hs : smallB s = true) (hg : ∀ c ∈ g, clsB c = 1) (h : Apart l) : Apart (betwK w s g ++ l) := by
  unfold betwK
  split
  · exact h
  · have hf := small_facts hs
    exact ⟨.name 0 w hw, blank32, term_blank (by simp) blank32, .str 0 s hf.2 (by omega), hg, term_str, h⟩
theorem isNm_before : isNm wBefore = true := by decide +kernel
theorem isNm_after : isNm wAfter = true := by decide +kernel
theorem isNm_need : isNm wNeed = true := by decide +kernel
theorem isNm_scheme : isNm wScheme = true := by decide +kernel
theorem wf_semi : WfT (tkY 59) := .sym1 0 59 (by decide +kernel)
theorem wf_open : WfT (tkY 123) := .sym1 0 123 (by decide +kernel)
theorem wf_close : WfT (tkY 125) := .sym1 0 125 (by decide +kernel)
theorem apart_part {p : Prt} {l : List (Tk × List UInt8)} (hk : 1 ≤ p.k ∧ p.k ≤ 8) (hb : smallB p.b = true) (ha : smallB p.a = true) (h : Apart l) : Apart (partK p ++ l) := by
  have h1 : Apart ((tkY 59, [10]) :: l) := ⟨wf_semi, blank10, term_blank (by simp) blank10, h⟩
  have h2 : Apart (betwK wAfter p.a [] ++ ((tkY 59, [10]) :: l)) := apart_betw isNm_after ha (fun c hc => by cases hc) h1
  have h3 : Apart (betwK wBefore p.b (gapOf p.a) ++ (betwK wAfter p.a [] ++ ((tkY 59, [10]) :: l))) := apart_betw isNm_before hb (blank_gapOf _) h2
  have h4 : Apart ((tkN (wordK p.k), gapOf (p.b ++ p.a)) :: (betwK wBefore p.b (gapOf p.a) ++ (betwK wAfter p.a [] ++ ((tkY 59, [10]) :: l)))) := by
    refine ⟨.name 0 _ (word_k hk).1, blank_gapOf _, ?_, h3⟩
    by_cases he : p.b ++ p.a = []
    · obtain ⟨e1, e2⟩ := List.append_eq_nil_iff.1 he
      rw [e1, e2]
      intro d hd
      obtain rfl : (59 : UInt8) = d := by simpa [betwK, gapOf, rend, rawT, tkY] using hd
      refine ⟨fun _ => ?_, fun h => absurd (show (1 : Int) = 2 from h) (by decide), fun h => absurd (show (1 : Int) = 4 from h) (by decide)⟩
      decide +kernel
    · exact term_blank (by unfold gapOf; rw [if_neg he]; simp) (blank_gapOf _)
  unfold partK
  cases p.need with
  | true =>
    rw [if_pos rfl]
    simp only [List.cons_append, List.nil_append, List.append_assoc]
    exact ⟨.name 0 _ isNm_need, blank32, term_blank (by simp) blank32, h4⟩
  | false =>
    rw [if_neg (by simp)]
    simp only [List.cons_append, List.nil_append, List.append_assoc]
    exact h4
theorem apart_parts : ∀ (ps : List Prt) (l : List (Tk × List UInt8)), (∀ p ∈ ps, (1 ≤ p.k ∧ p.k ≤ 8) ∧ smallB p.b = true ∧ smallB p.a = true) → Apart l → Apart (ps.flatMap partK ++ l)
  | [], l, _, h => h
  | p :: ps, l, hp, h => by
    have h0 := hp p (List.mem_cons_self ..)
    rw [List.flatMap_cons, List.append_assoc]
    exact apart_part h0.1 h0.2.1 h0.2.2 (apart_parts ps l (fun q hq => hp q (List.mem_cons_of_mem _ hq)) h)
theorem apart_sch {s : Sch} (h : Valid isNm s) : Apart (schK s) :=
  ⟨.name 0 _ isNm_scheme, blank32, term_blank (by simp) blank32, .name 0 _ h.nm, blank32, term_blank (by simp) blank32, wf_open, blank10, term_blank (by simp) blank10,
    apart_parts s.ps _ h.part ⟨wf_close, blank10, term_blank (by simp) blank10, trivial⟩⟩
theorem apart_len : ∀ (l : List (Tk × List UInt8)), Apart l → l.length ≤ (rend l).length
  | [], _ => Nat.zero_le _
  | (x, g) :: l, h => by
    obtain ⟨c, B, e, _⟩ := raw_head h.1
    have := apart_len l h.2.2.2
    rw [rend, e]; simp; omega
theorem word_len {k : Int} (h : 1 ≤ k ∧ k ≤ 8) : (wordK k).length ≤ 8 := by
  have : ∀ k : Nat, k ≤ 8 → (wordsL.getD k []).length ≤ 8 := by decide +kernel
  exact this k.toNat (by omega)
theorem part_len {p : Prt} (hk : 1 ≤ p.k ∧ p.k ≤ 8) (hb : smallB p.b = true) (ha : smallB p.a = true) : (partT p).length ≤ 60 := by
  have h1 := word_len hk
  have h2 := (small_facts hb).1
  have h3 := (small_facts ha).1
  have hb' : ∀ w s : List UInt8, w.length ≤ 6 → s.length ≤ 4 → (betwT w s).length ≤ 14 := fun w s hw hs => by
    unfold betwT
    split
    · simp
    · simp; omega
  have h4 := hb' wBefore p.b (by decide) h2
  have h5 := hb' wAfter p.a (by decide) h3
  have h6 : (if p.need then wNeed ++ [32] else []).length ≤ 5 := by split <;> decide
  unfold partT
  simp only [List.length_append]
  have : ([59, 10] : List UInt8).length = 2 := rfl
  omega
theorem parts_len : ∀ ps : List Prt, (∀ p ∈ ps, (1 ≤ p.k ∧ p.k ≤ 8) ∧ smallB p.b = true ∧ smallB p.a = true) → (ps.flatMap partT).length ≤ 60 * ps.length
  | [], _ => Nat.zero_le _
  | p :: ps, hp => by
    have h0 := hp p (List.mem_cons_self ..)
    have := part_len h0.1 h0.2.1 h0.2.2
    have := parts_len ps (fun q hq => hp q (List.mem_cons_of_mem _ hq))
    rw [List.flatMap_cons, List.length_append, List.length_cons]
    omega
theorem text_len {s : Sch} (h : Valid isNm s) : (textS s).length ≤ 600 := by
  have h1 := parts_len s.ps h.part
  have h2 := (nm_facts h.nm).2.2.1
  have h3 := h.n8
  unfold textS
  simp only [List.length_append]
  have e1 : wScheme.length = 6 := rfl
  simp only [List.length_cons, List.length_nil]
  omega
/-- the parser gives back a scheme for its text -/
theorem schParse_text {s : Sch} (h : Valid isNm s) : parseS isNm (textS s) = (s, 0, 0) := by
  have hap := apart_sch h
  have hl := text_len h
  have h2 := apart_len _ hap
  rw [← rend_sch] at hl
  have hlex := lex_rend hap (by omega) (by omega) h2
  rw [rend_sch] at hlex
  unfold parseS
  rw [hlex]
  simp only []
  rw [if_neg (by simp), scheme_ok h]
/-- different schemes have different texts -/
theorem schText_inj {a b : Sch} (ha : Valid isNm a) (hb : Valid isNm b) (h : textS a = textS b) : a = b := by
  have h1 := schParse_text ha
  rw [h, schParse_text hb] at h1
  exact (congrArg Prod.fst h1).symm
end Go.Proofs.YtdcafoekbnacnaaGreatDoor

/- Plain laws of schemes: what Lex makes, places of errors, and texts with other gaps. No program in sight. -/
set_option linter.unusedVariables false
set_option linter.unusedSimpArgs false
namespace Go.Proofs.YtdcafoekbnacnaaGreatDoor
open Go.RowKit

theorem sub_one {t : List UInt8} {i : Nat} {c : UInt8} (h : t[i]? = some c) : sub t i (i + 1) = [c] := by
  unfold sub
  rw [drop_at h, show i + 1 - i = 1 by omega]; rfl
theorem at_some {t : List UInt8} {i : Nat} {k : Int} (h : atP t i = k) (hk : k ≠ 0) : ∃ c, t[i]? = some c ∧ clsB c = k := by
  have hi := atP_lt (t := t) (i := i) (by rw [h]; exact hk)
  refine ⟨t[i], List.getElem?_eq_getElem hi, ?_⟩
  unfold atP at h
  rw [List.getElem?_eq_getElem hi] at h
  exact h
/-- what the lexer takes at a place -/
theorem next_wf {t : List UInt8} {i : Nat} (h : (nextP t i).1 = 0) : WfT (nextP t i).2.1 ∧ (nextP t i).2.1.a = i ∧ i < t.length ∧ i + (rawT (nextP t i).2.1).length = (nextP t i).2.2 := by
  unfold nextP at h ⊢
  by_cases h3 : atP t i = 3
  · rw [if_pos h3] at h ⊢
    obtain ⟨c, hc, hc3⟩ := at_some h3 (by decide)
    have hi := atP_lt (t := t) (i := i) (by rw [h3]; decide)
    split at h
    · simp at h
    · rename_i h24
      rw [if_neg h24]
      have hg := whP_gt (t := t) (i := i) (K := [3, 4, 5]) (by rw [h3]; rfl) hi
      have hle := whP_le (t := t) (i := i) (by omega) [3, 4, 5]
      have hall := wh_all t i [3, 4, 5]
      have hlen := sub_len (t := t) (i := i) hle
      have hs : ∃ l, sub t i (whP t i [3, 4, 5]) = c :: l := by
        obtain ⟨n, hn⟩ : ∃ n, whP t i [3, 4, 5] - i = n + 1 := ⟨whP t i [3, 4, 5] - i - 1, by omega⟩
        unfold sub
        rw [drop_at hc, hn]
        exact ⟨_, rfl⟩
      refine ⟨.name _ _ ?_, rfl, hi, ?_⟩
      · unfold isNm
        simp only [Bool.and_eq_true, decide_eq_true_eq]
        refine ⟨⟨?_, List.all_eq_true.2 fun x hx => hall x hx⟩, by rw [hlen]; omega⟩
        obtain ⟨l, hl⟩ := hs
        rw [hl]
        simp [isLet, hc3]
      · show i + (sub t i (whP t i [3, 4, 5])).length = whP t i [3, 4, 5]
        rw [hlen]; omega
  rw [if_neg h3] at h ⊢
  by_cases h4 : atP t i = 4
  · rw [if_pos h4] at h ⊢
    have hi := atP_lt (t := t) (i := i) (by rw [h4]; decide)
    split at h
    · simp at h
    · rename_i hq
      rw [if_neg hq]
      have hg := whP_gt (t := t) (i := i) (K := [4]) (by rw [h4]; rfl) hi
      have hle := whP_le (t := t) (i := i) (by omega) [4]
      have hall := wh_all t i [4]
      have hlen := sub_len (t := t) (i := i) hle
      refine ⟨.num _ _ (fun e => ?_) (fun c hc => ?_) ?_, rfl, hi, ?_⟩
      · rw [e] at hlen; simp at hlen; omega
      · have := hall c hc
        simpa using this
      · rw [hlen]; omega
      · show i + (sub t i (whP t i [4])).length = whP t i [4]
        rw [hlen]; omega
  rw [if_neg h4] at h ⊢
  by_cases h6 : atP t i = 6
  · rw [if_pos h6] at h ⊢
    have hi := atP_lt (t := t) (i := i) (by rw [h6]; decide)
    split at h
    · simp at h
    · rename_i hq
      rw [if_neg hq]
      split at h
      · simp at h
      · rename_i h400
        rw [if_neg h400]
        obtain ⟨n, hn⟩ : ∃ n : Nat, strN t i = n := ⟨(strN t i).toNat, by omega⟩
        obtain ⟨c, hc, hcc, hno⟩ := indexAny_some hn
        have hlt : n < (t.drop (i + 1)).length := (List.getElem?_eq_some_iff.1 hc).1
        rw [hn, show ((n : Int)).toNat = n by omega]
        have hlen : ((t.drop (i + 1)).take n).length = n := by rw [List.length_take]; omega
        refine ⟨.str _ _ (fun x hx => ?_) (by omega), rfl, hi, ?_⟩
        · obtain ⟨k, hk, rfl⟩ := List.getElem_of_mem hx
          have hk' : k < n := by omega
          have := hno k hk' _ (by rw [← List.getElem?_eq_getElem hk, List.getElem?_take, if_pos hk'])
          simpa using this
        · show i + (34 :: (((t.drop (i + 1)).take n) ++ [34])).length = i + n + 2
          simp only [List.length_cons, List.length_append, hlen, List.length_nil]; omega
  rw [if_neg h6] at h ⊢
  by_cases h7 : (atP t i = 7 ∨ atP t i = 8) ∧ Lib.hasPrefix (t.drop (i + 1)) [61] = true
  · rw [if_pos h7]
    have hi := atP_lt (t := t) (i := i) (by rcases h7.1 with h | h <;> rw [h] <;> decide)
    obtain ⟨c, hc, hcc⟩ : ∃ c, t[i]? = some c ∧ (clsB c = 7 ∨ clsB c = 8) := by
      rcases h7.1 with h | h
      · obtain ⟨c, h1, h2⟩ := at_some h (by decide); exact ⟨c, h1, .inl h2⟩
      · obtain ⟨c, h1, h2⟩ := at_some h (by decide); exact ⟨c, h1, .inr h2⟩
    have h1 := hasPrefix_one.1 h7.2
    rw [List.getElem?_drop] at h1
    have hs : sub t i (i + 2) = [c, 61] := by
      unfold sub
      rw [drop_at hc, drop_at (c := 61) (by simpa using h1), show i + 2 - i = 2 by omega]; rfl
    rw [hs]
    exact ⟨.sym2 _ c hcc, rfl, hi, rfl⟩
  rw [if_neg h7] at h ⊢
  by_cases h8 : atP t i = 8 ∨ atP t i = 9
  · rw [if_pos h8]
    have hi := atP_lt (t := t) (i := i) (by rcases h8 with h | h <;> rw [h] <;> decide)
    obtain ⟨c, hc, hcc⟩ : ∃ c, t[i]? = some c ∧ (clsB c = 8 ∨ clsB c = 9) := by
      rcases h8 with h | h
      · obtain ⟨c, h1, h2⟩ := at_some h (by decide); exact ⟨c, h1, .inl h2⟩
      · obtain ⟨c, h1, h2⟩ := at_some h (by decide); exact ⟨c, h1, .inr h2⟩
    rw [sub_one hc]
    exact ⟨.sym1 _ c hcc, rfl, hi, rfl⟩
  · rw [if_neg h8] at h
    simp at h
def rawSum (l : List Tk) : Nat := (l.map fun x => (rawT x).length).sum
theorem rawSum_snoc (l : List Tk) (x : Tk) : rawSum (l ++ [x]) = rawSum l + (rawT x).length := by unfold rawSum; simp
/-- all tokens are well-formed, and lie in the text -/
theorem lexA_wf : ∀ (f : Nat) (t : List UInt8) (i : Nat) (acc : List Tk), i ≤ t.length → rawSum acc ≤ i → (∀ x ∈ acc, WfT x ∧ 0 ≤ x.a ∧ x.a ≤ t.length) →
    (rawSum (lexA f t i acc).1 ≤ t.length ∧ ∀ x ∈ (lexA f t i acc).1, WfT x ∧ 0 ≤ x.a ∧ x.a ≤ t.length) ∧ (lexA f t i acc).2.2 ≤ t.length
  | 0, t, i, acc, hi, hs, ha => by
    rw [lexA]
    exact ⟨⟨by simp only []; omega, ha⟩, by simp only []; omega⟩
  | f + 1, t, i, acc, hi, hs, ha => by
    rw [lexA]
    split
    · split
      · exact ⟨⟨Nat.zero_le _, fun x hx => by cases hx⟩, by simp only []; omega⟩
      · split
        · exact ⟨⟨Nat.zero_le _, fun x hx => by cases hx⟩, by simp only []; omega⟩
        · rename_i hne
          have h0 : (nextP t i).1 = 0 := by
            rcases Classical.em ((nextP t i).1 = 0) with h | h
            · exact h
            · exact absurd h (by simpa using hne)
          obtain ⟨hw, hpl, hlt, hlen⟩ := next_wf h0
          have hok := next_ok h0
          have hge := gapP_ge t (nextP t i).2.2
          refine lexA_wf f t _ _ (gapP_le hok.2) (by rw [rawSum_snoc]; omega) (fun x hx => ?_)
          rcases List.mem_append.1 hx with hx | hx
          · exact ha x hx
          · rw [List.mem_singleton.1 hx]
            exact ⟨hw, by rw [hpl]; omega, by rw [hpl]; omega⟩
    · exact ⟨⟨by simp only []; omega, ha⟩, by simp only []; omega⟩
theorem lex_wf (t : List UInt8) : (rawSum (lexP t).1 ≤ t.length ∧ ∀ x ∈ (lexP t).1, WfT x ∧ 0 ≤ x.a ∧ x.a ≤ t.length) ∧ (lexP t).2.2 ≤ t.length := by
  unfold lexP
  split
  · exact ⟨⟨Nat.zero_le _, fun x hx => by cases hx⟩, by simp only []; omega⟩
  · exact lexA_wf _ t _ [] (gapP_le (Nat.zero_le _)) (by unfold rawSum; simp) (fun x hx => by cases hx)
/-! the parser looks at kinds and texts alone -/
def strip (l : List Tk) : List (Int × List UInt8) := l.map fun t => (t.k, t.s)
inductive PRs {α : Type} (R : α → α → Prop) : PR α → PR α → Prop
  | ok {x y : α} {r r' : List Tk} (h : R x y) (hs : strip r = strip r') : PRs R (.ok x r) (.ok y r')
  | err {e a a' : Int} : PRs R (.err e a) (.err e a')
theorem take_same {en en' k : Int} {s : List UInt8} : ∀ {l l' : List Tk}, strip l = strip l' → PRs (fun t t' => t.s = t'.s) (takeP en k s l) (takeP en' k s l')
  | [], [], _ => .err
  | [], _ :: _, h => by cases h
  | _ :: _, [], h => by cases h
  | t :: r, t' :: r', h => by
    have h1 : t.k = t'.k ∧ t.s = t'.s ∧ strip r = strip r' := by
      unfold strip at h
      simp only [List.map_cons, List.cons.injEq, Prod.mk.injEq] at h
      exact ⟨h.1.1, h.1.2, h.2⟩
    rw [takeP, takeP, h1.1, h1.2.1]
    split
    · exact .err
    · exact .ok h1.2.1 h1.2.2
theorem sees_same {k : Int} {s : List UInt8} : ∀ {l l' : List Tk}, strip l = strip l' → seesP k s l = seesP k s l'
  | [], [], _ => rfl
  | [], _ :: _, h => by cases h
  | _ :: _, [], h => by cases h
  | t :: r, t' :: r', h => by
    unfold strip at h
    simp only [List.map_cons, List.cons.injEq, Prod.mk.injEq] at h
    rw [seesP, seesP, h.1.1, h.1.2]
theorem tail_same : ∀ {l l' : List Tk}, strip l = strip l' → strip l.tail = strip l'.tail
  | [], [], _ => rfl
  | [], _ :: _, h => by cases h
  | _ :: _, [], h => by cases h
  | t :: r, t' :: r', h => by
    unfold strip at h ⊢
    simp only [List.map_cons, List.cons.injEq] at h
    exact h.2
theorem betw_same {en en' : Int} {w : List UInt8} {l l' : List Tk} (h : strip l = strip l') : PRs (fun x y => x = y) (betwP en w l) (betwP en' w l') := by
  unfold betwP
  rw [← sees_same h]
  split
  · have := take_same (en := en) (en' := en') (k := 3) (s := []) (tail_same h)
    generalize takeP en 3 [] l.tail = A at *
    generalize takeP en' 3 [] l'.tail = A' at *
    cases this with
    | err => exact .err
    | ok hx hs =>
      rename_i x y r r'
      simp only []
      rw [hx]
      split
      · exact .err
      · exact .ok rfl hs
  · exact .ok rfl h
theorem part_same {en en' : Int} {others : List Prt} {l l' : List Tk} (h : strip l = strip l') : PRs (fun x y => x = y) (partP en others l) (partP en' others l') := by
  unfold partP partR
  rw [← sees_same h]
  have hl : strip (if seesP 1 wNeed l = true then l.tail else l) = strip (if seesP 1 wNeed l = true then l'.tail else l') := by
    split
    · exact tail_same h
    · exact h
  have := take_same (en := en) (en' := en') (k := 1) (s := []) hl
  generalize takeP en 1 [] (if seesP 1 wNeed l = true then l.tail else l) = A at *
  generalize takeP en' 1 [] (if seesP 1 wNeed l = true then l'.tail else l') = A' at *
  cases this with
  | err => exact .err
  | ok hx hs =>
    rename_i x y r r'
    simp only []
    rw [hx]
    split
    · exact .err
    · split
      · exact .err
      · have := betw_same (en := en) (en' := en') (w := wBefore) hs
        generalize betwP en wBefore r = B at *
        generalize betwP en' wBefore r' = B' at *
        cases this with
        | err => exact .err
        | ok hx2 hs2 =>
          rename_i x2 y2 r2 r2'
          simp only []
          have := betw_same (en := en) (en' := en') (w := wAfter) hs2
          generalize betwP en wAfter r2 = C at *
          generalize betwP en' wAfter r2' = C' at *
          cases this with
          | err => exact .err
          | ok hx3 hs3 =>
            rename_i x3 y3 r3 r3'
            simp only []
            have := take_same (en := en) (en' := en') (k := 4) (s := [59]) hs3
            generalize takeP en 4 [59] r3 = D at *
            generalize takeP en' 4 [59] r3' = D' at *
            cases this with
            | err => exact .err
            | ok hx4 hs4 =>
              simp only []
              rw [hx2, hx3]
              exact .ok rfl hs4
theorem parts_same {en en' : Int} : ∀ (f : Nat) (acc : List Prt) (l l' : List Tk), strip l = strip l' → PRs (fun x y => x = y) (partsP en f acc l) (partsP en' f acc l')
  | 0, acc, l, l', h => .ok rfl h
  | f + 1, acc, l, l', h => by
    rw [partsP, partsP, ← sees_same h]
    split
    · exact .ok rfl h
    · have := part_same (en := en) (en' := en') (others := acc) h
      generalize partP en acc l = A at *
      generalize partP en' acc l' = A' at *
      cases this with
      | err => exact .err
      | ok hx hs =>
        simp only []
        rw [hx]
        exact parts_same f _ _ _ hs
theorem strip_len {l l' : List Tk} (h : strip l = strip l') : l.length = l'.length := by
  have := congrArg List.length h
  unfold strip at this
  simpa using this
theorem scheme_same {nm : List UInt8 → Bool} {en en' : Int} {l l' : List Tk} (h : strip l = strip l') : PRs (fun x y => x = y) (schemeP nm en l) (schemeP nm en' l') := by
  unfold schemeP schR
  have := take_same (en := en) (en' := en') (k := 1) (s := wScheme) h
  generalize takeP en 1 wScheme l = A at *
  generalize takeP en' 1 wScheme l' = A' at *
  cases this with
  | err => exact .err
  | ok hz1 h1 =>
    rename_i x1 y1 l1 l1'
    simp only []
    have := take_same (en := en) (en' := en') (k := 1) (s := []) h1
    generalize takeP en 1 [] l1 = B at *
    generalize takeP en' 1 [] l1' = B' at *
    cases this with
    | err => exact .err
    | ok hc h2 =>
      rename_i x2 y2 l2 l2'
      simp only []
      have := take_same (en := en) (en' := en') (k := 4) (s := [123]) h2
      generalize takeP en 4 [123] l2 = C at *
      generalize takeP en' 4 [123] l2' = C' at *
      cases this with
      | err => exact .err
      | ok hz3 h3 =>
        rename_i x3 y3 l3 l3'
        simp only []
        rw [← strip_len h3]
        have := parts_same (en := en) (en' := en') (l3.length + 1) [] l3 l3' h3
        generalize partsP en (l3.length + 1) [] l3 = D at *
        generalize partsP en' (l3.length + 1) [] l3' = D' at *
        cases this with
        | err => exact .err
        | ok hp h4 =>
          rename_i x4 y4 l4 l4'
          simp only []
          have := take_same (en := en) (en' := en') (k := 4) (s := [125]) h4
          generalize takeP en 4 [125] l4 = E at *
          generalize takeP en' 4 [125] l4' = E' at *
          cases this with
          | err => exact .err
          | ok hz5 h5 =>
            rename_i x5 y5 l5 l5'
            simp only []
            rw [hc, hp]
            split
            · exact .err
            · cases l5 with
              | nil =>
                cases l5' with
                | nil => exact .ok rfl rfl
                | cons t r => cases h5
              | cons t r =>
                cases l5' with
                | nil => cases h5
                | cons t' r' => exact .err
/-! the tokens of a text with a line feed behind each -/
def gapsT (l : List Tk) : List UInt8 := l.flatMap fun x => rawT x ++ [10]
theorem rend_gaps : ∀ l : List Tk, rend (l.map fun x => (x, [10])) = gapsT l
  | [] => rfl
  | x :: l => by
    rw [List.map_cons, rend, rend_gaps l]
    unfold gapsT
    rw [List.flatMap_cons]; simp
theorem apart_gaps : ∀ l : List Tk, (∀ x ∈ l, WfT x) → Apart (l.map fun x => (x, ([10] : List UInt8)))
  | [], _ => trivial
  | x :: l, h => ⟨h x (List.mem_cons_self ..), blank10, term_blank (by simp) blank10, apart_gaps l (fun y hy => h y (List.mem_cons_of_mem _ hy))⟩
theorem strip_placed : ∀ (l : List Tk) (g : Tk → List UInt8) (i : Nat), strip (placed i (l.map fun x => (x, g x))) = strip l
  | [], _, _ => rfl
  | x :: l, g, i => by
    rw [List.map_cons, placed]
    unfold strip
    rw [List.map_cons, List.map_cons]
    have := strip_placed l g (i + (rawT x).length + (g x).length)
    unfold strip at this
    rw [this]
theorem gaps_len : ∀ l : List Tk, (gapsT l).length = rawSum l + l.length
  | [] => rfl
  | x :: l => by
    have := gaps_len l
    unfold gapsT rawSum at *
    rw [List.flatMap_cons, List.length_append, this, List.map_cons, List.sum_cons]
    simp; omega
theorem raw_pos {l : List Tk} (h : ∀ x ∈ l, WfT x) : l.length ≤ rawSum l := by
  induction l with
  | nil => exact Nat.zero_le _
  | cons x l ih =>
    obtain ⟨c, B, e, _⟩ := raw_head (h x (List.mem_cons_self ..))
    have := ih (fun y hy => h y (List.mem_cons_of_mem _ hy))
    unfold rawSum at *
    rw [List.map_cons, List.sum_cons, e, List.length_cons, List.length_cons]
    omega
/-- a text and its tokens with a line feed behind each have the same scheme, or the same error -/
theorem parse_gaps {nm : List UInt8 → Bool} {t : List UInt8} (ht : t.length ≤ 1000) (h0 : (lexP t).2.1 = 0) : (parseS nm (gapsT (lexP t).1)).1 = (parseS nm t).1 ∧ (parseS nm (gapsT (lexP t).1)).2.1 = (parseS nm t).2.1 := by
  obtain ⟨⟨hs, hw⟩, _⟩ := lex_wf t
  generalize hl : (lexP t).1 = l at *
  have hwf : ∀ x ∈ l, WfT x := fun x hx => (hw x hx).1
  have hpos := raw_pos hwf
  have hgl := gaps_len l
  have hlex := lex_rend (apart_gaps l hwf) (by rw [rend_gaps, hgl]; omega) (by rw [List.length_map]; omega) (by rw [rend_gaps, hgl, List.length_map]; omega)
  rw [rend_gaps] at hlex
  have hst : strip (placed 0 (l.map fun x => (x, ([10] : List UInt8)))) = strip l := strip_placed l (fun _ => [10]) 0
  have := scheme_same (nm := nm) (en := ((gapsT l).length : Int)) (en' := (t.length : Int)) hst
  unfold parseS
  rw [hlex, h0, hl]
  simp only []
  rw [if_neg (by simp), if_neg (by simp)]
  generalize schemeP nm ((gapsT l).length : Int) (placed 0 (l.map fun x => (x, ([10] : List UInt8)))) = A at *
  generalize schemeP nm (t.length : Int) l = A' at *
  cases this with
  | err => exact ⟨rfl, rfl⟩
  | ok h1 _ => rw [h1]; exact ⟨rfl, rfl⟩
end Go.Proofs.YtdcafoekbnacnaaGreatDoor

/- Plain laws of schemes: places of errors, and that what is parsed is valid. No program in sight. -/
set_option linter.unusedVariables false
set_option linter.unusedSimpArgs false
namespace Go.Proofs.YtdcafoekbnacnaaGreatDoor
open Go.RowKit

def Pl (n : Int) (l : List Tk) : Prop := ∀ t ∈ l, 0 ≤ t.a ∧ t.a ≤ n
inductive PRg (n : Int) {α : Type} (P : α → Prop) : PR α → Prop
  | ok {x : α} {r : List Tk} (hx : P x) (h : Pl n r) : PRg n P (.ok x r)
  | err {e a : Int} (he : e ≠ 0) (h0 : 0 ≤ a) (h1 : a ≤ n) : PRg n P (.err e a)
theorem take_pl {n k : Int} {s : List UInt8} (hn : 0 ≤ n) : ∀ {l : List Tk}, Pl n l → PRg n (fun t => 0 ≤ t.a ∧ t.a ≤ n) (takeP n k s l)
  | [], _ => .err (by decide) hn (Int.le_refl _)
  | t :: r, h => by
    have h0 := h t (List.mem_cons_self ..)
    rw [takeP]
    split
    · exact .err (by decide) h0.1 h0.2
    · exact .ok h0 (fun x hx => h x (List.mem_cons_of_mem _ hx))
theorem pl_tail {n : Int} {l : List Tk} (h : Pl n l) : Pl n l.tail := fun x hx => h x (List.mem_of_mem_tail hx)
theorem betw_pl {n : Int} {w : List UInt8} (hn : 0 ≤ n) {l : List Tk} (h : Pl n l) : PRg n (fun _ => True) (betwP n w l) := by
  unfold betwP
  split
  · have := take_pl (k := 3) (s := []) hn (pl_tail h)
    generalize takeP n 3 [] l.tail = A at *
    cases this with
    | err h1 h2 h3 => exact .err h1 h2 h3
    | ok hx hs =>
      simp only []
      split
      · exact .err (by decide) hx.1 hx.2
      · exact .ok trivial hs
  · exact .ok trivial h
theorem part_pl {n : Int} {others : List Prt} (hn : 0 ≤ n) {l : List Tk} (h : Pl n l) : PRg n (fun _ => True) (partP n others l) := by
  unfold partP partR
  have hl : Pl n (if seesP 1 wNeed l = true then l.tail else l) := by
    split
    · exact pl_tail h
    · exact h
  have := take_pl (k := 1) (s := []) hn hl
  generalize takeP n 1 [] (if seesP 1 wNeed l = true then l.tail else l) = A at *
  cases this with
  | err h1 h2 h3 => exact .err h1 h2 h3
  | ok hx hs =>
    rename_i x r
    simp only []
    split
    · exact .err (by decide) hx.1 hx.2
    · split
      · exact .err (by decide) hx.1 hx.2
      · have := betw_pl (w := wBefore) hn hs
        generalize betwP n wBefore r = B at *
        cases this with
        | err h1 h2 h3 => exact .err h1 h2 h3
        | ok hzhs2 hs2 =>
          rename_i x2 r2
          simp only []
          have := betw_pl (w := wAfter) hn hs2
          generalize betwP n wAfter r2 = C at *
          cases this with
          | err h1 h2 h3 => exact .err h1 h2 h3
          | ok hzhs3 hs3 =>
            rename_i x3 r3
            simp only []
            have := take_pl (k := 4) (s := [59]) hn hs3
            generalize takeP n 4 [59] r3 = D at *
            cases this with
            | err h1 h2 h3 => exact .err h1 h2 h3
            | ok hzhs4 hs4 => exact .ok trivial hs4
theorem parts_pl {n : Int} (hn : 0 ≤ n) : ∀ (f : Nat) (acc : List Prt) (l : List Tk), Pl n l → PRg n (fun _ => True) (partsP n f acc l)
  | 0, acc, l, h => .ok trivial h
  | f + 1, acc, l, h => by
    rw [partsP]
    split
    · exact .ok trivial h
    · have := part_pl (others := acc) hn h
      generalize partP n acc l = A at *
      cases this with
      | err h1 h2 h3 => exact .err h1 h2 h3
      | ok hzhs hs => exact parts_pl hn f _ _ hs
theorem scheme_pl {nm : List UInt8 → Bool} {n : Int} (hn : 0 ≤ n) {l : List Tk} (h : Pl n l) : PRg n (fun s => Valid nm s) (schemeP nm n l) := by
  unfold schemeP schR
  have := take_pl (k := 1) (s := wScheme) hn h
  generalize takeP n 1 wScheme l = A at *
  cases this with
  | err h1 h2 h3 => exact .err h1 h2 h3
  | ok hzh1 h1 =>
    rename_i x1 l1
    simp only []
    have := take_pl (k := 1) (s := []) hn h1
    generalize takeP n 1 [] l1 = B at *
    cases this with
    | err h1 h2 h3 => exact .err h1 h2 h3
    | ok hzh2 h2 =>
      rename_i x2 l2
      simp only []
      have := take_pl (k := 4) (s := [123]) hn h2
      generalize takeP n 4 [123] l2 = C at *
      cases this with
      | err h1 h2 h3 => exact .err h1 h2 h3
      | ok hzh3 h3 =>
        rename_i x3 l3
        simp only []
        have := parts_pl hn (l3.length + 1) [] l3 h3
        generalize partsP n (l3.length + 1) [] l3 = D at *
        cases this with
        | err h1 h2 h3 => exact .err h1 h2 h3
        | ok hzh4 h4 =>
          rename_i x4 l4
          simp only []
          have := take_pl (k := 4) (s := [125]) hn h4
          generalize takeP n 4 [125] l4 = E at *
          cases this with
          | err h1 h2 h3 => exact .err h1 h2 h3
          | ok hx5 h5 =>
            rename_i x5 l5
            simp only []
            split
            · exact .err (by decide) hx5.1 hx5.2
            · rename_i hv
              cases l5 with
              | nil =>
                refine .ok ((validB_iff nm _).1 ?_) h5
                cases hB : validB nm ⟨x2.s, x4⟩ with
                | true => rfl
                | false => exact absurd hB hv
              | cons t r =>
                have := h5 t (List.mem_cons_self ..)
                exact .err (by decide) this.1 this.2
theorem parse_err {nm : List UInt8 → Bool} {t : List UInt8} (h : (parseS nm t).2.1 ≠ 0) : (parseS nm t).1 = zSch ∧ (parseS nm t).2.2 ≤ t.length := by
  obtain ⟨⟨_, hw⟩, hle⟩ := lex_wf t
  unfold parseS at h ⊢
  split
  · exact ⟨rfl, hle⟩
  · rename_i h0
    rw [if_neg h0] at h
    have := scheme_pl (nm := nm) (n := (t.length : Int)) (by omega) (fun x hx => (hw x hx).2)
    generalize schemeP nm t.length (lexP t).1 = A at *
    cases this with
    | err h1 h2 h3 => exact ⟨rfl, h3⟩
    | ok => exact absurd rfl h
theorem schParse_ok {nm : List UInt8 → Bool} {t : List UInt8} (h : (parseS nm t).2.1 = 0) : Valid nm (parseS nm t).1 ∧ (parseS nm t).2.2 = 0 := by
  obtain ⟨⟨_, hw⟩, hle⟩ := lex_wf t
  unfold parseS at h ⊢
  split
  · rename_i h0
    rw [if_pos h0] at h
    exact absurd h h0
  · rename_i h0
    rw [if_neg h0] at h
    have := scheme_pl (nm := nm) (n := (t.length : Int)) (by omega) (fun x hx => (hw x hx).2)
    generalize schemeP nm t.length (lexP t).1 = A at *
    cases this with
    | err h1 h2 h3 => exact absurd h h1
    | ok hx _ => exact ⟨hx, rfl⟩
end Go.Proofs.YtdcafoekbnacnaaGreatDoor

/- Plain laws of format: writing and reading addresses. No program in sight. -/
set_option linter.unusedVariables false
set_option linter.unusedSimpArgs false
namespace Go.Proofs.YtdcafoekbnacnaaGreatDoor
open Go.RowKit

/-- what Read gives -/
def readF (vb : Bool) (num : List UInt8 → Bool) (ps : List Prt) (t : List UInt8) : List (List UInt8) × Int × Int :=
  if vb = false then (zeroF, 1, -1) else match readR (mrk ps) num ps t zeroF with
    | .ok f => (f, 0, 0)
    | .arg n => (zeroF, 1, (t.length : Int) - n)
    | .miss n => (zeroF, if n = 0 then 6 else 5, (t.length : Int) - n)
/-- P24.2 -/
theorem readF_writ {nm num : List UInt8 → Bool} {s : Sch} {f : List (List UInt8)} (h : Fits nm num s f) : readF true num s.ps (writL f s.ps) = (f, 0, 0) := by
  unfold readF
  rw [if_neg (by simp), read_all h, set_all h]
/-- P24.3 -/
theorem readF_ok {nm num : List UInt8 → Bool} {s : Sch} (hv : Valid nm s) {t : List UInt8} (h : (readF true num s.ps t).2.1 = 0) : (readF true num s.ps t).2.2 = 0 ∧ Fits nm num s (readF true num s.ps t).1 ∧ writL (readF true num s.ps t).1 s.ps = t := by
  unfold readF at h ⊢
  rw [if_neg (by simp)] at h ⊢
  cases hr : readR (mrk s.ps) num s.ps t zeroF with
  | ok f =>
    have := read_fits hv hr
    exact ⟨rfl, this.1, this.2⟩
  | arg n => rw [hr] at h; simp at h
  | miss n => rw [hr] at h; simp only [] at h; split at h <;> cases h
theorem readF_err {num : List UInt8 → Bool} {ps : List Prt} {t : List UInt8} (h : (readF true num ps t).2.1 ≠ 0) : (readF true num ps t).1 = zeroF ∧ 0 ≤ (readF true num ps t).2.2 ∧ (readF true num ps t).2.2 ≤ t.length ∧
    ((readF true num ps t).2.1 = 1 ∨ ((readF true num ps t).2.1 = 6 ∧ (readF true num ps t).2.2 = t.length) ∨ ((readF true num ps t).2.1 = 5 ∧ (readF true num ps t).2.2 ≠ t.length)) := by
  unfold readF at h ⊢
  rw [if_neg (by simp)] at h ⊢
  obtain ⟨h1, h2⟩ := read_left (num := num) (mk := mrk ps) ps t zeroF
  cases hr : readR (mrk ps) num ps t zeroF with
  | ok f => rw [hr] at h; exact absurd rfl h
  | arg n =>
    have := h1 n hr
    refine ⟨rfl, ?_, ?_, .inl rfl⟩ <;> simp only [] <;> omega
  | miss n =>
    have := h2 n hr
    refine ⟨rfl, ?_, ?_, .inr ?_⟩
    · simp only []; omega
    · simp only []; omega
    · simp only []
      by_cases hn : n = 0
      · left; rw [if_pos hn]; exact ⟨rfl, by omega⟩
      · right; rw [if_neg hn]; exact ⟨rfl, by omega⟩
/-- P24.4 -/
theorem readF_refuses {nm num : List UInt8 → Bool} {s : Sch} {f : List (List UInt8)} (h : Fits nm num s f) {t : List UInt8} (he : (readF true num s.ps t).2.1 ≠ 0) : writL f s.ps ≠ t := by
  intro e
  rw [← e, readF_writ h] at he
  exact he rfl
/-! P24.5, P24.6 -/
theorem writL_app (f : List (List UInt8)) : ∀ l r : List Prt, writL f (l ++ r) = writL f l ++ writL f r
  | [], r => rfl
  | p :: l, r => by rw [List.cons_append, writL, writL, writL_app f l r]; exact (List.append_assoc _ _ _).symm
theorem writL_same (f g : List (List UInt8)) : ∀ l : List Prt, (∀ p ∈ l, valF g p.k = valF f p.k) → writL g l = writL f l
  | [], _ => rfl
  | p :: l, h => by
    rw [writL, writL, h p (List.mem_cons_self ..), writL_same f g l (fun q hq => h q (List.mem_cons_of_mem _ hq))]
/-- the part of a value -/
theorem fits_part {nm num : List UInt8 → Bool} {s : Sch} {f : List (List UInt8)} (h : Fits nm num s f) {k : Nat} (hk : k < 9) (hv : valF f k ≠ []) : ∃ (l : List Prt) (p : Prt) (r : List Prt), s.ps = l ++ p :: r ∧ p.k = (k : Int) ∧ (∀ q ∈ l, q.k ≠ (k : Int)) ∧ ∀ q ∈ r, q.k ≠ (k : Int) := by
  have : ∃ p ∈ s.ps, p.k = k := by
    rcases Classical.em (∃ p ∈ s.ps, p.k = (k : Int)) with h1 | h1
    · exact h1
    · exact absurd (h.non k hk (fun p hp e => h1 ⟨p, hp, e⟩)) hv
  obtain ⟨p, hp, e⟩ := this
  obtain ⟨l, r, hlr⟩ := List.append_of_mem hp
  have hnd := h.valid.nodup
  rw [hlr] at hnd
  obtain ⟨_, h2, h3⟩ := List.pairwise_append.1 hnd
  have h4 := (List.pairwise_cons.1 h2).1
  exact ⟨l, p, r, hlr, e, fun q hq e2 => h3 q hq p (List.mem_cons_self ..) (e2.trans e.symm), fun q hq e2 => h4 q hq (e.trans e2.symm)⟩
/-- with another text in the place of a value -/
theorem writ_put {f : List (List UInt8)} {l r : List Prt} {p : Prt} {k : Nat} (hk : k < f.length) (hp : p.k = k) (hl : ∀ q ∈ l, q.k ≠ k ∧ 0 ≤ q.k) (hr : ∀ q ∈ r, q.k ≠ k ∧ 0 ≤ q.k) (v : List UInt8) :
    writL (f.set k v) (l ++ p :: r) = writL f l ++ ((if v = [] then [] else p.b ++ v ++ p.a) ++ writL f r) := by
  have hset : ∀ j : Int, 0 ≤ j → valF (f.set k v) j = if (k : Int) = j then v else valF f j := fun j hj => by
    have := val_set (f := f) (k := (k : Int)) (j := j) (v := v) ⟨by omega, by omega⟩ hj
    rwa [show ((k : Int)).toNat = k by omega] at this
  rw [writL_app, writL_same f (f.set k v) l (fun q hq => by rw [hset _ (hl q hq).2, if_neg (fun e => (hl q hq).1 e.symm)]), writL, writL_same f (f.set k v) r (fun q hq => by rw [hset _ (hr q hq).2, if_neg (fun e => (hr q hq).1 e.symm)]), hset _ (by rw [hp]; omega), if_pos hp.symm]
theorem writ_at {f : List (List UInt8)} {l r : List Prt} {p : Prt} (hv : valF f p.k ≠ []) : writL f (l ++ p :: r) = (writL f l ++ p.b) ++ (valF f p.k ++ (p.a ++ writL f r)) := by
  rw [writL_app, writL, if_neg hv]; simp
end Go.Proofs.YtdcafoekbnacnaaGreatDoor

/- Package scheme: printable, small. -/
set_option linter.unusedVariables false
set_option linter.unusedSimpArgs false
namespace Go.Proofs.YtdcafoekbnacnaaGreatDoor
open Go.RowKit Go.Shelf Go.Lib

def oddR (r : Nat) : Bool := decide (r < 32) || decide (126 < r)
theorem prn_drop {l : List UInt8} {k : Nat} {c : UInt8} (h : l[k]? = some c) : prn (l.drop k) = (!oddR c.toNat && prn (l.drop (k + 1))) := by
  rw [drop_at h]
  unfold prn oddR
  rw [List.all_cons]
  by_cases h1 : 32 ≤ c.toNat <;> by_cases h2 : c.toNat ≤ 126 <;> simp [h1, h2, Nat.not_lt.2, Nat.not_le.1] <;> omega
theorem idx_odd (l : List UInt8) : ∀ (f pos : Nat), l.length ≤ pos + f → decide (0 ≤ idxFuncFrom oddR true (bs l) f pos) = !prn (l.drop pos)
  | 0, pos, h => by
    rw [List.drop_of_length_le (by omega)]; rfl
  | f + 1, pos, h => by
    unfold idxFuncFrom
    by_cases hp : pos < (bs l).size
    · rw [if_pos hp]
      have hl : pos < l.length := by rw [bs_size] at hp; exact hp
      have hc : l[pos]? = some l[pos] := List.getElem?_eq_getElem hl
      have hb : (bs l)[pos]'hp = l[pos] := by
        show l.toArray[pos]'(by simpa using hl) = l[pos]
        simp
      rw [prn_drop hc]
      rcases Nat.lt_or_ge (l[pos]).toNat 128 with hlo | hhi
      · rw [decode_ascii (bs l) pos hp (by rw [hb]; exact hlo), hb]
        cases ho : oddR (l[pos]).toNat with
        | true => simp
        | false =>
          rw [if_neg (by simp [ho]), idx_odd l f (pos + 1) (by omega)]
          simp
      · have hd := (decode_high (bs l) pos hp (by rw [hb]; exact hhi)).1
        have h1 : oddR (Utf8.decode (bs l) pos).1 = true := by unfold oddR; simp; omega
        have h2 : oddR (l[pos]).toNat = true := by unfold oddR; simp; omega
        rw [h2, if_pos h1]; simp
    · rw [if_neg hp]
      rw [bs_size] at hp
      rw [List.drop_of_length_le (by omega)]; rfl
theorem odd_at (w : World) : PredAt Tryz.prog 92 #[] encR oddR w := fun W r _ => by
  unfold FnGives
  by_cases h1 : r < 32 <;> by_cases h2 : 126 < r
  all_goals
    have z1 : (r : Int) < 32 ↔ r < 32 := by omega
    have z2 : (126 : Int) < (r : Int) ↔ 126 < r := by omega
    go_enter Tryz.func92, Tryz.ntmps92
    go_wp2
    all_goals first | (exfalso; omega) | (go_ret; exact ⟨by simp [oddR, h1, h2], 0, rfl⟩)
theorem printable_any (l : List UInt8) (w : World) : Calls Tryz.prog 61 #[.string (bs l)] w fun e w' => e = .returned (.bool (prn l)) ∧ Below w.heap.size w w' := by
  have hv : (!decide (0 ≤ Lib.idxFunc oddR true (bs l))) = prn l := by
    unfold Lib.idxFunc
    rw [idx_odd l (bs l).size 0 (by rw [bs_size]; omega)]; simp
  have hC := Tryz.strings_ContainsFunc 92 #[] (enters_of Tryz.func92 (by kernel_rfl) rfl) oddR (bs l) w (odd_at w)
  generalize decide (0 ≤ Lib.idxFunc oddR true (bs l)) = b at *
  go_enter Tryz.func61, Tryz.ntmps61
  go_wp2_with ((with_reducible refine hC.mono ?_); rintro e w' ⟨rfl, hb⟩)
  go_ret
  exact ⟨by rw [← hv]; rfl, hb⟩
end Go.Proofs.YtdcafoekbnacnaaGreatDoor

/- Package scheme: small. -/
set_option linter.unusedVariables false
set_option linter.unusedSimpArgs false
namespace Go.Proofs.YtdcafoekbnacnaaGreatDoor
open Go.RowKit Go.Shelf

theorem idx_contains (l : List UInt8) (c : UInt8) : decide (0 ≤ Lib.indexByte l c) = l.contains c := by
  have hge := Lib.indexByte_ge l c
  by_cases h : Lib.indexByte l c = -1
  · have hn := Lib.indexByte_none h
    rw [h]
    cases hc : l.contains c with
    | false => rfl
    | true =>
      obtain ⟨k, hk, e⟩ := List.getElem_of_mem (List.contains_iff_mem.1 hc)
      exact absurd (by rw [List.getElem?_eq_getElem hk, e]) (hn k)
  · obtain ⟨o, ho⟩ : ∃ o : Nat, Lib.indexByte l c = o := ⟨(Lib.indexByte l c).toNat, by omega⟩
    have hs := (Lib.indexByte_some ho).1
    rw [List.contains_iff_mem.2 (List.mem_of_getElem? hs), ho]
    simp
theorem small_any (l : List UInt8) (w : World) : Calls Tryz.prog 51 #[.string (bs l)] w fun e w' => e = .returned (.bool (smallB l)) ∧ Below w.heap.size w w' := by
  have hsz := bs_size l
  have C1 := fun w => printable_any l w
  have C2 := fun w => Tryz.strings_Contains_one (bs l) 34 w
  rw [show decide (0 ≤ Lib.indexByte (bs l).data.toList 34) = l.contains 34 by rw [bs_list, idx_contains]] at C2
  have h34 : (⟨#[34]⟩ : ByteArray) = ⟨#[34]⟩ := rfl
  unfold smallB
  generalize prn l = p at *
  generalize l.contains 34 = q at *
  by_cases h4 : l.length ≤ 4
  · have HD := hide (decide_eq_true h4)
    have z4 : ((bs l).size : Int) ≤ 4 := by rw [hsz]; omega
    cases p <;> cases q
    all_goals
      go_enter Tryz.func51, Tryz.ntmps51
      go_wp2_with (first | ((with_reducible refine (C1 _).mono ?_); rintro e w' ⟨rfl, hb⟩) | ((with_reducible refine (C2 _).mono ?_); rintro e w' ⟨rfl, rfl⟩))
      go_ret
      refine ⟨by rw [HD.out]; rfl, ?_⟩
      first | exact hb | exact Below.refl _ _
  · have HD := hide (decide_eq_false h4)
    have z4 : ¬ ((bs l).size : Int) ≤ 4 := by rw [hsz]; omega
    go_enter Tryz.func51, Tryz.ntmps51
    go_wp2_with fail
    go_ret
    exact ⟨rfl, Below.refl _ _⟩
end Go.Proofs.YtdcafoekbnacnaaGreatDoor

/- Package scheme: isName (as privacy.named of s55). -/
set_option linter.unusedVariables false
set_option linter.unusedSimpArgs false
namespace Go.Proofs.YtdcafoekbnacnaaGreatDoor
open Go.RowKit

set_option maxRecDepth 100000 in
set_option maxHeartbeats 4000000 in
theorem isName_any (d : List UInt8) (hl : d.length ≤ 140737488355328) (w : World) : Calls Tryz.prog 52 #[.string (bs d)] w fun e w' => e = .returned (.bool (isNm d)) ∧ Below w.heap.size w w' := by
  have CL := fun w => Lex_any d hl w
  by_cases hE : (lexP d).2.1 ≠ 0
  · have HV : Hid (isNm d = false) := by
      show _ = _
      rw [← Bool.not_eq_true]; intro h; rw [lex_of_nm h] at hE; exact hE rfl
    have e1 : ((lexP d).2.1 == 0) = false := by rw [beq_eq_false_iff_ne]; exact hE
    clear hE
    generalize (lexP d).2.1 = E at *
    go_enter Tryz.func52, Tryz.ntmps52
    go_wp2_with fail
    refine (CL _).mono ?_
    rintro e w2 ⟨v, rfl, hv, hb⟩
    have HB := hide hb
    clear hv hb CL
    go_wp2_with fail
    go_ret
    exact ⟨ret_bool (by rw [HV.out]), HB.out⟩
  have hE0 : (lexP d).2.1 = 0 := Classical.byContradiction hE
  rw [hE0] at CL
  by_cases hn : (lexP d).1.length ≠ 1
  · have HV : Hid (isNm d = false) := by
      show _ = _
      rw [← Bool.not_eq_true]; intro h; rw [lex_of_nm h] at hn; exact hn rfl
    clear hE hE0
    go_enter Tryz.func52, Tryz.ntmps52
    go_wp2_with fail
    refine (CL _).mono ?_
    rintro e w2 ⟨v, rfl, hv, hb⟩
    have HB := hide hb
    obtain ⟨A, c, rfl⟩ : ∃ A c, v = .slice A (lexP d).1.length c := by
      rcases hv with ⟨h1, A, c, h2⟩ | ⟨b, c, h1, _⟩
      · rw [h1]; exact ⟨A, c, h2⟩
      · exact ⟨_, _, h1⟩
    have e1 : (((lexP d).1.length : Int) == 1) = false := by rw [beq_eq_false_iff_ne]; omega
    clear hv hb CL hn
    generalize (lexP d).1.length = n at *
    go_wp2_with fail
    go_ret
    exact ⟨ret_bool (by rw [HV.out]), HB.out⟩
  obtain ⟨⟨xk, xa, xn, xs⟩, hx⟩ : ∃ x, (lexP d).1 = [x] := by
    match hl : (lexP d).1, (Classical.byContradiction hn : (lexP d).1.length = 1) with
    | [x], _ => exact ⟨x, rfl⟩
  rw [hx] at CL
  have hone : ∀ {w2 : World} {v : Value}, TokRow w2 v [⟨xk, xa, xn, xs⟩] → ∃ tb tc, v = .slice (some ⟨tb, 0, none⟩) 1 tc ∧ w2.cell? ⟨tb, 0, none⟩ = some (.int .i64 xk) ∧ w2.cell? ⟨tb, 3, none⟩ = some (.string (bs xs)) := fun {w2 v} hv => by
    rcases hv with ⟨h1, _⟩ | ⟨b, c, h1, _, h2, h3⟩
    · cases h1
    · exact ⟨b, c, h1, h3 0 _ rfl 0 _ rfl, h3 0 _ rfl 3 _ rfl⟩
  by_cases hk : xk = 1
  · by_cases ht : xs = d
    · have HV : Hid (isNm d = true) := by
        show _ = _
        subst hk; subst ht
        exact nm_of_lex hE0 hx
      have e1 : ((bs xs).toList == (bs d).toList) = true := by rw [ht]; simp
      clear hE hE0 hn hx ht
      subst hk
      go_enter Tryz.func52, Tryz.ntmps52
      go_wp2_with fail
      refine (CL _).mono ?_
      rintro e w2 ⟨v, rfl, hv, hb⟩
      have HB := hide hb
      obtain ⟨tb, tc, rfl, t0, t3⟩ := hone hv
      clear hv hb CL hone
      go_wp2_with fail
      go_ret
      exact ⟨ret_bool (by rw [HV.out]), HB.out⟩
    · have HV : Hid (isNm d = false) := by
        show _ = _
        rw [← Bool.not_eq_true]; intro h; rw [lex_of_nm h] at hx
        simp at hx; exact ht hx.2.2.2.symm
      have e1 : ((bs xs).toList == (bs d).toList) = false := by rw [beq_eq_false_iff_ne, bs_toList, bs_toList]; exact ht
      clear hE hE0 hn hx ht
      subst hk
      go_enter Tryz.func52, Tryz.ntmps52
      go_wp2_with fail
      refine (CL _).mono ?_
      rintro e w2 ⟨v, rfl, hv, hb⟩
      have HB := hide hb
      obtain ⟨tb, tc, rfl, t0, t3⟩ := hone hv
      clear hv hb CL hone
      go_wp2_with fail
      go_ret
      exact ⟨ret_bool (by rw [HV.out]), HB.out⟩
  · have HV : Hid (isNm d = false) := by
      show _ = _
      rw [← Bool.not_eq_true]; intro h; rw [lex_of_nm h] at hx
      simp at hx; exact hk hx.1.symm
    have e1 : (xk == 1) = false := by rw [beq_eq_false_iff_ne]; exact hk
    clear hE hE0 hn hx hk
    go_enter Tryz.func52, Tryz.ntmps52
    go_wp2_with fail
    refine (CL _).mono ?_
    rintro e w2 ⟨v, rfl, hv, hb⟩
    have HB := hide hb
    obtain ⟨tb, tc, rfl, t0, t3⟩ := hone hv
    clear hv hb CL hone
    go_wp2_with fail
    go_ret
    exact ⟨ret_bool (by rw [HV.out]), HB.out⟩
end Go.Proofs.YtdcafoekbnacnaaGreatDoor

/- Package scheme: words. -/
set_option linter.unusedVariables false
set_option linter.unusedSimpArgs false
namespace Go.Proofs.YtdcafoekbnacnaaGreatDoor
open Go.RowKit Go.Shelf

def wordsV : Value := .agg (wordsL.map fun l => Value.string (bs l)).toArray
theorem words_any (w : World) : Calls Tryz.prog 40 #[] w fun e w' => e = .returned wordsV ∧ Below w.heap.size w w' := by
  go_enter Tryz.func40, Tryz.ntmps40
  go_wp2_with fail
  exact bodyPost_ret (results_cell_blk rfl _ _ w.heap.size 25 _ _ rfl (Blk.new w 25 _) Tryz.underlying25 rfl (by kernel_rfl)) rfl ⟨rfl, below_one w _⟩
end Go.Proofs.YtdcafoekbnacnaaGreatDoor

/- Package scheme: parts in memory; what a round of a range over a function keeps. -/
set_option linter.unusedVariables false
set_option linter.unusedSimpArgs false
namespace Go.Proofs.YtdcafoekbnacnaaGreatDoor
open Go.RowKit Go.Shelf

/-- a part's cells -/
def ptV (p : Prt) : List Value := [.int .i64 p.k, .string (bs p.b), .string (bs p.a), .bool p.need]
def ptC (p : Prt) : Array Value := #[.int .i64 p.k, .string (bs p.b), .string (bs p.a), .bool p.need]
def PartsAt (w : World) (v : Value) (ps : List Prt) : Prop := RowsAt w 4 v (ps.map ptV)
theorem PartsAt.to {w w' : World} {v : Value} {ps : List Prt} (h : PartsAt w v ps) (hb : Below w.heap.size w w') : PartsAt w' v ps := RowsAt.to h hb
theorem PartsAt.slice {w : World} {v : Value} {ps : List Prt} (h : PartsAt w v ps) : ∃ A c, v = .slice A ps.length c ∧ ps.length ≤ c := by
  obtain ⟨A, c, h1, h2, _⟩ := h
  rw [List.length_map] at h1 h2
  exact ⟨A, c, h1, h2⟩
theorem PartsAt.at_ {w : World} {v : Value} {ps : List Prt} (h : PartsAt w v ps) {k : Nat} {p : Prt} (hp : ps[k]? = some p) :
    ∃ a c, v = .slice (some a) ps.length c ∧ ps.length ≤ c ∧ a.block < w.heap.size ∧ w.cell? (a.add (k * 4)) = some (.int .i64 p.k) ∧ w.cell? ⟨(a.add (k * 4)).block, (a.add (k * 4)).off + 1, none⟩ = some (.string (bs p.b)) ∧
      w.cell? ⟨(a.add (k * 4)).block, (a.add (k * 4)).off + 2, none⟩ = some (.string (bs p.a)) ∧ w.cell? ⟨(a.add (k * 4)).block, (a.add (k * 4)).off + 3, none⟩ = some (.bool p.need) := by
  obtain ⟨a, c, h1, h2, h3, _, h4⟩ := RowsAt.at_ h (k := k) (x := ptV p) (by rw [List.getElem?_map, hp]; rfl)
  rw [List.length_map] at h1 h2
  refine ⟨a, c, h1, h2, h3, h4 0 _ rfl, ?_, ?_, ?_⟩
  · have := h4 1 _ rfl; unfold Addr.add at this ⊢; simpa using this
  · have := h4 2 _ rfl; unfold Addr.add at this ⊢; simpa using this
  · have := h4 3 _ rfl; unfold Addr.add at this ⊢; simpa using this
/-- whatever holds cells lies as it lay -/
structure KC (W W' : World) : Prop where
  size : W.heap.size ≤ W'.heap.size
  same : ∀ (k : Nat) (o : Obj), W.heap[k]? = some o → o.isCells = true → W'.heap[k]? = some o
theorem KC.refl (W : World) : KC W W := ⟨Nat.le_refl _, fun _ _ h _ => h⟩
theorem KC.trans {A B C : World} (h : KC A B) (k : KC B C) : KC A C := ⟨Nat.le_trans h.size k.size, fun i o hi ho => k.same i o (h.same i o hi ho) ho⟩
theorem KC.alloc (W : World) (o : Obj) : KC W (W.alloc o) := ⟨by simp, fun k o' hk _ => (Below.heap_alloc W o k (Array.getElem?_eq_some_iff.1 hk).1).trans hk⟩
theorem KC.putObj (W : World) (l : Nat) (o o' : Obj) (h : W.heap[l]? = some o) (hc : o.isCells = false) : KC W (W.putObj l o') :=
  ⟨by simp, fun k o'' hk ho => by
    by_cases e : k = l
    · subst e; rw [h] at hk; cases hk; rw [hc] at ho; cases ho
    · exact (World.putObj_heap_other e).trans hk⟩
theorem KC.below {W W' : World} (h : Below W.heap.size W W') : KC W W' := ⟨h.size, fun k o hk _ => (h.block k (Array.getElem?_eq_some_iff.1 hk).1).trans hk⟩
theorem cell_obj {W : World} {a : Addr} {v : Value} (h : W.cell? a = some v) : ∃ o, W.heap[a.block]? = some o ∧ o.isCells = true := by
  unfold World.cell? at h
  cases ho : W.heap[a.block]? with
  | none => simp [ho] at h
  | some o => exact ⟨o, rfl, by cases o <;> simp_all [Obj.isCells]⟩
theorem KC.cell {W W' : World} (k : KC W W') {a : Addr} {v : Value} (h : W.cell? a = some v) : W'.cell? a = some v := by
  obtain ⟨o, ho, hc⟩ := cell_obj h
  have := k.same _ _ ho hc
  unfold World.cell? at h ⊢
  rw [ho] at h; rw [this]; exact h
theorem Blk.kc {W W' : World} {b : Nat} {t : TypeId} {cs : Array Value} (h : Blk W b t cs) (k : KC W W') : Blk W' b t cs := k.same _ _ h rfl
theorem RowsAt.kc {w w' : World} {size : Nat} {v : Value} {ls : List (List Value)} (h : RowsAt w size v ls) (k : KC w w') : RowsAt w' size v ls := by
  obtain ⟨A, c, h1, h2, h3, h4⟩ := h
  refine ⟨A, c, h1, h2, h3, fun i x hx => ?_⟩
  obtain ⟨a, e, hl, hc⟩ := h4 i x hx
  exact ⟨a, e, Nat.lt_of_lt_of_le hl k.size, fun j u hu => k.cell (hc j u hu)⟩
theorem PartsAt.kc {w w' : World} {v : Value} {ps : List Prt} (h : PartsAt w v ps) (k : KC w w') : PartsAt w' v ps := RowsAt.kc h k
/-- the parts that may be next, with their indices -/
def nxI : Nat → List Prt → List (Nat × Prt)
  | _, [] => []
  | m, p :: r => if p.need then [(m, p)] else (m, p) :: nxI (m + 1) r
theorem nxI_map : ∀ (m : Nat) (r : List Prt), (nxI m r).map Prod.snd = nxtL r
  | _, [] => rfl
  | m, p :: r => by rw [nxI, nxtL]; split <;> simp [nxI_map (m + 1) r]
theorem nxI_len : ∀ (m : Nat) (r : List Prt), (nxI m r).length ≤ r.length
  | _, [] => Nat.zero_le _
  | m, p :: r => by rw [nxI]; have := nxI_len (m + 1) r; split <;> simp <;> omega
theorem nxI_ge : ∀ (m : Nat) (r : List Prt), ∀ x ∈ nxI m r, m ≤ x.1 ∧ x.1 < m + r.length
  | _, [], x, h => by simp [nxI] at h
  | m, p :: r, x, h => by
    rw [nxI] at h
    split at h
    · obtain rfl := List.mem_singleton.1 h; simp
    · rcases List.mem_cons.1 h with rfl | h
      · simp
      · have := nxI_ge (m + 1) r x h; simp; omega
theorem nxI_inj : ∀ (m : Nat) (r : List Prt), (nxI m r).Pairwise fun x y => x.1 ≠ y.1
  | _, [] => List.Pairwise.nil
  | m, p :: r => by
    rw [nxI]
    split
    · exact List.pairwise_singleton _ _
    · exact List.pairwise_cons.2 ⟨fun y hy => by have := nxI_ge (m + 1) r y hy; simp; omega, nxI_inj (m + 1) r⟩
def encP (x : Nat × Prt) : Array Value := #[.int .i64 (x.1 : Int), .agg (ptC x.2)]
end Go.Proofs.YtdcafoekbnacnaaGreatDoor

/- Package scheme: next, its closure as an iterator. -/
set_option linter.unusedVariables false
set_option linter.unusedSimpArgs false
namespace Go.Proofs.YtdcafoekbnacnaaGreatDoor
open Go.RowKit Go.Shelf
attribute [local go_sem] Oper.semAt_some

theorem drop_hd {α : Type} {l : List α} {k : Nat} {x : α} (h : l[k]? = some x) : l.drop k = x :: l.drop (k + 1) := by
  obtain ⟨hk, e⟩ := List.getElem?_eq_some_iff.1 h
  rw [List.drop_eq_getElem_cons hk, e]
set_option maxRecDepth 100000 in
set_option maxHeartbeats 2000000 in
theorem nx1_in (F : Fence) (n : Nat) (hf : F.fn 122) (hro : F.round = none) (hn : 1 ≤ n) (l bS bI : Nat) (c : List UInt8) (v : Value) (ps : List Prt) (m : Nat) (hm : m ≤ ps.length) (hl0 : ps.length ≤ 8796093022208) (J Jx : List (Nat × Prt) → World → Prop)
    (hY : ∀ pre x W, J pre W → pre.length < ps.length → YieldAt F (n - 1) Tryz.prog l (encP x) W fun e W' =>
      (e = .returned (.bool true) ∧ J (pre ++ [x]) W' ∧ KC W W') ∨ (e = .returned (.bool false) ∧ Jx (pre ++ [x]) W'))
    (W : World) (hS : Blk W bS 24 #[.string (bs c), v]) (hI : Blk W bI 3 #[.int .i64 ((m : Int) - 1)]) (hP : PartsAt W v ps) (h0 : J [] W)
    (hJa : ∀ pre W o, J pre W → J pre (W.alloc o)) :
    CallsIn F n Tryz.prog 122 #[.func (.yield l) #[] #[], .pointer (some ⟨bS, 0, none⟩), .pointer (some ⟨bI, 0, none⟩)] W fun e W' => (∃ v, e = .returned v) ∧
      ((∃ ys, ys = nxI m (ps.drop m) ∧ J ys W') ∨ (∃ pre, pre <+: nxI m (ps.drop m) ∧ Jx pre W')) := by
  obtain ⟨A, cp, rfl, hcp⟩ := hP.slice
  have cS := hS.cell 1
  have cI := hI.cell 0
  by_cases hlt0 : m < ps.length
  · obtain ⟨a, _, ea, _, hab, _⟩ := hP.at_ (List.getElem?_eq_getElem hlt0)
    injection ea with ea _ _
    subst ea
    have hcm : ¬ cp = m := by omega
    have HI := hide hI
    have HP := hide hP
    have HS := hide hS
    clear hI hP hS
    refine callsIn_of_wp Tryz.func122 rfl hf ?_ hro
    simp only [Tryz.ntmps122, List.size_toArray, List.length_cons, List.length_nil, Nat.reduceAdd, Nat.reduceSub, Array.replicate_succ, Array.replicate_zero, List.push_toArray, List.append_toArray, List.nil_append, List.cons_append]
    gi_wp2
    clear cS cI
    gi_loopw [12] (fun i wr => ∃ (k : Nat) (pre : List (Nat × Prt)), m + k ≤ ps.length ∧ pre.length = k ∧ i = .int .i64 (k : Int) ∧ nxI m (ps.drop m) = pre ++ nxI (m + k) (ps.drop (m + k)) ∧ J pre wr ∧ KC W wr)
      (fun i _ => ps.length - (intOf i).toNat)
    case atStart => exact ⟨0, [], by omega, rfl, rfl, rfl, h0, KC.refl _⟩
    case round =>
      obtain ⟨k, pre, hk, hpl, rfl, hpre, hJs, hkc⟩ := hrel
      have HPRE := hide hpre
      clear hpre
      have HKC := hide hkc
      by_cases hlt : m + k < ps.length
      · obtain ⟨p, hp⟩ : ∃ p, ps[m + k]? = some p := ⟨_, List.getElem?_eq_getElem hlt⟩
        have hP2 := HP.out.kc hkc
        obtain ⟨a', cp', ea, _, hab', c0, c1, c2, c3⟩ := hP2.at_ hp
        injection ea with ea _ _
        injection ea with ea
        subst ea
        have ea2 : a.add ((m + k) * 4) = (a.add (m * 4)).add (k * 4) := by rw [add_of_add, Nat.add_mul]
        rw [ea2] at c0 c1 c2 c3
        clear ea2
        have HN : Hid (nxI (m + k) (ps.drop (m + k)) = if p.need then [(m + k, p)] else (m + k, p) :: nxI (m + (k + 1)) (ps.drop (m + (k + 1)))) := by
          show _ = _
          rw [drop_hd hp, nxI]; rfl
        have hJ1 := hJa pre wr (.cells (ptC p) 41) hJs
        have hY1 := hY pre (m + k, p) _ hJ1 (by omega)
        unfold encP ptC at hY1
        obtain ⟨fn, tmps, assign, body, hy, hR⟩ := hY1
        dsimp only at hy
        rw [Int.natCast_add] at hy
        have cI := ((HI.out.kc hkc).alloc (.cells (ptC p) 41)).cell 0
        have HB := hide (Blk.new wr 41 (ptC p))
        unfold ptC at cI HB
        clear hp hP2 hkc
        gi_wp2
        refine hR.mono ?_
        rintro e W3 (⟨rfl, hJ3, hk3⟩ | ⟨rfl, hJx3⟩)
        · have c5 := (HB.out.kc hk3).cell 3
          have HK3 := hide hk3
          clear hk3
          cases hnd : p.need with
          | true =>
            rw [hnd] at c5
            have HND := hide hnd
            clear hnd
            gi_wp2
            refine bodyPost_ret (results_none rfl _ _ _) rfl ?_
            exact ⟨⟨_, rfl⟩, .inl ⟨pre ++ [(m + k, p)], by rw [HPRE.out, HN.out, if_pos HND.out], hJ3⟩⟩
          | false =>
            rw [hnd] at c5
            have HND := hide hnd
            clear hnd
            gi_wp2
            go_roundw
            case rel => exact ⟨k + 1, pre ++ [(m + k, p)], by omega, by simp [hpl], by go_num, by rw [HPRE.out, HN.out, HND.out]; simp, hJ3, HKC.out.trans ((KC.alloc _ _).trans HK3.out)⟩
            case measure => simp [intOf]; omega
        · gi_wp2
          refine bodyPost_ret (results_none rfl _ _ _) rfl ?_
          exact ⟨⟨_, rfl⟩, .inr ⟨pre ++ [(m + k, p)], by rw [HPRE.out, HN.out]; cases p.need <;> simp, hJx3⟩⟩
      · gi_wp2
        go_end0
        exact ⟨⟨_, rfl⟩, .inl ⟨pre, by rw [HPRE.out, List.drop_of_length_le (by omega)]; simp [nxI], hJs⟩⟩
  · obtain rfl : m = ps.length := by omega
    have HI := hide hI
    have HP := hide hP
    have HS := hide hS
    clear hI hP hS
    by_cases hcm : cp = ps.length
    all_goals
      refine callsIn_of_wp Tryz.func122 rfl hf ?_ hro
      simp only [Tryz.ntmps122, List.size_toArray, List.length_cons, List.length_nil, Nat.reduceAdd, Nat.reduceSub, Array.replicate_succ, Array.replicate_zero, List.push_toArray, List.append_toArray, List.nil_append, List.cons_append]
      gi_wp2
      gi_loopw [12] (fun i wr => i = .int .i64 0 ∧ wr = W) (fun i _ => 0)
      case atStart => exact ⟨rfl, rfl⟩
      case round =>
        obtain ⟨rfl, rfl⟩ := hrel
        gi_wp2
        go_end0
        exact ⟨⟨_, rfl⟩, .inl ⟨[], by simp [nxI], h0⟩⟩
theorem nx_stops (F : Fence) (n : Nat) (hf : F.fn 122) (hro : F.round = none) (hn : 1 ≤ n) (bS bI : Nat) (c : List UInt8) (v : Value) (ps : List Prt) (m : Nat) (hm : m ≤ ps.length) (hl0 : ps.length ≤ 8796093022208) (w : World)
    (hS : Blk w bS 24 #[.string (bs c), v]) (hI : Blk w bI 3 #[.int .i64 ((m : Int) - 1)]) (hP : PartsAt w v ps) :
    SeqStopsK F n Tryz.prog 122 #[.pointer (some ⟨bS, 0, none⟩), .pointer (some ⟨bI, 0, none⟩)] encP KC (fun ys => ys = nxI m (ps.drop m)) (fun pre => pre <+: nxI m (ps.drop m)) ps.length w := fun l J Jx W hW hJ hJx hY h0 =>
  nx1_in F n hf hro hn l bS bI c v ps m hm hl0 J Jx hY W (hS.to hW) (hI.to hW) (hP.to hW) h0 (fun pre W o hj => hJ pre W _ none hj (World.grownBy_alloc W o none) (fun r e => by cases e))
theorem kcK_t {A B C : World} (h : KC A B) (k : KC B C) : KC A C := h.trans k
theorem kcK_b {w : World} (W : World) (l : Nat) (o o' : Obj) (_ : w.heap.size ≤ l) (h : W.heap[l]? = some o) (hc : o.isCells = false) (_ : o.isWalk = false) : KC W (W.putObj l o') := KC.putObj W l o o' h hc
theorem next_in (F : Fence) (n : Nat) (hf : F.fn 88) (hro : F.round = none) (c v : Value) (i : Int) (w : World) :
    CallsIn F n Tryz.prog 88 #[.agg #[c, v], .int .i64 i] w fun e w' => e = .returned (.func (.func 122) #[] #[.pointer (some ⟨w.heap.size, 0, none⟩), .pointer (some ⟨w.heap.size + 1, 0, none⟩)]) ∧
      w' = (w.alloc (.cells #[c, v] 24)).alloc (.cells #[.int .i64 i] 3) := by
  refine callsIn_of_wp Tryz.func88 rfl hf ?_ hro
  simp only [Tryz.ntmps88, List.size_toArray, List.length_cons, List.length_nil, Nat.reduceAdd, Nat.reduceSub, Array.replicate_succ, Array.replicate_zero, List.push_toArray, List.append_toArray, List.nil_append, List.cons_append]
  gi_wp2
  go_ret
  exact ⟨rfl, rfl⟩
end Go.Proofs.YtdcafoekbnacnaaGreatDoor

/- Package scheme: told. -/
set_option linter.unusedVariables false
set_option linter.unusedSimpArgs false
namespace Go.Proofs.YtdcafoekbnacnaaGreatDoor
open Go.RowKit Go.Shelf
attribute [local go_sem] Oper.semAt_some

/-- what may be next can be told, by the parts with their indices -/
def okL (after : List UInt8) (L : List (Nat × Prt)) : Prop := ∀ x ∈ L, ¬ (after = [] ∧ x.2.b = []) ∧ ∀ y ∈ L, y.1 ≠ x.1 → ¬ x.2.b <+: y.2.b
theorem okL_iff (after : List UInt8) (m : Nat) (r : List Prt) : okL after (nxI m r) ↔ Told after r := by
  have hinj := nxI_inj m r
  constructor
  · intro h
    refine ⟨?_, ?_⟩
    · rw [← nxI_map m r]
      intro p hp
      obtain ⟨x, hx, rfl⟩ := List.mem_map.1 hp
      exact (h x hx).1
    · rw [← nxI_map m r, List.pairwise_map]
      exact hinj.imp_of_mem fun {x y} hx hy hne => ⟨(h x hx).2 y hy (Ne.symm hne), (h y hy).2 x hx hne⟩
  · rintro ⟨h1, h2⟩ x hx
    rw [← nxI_map m r] at h1 h2
    rw [List.pairwise_map] at h2
    refine ⟨h1 x.2 (List.mem_map.2 ⟨x, hx, rfl⟩), fun y hy hne => ?_⟩
    obtain ⟨i, hi, rfl⟩ := List.getElem_of_mem hx
    obtain ⟨j, hj, rfl⟩ := List.getElem_of_mem hy
    rw [List.pairwise_iff_getElem] at h2
    rcases Nat.lt_trichotomy i j with h | h | h
    · exact (h2 i j hi hj h).1
    · subst h; exact absurd rfl hne
    · exact (h2 j i hj hi h).2
theorem toldB_yes {after : List UInt8} {m : Nat} {r : List Prt} (h : okL after (nxI m r)) : toldB after (nxtL r) = true := (toldB_iff after r).2 ((okL_iff after m r).1 h)
theorem toldB_no {after : List UInt8} {m : Nat} {r : List Prt} (h : ¬ okL after (nxI m r)) : toldB after (nxtL r) = false := by
  rw [← Bool.not_eq_true]
  exact fun e => h ((okL_iff after m r).2 ((toldB_iff after r).1 e))
theorem kc_own {β : Type} (W0 : World) : Own (fun (_ : β) W => KC W0 W) := fun s W W' row h hg hr =>
  ⟨Nat.le_trans h.size hg.size, fun k o hk ho => by
    have h1 := h.same k o hk ho
    refine (hg.block k (Array.getElem?_eq_some_iff.1 h1).1 ?_).trans h1
    intro e
    obtain ⟨o', h2, h3⟩ := hr k e.symm
    rw [h1] at h2; cases h2; rw [ho] at h3; cases h3⟩
theorem blk_own {β : Type} (B : Nat) (t : TypeId) (cs : Array Value) : Own (fun (_ : β) W => Blk W B t cs) := fun s W W' row h hg hr => by
  refine (hg.block B h.lt ?_).trans h
  intro e
  obtain ⟨o', h2, h3⟩ := hr B e.symm
  unfold Blk at h
  rw [h] at h2; cases h2; cases h3
def okX (after : List UInt8) (L : List (Nat × Prt)) (x : Nat × Prt) : Prop := ¬ (after = [] ∧ x.2.b = []) ∧ ∀ y ∈ L, y.1 ≠ x.1 → ¬ x.2.b <+: y.2.b
/-- the world ahead of told's loop -/
def toldW (w : World) (sv : Array Value) (iv av : Value) : World := (((((w.alloc (.cells sv 24)).alloc (.cells #[iv] 3)).alloc (.cells #[.bool false] 4)).alloc (.cells #[av] 9)).alloc (.cells sv 24)).alloc (.cells #[iv] 3)
structure ToldW (w W : World) (sv : Array Value) (iv av : Value) : Prop where
  size : W.heap.size = w.heap.size + 6
  s : Blk W w.heap.size 24 sv
  i : Blk W (w.heap.size + 1) 3 #[iv]
  r : Blk W (w.heap.size + 2) 4 #[.bool false]
  a : Blk W (w.heap.size + 3) 9 #[av]
  s2 : Blk W (w.heap.size + 4) 24 sv
  i2 : Blk W (w.heap.size + 5) 3 #[iv]
  bel : Below w.heap.size w W
theorem told_world (w : World) (sv : Array Value) (iv av : Value) : ToldW w (toldW w sv iv av) sv iv av := by
  unfold toldW
  refine ⟨by simp, ?_, ?_, ?_, ?_, ?_, ?_, ?_⟩
  · exact ((((((Blk.new w _ _).alloc _).alloc _).alloc _).alloc _).alloc _)
  · have := Blk.new (w.alloc (.cells sv 24)) 3 #[iv]
    simp only [World.size_alloc] at this
    exact (((this.alloc _).alloc _).alloc _).alloc _
  · have := Blk.new ((w.alloc (.cells sv 24)).alloc (.cells #[iv] 3)) 4 #[.bool false]
    simp only [World.size_alloc] at this
    exact ((this.alloc _).alloc _).alloc _
  · have := Blk.new (((w.alloc (.cells sv 24)).alloc (.cells #[iv] 3)).alloc (.cells #[.bool false] 4)) 9 #[av]
    simp only [World.size_alloc] at this
    exact (this.alloc _).alloc _
  · have := Blk.new ((((w.alloc (.cells sv 24)).alloc (.cells #[iv] 3)).alloc (.cells #[.bool false] 4)).alloc (.cells #[av] 9)) 24 sv
    simp only [World.size_alloc] at this
    exact this.alloc _
  · have := Blk.new (((((w.alloc (.cells sv 24)).alloc (.cells #[iv] 3)).alloc (.cells #[.bool false] 4)).alloc (.cells #[av] 9)).alloc (.cells sv 24)) 3 #[iv]
    simp only [World.size_alloc] at this
    exact this
  · exact ((((((Below.refl _ w).alloc (Nat.le_refl _) _).alloc (by simp) _).alloc (by simp; omega) _).alloc (by simp; omega) _).alloc (by simp; omega) _).alloc (by simp; omega) _
set_option maxRecDepth 100000 in
set_option maxHeartbeats 4000000 in
theorem told_any (c : List UInt8) (v : Value) (ps : List Prt) (m : Nat) (hm : m ≤ ps.length) (hl0 : ps.length ≤ 8796093022208) (w : World) (hP : PartsAt w v ps) :
    Calls Tryz.prog 53 #[.agg #[.string (bs c), v], .int .i64 ((m : Int) - 1)] w fun e w' => e = .returned (.bool (toldB (afterAt ps m) (nxtL (ps.drop m)))) ∧ Below w.heap.size w w' := by
  obtain ⟨A, cp, rfl, hcp⟩ := hP.slice
  have HP := hide hP
  have hn1 : (1 : Nat) ≤ 10 := by decide
  by_cases h1 : 1 ≤ m
  · have e1 : decide ((1 : Int) ≤ (m : Int)) = true := by simp; omega
    obtain ⟨p0, hp0⟩ : ∃ p, ps[m - 1]? = some p := ⟨_, List.getElem?_eq_getElem (by omega)⟩
    have HA : Hid (afterAt ps m = p0.a) := by show _ = _; obtain ⟨k, rfl⟩ : ∃ k, m = k + 1 := ⟨m - 1, by omega⟩; exact afterAt_succ hp0
    obtain ⟨a, cp', ea, _, hab, c0, c1, c2, c3⟩ := hP.at_ hp0
    injection ea with ea _ ec
    subst ec
    have EA := hide ea
    rw [ea] at hP
    have c2a := KC.cell (((((KC.refl w).trans (KC.alloc _ (.cells #[.string (bs c), .slice (some a) ps.length cp] 24))).trans (KC.alloc _ (.cells #[.int .i64 ((m : Int) - 1)] 3))).trans (KC.alloc _ (.cells #[.bool false] 4))).trans (KC.alloc _ (.cells #[.string ⟨#[120]⟩] 9))) c2
    have HW := hide (told_world w #[.string (bs c), .slice (some a) ps.length cp] (.int .i64 ((m : Int) - 1)) (.string (bs p0.a)))
    clear hP c0 c1 c2 c3 hp0
    subst ea
    refine (callsIn_wide (n := 10)).1 ?_
    refine callsIn_of_wp_marks Tryz.func53 rfl trivial ?_ rfl
    simp only [Tryz.ntmps53, List.size_toArray, List.length_cons, List.length_nil, Nat.reduceAdd, Nat.reduceSub, Array.replicate_succ, Array.replicate_zero, List.push_toArray, List.append_toArray, List.nil_append, List.cons_append]
    gi_wp2_with (refine ⟨trivial, ?_⟩; gi_at_call 88; refine (next_in Fence.wide _ trivial rfl _ _ _ _).mono ?_; rintro e w' ⟨rfl, rfl⟩)
    clear c2a e1
    obtain ⟨A, hA⟩ : ∃ A, some a = A := ⟨_, rfl⟩
    obtain ⟨W0, hW0⟩ : ∃ W0, toldW w #[.string (bs c), .slice (some a) ps.length cp] (.int .i64 ((m : Int) - 1)) (.string (bs p0.a)) = W0 := ⟨_, rfl⟩
    rw [hW0] at HW
    unfold toldW at hW0
    rw [hW0]
    clear hW0
    rw [← HA.out] at HW
    rw [hA] at HW HP
    clear hA
    have HI2 := hide HW.out.i2
    have HPW := hide (HP.out.to HW.out.bel)
    refine wpIn_rangeFunc_ownH (F := Fence.wide) rfl hn1 (gf := 122) (lb := #[.pointer (some ⟨w.heap.size + 1 + 1 + 1 + 1, 0, none⟩), .pointer (some ⟨w.heap.size + 1 + 1 + 1 + 1 + 1, 0, none⟩)]) rfl trivial (enters_of Tryz.func122 (by kernel_rfl) rfl)
      (nx_stops Fence.wide 9 trivial rfl (by decide) (w.heap.size + 1 + 1 + 1 + 1) (w.heap.size + 1 + 1 + 1 + 1 + 1) c (.slice A ps.length cp) ps m hm hl0 W0 HW.out.s2 HI2.out HPW.out) kcK_t kcK_b (Below.refl _ _) (fun _ => rfl)
      (fun pre W => ((∀ x ∈ pre, okX (afterAt ps m) (nxI m (ps.drop m)) x) ∧ KC W0 W) ∧ Below w.heap.size w W)
      (fun e pre W => ((e = .ret ∧ ∃ x ∈ pre, ¬ okX (afterAt ps m) (nxI m (ps.drop m)) x) ∧ Blk W (w.heap.size + 1 + 1) 4 #[.bool false]) ∧ Below w.heap.size w W)
      (OwnFrom.and (OwnFrom.and (ownFrom_pure _ _) (Own.from (kc_own _) _)) (ownFrom_below (Nat.le_refl _) (by have := HW.out.size; omega)))
      (fun e => OwnFrom.and (OwnFrom.and (ownFrom_pure _ _) (Own.from (blk_own _ _ _) _)) (ownFrom_below (Nat.le_refl _) (by have := HW.out.size; omega)))
      ⟨⟨by simp, KC.refl _⟩, HW.out.bel⟩
      (fun x a' W => ∃ (Bk Bp : Nat) (y0 y1 y8 y9 y10 y11 y12 y13 y14 y15 y16 y17 y18 y19 y20 y21 y22 y23 y24 y25 y26 y27 y28 y29 y30 y31 y32 y33 y34 y35 y36 y37 y38 y39 y40 y41 y42 y43 y44 : Value), (Blk W Bk 3 #[.int .i64 (x.1 : Int)] ∧ Blk W Bp 41 (ptC x.2)) ∧ a' = { tmps := #[y0, y1, .pointer (some ⟨w.heap.size, 0, none⟩), .pointer (some ⟨w.heap.size + 1, 0, none⟩), .pointer (some ⟨w.heap.size + 1 + 1, 0, none⟩), .pointer (some ⟨w.heap.size + 1 + 1 + 1, 0, none⟩), .pointer (some ⟨Bk, 0, none⟩), .pointer (some ⟨Bp, 0, none⟩), y8, y9, y10, y11, y12, y13, y14, y15, y16, y17, y18, y19, y20, y21, y22, y23, y24, y25, y26, y27, y28, y29, y30, y31, y32, y33, y34, y35, y36, y37, y38, y39, y40, y41, y42, y43, y44], defers := [] })
      (fun x a' _ X Y row hs hg hr => by
        obtain ⟨Bk, Bp, y0, y1, y8, y9, y10, y11, y12, y13, y14, y15, y16, y17, y18, y19, y20, y21, y22, y23, y24, y25, y26, y27, y28, y29, y30, y31, y32, y33, y34, y35, y36, y37, y38, y39, y40, y41, y42, y43, y44, ⟨h1, h2⟩, rfl⟩ := hs
        exact ⟨Bk, Bp, _, _, _, _, _, _, _, _, _, _, _, _, _, _, _, _, _, _, _, _, _, _, _, _, _, _, _, _, _, _, _, _, _, _, _, _, _, _, _, ⟨blk_own Bk _ _ () X Y row h1 hg (fun r e => (hr r e).2), blk_own Bp _ _ () X Y row h2 hg (fun r e => (hr r e).2)⟩, rfl⟩)
      ?assign ?body ?done ?stop
    case assign =>
      rintro l pre x W K ⟨⟨hp, hkc⟩, hB⟩ hK
      have HHK := hide hK
      have HKC := hide hkc
      have HP1 := hide hp
      have HB1 := hide hB
      clear hK hkc hp hB
      unfold encP ptC
      gi_wp2
      exact HHK.out _ _ (((KeepsOthers.alloc _ _).trans (KeepsOthers.alloc _ _)).from _) ((KC.alloc _ _).trans (KC.alloc _ _)) ⟨⟨HP1.out, HKC.out.trans ((KC.alloc _ _).trans (KC.alloc _ _))⟩, ((HB1.out.alloc HB1.out.size _).alloc (by simp; have := HB1.out.size; omega) _)⟩
        ⟨_, _, _, _, _, _, _, _, _, _, _, _, _, _, _, _, _, _, _, _, _, _, _, _, _, _, _, _, _, _, _, _, _, _, _, _, _, _, _, _, _, ⟨(Blk.new _ _ _).alloc _, by have := Blk.new (W.alloc (.cells #[.int .i64 (x.1 : Int)] 3)) 41 (ptC x.2); rwa [World.size_alloc] at this⟩, rfl⟩
    case body =>
      rintro l pre x a' W hl ⟨r, hr⟩ ⟨⟨hp, hkc⟩, hB⟩ ⟨Bk, Bp, y0, y1, y8, y9, y10, y11, y12, y13, y14, y15, y16, y17, y18, y19, y20, y21, y22, y23, y24, y25, y26, y27, y28, y29, y30, y31, y32, y33, y34, y35, y36, y37, y38, y39, y40, y41, y42, y43, y44, ⟨bK, bP⟩, rfl⟩ hlt
      have HKC := hide hkc
      have HP1 := hide hp
      have HB1 := hide hB
      have HR := hide hr
      have HBK := hide bK
      have HBP := hide bP
      have cA : W.cell? ⟨w.heap.size + 1 + 1 + 1, 0, none⟩ = some (.string (bs (afterAt ps m))) := (HW.out.a.kc hkc).cell 0
      have cP : W.cell? ⟨Bp, 1, none⟩ = some (.string (bs x.2.b)) := bP.cell 1
      have fR : W.frozen? ⟨w.heap.size + 1 + 1, 0, none⟩ = false := (HW.out.r.kc hkc).frozen 0
      have cR : W.cell? ⟨w.heap.size + 1 + 1, 0, none⟩ = some (.bool false) := (HW.out.r.kc hkc).cell 0
      clear hkc hp hB hr bK bP hl
      cases ha : (afterAt ps m).isEmpty && x.2.b.isEmpty with
      | true =>
        obtain ⟨ha1, ha2⟩ := Bool.and_eq_true_iff.1 ha
        have e1 : (bs (afterAt ps m)).toList.isEmpty = true := by rw [bs_toList]; exact ha1
        have e2 : (bs x.2.b).toList.isEmpty = true := by rw [bs_toList]; exact ha2
        have HN : Hid (¬ okX (afterAt ps m) (nxI m (ps.drop m)) x) := fun h => h.1 ⟨List.isEmpty_iff.1 ha1, List.isEmpty_iff.1 ha2⟩
        clear ha ha1 ha2
        gi_wp2
        exact ⟨(KeepsOthers.setCell _ _ _).from _, ⟨⟨rfl, x, List.mem_append.2 (.inr (by simp)), HN.out⟩, ((HW.out.r.kc HKC.out).set_ 0 _)⟩, HB1.out.setCell (p := ⟨w.heap.size + 1 + 1, 0, none⟩) (by simp; omega) _⟩
      | false =>
        have HX : Hid (¬ (afterAt ps m = [] ∧ x.2.b = [])) := by
          show ¬ _
          rintro ⟨g1, g2⟩; rw [g1, g2] at ha; cases ha
        have cS0 : W.cell? ⟨w.heap.size, 0, none⟩ = some (.string (bs c)) := (HW.out.s.kc HKC.out).cell 0
        have cS1 : W.cell? ⟨w.heap.size, 1, none⟩ = some (.slice A ps.length cp) := (HW.out.s.kc HKC.out).cell 1
        have cI0 : W.cell? ⟨w.heap.size + 1, 0, none⟩ = some (.int .i64 ((m : Int) - 1)) := (HW.out.i.kc HKC.out).cell 0
        have hn2 : (1 : Nat) ≤ 10 - 1 - 1 := by decide
        cases ha1 : (afterAt ps m).isEmpty
        all_goals
          have e1 : (bs (afterAt ps m)).toList.isEmpty = (afterAt ps m).isEmpty := by rw [bs_toList]
          rw [ha1] at e1
          have e2 : (bs x.2.b).toList.isEmpty = x.2.b.isEmpty := by rw [bs_toList]
          rw [ha1] at ha
          simp only [Bool.true_and, Bool.false_and] at ha
          have HA2 := hide ha
          try rw [ha] at e2
          clear ha ha1
          gi_wp2_with (refine ⟨trivial, ?_⟩; gi_at_call 88; refine (CallsIn.inRound l (next_in Fence.wide _ trivial rfl _ _ _ _)).mono ?_; rintro e w' ⟨rfl, rfl⟩)
          clear cS0 cS1 cI0 cA e1 e2
          have hI1 : Blk ((W.alloc (.cells #[.string (bs c), .slice A ps.length cp] 24)).alloc (.cells #[.int .i64 ((m : Int) - 1)] 3)) (W.heap.size + 1) 3 #[.int .i64 ((m : Int) - 1)] := by
            have := Blk.new (W.alloc (.cells #[.string (bs c), .slice A ps.length cp] 24)) 3 #[.int .i64 ((m : Int) - 1)]
            rwa [World.size_alloc] at this
          have hlW := (Array.getElem?_eq_some_iff.1 HR.out).1
          have hr' : ((W.alloc (.cells #[.string (bs c), .slice A ps.length cp] 24)).alloc (.cells #[.int .i64 ((m : Int) - 1)] 3)).heap[l]? = some (.loop r) := (Below.heap_alloc _ _ l (by simp; omega)).trans ((Below.heap_alloc W _ l hlW).trans HR.out)
          have hKW : KC W ((W.alloc (.cells #[.string (bs c), .slice A ps.length cp] 24)).alloc (.cells #[.int .i64 ((m : Int) - 1)] 3)) := (KC.alloc _ _).trans (KC.alloc _ _)
          have HKW := hide hKW
          have HI1 := hide hI1
          have HR1 := hide hr'
          clear hKW hI1 hr' hlW
          have HSZ := hide HB1.out.size
          refine wpIn_rangeFunc_ownN (F := Fence.wide.inRound l) (l₀ := l) (r₀ := r) rfl HR1.out hn2 (gf := 122) (lb := #[.pointer (some ⟨W.heap.size, 0, none⟩), .pointer (some ⟨W.heap.size + 1, 0, none⟩)]) rfl trivial (enters_of Tryz.func122 (by kernel_rfl) rfl)
            ((nx_stops Fence.wide 7 trivial rfl (by decide) W.heap.size (W.heap.size + 1) c (.slice A ps.length cp) ps m hm hl0 _ ((Blk.new W _ _).alloc _) HI1.out ((HPW.out.kc HKC.out).kc HKW.out)).inRound l) kcK_t kcK_b (Below.refl _ _) (fun _ => rfl)
            (fun pre' W' => ((∀ y ∈ pre', y.1 ≠ x.1 → ¬ x.2.b <+: y.2.b) ∧ KC W W') ∧ (Below w.heap.size W W' ∧ KeepsFrom W0.heap.size W W'))
            (fun e pre' W' => ((e = .ret ∧ ∃ y ∈ pre', y.1 ≠ x.1 ∧ x.2.b <+: y.2.b) ∧ Blk W' (w.heap.size + 1 + 1) 4 #[.bool false]) ∧ (Below w.heap.size W W' ∧ KeepsFrom W0.heap.size W W'))
            (OwnFrom.and (OwnFrom.and (ownFrom_pure _ _) (Own.from (kc_own _) _)) (OwnFrom.and (ownFrom_below HSZ.out (by have := HSZ.out; simp; omega)) (ownFrom_keepsFrom (by simp; omega))))
            (fun e => OwnFrom.and (OwnFrom.and (ownFrom_pure _ _) (Own.from (blk_own _ _ _) _)) (OwnFrom.and (ownFrom_below HSZ.out (by have := HSZ.out; simp; omega)) (ownFrom_keepsFrom (by simp; omega))))
            ⟨⟨by simp, HKW.out⟩, (((Below.refl _ W).alloc HSZ.out _).alloc (by have := HSZ.out; simp; omega) _), ((KeepsOthers.alloc _ _).trans (KeepsOthers.alloc _ _)).from _⟩
            (fun y a'' W' => ∃ (Bq : Nat) (y0 y1 y10 y11 y12 y13 y14 y15 y16 y17 y18 y19 y20 y21 y22 y23 y24 y25 y26 y27 y28 y29 y30 y31 y32 y33 y34 y35 y36 y37 y38 y39 y40 y41 y42 y43 y44 : Value), Blk W' Bq 41 (ptC y.2) ∧ a'' = { tmps := #[y0, y1, .pointer (some ⟨w.heap.size, 0, none⟩), .pointer (some ⟨w.heap.size + 1, 0, none⟩), .pointer (some ⟨w.heap.size + 1 + 1, 0, none⟩), .pointer (some ⟨w.heap.size + 1 + 1 + 1, 0, none⟩), .pointer (some ⟨Bk, 0, none⟩), .pointer (some ⟨Bp, 0, none⟩), .int .i64 (y.1 : Int), .pointer (some ⟨Bq, 0, none⟩), y10, y11, y12, y13, y14, y15, y16, y17, y18, y19, y20, y21, y22, y23, y24, y25, y26, y27, y28, y29, y30, y31, y32, y33, y34, y35, y36, y37, y38, y39, y40, y41, y42, y43, y44], defers := [] })
            (fun y a'' _ X Y row hs hg hr => by
              obtain ⟨Bq, y0, y1, y10, y11, y12, y13, y14, y15, y16, y17, y18, y19, y20, y21, y22, y23, y24, y25, y26, y27, y28, y29, y30, y31, y32, y33, y34, y35, y36, y37, y38, y39, y40, y41, y42, y43, y44, h1, rfl⟩ := hs
              exact ⟨Bq, _, _, _, _, _, _, _, _, _, _, _, _, _, _, _, _, _, _, _, _, _, _, _, _, _, _, _, _, _, _, _, _, _, _, _, _, _, blk_own Bq _ _ () X Y row h1 hg (fun r e => (hr r e).2), rfl⟩)
            ?assign2 ?body2 ?done2 ?stop2
          case assign2 =>
            rintro l2 pre' y W' K hi hK
            have HHK := hide hK
            have HHI := hide hi
            clear hK hi
            unfold encP ptC
            gi_wp2
            exact HHK.out _ _ ((KeepsOthers.alloc _ _).from _) (KC.alloc _ _) ⟨⟨HHI.out.1.1, HHI.out.1.2.trans (KC.alloc _ _)⟩, HHI.out.2.1.alloc (Nat.le_trans HSZ.out HHI.out.2.1.size) _, HHI.out.2.2.trans ((KeepsOthers.alloc _ _).from _)⟩ ⟨_, _, _, _, _, _, _, _, _, _, _, _, _, _, _, _, _, _, _, _, _, _, _, _, _, _, _, _, _, _, _, _, _, _, _, _, _, _, Blk.new _ _ _, rfl⟩
          case body2 =>
            rintro l2 pre' y a'' W' _ _ ⟨⟨hq, hkc2⟩, hBW, hKF⟩ ⟨Bq, y0, y1, y10, y11, y12, y13, y14, y15, y16, y17, y18, y19, y20, y21, y22, y23, y24, y25, y26, y27, y28, y29, y30, y31, y32, y33, y34, y35, y36, y37, y38, y39, y40, y41, y42, y43, y44, bQ, rfl⟩ _
            have HQ := hide hq
            have HK2 := hide hkc2
            have HBW := hide hBW
            have HKF := hide hKF
            have cK0 : W'.cell? ⟨Bk, 0, none⟩ = some (.int .i64 (x.1 : Int)) := (HBK.out.kc hkc2).cell 0
            have cP1 : W'.cell? ⟨Bp, 1, none⟩ = some (.string (bs x.2.b)) := (HBP.out.kc hkc2).cell 1
            have cQ1 : W'.cell? ⟨Bq, 1, none⟩ = some (.string (bs y.2.b)) := bQ.cell 1
            have fR2 : W'.frozen? ⟨w.heap.size + 1 + 1, 0, none⟩ = false := ((HW.out.r.kc HKC.out).kc hkc2).frozen 0
            have cR2 : W'.cell? ⟨w.heap.size + 1 + 1, 0, none⟩ = some (.bool false) := ((HW.out.r.kc HKC.out).kc hkc2).cell 0
            clear hq hkc2 hBW hKF bQ cP cR fR
            by_cases hxy : y.1 = x.1
            · have e4 : ((y.1 : Int) != (x.1 : Int)) = false := by rw [hxy]; simp
              have HG : Hid (∀ z ∈ pre' ++ [y], z.1 ≠ x.1 → ¬ x.2.b <+: z.2.b) := fun z hz => (List.mem_append.1 hz).elim (HQ.out z) (fun e h => by obtain rfl := List.mem_singleton.1 e; exact absurd hxy h)
              clear hxy
              gi_wp2
              refine ⟨trivial, ?_⟩
              gi_wp2
              exact ⟨KeepsFrom.refl _ _, KC.refl _, ⟨HG.out, HK2.out⟩, HBW.out, HKF.out⟩
            · have e4 : ((y.1 : Int) != (x.1 : Int)) = true := by rw [bne_iff_ne]; omega
              have e5 : Lib.hasPrefix (bs y.2.b).data.toList (bs x.2.b).data.toList = x.2.b.isPrefixOf y.2.b := by rw [bs_list, bs_list]; rfl
              cases hpf : x.2.b.isPrefixOf y.2.b with
              | true =>
                rw [hpf] at e5
                have HG := hide (show x.2.b <+: y.2.b from List.isPrefixOf_iff_prefix.1 hpf)
                have HXY := hide hxy
                clear hpf hxy
                gi_wp2_with (refine ⟨trivial, ?_⟩; gi_at_call 74; refine (CallsIn.inRound l2 (CallsIn.inRound l (callsIn_wide.2 (Tryz.strings_HasPrefix _ _ _)))).mono ?_; rintro e w' ⟨rfl, rfl⟩)
                exact ⟨(KeepsOthers.setCell _ _ _).from _, ⟨⟨rfl, y, List.mem_append.2 (.inr (by simp)), HXY.out, HG.out⟩, (((HW.out.r.kc HKC.out).kc HK2.out).set_ 0 _)⟩, HBW.out.setCell (p := ⟨w.heap.size + 1 + 1, 0, none⟩) (by simp; omega) _, HKF.out.trans ((KeepsOthers.setCell _ _ _).from _)⟩
              | false =>
                rw [hpf] at e5
                have HG : Hid (∀ z ∈ pre' ++ [y], z.1 ≠ x.1 → ¬ x.2.b <+: z.2.b) := fun z hz => (List.mem_append.1 hz).elim (HQ.out z) (fun e _ h => by obtain rfl := List.mem_singleton.1 e; rw [List.isPrefixOf_iff_prefix.2 h] at hpf; cases hpf)
                clear hpf hxy
                gi_wp2_with (refine ⟨trivial, ?_⟩; gi_at_call 74; refine (CallsIn.inRound l2 (CallsIn.inRound l (callsIn_wide.2 (Tryz.strings_HasPrefix _ _ _)))).mono ?_; rintro e w' ⟨rfl, rfl⟩)
                exact ⟨KeepsFrom.refl _ _, KC.refl _, ⟨HG.out, HK2.out⟩, HBW.out, HKF.out⟩
          case done2 =>
            rintro ys' W' rfl ⟨⟨hq, hkc2⟩, hBW, hKF⟩
            have HQ := hide hq
            have HK2 := hide hkc2
            have HBW := hide hBW
            have HKF := hide hKF
            clear hq hkc2 hBW hKF
            gi_wp2
            exact ⟨HKF.out, HK2.out, ⟨fun z hz => (List.mem_append.1 hz).elim (HP1.out z) (fun e => by obtain rfl := List.mem_singleton.1 e; exact ⟨HX.out, HQ.out⟩), HKC.out.trans HK2.out⟩, HB1.out.trans HBW.out⟩
          case stop2 =>
            rintro e pre' W' hpre ⟨⟨⟨rfl, y, hy, g1, g2⟩, bR⟩, hBW, hKF⟩
            have HF := hide (show ¬ okX (afterAt ps m) (nxI m (ps.drop m)) x from fun h => h.2 y (hpre.subset hy) g1 g2)
            have HBR := hide bR
            have HBW := hide hBW
            have HKF := hide hKF
            clear hpre hy g1 g2 bR hBW hKF
            gi_wp2
            exact ⟨HKF.out, ⟨⟨rfl, x, List.mem_append.2 (.inr (by simp)), HF.out⟩, HBR.out⟩, HB1.out.trans HBW.out⟩
    case done =>
      rintro D zs W hD rfl ⟨⟨hp, hkc⟩, hB⟩ hK
      have HT := hide (show toldB (afterAt ps m) (nxtL (ps.drop m)) = true from toldB_yes hp)
      have bR := HW.out.r.kc hkc
      have cR : W.cell? ⟨w.heap.size + 1 + 1, 0, none⟩ = some (.bool false) := bR.cell 0
      have fR : W.frozen? ⟨w.heap.size + 1 + 1, 0, none⟩ = false := bR.frozen 0
      have HBR := hide bR
      have HB1 := hide hB
      have HHK := hide hK
      clear hp hkc hB hK bR
      gi_wp2
      have hK' := (KeepsOthers.setCell W ⟨w.heap.size + 1 + 1, 0, none⟩ (.bool true)).same D _ HHK.out rfl
      refine ⟨by simp, .inl ⟨_, _, rfl, run_takeDeferred hK', ?_⟩⟩
      have hc5 := cell_kept (a := ⟨w.heap.size + 1 + 1, 0, none⟩) ((HBR.out.set_ 0 (.bool true)).cell 0) (grownBy_putObj' _ D (.deferred none)) (fun r e => by cases e; exact ⟨_, hK', rfl⟩)
      have hc6 : _ = some (Value.bool true) := hc5
      refine ⟨.bool true, ?_, by rw [HT.out], (HB1.out.setCell (p := ⟨w.heap.size + 1 + 1, 0, none⟩) (by simp; omega) _).trans (belowK_b (w := w) (Nat.le_refl _) _ D _ _ (by have := HW.out.size; omega) hK' rfl rfl)⟩
      simp [results, Tryz.f53, go_sem, hc6]
    case stop =>
      rintro D e pre W hD hpre ⟨⟨⟨rfl, x, hx, hn⟩, bR⟩, hB⟩ hK
      have HT := hide (show toldB (afterAt ps m) (nxtL (ps.drop m)) = false from toldB_no fun h => hn (h x (hpre.subset hx)))
      have HBR := hide bR
      have HB1 := hide hB
      have HHK := hide hK
      clear hpre hx hn bR hB hK
      gi_wp2
      refine ⟨by simp, .inl ⟨_, _, rfl, run_takeDeferred HHK.out, ?_⟩⟩
      have hc5 := cell_kept (a := ⟨w.heap.size + 1 + 1, 0, none⟩) (HBR.out.cell 0) (grownBy_putObj' _ D (.deferred none)) (fun r e => by cases e; exact ⟨_, HHK.out, rfl⟩)
      have hc6 : _ = some (Value.bool false) := hc5
      refine ⟨.bool false, ?_, by rw [HT.out], HB1.out.trans (belowK_b (w := w) (Nat.le_refl _) W D _ _ (by have := HW.out.size; omega) HHK.out rfl rfl)⟩
      simp [results, Tryz.f53, go_sem, hc6]
  · obtain rfl : m = 0 := by omega
    have HW := hide (told_world w #[.string (bs c), .slice A ps.length cp] (.int .i64 (-1)) (.string (bs [120])))
    clear hP
    refine (callsIn_wide (n := 10)).1 ?_
    refine callsIn_of_wp_marks Tryz.func53 rfl trivial ?_ rfl
    simp only [Tryz.ntmps53, List.size_toArray, List.length_cons, List.length_nil, Nat.reduceAdd, Nat.reduceSub, Array.replicate_succ, Array.replicate_zero, List.push_toArray, List.append_toArray, List.nil_append, List.cons_append]
    gi_wp2_with (refine ⟨trivial, ?_⟩; gi_at_call 88; refine (next_in Fence.wide _ trivial rfl _ _ _ _).mono ?_; rintro e w' ⟨rfl, rfl⟩)
    obtain ⟨W0, hW0⟩ : ∃ W0, toldW w #[.string (bs c), .slice A ps.length cp] (.int .i64 (-1)) (.string (bs [120])) = W0 := ⟨_, rfl⟩
    rw [hW0] at HW
    unfold toldW at hW0
    rw [show bs [120] = ⟨#[120]⟩ from rfl] at hW0
    rw [hW0]
    clear hW0
    have HI2 : Hid (Blk W0 (w.heap.size + 5) 3 #[.int .i64 (((0 : Nat) : Int) - 1)]) := HW.out.i2
    have HPW := hide (HP.out.to HW.out.bel)
    have HA : Hid ([120] = afterAt ps 0) := rfl
    rw [HA.out] at HW
    clear h1
    refine wpIn_rangeFunc_ownH (F := Fence.wide) rfl hn1 (gf := 122) (lb := #[.pointer (some ⟨w.heap.size + 1 + 1 + 1 + 1, 0, none⟩), .pointer (some ⟨w.heap.size + 1 + 1 + 1 + 1 + 1, 0, none⟩)]) rfl trivial (enters_of Tryz.func122 (by kernel_rfl) rfl)
      (nx_stops Fence.wide 9 trivial rfl (by decide) (w.heap.size + 1 + 1 + 1 + 1) (w.heap.size + 1 + 1 + 1 + 1 + 1) c (.slice A ps.length cp) ps 0 hm hl0 W0 HW.out.s2 HI2.out HPW.out) kcK_t kcK_b (Below.refl _ _) (fun _ => rfl)
      (fun pre W => ((∀ x ∈ pre, okX (afterAt ps 0) (nxI 0 (ps.drop 0)) x) ∧ KC W0 W) ∧ Below w.heap.size w W)
      (fun e pre W => ((e = .ret ∧ ∃ x ∈ pre, ¬ okX (afterAt ps 0) (nxI 0 (ps.drop 0)) x) ∧ Blk W (w.heap.size + 1 + 1) 4 #[.bool false]) ∧ Below w.heap.size w W)
      (OwnFrom.and (OwnFrom.and (ownFrom_pure _ _) (Own.from (kc_own _) _)) (ownFrom_below (Nat.le_refl _) (by have := HW.out.size; omega)))
      (fun e => OwnFrom.and (OwnFrom.and (ownFrom_pure _ _) (Own.from (blk_own _ _ _) _)) (ownFrom_below (Nat.le_refl _) (by have := HW.out.size; omega)))
      ⟨⟨by simp, KC.refl _⟩, HW.out.bel⟩
      (fun x a' W => ∃ (Bk Bp : Nat) (y0 y1 y8 y9 y10 y11 y12 y13 y14 y15 y16 y17 y18 y19 y20 y21 y22 y23 y24 y25 y26 y27 y28 y29 y30 y31 y32 y33 y34 y35 y36 y37 y38 y39 y40 y41 y42 y43 y44 : Value), (Blk W Bk 3 #[.int .i64 (x.1 : Int)] ∧ Blk W Bp 41 (ptC x.2)) ∧ a' = { tmps := #[y0, y1, .pointer (some ⟨w.heap.size, 0, none⟩), .pointer (some ⟨w.heap.size + 1, 0, none⟩), .pointer (some ⟨w.heap.size + 1 + 1, 0, none⟩), .pointer (some ⟨w.heap.size + 1 + 1 + 1, 0, none⟩), .pointer (some ⟨Bk, 0, none⟩), .pointer (some ⟨Bp, 0, none⟩), y8, y9, y10, y11, y12, y13, y14, y15, y16, y17, y18, y19, y20, y21, y22, y23, y24, y25, y26, y27, y28, y29, y30, y31, y32, y33, y34, y35, y36, y37, y38, y39, y40, y41, y42, y43, y44], defers := [] })
      (fun x a' _ X Y row hs hg hr => by
        obtain ⟨Bk, Bp, y0, y1, y8, y9, y10, y11, y12, y13, y14, y15, y16, y17, y18, y19, y20, y21, y22, y23, y24, y25, y26, y27, y28, y29, y30, y31, y32, y33, y34, y35, y36, y37, y38, y39, y40, y41, y42, y43, y44, ⟨h1, h2⟩, rfl⟩ := hs
        exact ⟨Bk, Bp, _, _, _, _, _, _, _, _, _, _, _, _, _, _, _, _, _, _, _, _, _, _, _, _, _, _, _, _, _, _, _, _, _, _, _, _, _, _, _, ⟨blk_own Bk _ _ () X Y row h1 hg (fun r e => (hr r e).2), blk_own Bp _ _ () X Y row h2 hg (fun r e => (hr r e).2)⟩, rfl⟩)
      ?assign ?body ?done ?stop
    case assign =>
      rintro l pre x W K ⟨⟨hp, hkc⟩, hB⟩ hK
      have HHK := hide hK
      have HKC := hide hkc
      have HP1 := hide hp
      have HB1 := hide hB
      clear hK hkc hp hB
      unfold encP ptC
      gi_wp2
      exact HHK.out _ _ (((KeepsOthers.alloc _ _).trans (KeepsOthers.alloc _ _)).from _) ((KC.alloc _ _).trans (KC.alloc _ _)) ⟨⟨HP1.out, HKC.out.trans ((KC.alloc _ _).trans (KC.alloc _ _))⟩, ((HB1.out.alloc HB1.out.size _).alloc (by simp; have := HB1.out.size; omega) _)⟩
        ⟨_, _, _, _, _, _, _, _, _, _, _, _, _, _, _, _, _, _, _, _, _, _, _, _, _, _, _, _, _, _, _, _, _, _, _, _, _, _, _, _, _, ⟨(Blk.new _ _ _).alloc _, by have := Blk.new (W.alloc (.cells #[.int .i64 (x.1 : Int)] 3)) 41 (ptC x.2); rwa [World.size_alloc] at this⟩, rfl⟩
    case body =>
      rintro l pre x a' W hl ⟨r, hr⟩ ⟨⟨hp, hkc⟩, hB⟩ ⟨Bk, Bp, y0, y1, y8, y9, y10, y11, y12, y13, y14, y15, y16, y17, y18, y19, y20, y21, y22, y23, y24, y25, y26, y27, y28, y29, y30, y31, y32, y33, y34, y35, y36, y37, y38, y39, y40, y41, y42, y43, y44, ⟨bK, bP⟩, rfl⟩ hlt
      have HKC := hide hkc
      have HP1 := hide hp
      have HB1 := hide hB
      have HR := hide hr
      have HBK := hide bK
      have HBP := hide bP
      have cA : W.cell? ⟨w.heap.size + 1 + 1 + 1, 0, none⟩ = some (.string (bs (afterAt ps 0))) := (HW.out.a.kc hkc).cell 0
      have cP : W.cell? ⟨Bp, 1, none⟩ = some (.string (bs x.2.b)) := bP.cell 1
      have fR : W.frozen? ⟨w.heap.size + 1 + 1, 0, none⟩ = false := (HW.out.r.kc hkc).frozen 0
      have cR : W.cell? ⟨w.heap.size + 1 + 1, 0, none⟩ = some (.bool false) := (HW.out.r.kc hkc).cell 0
      clear hkc hp hB hr bK bP hl
      cases ha : (afterAt ps 0).isEmpty && x.2.b.isEmpty with
      | true =>
        obtain ⟨ha1, ha2⟩ := Bool.and_eq_true_iff.1 ha
        have e1 : (bs (afterAt ps 0)).toList.isEmpty = true := by rw [bs_toList]; exact ha1
        have e2 : (bs x.2.b).toList.isEmpty = true := by rw [bs_toList]; exact ha2
        have HN : Hid (¬ okX (afterAt ps 0) (nxI 0 (ps.drop 0)) x) := fun h => h.1 ⟨List.isEmpty_iff.1 ha1, List.isEmpty_iff.1 ha2⟩
        clear ha ha1 ha2
        gi_wp2
        exact ⟨(KeepsOthers.setCell _ _ _).from _, ⟨⟨rfl, x, List.mem_append.2 (.inr (by simp)), HN.out⟩, ((HW.out.r.kc HKC.out).set_ 0 _)⟩, HB1.out.setCell (p := ⟨w.heap.size + 1 + 1, 0, none⟩) (by simp; omega) _⟩
      | false =>
        have HX : Hid (¬ (afterAt ps 0 = [] ∧ x.2.b = [])) := by
          show ¬ _
          rintro ⟨g1, g2⟩; rw [g1, g2] at ha; cases ha
        have cS0 : W.cell? ⟨w.heap.size, 0, none⟩ = some (.string (bs c)) := (HW.out.s.kc HKC.out).cell 0
        have cS1 : W.cell? ⟨w.heap.size, 1, none⟩ = some (.slice A ps.length cp) := (HW.out.s.kc HKC.out).cell 1
        have cI0 : W.cell? ⟨w.heap.size + 1, 0, none⟩ = some (.int .i64 (-1)) := (HW.out.i.kc HKC.out).cell 0
        have hn2 : (1 : Nat) ≤ 10 - 1 - 1 := by decide
        cases ha1 : (afterAt ps 0).isEmpty
        all_goals
          have e1 : (bs (afterAt ps 0)).toList.isEmpty = (afterAt ps 0).isEmpty := by rw [bs_toList]
          rw [ha1] at e1
          have e2 : (bs x.2.b).toList.isEmpty = x.2.b.isEmpty := by rw [bs_toList]
          rw [ha1] at ha
          simp only [Bool.true_and, Bool.false_and] at ha
          have HA2 := hide ha
          try rw [ha] at e2
          clear ha ha1
          gi_wp2_with (refine ⟨trivial, ?_⟩; gi_at_call 88; refine (CallsIn.inRound l (next_in Fence.wide _ trivial rfl _ _ _ _)).mono ?_; rintro e w' ⟨rfl, rfl⟩)
          clear cS0 cS1 cI0 cA e1 e2
          have hI1 : Blk ((W.alloc (.cells #[.string (bs c), .slice A ps.length cp] 24)).alloc (.cells #[.int .i64 (-1)] 3)) (W.heap.size + 1) 3 #[.int .i64 (((0 : Nat) : Int) - 1)] := by
            have := Blk.new (W.alloc (.cells #[.string (bs c), .slice A ps.length cp] 24)) 3 #[.int .i64 (-1)]
            rwa [World.size_alloc] at this
          have hlW := (Array.getElem?_eq_some_iff.1 HR.out).1
          have hr' : ((W.alloc (.cells #[.string (bs c), .slice A ps.length cp] 24)).alloc (.cells #[.int .i64 (-1)] 3)).heap[l]? = some (.loop r) := (Below.heap_alloc _ _ l (by simp; omega)).trans ((Below.heap_alloc W _ l hlW).trans HR.out)
          have hKW : KC W ((W.alloc (.cells #[.string (bs c), .slice A ps.length cp] 24)).alloc (.cells #[.int .i64 (-1)] 3)) := (KC.alloc _ _).trans (KC.alloc _ _)
          have HKW := hide hKW
          have HI1 := hide hI1
          have HR1 := hide hr'
          clear hKW hI1 hr' hlW
          have HSZ := hide HB1.out.size
          refine wpIn_rangeFunc_ownN (F := Fence.wide.inRound l) (l₀ := l) (r₀ := r) rfl HR1.out hn2 (gf := 122) (lb := #[.pointer (some ⟨W.heap.size, 0, none⟩), .pointer (some ⟨W.heap.size + 1, 0, none⟩)]) rfl trivial (enters_of Tryz.func122 (by kernel_rfl) rfl)
            ((nx_stops Fence.wide 7 trivial rfl (by decide) W.heap.size (W.heap.size + 1) c (.slice A ps.length cp) ps 0 hm hl0 _ ((Blk.new W _ _).alloc _) HI1.out ((HPW.out.kc HKC.out).kc HKW.out)).inRound l) kcK_t kcK_b (Below.refl _ _) (fun _ => rfl)
            (fun pre' W' => ((∀ y ∈ pre', y.1 ≠ x.1 → ¬ x.2.b <+: y.2.b) ∧ KC W W') ∧ (Below w.heap.size W W' ∧ KeepsFrom W0.heap.size W W'))
            (fun e pre' W' => ((e = .ret ∧ ∃ y ∈ pre', y.1 ≠ x.1 ∧ x.2.b <+: y.2.b) ∧ Blk W' (w.heap.size + 1 + 1) 4 #[.bool false]) ∧ (Below w.heap.size W W' ∧ KeepsFrom W0.heap.size W W'))
            (OwnFrom.and (OwnFrom.and (ownFrom_pure _ _) (Own.from (kc_own _) _)) (OwnFrom.and (ownFrom_below HSZ.out (by have := HSZ.out; simp; omega)) (ownFrom_keepsFrom (by simp; omega))))
            (fun e => OwnFrom.and (OwnFrom.and (ownFrom_pure _ _) (Own.from (blk_own _ _ _) _)) (OwnFrom.and (ownFrom_below HSZ.out (by have := HSZ.out; simp; omega)) (ownFrom_keepsFrom (by simp; omega))))
            ⟨⟨by simp, HKW.out⟩, (((Below.refl _ W).alloc HSZ.out _).alloc (by have := HSZ.out; simp; omega) _), ((KeepsOthers.alloc _ _).trans (KeepsOthers.alloc _ _)).from _⟩
            (fun y a'' W' => ∃ (Bq : Nat) (y0 y1 y10 y11 y12 y13 y14 y15 y16 y17 y18 y19 y20 y21 y22 y23 y24 y25 y26 y27 y28 y29 y30 y31 y32 y33 y34 y35 y36 y37 y38 y39 y40 y41 y42 y43 y44 : Value), Blk W' Bq 41 (ptC y.2) ∧ a'' = { tmps := #[y0, y1, .pointer (some ⟨w.heap.size, 0, none⟩), .pointer (some ⟨w.heap.size + 1, 0, none⟩), .pointer (some ⟨w.heap.size + 1 + 1, 0, none⟩), .pointer (some ⟨w.heap.size + 1 + 1 + 1, 0, none⟩), .pointer (some ⟨Bk, 0, none⟩), .pointer (some ⟨Bp, 0, none⟩), .int .i64 (y.1 : Int), .pointer (some ⟨Bq, 0, none⟩), y10, y11, y12, y13, y14, y15, y16, y17, y18, y19, y20, y21, y22, y23, y24, y25, y26, y27, y28, y29, y30, y31, y32, y33, y34, y35, y36, y37, y38, y39, y40, y41, y42, y43, y44], defers := [] })
            (fun y a'' _ X Y row hs hg hr => by
              obtain ⟨Bq, y0, y1, y10, y11, y12, y13, y14, y15, y16, y17, y18, y19, y20, y21, y22, y23, y24, y25, y26, y27, y28, y29, y30, y31, y32, y33, y34, y35, y36, y37, y38, y39, y40, y41, y42, y43, y44, h1, rfl⟩ := hs
              exact ⟨Bq, _, _, _, _, _, _, _, _, _, _, _, _, _, _, _, _, _, _, _, _, _, _, _, _, _, _, _, _, _, _, _, _, _, _, _, _, _, blk_own Bq _ _ () X Y row h1 hg (fun r e => (hr r e).2), rfl⟩)
            ?assign2 ?body2 ?done2 ?stop2
          case assign2 =>
            rintro l2 pre' y W' K hi hK
            have HHK := hide hK
            have HHI := hide hi
            clear hK hi
            unfold encP ptC
            gi_wp2
            exact HHK.out _ _ ((KeepsOthers.alloc _ _).from _) (KC.alloc _ _) ⟨⟨HHI.out.1.1, HHI.out.1.2.trans (KC.alloc _ _)⟩, HHI.out.2.1.alloc (Nat.le_trans HSZ.out HHI.out.2.1.size) _, HHI.out.2.2.trans ((KeepsOthers.alloc _ _).from _)⟩ ⟨_, _, _, _, _, _, _, _, _, _, _, _, _, _, _, _, _, _, _, _, _, _, _, _, _, _, _, _, _, _, _, _, _, _, _, _, _, _, Blk.new _ _ _, rfl⟩
          case body2 =>
            rintro l2 pre' y a'' W' _ _ ⟨⟨hq, hkc2⟩, hBW, hKF⟩ ⟨Bq, y0, y1, y10, y11, y12, y13, y14, y15, y16, y17, y18, y19, y20, y21, y22, y23, y24, y25, y26, y27, y28, y29, y30, y31, y32, y33, y34, y35, y36, y37, y38, y39, y40, y41, y42, y43, y44, bQ, rfl⟩ _
            have HQ := hide hq
            have HK2 := hide hkc2
            have HBW := hide hBW
            have HKF := hide hKF
            have cK0 : W'.cell? ⟨Bk, 0, none⟩ = some (.int .i64 (x.1 : Int)) := (HBK.out.kc hkc2).cell 0
            have cP1 : W'.cell? ⟨Bp, 1, none⟩ = some (.string (bs x.2.b)) := (HBP.out.kc hkc2).cell 1
            have cQ1 : W'.cell? ⟨Bq, 1, none⟩ = some (.string (bs y.2.b)) := bQ.cell 1
            have fR2 : W'.frozen? ⟨w.heap.size + 1 + 1, 0, none⟩ = false := ((HW.out.r.kc HKC.out).kc hkc2).frozen 0
            have cR2 : W'.cell? ⟨w.heap.size + 1 + 1, 0, none⟩ = some (.bool false) := ((HW.out.r.kc HKC.out).kc hkc2).cell 0
            clear hq hkc2 hBW hKF bQ cP cR fR
            by_cases hxy : y.1 = x.1
            · have e4 : ((y.1 : Int) != (x.1 : Int)) = false := by rw [hxy]; simp
              have HG : Hid (∀ z ∈ pre' ++ [y], z.1 ≠ x.1 → ¬ x.2.b <+: z.2.b) := fun z hz => (List.mem_append.1 hz).elim (HQ.out z) (fun e h => by obtain rfl := List.mem_singleton.1 e; exact absurd hxy h)
              clear hxy
              gi_wp2
              refine ⟨trivial, ?_⟩
              gi_wp2
              exact ⟨KeepsFrom.refl _ _, KC.refl _, ⟨HG.out, HK2.out⟩, HBW.out, HKF.out⟩
            · have e4 : ((y.1 : Int) != (x.1 : Int)) = true := by rw [bne_iff_ne]; omega
              have e5 : Lib.hasPrefix (bs y.2.b).data.toList (bs x.2.b).data.toList = x.2.b.isPrefixOf y.2.b := by rw [bs_list, bs_list]; rfl
              cases hpf : x.2.b.isPrefixOf y.2.b with
              | true =>
                rw [hpf] at e5
                have HG := hide (show x.2.b <+: y.2.b from List.isPrefixOf_iff_prefix.1 hpf)
                have HXY := hide hxy
                clear hpf hxy
                gi_wp2_with (refine ⟨trivial, ?_⟩; gi_at_call 74; refine (CallsIn.inRound l2 (CallsIn.inRound l (callsIn_wide.2 (Tryz.strings_HasPrefix _ _ _)))).mono ?_; rintro e w' ⟨rfl, rfl⟩)
                exact ⟨(KeepsOthers.setCell _ _ _).from _, ⟨⟨rfl, y, List.mem_append.2 (.inr (by simp)), HXY.out, HG.out⟩, (((HW.out.r.kc HKC.out).kc HK2.out).set_ 0 _)⟩, HBW.out.setCell (p := ⟨w.heap.size + 1 + 1, 0, none⟩) (by simp; omega) _, HKF.out.trans ((KeepsOthers.setCell _ _ _).from _)⟩
              | false =>
                rw [hpf] at e5
                have HG : Hid (∀ z ∈ pre' ++ [y], z.1 ≠ x.1 → ¬ x.2.b <+: z.2.b) := fun z hz => (List.mem_append.1 hz).elim (HQ.out z) (fun e _ h => by obtain rfl := List.mem_singleton.1 e; rw [List.isPrefixOf_iff_prefix.2 h] at hpf; cases hpf)
                clear hpf hxy
                gi_wp2_with (refine ⟨trivial, ?_⟩; gi_at_call 74; refine (CallsIn.inRound l2 (CallsIn.inRound l (callsIn_wide.2 (Tryz.strings_HasPrefix _ _ _)))).mono ?_; rintro e w' ⟨rfl, rfl⟩)
                exact ⟨KeepsFrom.refl _ _, KC.refl _, ⟨HG.out, HK2.out⟩, HBW.out, HKF.out⟩
          case done2 =>
            rintro ys' W' rfl ⟨⟨hq, hkc2⟩, hBW, hKF⟩
            have HQ := hide hq
            have HK2 := hide hkc2
            have HBW := hide hBW
            have HKF := hide hKF
            clear hq hkc2 hBW hKF
            gi_wp2
            exact ⟨HKF.out, HK2.out, ⟨fun z hz => (List.mem_append.1 hz).elim (HP1.out z) (fun e => by obtain rfl := List.mem_singleton.1 e; exact ⟨HX.out, HQ.out⟩), HKC.out.trans HK2.out⟩, HB1.out.trans HBW.out⟩
          case stop2 =>
            rintro e pre' W' hpre ⟨⟨⟨rfl, y, hy, g1, g2⟩, bR⟩, hBW, hKF⟩
            have HF := hide (show ¬ okX (afterAt ps 0) (nxI 0 (ps.drop 0)) x from fun h => h.2 y (hpre.subset hy) g1 g2)
            have HBR := hide bR
            have HBW := hide hBW
            have HKF := hide hKF
            clear hpre hy g1 g2 bR hBW hKF
            gi_wp2
            exact ⟨HKF.out, ⟨⟨rfl, x, List.mem_append.2 (.inr (by simp)), HF.out⟩, HBR.out⟩, HB1.out.trans HBW.out⟩
    case done =>
      rintro D zs W hD rfl ⟨⟨hp, hkc⟩, hB⟩ hK
      have HT := hide (show toldB (afterAt ps 0) (nxtL (ps.drop 0)) = true from toldB_yes hp)
      have bR := HW.out.r.kc hkc
      have cR : W.cell? ⟨w.heap.size + 1 + 1, 0, none⟩ = some (.bool false) := bR.cell 0
      have fR : W.frozen? ⟨w.heap.size + 1 + 1, 0, none⟩ = false := bR.frozen 0
      have HBR := hide bR
      have HB1 := hide hB
      have HHK := hide hK
      clear hp hkc hB hK bR
      gi_wp2
      have hK' := (KeepsOthers.setCell W ⟨w.heap.size + 1 + 1, 0, none⟩ (.bool true)).same D _ HHK.out rfl
      refine ⟨by simp, .inl ⟨_, _, rfl, run_takeDeferred hK', ?_⟩⟩
      have hc5 := cell_kept (a := ⟨w.heap.size + 1 + 1, 0, none⟩) ((HBR.out.set_ 0 (.bool true)).cell 0) (grownBy_putObj' _ D (.deferred none)) (fun r e => by cases e; exact ⟨_, hK', rfl⟩)
      have hc6 : _ = some (Value.bool true) := hc5
      refine ⟨.bool true, ?_, by rw [HT.out], (HB1.out.setCell (p := ⟨w.heap.size + 1 + 1, 0, none⟩) (by simp; omega) _).trans (belowK_b (w := w) (Nat.le_refl _) _ D _ _ (by have := HW.out.size; omega) hK' rfl rfl)⟩
      simp [results, Tryz.f53, go_sem, hc6]
    case stop =>
      rintro D e pre W hD hpre ⟨⟨⟨rfl, x, hx, hn⟩, bR⟩, hB⟩ hK
      have HT := hide (show toldB (afterAt ps 0) (nxtL (ps.drop 0)) = false from toldB_no fun h => hn (h x (hpre.subset hx)))
      have HBR := hide bR
      have HB1 := hide hB
      have HHK := hide hK
      clear hpre hx hn bR hB hK
      gi_wp2
      refine ⟨by simp, .inl ⟨_, _, rfl, run_takeDeferred HHK.out, ?_⟩⟩
      have hc5 := cell_kept (a := ⟨w.heap.size + 1 + 1, 0, none⟩) (HBR.out.cell 0) (grownBy_putObj' _ D (.deferred none)) (fun r e => by cases e; exact ⟨_, HHK.out, rfl⟩)
      have hc6 : _ = some (Value.bool false) := hc5
      refine ⟨.bool false, ?_, by rw [HT.out], HB1.out.trans (belowK_b (w := w) (Nat.le_refl _) W D _ _ (by have := HW.out.size; omega) HHK.out rfl rfl)⟩
      simp [results, Tryz.f53, go_sem, hc6]
end Go.Proofs.YtdcafoekbnacnaaGreatDoor

/- Package scheme: Valid. -/
set_option linter.unusedVariables false
set_option linter.unusedSimpArgs false
namespace Go.Proofs.YtdcafoekbnacnaaGreatDoor
open Go.RowKit Go.Shelf

/-- the kinds that have been seen, as an array of nine -/
def seenC (l : List Int) : Array Value := ((List.range 9).map fun (j : Nat) => Value.bool (l.contains (Int.ofNat j))).toArray
theorem seenC_at (l : List Int) {j : Nat} (h : j < 9) : (seenC l)[j]? = some (.bool (l.contains (j : Int))) := by
  unfold seenC
  rw [List.getElem?_toArray, List.getElem?_map, List.getElem?_range h]; rfl
theorem seenC_size (l : List Int) : (seenC l).size = 9 := by simp [seenC]
theorem seenC_set (l : List Int) {j : Nat} (h : j < 9) : (seenC l).setIfInBounds j (.bool true) = seenC ((j : Int) :: l) := by
  apply Array.ext_getElem?
  intro i
  rcases Nat.lt_or_ge i 9 with hi | hi
  · rw [Array.getElem?_setIfInBounds, seenC_at _ hi, seenC_at _ hi, seenC_size]
    by_cases e : j = i
    · subst e; rw [if_pos rfl, if_pos h]; simp
    · rw [if_neg e]
      have : ((j : Int) :: l).contains (i : Int) = l.contains (i : Int) := by
        rw [List.contains_cons, beq_eq_false_iff_ne.2 (by omega : (i : Int) ≠ (j : Int)), Bool.false_or]
      rw [this]
  · rw [Array.getElem?_eq_none (by rw [Array.size_setIfInBounds, seenC_size]; exact hi), Array.getElem?_eq_none (by rw [seenC_size]; exact hi)]
def seenK (ps : List Prt) (k : Nat) : List Int := ((ps.take k).map Prt.k).reverse
theorem seenK_succ {ps : List Prt} {k : Nat} {p : Prt} (h : ps[k]? = some p) : seenK ps (k + 1) = p.k :: seenK ps k := by
  unfold seenK
  rw [List.take_add_one, h]; simp
/-- the first loop of Valid -/
structure VLp (w : World) (sv : Array Value) (ps : List Prt) (k : Nat) (wr : World) : Prop where
  s : Blk wr w.heap.size 24 sv
  seen : Blk wr (w.heap.size + 1) 83 (seenC (seenK ps k))
  bel : Below w.heap.size w wr
  pb : partsB [] ps = partsB (seenK ps k) (ps.drop k)
theorem VLp.to {w : World} {sv : Array Value} {ps : List Prt} {k : Nat} {wr w' : World} (h : VLp w sv ps k wr) (hb : Below wr.heap.size wr w') : VLp w sv ps k w' := ⟨h.s.to hb, h.seen.to hb, below_to h.bel (Nat.le_refl _) hb, h.pb⟩
theorem validB_parts {c : List UInt8} {ps : List Prt} (h : partsB [] ps = false) : validB isNm ⟨c, ps⟩ = false := by unfold validB; rw [h]; rfl
set_option maxRecDepth 100000 in
set_option maxHeartbeats 4000000 in
theorem SValid_any (s : Sch) (hl0 : s.ps.length ≤ 8796093022208) (hc0 : s.c.length ≤ 140737488355328) (v : Value) (w : World) (hP : PartsAt w v s.ps) :
    Calls Tryz.prog 22 #[.agg #[.string (bs s.c), v]] w fun e w' => e = .returned (.bool (validB isNm s)) ∧ Below w.heap.size w w' := by
  obtain ⟨c, ps⟩ := s
  dsimp only at hl0 hc0 hP
  obtain ⟨A, cp, rfl, hcp⟩ := hP.slice
  have HP := hide hP
  have H0 : Hid (VLp w #[.string (bs c), .slice A ps.length cp] ps 0 ((w.alloc (.cells #[.string (bs c), .slice A ps.length cp] 24)).alloc (.cells (seenC []) 83))) := by
    refine ⟨(Blk.new w _ _).alloc _, ?_, below_two w _ _, rfl⟩
    have := Blk.new (w.alloc (.cells #[.string (bs c), .slice A ps.length cp] 24)) 83 (seenC [])
    rwa [World.size_alloc] at this
  rw [show seenC [] = #[.bool false, .bool false, .bool false, .bool false, .bool false, .bool false, .bool false, .bool false, .bool false] from rfl] at H0
  clear hP
  go_enter Tryz.func22, Tryz.ntmps22
  go_wp2_with fail
  go_loopw [10] (fun i wr => ∃ k : Nat, k ≤ ps.length ∧ i = .int .i64 (k : Int) ∧ VLp w #[.string (bs c), .slice A ps.length cp] ps k wr) (fun i _ => ps.length - (intOf i).toNat)
  case atStart => exact ⟨0, by omega, rfl, H0.out⟩
  case round =>
    obtain ⟨k, hk, rfl, hV⟩ := hrel
    have HV := hide hV
    clear hV
    by_cases hlt : k < ps.length
    · obtain ⟨p, hp⟩ : ∃ p, ps[k]? = some p := ⟨_, List.getElem?_eq_getElem hlt⟩
      obtain ⟨a, cp', ea, _, hab, c0, c1, c2, c3⟩ := (HP.out.to HV.out.bel).at_ hp
      injection ea with ea _ ec
      subst ec
      obtain rfl := ea
      have HS : Hid (partsB [] ps = (decide (1 ≤ p.k) && (decide (p.k ≤ 8) && (!(seenK ps k).contains p.k && (smallB p.b && (smallB p.a && partsB (seenK ps (k + 1)) (ps.drop (k + 1)))))))) := by
        show _ = _
        rw [HV.out.pb, drop_hd hp, seenK_succ hp]; rfl
      have HPK := hide hp
      clear hp
      by_cases h1 : p.k < 1
      · have HF : Hid (validB isNm ⟨c, ps⟩ = false) := validB_parts (by rw [HS.out, decide_eq_false (by omega : ¬ 1 ≤ p.k)]; rfl)
        go_wp2_with fail
        go_ret
        exact ⟨ret_bool (by rw [HF.out]), below_alloc HV.out.bel (Nat.le_refl _) _⟩
      by_cases h2 : 9 ≤ p.k
      · have HF : Hid (validB isNm ⟨c, ps⟩ = false) := validB_parts (by rw [HS.out, decide_eq_false (by omega : ¬ p.k ≤ 8)]; simp)
        go_wp2_with fail
        go_ret
        exact ⟨ret_bool (by rw [HF.out]), below_alloc HV.out.bel (Nat.le_refl _) _⟩
      obtain ⟨j, hj, hj9⟩ : ∃ j : Nat, p.k = (j : Int) ∧ j < 9 := ⟨p.k.toNat, by omega, by omega⟩
      rw [hj] at c0 HS h1 h2
      have HJ := hide hj
      clear hj
      have HW1 : Hid (VLp w #[.string (bs c), .slice (some a) ps.length cp] ps k (wr.alloc (.cells #[.int .i64 (j : Int), .string (bs p.b), .string (bs p.a), .bool p.need] 41))) := HV.out.to (below_one _ _)
      have cs := (HW1.out.seen.cell j).trans (seenC_at (seenK ps k) hj9)
      rw [decide_eq_true (by omega : 1 ≤ (j : Int)), decide_eq_true (by omega : (j : Int) ≤ 8), Bool.true_and, Bool.true_and] at HS
      cases hcn : (seenK ps k).contains (j : Int) with
      | true =>
        rw [hcn] at cs HS
        have HF : Hid (validB isNm ⟨c, ps⟩ = false) := validB_parts (by rw [HS.out]; rfl)
        clear hcn
        go_wp2_with fail
        go_ret
        exact ⟨ret_bool (by rw [HF.out]), below_alloc HV.out.bel (Nat.le_refl _) _⟩
      | false =>
        rw [hcn] at cs HS
        rw [show (!false) = true from rfl, Bool.true_and] at HS
        clear hcn
        go_wp2_with fail
        have HBX := hide (Blk.new wr 41 #[.int .i64 (j : Int), .string (bs p.b), .string (bs p.a), .bool p.need])
        refine (small_any p.b _).mono ?_
        rintro e w2 ⟨rfl, hb⟩
        have HV2 := hide (HW1.out.to hb)
        have HBX2 := hide (HBX.out.to hb)
        clear hb HV HW1 HBX c0 c1 c2 c3 cs
        have d2 := HBX2.out.cell 2
        cases hb1 : smallB p.b with
        | false =>
          rw [hb1] at HS
          have HF : Hid (validB isNm ⟨c, ps⟩ = false) := validB_parts (by rw [HS.out]; rfl)
          clear hb1
          go_wp2_with fail
          go_ret
          exact ⟨ret_bool (by rw [HF.out]), HV2.out.bel⟩
        | true =>
          rw [hb1, Bool.true_and] at HS
          clear hb1
          go_wp2_with fail
          refine (small_any p.a _).mono ?_
          rintro e w3 ⟨rfl, hb⟩
          have HV3 := hide (HV2.out.to hb)
          have HBX3 := hide (HBX2.out.to hb)
          clear hb HV2 HBX2 d2
          have d0 := HBX3.out.cell 0
          have cs := (HV3.out.seen.cell j).trans (seenC_at (seenK ps k) hj9)
          have csf := HV3.out.seen.frozen j
          cases hb1 : smallB p.a with
          | false =>
            rw [hb1] at HS
            have HF : Hid (validB isNm ⟨c, ps⟩ = false) := validB_parts (by rw [HS.out]; rfl)
            clear hb1
            go_wp2_with fail
            go_ret
            exact ⟨ret_bool (by rw [HF.out]), HV3.out.bel⟩
          | true =>
            rw [hb1, Bool.true_and] at HS
            clear hb1
            go_wp2_with fail
            go_roundw
            case rel => exact ⟨k + 1, by omega, by go_num, HV3.out.s.far (by simp) _, by rw [seenK_succ HPK.out, HJ.out, ← seenC_set _ hj9]; exact HV3.out.seen.set_ _ _, HV3.out.bel.setCell (by simp) _, HS.out⟩
            case measure => simp [intOf]; omega
    · obtain rfl : k = ps.length := by omega
      have HPB : Hid (partsB [] ps = true) := by
        show _ = _
        rw [HV.out.pb, List.drop_length]; rfl
      have cS0 := HV.out.s.cell 0
      have CN := fun w => isName_any c hc0 w
      go_wp2_with fail
      refine (CN _).mono ?_
      rintro e w2 ⟨rfl, hb⟩
      have HV2 := hide (HV.out.to hb)
      clear hb HV cS0 CN
      have cS1 := HV2.out.s.cell 1
      cases hnm : isNm c with
      | false =>
        have HF : Hid (validB isNm ⟨c, ps⟩ = false) := by show _ = _; unfold validB; rw [hnm]; simp
        clear hnm
        go_wp2_with fail
        go_ret
        exact ⟨ret_bool (by rw [HF.out]), HV2.out.bel⟩
      | true =>
        by_cases h1 : ps.length < 1
        · have HF : Hid (validB isNm ⟨c, ps⟩ = false) := by show _ = _; unfold validB; rw [show decide (1 ≤ (⟨c, ps⟩ : Sch).ps.length) = false from decide_eq_false (by dsimp only; omega)]; simp
          have e1 : decide ((ps.length : Int) < 1) = true := by simp; omega
          clear hnm
          go_wp2_with fail
          go_ret
          exact ⟨ret_bool (by rw [HF.out]), HV2.out.bel⟩
        have e1 : decide ((ps.length : Int) < 1) = false := by simp; omega
        by_cases h8 : 8 < ps.length
        · have HF : Hid (validB isNm ⟨c, ps⟩ = false) := by show _ = _; unfold validB; rw [show decide ((⟨c, ps⟩ : Sch).ps.length ≤ 8) = false from decide_eq_false (by dsimp only; omega)]; simp
          have e2 : decide ((8 : Int) < (ps.length : Int)) = true := by simp; omega
          clear hnm
          go_wp2_with fail
          go_ret
          exact ⟨ret_bool (by rw [HF.out]), HV2.out.bel⟩
        have e2 : decide ((8 : Int) < (ps.length : Int)) = false := by simp; omega
        have HVB : Hid (validB isNm ⟨c, ps⟩ = (List.range (ps.length + 1)).all fun i => toldB (afterAt ps i) (nxtL (ps.drop i))) := by
          show _ = _
          unfold validB
          dsimp only
          rw [HPB.out, hnm, decide_eq_true (by omega : 1 ≤ ps.length), decide_eq_true (by omega : ps.length ≤ 8)]; rfl
        clear hnm
        go_wp2_with fail
        clear cS1 e1 e2
        go_loopw [64] (fun i wr => ∃ m : Nat, m ≤ ps.length + 1 ∧ i = .int .i64 (m : Int) ∧ VLp w #[.string (bs c), .slice A ps.length cp] ps ps.length wr ∧ ∀ i, i < m → toldB (afterAt ps i) (nxtL (ps.drop i)) = true) (fun i _ => ps.length + 1 - (intOf i).toNat)
        case atStart => exact ⟨0, by omega, rfl, HV2.out, fun i h => absurd h (by omega)⟩
        case round =>
          obtain ⟨m, hm, rfl, hV, hT⟩ := hrel
          have HV := hide hV
          have HT := hide hT
          have cS0 := HV.out.s.cell 0
          have cS1 := HV.out.s.cell 1
          clear hV hT HV2
          by_cases hlt : m < ps.length + 1
          · have CT := fun w (h : PartsAt w (.slice A ps.length cp) ps) => told_any c (.slice A ps.length cp) ps m (by omega) hl0 w h
            go_wp2_with fail
            refine (CT _ (HP.out.to HV.out.bel)).mono ?_
            rintro e w3 ⟨rfl, hb⟩
            have HV3 := hide (HV.out.to hb)
            clear hb HV cS0 cS1 CT
            cases ht : toldB (afterAt ps m) (nxtL (ps.drop m)) with
            | false =>
              have HF : Hid (validB isNm ⟨c, ps⟩ = false) := by
                show _ = _
                rw [HVB.out, List.all_eq_false]
                exact ⟨m, List.mem_range.2 hlt, by rw [ht]; simp⟩
              clear ht
              go_wp2_with fail
              go_ret
              exact ⟨ret_bool (by rw [HF.out]), HV3.out.bel⟩
            | true =>
              have HT3 : Hid (∀ i, i < m + 1 → toldB (afterAt ps i) (nxtL (ps.drop i)) = true) := by
                intro i hi
                rcases Nat.lt_or_ge i m with h | h
                · exact HT.out i h
                · obtain rfl : i = m := by omega
                  exact ht
              clear ht
              go_wp2_with fail
              go_roundw
              case rel => exact ⟨m + 1, by omega, by go_num, HV3.out, HT3.out⟩
              case measure => simp [intOf]; omega
          · obtain rfl : m = ps.length + 1 := by omega
            have HF : Hid (validB isNm ⟨c, ps⟩ = true) := by
              show _ = _
              rw [HVB.out, List.all_eq_true]
              exact fun i hi => HT.out i (List.mem_range.1 hi)
            go_wp2_with fail
            go_ret
            exact ⟨ret_bool (by rw [HF.out]), HV.out.bel⟩
end Go.Proofs.YtdcafoekbnacnaaGreatDoor

/- Package scheme: marks. -/
set_option linter.unusedVariables false
set_option linter.unusedSimpArgs false
namespace Go.Proofs.YtdcafoekbnacnaaGreatDoor
open Go.RowKit Go.Shelf

def marksL (ps : List Prt) : List UInt8 := ps.flatMap fun p => p.b.take 1 ++ p.a.take 1
theorem head_take (l : List UInt8) (c : UInt8) : c ∈ l.take 1 ↔ l.head? = some c := by
  cases l with
  | nil => simp
  | cons a l => simp; exact eq_comm
theorem mem_marks (ps : List Prt) (c : UInt8) : c ∈ marksL ps ↔ mrk ps c = true := by
  unfold marksL mrk
  rw [List.mem_flatMap, List.any_eq_true]
  constructor
  · rintro ⟨p, hp, h⟩
    refine ⟨p, hp, ?_⟩
    rcases List.mem_append.1 h with h | h
    · rw [(head_take _ _).1 h]; simp
    · rw [(head_take _ _).1 h]; simp
  · rintro ⟨p, hp, h⟩
    refine ⟨p, hp, ?_⟩
    rw [Bool.or_eq_true] at h
    rcases h with h | h
    · exact List.mem_append.2 (.inl ((head_take _ _).2 (eq_of_beq h)))
    · exact List.mem_append.2 (.inr ((head_take _ _).2 (eq_of_beq h)))
theorem marks_len : ∀ ps : List Prt, (marksL ps).length ≤ 2 * ps.length
  | [] => Nat.zero_le _
  | p :: ps => by
    have := marks_len ps
    unfold marksL at this ⊢
    rw [List.flatMap_cons, List.length_append, List.length_append, List.length_cons, List.length_take, List.length_take]
    omega
theorem marks_snoc {ps : List Prt} {k : Nat} {p : Prt} (h : ps[k]? = some p) : marksL (ps.take (k + 1)) = (marksL (ps.take k) ++ p.b.take 1) ++ p.a.take 1 := by
  rw [List.take_add_one, h]
  unfold marksL
  rw [List.flatMap_append]; simp
def addM (o x : List UInt8) : List UInt8 := o ++ x.take 1
/-- a part's two texts, one after the other -/
def mOut (m0 : List UInt8) (p : Prt) : Nat → List UInt8
  | 0 => m0
  | 1 => m0 ++ p.b.take 1
  | _ => (m0 ++ p.b.take 1) ++ p.a.take 1
def mTx (p : Prt) : Nat → List UInt8
  | 0 => p.b
  | _ => p.a
theorem mOut_len (m0 : List UInt8) (p : Prt) (j : Nat) : (mOut m0 p j).length ≤ m0.length + 2 := by
  unfold mOut
  split
  · omega
  · rw [List.length_append, List.length_take]; omega
  · rw [List.length_append, List.length_append, List.length_take, List.length_take]; omega
theorem mOut_succ (m0 : List UInt8) (p : Prt) {j : Nat} (h : j < 2) : mOut m0 p (j + 1) = mOut m0 p j ++ (mTx p j).take 1 := by
  rcases j with _ | _ | j
  · rfl
  · rfl
  · omega
set_option maxRecDepth 100000 in
set_option maxHeartbeats 4000000 in
theorem marks_any (c : List UInt8) (ps : List Prt) (hl0 : ps.length ≤ 8796093022208) (v : Value) (w : World) (hP : PartsAt w v ps) :
    Calls Tryz.prog 58 #[.agg #[.string (bs c), v]] w fun e w' => e = .returned (.string (bs (marksL ps))) ∧ Below w.heap.size w w' := by
  obtain ⟨A, cp, rfl, hcp⟩ := hP.slice
  have HP := hide hP
  have HB0 := hide (below_one w (.cells #[.string (bs c), .slice A ps.length cp] 24))
  clear hP
  go_enter Tryz.func58, Tryz.ntmps58
  go_wp2_with fail
  go_loopw [3, 11] (fun o i wr => ∃ k : Nat, k ≤ ps.length ∧ i = .int .i64 (k : Int) ∧ o = .string (bs (marksL (ps.take k))) ∧ Below w.heap.size w wr) (fun _ i _ => ps.length - (intOf i).toNat)
  case atStart => exact ⟨0, by omega, rfl, rfl, HB0.out⟩
  case round =>
    obtain ⟨k, hk, rfl, rfl, hB⟩ := hrel
    have HB := hide hB
    clear hB
    by_cases hlt : k < ps.length
    · obtain ⟨p, hp⟩ : ∃ p, ps[k]? = some p := ⟨_, List.getElem?_eq_getElem hlt⟩
      obtain ⟨a, cp', ea, _, hab, c0, c1, c2, c3⟩ := (HP.out.to HB.out).at_ hp
      injection ea with ea _ ec
      subst ec
      obtain rfl := ea
      have HM := hide (marks_snoc hp)
      have hlm := marks_len (ps.take k)
      have hlt2 : (ps.take k).length ≤ k := List.length_take_le _ _
      obtain ⟨m0, hm0⟩ : ∃ m, marksL (ps.take k) = m := ⟨_, rfl⟩
      rw [hm0] at HM hlm ⊢
      clear hp hm0
      go_wp2_with fail
      have HB1 := hide (below_alloc HB.out (Nat.le_refl _) (.cells #[.int .i64 p.k, .string (bs p.b), .string (bs p.a), .bool p.need] 41))
      clear c0 c1 c2 c3 HB
      generalize wr.alloc (.cells #[.int .i64 p.k, .string (bs p.b), .string (bs p.a), .bool p.need] 41) = W1 at *
      go_loop [3, 20] (fun o i => ∃ j : Nat, j ≤ 2 ∧ i = .int .i64 (j : Int) ∧ o = .string (bs (mOut m0 p j))) (fun _ i => 2 - (intOf i).toNat)
      case atStart => exact ⟨0, by omega, rfl, rfl⟩
      case round =>
        obtain ⟨j, hj, rfl, rfl⟩ := hrel
        by_cases hj2 : j < 2
        · have HO := hide (mOut_succ m0 p hj2)
          have hlo := mOut_len m0 p j
          have hls : (bs (mOut m0 p j)).size ≤ 140737488355328 := by rw [bs_size]; omega
          have ix : ∀ w, (Instr.index 124 (.agg #[.string (bs p.b), .string (bs p.a)]) (.int .i64 (j : Int))).run Tryz.prog w = .ok (.string (bs (mTx p j))) w := by
            intro w
            rcases j with _ | _ | j
            · kernel_rfl
            · kernel_rfl
            · omega
          obtain ⟨x, hx⟩ : ∃ x, mTx p j = x := ⟨_, rfl⟩
          rw [hx] at HO ix
          generalize mOut m0 p j = o0 at *
          clear hx
          cases hxe : x.isEmpty with
          | true =>
            have e1 : (bs x).toList.isEmpty = true := by rw [bs_toList]; exact hxe
            have HE := hide (List.isEmpty_iff.1 hxe)
            clear hxe
            go_wp2_with fail
            go_round
            case rel => exact ⟨j + 1, by omega, by go_num, by rw [HO.out, HE.out]; simp⟩
            case measure => simp [intOf]; omega
          | false =>
            have e1 : (bs x).toList.isEmpty = false := by rw [bs_toList]; exact hxe
            have hxl : 1 ≤ (bs x).size := by
              rw [bs_size]
              cases x with
              | nil => cases hxe
              | cons a l => simp
            have ex : (bs x).extract 0 1 = bs (x.take 1) := bs_cut x 0 1
            have hxt : (bs (x.take 1)).size ≤ 1 := by rw [bs_size, List.length_take]; omega
            clear hxe
            go_wp2_with fail
            go_round
            case rel => exact ⟨j + 1, by omega, by go_num, by rw [HO.out, ← bs_app]⟩
            case measure => simp [intOf]; omega
        · obtain rfl : j = 2 := by omega
          go_wp2_with fail
          go_roundw
          case rel => exact ⟨k + 1, by omega, by go_num, by rw [HM.out]; rfl, HB1.out⟩
          case measure => simp [intOf]; omega
    · obtain rfl : k = ps.length := by omega
      rw [List.take_length]
      go_wp2_with fail
      go_ret
      exact ⟨rfl, HB.out⟩
end Go.Proofs.YtdcafoekbnacnaaGreatDoor
