/- Package lexer: a name. -/
import Derived.Test.YtdiebacfbhjbdaaGreatDoorX2
import Derived.Test.YtdiebacfbhjbdaaGreatDoorLoose
import Derived.Test.YtdiebacfbhjbdaaGreatDoorRe
set_option linter.unusedVariables false
set_option linter.unusedSimpArgs false
namespace Go.Proofs.YtdiebacfbhjbdaaGreatDoor
open Go.RowKit

theorem contains1 (D : Int) (k : Int) (h : D ≠ k) : [k].contains D = false := by simp [h]
theorem gap_none (t : List UInt8) (ht : t.length ≤ 1000000000) (i : Nat) (hi : i ≤ t.length) (h1 : atP t i ≠ 1) (h2 : atP t i ≠ 2) (sc : Nat) (T : TypeId) (w : World) (h : Blk w sc T (scC t)) :
    Calls Tryz.prog 104 #[.pointer (some ⟨sc, 0, none⟩), .int .i64 (i : Int)] w fun e w' => e = .returned (.int .i64 (i : Int)) ∧ Below w.heap.size w w' := by
  have hw : whP t i [1] = i := by
    rcases Nat.lt_or_ge i t.length with hlt | hge
    · have hc : t[i]? = some t[i] := List.getElem?_eq_getElem hlt
      have ha : atP t i = clsB t[i] := by unfold atP; rw [hc]
      rw [whP_step hc, contains1 _ _ (by rw [← ha]; exact h1)]; rfl
    · exact whP_end hge
  obtain ⟨U, hU, g, u0, rfl, hgu, hi'⟩ := cls w
  have C1 := cls_call hgu hi' (fun w hb => at_any t i (by omega) sc T w (h.to hb))
  have C2 : ∀ u, Calls Tryz.prog 129 #[.pointer (some ⟨sc, 0, none⟩), .int .i64 (i : Int), .slice (some ⟨(g u).heap.size, 0, none⟩) 1 1] ((g u).alloc (.cells #[.int .i64 1] 3)) fun e w' => e = .returned (.int .i64 (i : Int)) ∧ ∃ u', w' = g u' := fun u => by
    have hb := below_alloc (hgu u) (Nat.le_refl _) (.cells #[.int .i64 1] 3)
    have hn := Blk.new (g u) 3 #[.int .i64 1]
    have := while_any t ht i (by omega) [1] (by simp) (.slice (some ⟨(g u).heap.size, 0, none⟩) 1 1) sc T _ (h.to hb) ⟨_, 1, rfl, hn.lt, Nat.le_refl _, fun k x hx => by
      match k, hx with
      | 0, hx => simp at hx; subst hx; exact (hn.cell 0).trans rfl⟩
    rw [hw] at this
    exact this.mono fun e w' ⟨he, hb2⟩ => ⟨he, hi' _ (below_to hb (Nat.le_refl _) hb2)⟩
  have HGU := hide hgu
  have e2 : (atP t i == 2) = false := by simpa using h2
  clear hgu hi' h1 h2 hw h
  generalize atP t i = A at *
  go_enter Tryz.func104, Tryz.ntmps104
  go_wp2_with (first | ((with_reducible refine (C2 _).mono ?_); rintro e w' ⟨rfl, u, rfl⟩) | ((with_reducible refine (C1 _).mono ?_); rintro e w' ⟨rfl, u, rfl⟩))
  go_loopw [1, 5] (fun v _ wr => v = .int .i64 (i : Int) ∧ ∃ u, wr = g u) (fun _ _ _ => 0)
  case atStart => exact ⟨rfl, _, rfl⟩
  case round =>
    obtain ⟨rfl, u', rfl⟩ := hrel
    go_wp2_with (first | ((with_reducible refine (C1 _).mono ?_); rintro e w' ⟨rfl, u, rfl⟩))
    go_ret
    exact ⟨rfl, HGU.out _⟩
/-- a token as a value -/
structure Tk where
  k : Int
  a : Int
  n : Int
  s : List UInt8
def tcells (x : Tk) : Array Value := #[.int .i64 x.k, .int .i64 x.a, .int .i64 x.n, .string (bs x.s)]
def tval (x : Tk) : Value := .agg (tcells x)
def sub (t : List UInt8) (i j : Nat) : List UInt8 := (t.drop i).take (j - i)
set_option maxRecDepth 100000 in
set_option maxHeartbeats 4000000 in
theorem next_name (t : List UInt8) (ht : t.length ≤ 1000000000) (i e : Nat) (ha : atP t i = 3) (he : whP t i [3, 4, 5] = e) (hie : i ≤ e) (hel : e ≤ t.length) (h24 : e - i ≤ 24) (sc : Nat) (T : TypeId) (w : World) (h : Blk w sc T (scC t)) :
    Calls Tryz.prog 105 #[.pointer (some ⟨sc, 0, none⟩), .int .i64 (i : Int)] w fun r w' => r = .returned (.tuple #[tval ⟨1, i, 0, sub t i e⟩, .int .i64 (e : Int), .int .i64 0]) ∧ Below w.heap.size w w' := by
  have HB := hide (below_one w (.cells #[.int .i64 0, .int .i64 0, .int .i64 0, .string ⟨#[]⟩] 107))
  have HR := hide (Blk.new w 107 #[.int .i64 0, .int .i64 0, .int .i64 0, .string ⟨#[]⟩])
  have HS := hide (h.to (below_one w (.cells #[.int .i64 0, .int .i64 0, .int .i64 0, .string ⟨#[]⟩] 107)))
  have hsz : (bs t).size = t.length := bs_size t
  have hx : (bs t).extract i e = bs (sub t i e) := bs_cut t i e
  clear h
  go_enter Tryz.func105, Tryz.ntmps105
  go_wp2_with fail
  generalize w.alloc (.cells #[.int .i64 0, .int .i64 0, .int .i64 0, .string ⟨#[]⟩] 107) = w1 at *
  obtain ⟨br, hbr⟩ : ∃ b, Hid (w.heap.size = b) := ⟨_, rfl⟩
  rw [hbr.out] at HR ⊢
  obtain ⟨U, hU, g, u0, rfl, hgu, hi'⟩ := cls w1
  have C1 := cls_call hgu hi' (fun w hb => at_any t i (by omega) sc T w (HS.out.to hb))
  rw [ha] at C1
  have C2 : ∀ u, Calls Tryz.prog 129 #[.pointer (some ⟨sc, 0, none⟩), .int .i64 (i : Int), .slice (some ⟨(g u).heap.size, 0, none⟩) 3 3] ((g u).alloc (.cells #[.int .i64 3, .int .i64 4, .int .i64 5] 3)) fun e' w' => e' = .returned (.int .i64 (e : Int)) ∧ ∃ u', w' = g u' := fun u => by
    have hb := below_alloc (hgu u) (Nat.le_refl _) (.cells #[.int .i64 3, .int .i64 4, .int .i64 5] 3)
    have hn := Blk.new (g u) 3 #[.int .i64 3, .int .i64 4, .int .i64 5]
    have := while_any t ht i (by omega) [3, 4, 5] (by simp) (.slice (some ⟨(g u).heap.size, 0, none⟩) 3 3) sc T _ (HS.out.to hb) ⟨_, 3, rfl, hn.lt, Nat.le_refl _, fun k x hx => by
      match k, hx with
      | 0, hx => simp at hx; subst hx; exact (hn.cell 0).trans rfl
      | 1, hx => simp at hx; subst hx; exact (hn.cell 1).trans rfl
      | 2, hx => simp at hx; subst hx; exact (hn.cell 2).trans rfl⟩
    rw [he] at this
    exact this.mono fun e' w' ⟨he, hb2⟩ => ⟨he, hi' _ (below_to hb (Nat.le_refl _) hb2)⟩
  have s0 := blk_all hgu HS.out 0 (scC_0 t)
  have r0 := blk_all hgu HR.out 0 rfl
  have r1 := blk_all hgu HR.out 1 rfl
  have r2 := blk_all hgu HR.out 2 rfl
  have r3 := blk_all hgu HR.out 3 rfl
  have f0 : ∀ u i, (g u).frozen? ⟨br, i, none⟩ = false := fun u i => (HR.out.to (hgu u)).frozen i
  have HGU := hide hgu
  clear hgu hi' ha he
  go_wp2_with (first | ((with_reducible refine (C2 _).mono ?_); rintro e' w' ⟨rfl, uz, rfl⟩) | ((with_reducible refine (C1 _).mono ?_); rintro e' w' ⟨rfl, uz, rfl⟩))
  have hbk := (((HR.out.to (HGU.out uz)).set_ 0 (.int .i64 1)).set_ 1 (.int .i64 (i : Int))).set_ 2 (.int .i64 0) |>.set_ 3 (.string (bs (sub t i e)))
  refine bodyPost_ret (results_c2 (p := 4) (u := 5) (v := 6) rfl _ _ br 107 _ _ rfl hbk Tryz.underlying107 rfl (by kernel_rfl)) rfl ⟨rfl, ?_⟩
  exact ((((below_to HB.out (Nat.le_refl _) (HGU.out uz)).setCell (p := ⟨br, 0, none⟩) (Nat.le_of_eq hbr.out) _).setCell (p := ⟨br, 1, none⟩) (Nat.le_of_eq hbr.out) _).setCell (p := ⟨br, 2, none⟩) (Nat.le_of_eq hbr.out) _).setCell (p := ⟨br, 3, none⟩) (Nat.le_of_eq hbr.out) _
/-! a text that is one name -/
def isLet (c : UInt8) : Bool := clsB c == 3
def isWd (c : UInt8) : Bool := [3, 4, 5].contains (clsB c)
def isNm (t : List UInt8) : Bool := (match t with | c :: _ => isLet c | [] => false) && t.all isWd && decide (t.length ≤ 24)
theorem nm_facts {t : List UInt8} (h : isNm t = true) : atP t 0 = 3 ∧ whP t 0 [3, 4, 5] = t.length ∧ t.length ≤ 24 ∧ 1 ≤ t.length := by
  unfold isNm at h
  match t, h with
  | [], h => simp at h
  | c :: r, h =>
    simp only [Bool.and_eq_true, decide_eq_true_eq] at h
    refine ⟨?_, ?_, h.2, by simp⟩
    · unfold atP
      have := h.1.1
      unfold isLet at this
      simpa using this
    · unfold whP runL
      rw [Nat.zero_add, List.drop_zero]
      congr 1
      have hall := h.1.2
      clear h
      generalize c :: r = l at *
      induction l with
      | nil => rfl
      | cons a l ih =>
        simp only [List.all_cons, Bool.and_eq_true] at hall
        rw [List.takeWhile_cons, if_pos (show [3, 4, 5].contains (clsB a) = true from hall.1), ih hall.2]
end Go.Proofs.YtdiebacfbhjbdaaGreatDoor
