/- Walks of package privacy: Make. -/
import Derived.Test.YtdiebacfbhjbdaaGreatDoorN1
set_option linter.unusedVariables false
set_option linter.unusedSimpArgs false
namespace Go.Proofs.YtdiebacfbhjbdaaGreatDoor
open Go.RowKit

def lnC (l : Ln) : Array Value := #[.string (bs l.p), .string (bs l.t), .string (bs l.s), .string (bs l.d)]
theorem Contains_10 (t : List UInt8) (w : World) : Calls Tryz.prog 46 #[.string (bs t), .string ⟨#[10]⟩] w fun e w' => e = .returned (.bool (t.contains 10)) ∧ w' = w := by
  have h := Tryz.strings_Contains_one (bs t) 10 w
  rw [bs_list, ← Lib.contains_iff_indexByte] at h
  exact h
set_option maxRecDepth 100000 in
set_option maxHeartbeats 8000000 in
theorem Make_any (p t s : List UInt8) (hp : p.length ≤ 140737488355328) (ht : t.length ≤ 140737488355328) (hs : s.length ≤ 140737488355328) (w : World) (hg : Glob w) :
    Calls Tryz.prog 19 #[.string (bs p), .string (bs t), .string (bs s)] w fun e w' => e = .returned (.tuple #[.agg (lnC (makeV p t s)), .int .i64 (makeE p t s)]) ∧ Below w.heap.size w w' := by
  have HB := hide (below_one w (.cells #[.string ⟨#[]⟩, .string ⟨#[]⟩, .string ⟨#[]⟩, .string ⟨#[]⟩] 32))
  have HR := hide (Blk.new w 32 #[.string ⟨#[]⟩, .string ⟨#[]⟩, .string ⟨#[]⟩, .string ⟨#[]⟩])
  have HG := hide (hg.alloc (.cells #[.string ⟨#[]⟩, .string ⟨#[]⟩, .string ⟨#[]⟩, .string ⟨#[]⟩] 32))
  have hzt : (bs t).size = t.length := bs_size t
  have hte : (bs t).toList.isEmpty = t.isEmpty := by rw [bs_toList]
  clear hg
  go_enter Tryz.func19, Tryz.ntmps19
  go_wp2_with fail
  generalize w.alloc (.cells #[.string ⟨#[]⟩, .string ⟨#[]⟩, .string ⟨#[]⟩, .string ⟨#[]⟩] 32) = w1 at *
  obtain ⟨br, hbr⟩ : ∃ b, Hid (w.heap.size = b) := ⟨_, rfl⟩
  rw [hbr.out] at HR ⊢
  obtain ⟨U, hU, g, u0, rfl, hgu, hi⟩ := cls w1
  have CN := cls_call hgu hi (fun w _ => named_any p hp w)
  have CC := cls_call hgu hi (fun w _ => (Contains_10 t w).mono fun e w' ⟨he, hw⟩ => (⟨he, hw ▸ Below.refl _ _⟩ : e = .returned (.bool (t.contains 10)) ∧ Below w.heap.size w w'))
  have CI := cls_call hgu hi (fun w _ => Is_any s (by omega) w)
  have r0 := blk_all hgu HR.out 0 rfl
  have r1 := blk_all hgu HR.out 1 rfl
  have r2 := blk_all hgu HR.out 2 rfl
  have r3 := blk_all hgu HR.out 3 rfl
  have f0 : ∀ u i, (g u).frozen? ⟨br, i, none⟩ = false := fun u i => (HR.out.to (hgu u)).frozen i
  have HGU := hide hgu
  have HHI := hide hi
  have HM : Hid (canM p t s = (isNm p && !t.isEmpty && decide (t.length ≤ 400) && !t.contains 10 && isD s)) := rfl
  have HV0 : Hid (canM p t s = false → makeV p t s = noL ∧ makeE p t s = 1) := fun h => by unfold makeV makeE; rw [h]; exact ⟨rfl, rfl⟩
  have HV1 : Hid (canM p t s = true → makeV p t s = mkL p t s ∧ makeE p t s = 0) := fun h => by unfold makeV makeE; rw [h]; exact ⟨rfl, rfl⟩
  clear hgu hi
  cases h1 : isNm p with
  | false =>
    rw [h1] at CN
    have HV := hide (HV0.out (by rw [HM.out, h1]; simp))
    clear HV0 HV1 HM
    go_wp2_with (first | ((with_reducible refine (CN _).mono ?_); rintro e' w' ⟨rfl, uz, rfl⟩) | ((with_reducible refine (CC _).mono ?_); rintro e' w' ⟨rfl, uz, rfl⟩) | ((with_reducible refine (CI _).mono ?_); rintro e' w' ⟨rfl, uz, rfl⟩))
    have hbk := (((((HR.out.to (HGU.out uz)).set_ 0 (.string ⟨#[]⟩)).set_ 1 (.string ⟨#[]⟩)).set_ 2 (.string ⟨#[]⟩)).set_ 3 (.string ⟨#[]⟩))
    refine bodyPost_ret (results_c1 (p := 6) (u := 7) rfl _ _ br 32 _ _ rfl hbk Tryz.underlying32 rfl (by kernel_rfl)) rfl ⟨by rw [HV.out.1, HV.out.2]; rfl, ?_⟩
    exact (((((below_to HB.out (Nat.le_refl _) (HGU.out uz)).setCell (p := ⟨br, 0, none⟩) (Nat.le_of_eq hbr.out) _).setCell (p := ⟨br, 1, none⟩) (Nat.le_of_eq hbr.out) _).setCell (p := ⟨br, 2, none⟩) (Nat.le_of_eq hbr.out) _).setCell (p := ⟨br, 3, none⟩) (Nat.le_of_eq hbr.out) _)
  | true =>
    rw [h1] at CN
    cases h2 : t.isEmpty with
    | true =>
      rw [h2] at hte
      have HV := hide (HV0.out (by rw [HM.out, h2]; simp))
      clear HV0 HV1 HM
      go_wp2_with (first | ((with_reducible refine (CN _).mono ?_); rintro e' w' ⟨rfl, uz, rfl⟩) | ((with_reducible refine (CC _).mono ?_); rintro e' w' ⟨rfl, uz, rfl⟩) | ((with_reducible refine (CI _).mono ?_); rintro e' w' ⟨rfl, uz, rfl⟩))
      have hbk := (((((HR.out.to (HGU.out uz)).set_ 0 (.string ⟨#[]⟩)).set_ 1 (.string ⟨#[]⟩)).set_ 2 (.string ⟨#[]⟩)).set_ 3 (.string ⟨#[]⟩))
      refine bodyPost_ret (results_c1 (p := 6) (u := 7) rfl _ _ br 32 _ _ rfl hbk Tryz.underlying32 rfl (by kernel_rfl)) rfl ⟨by rw [HV.out.1, HV.out.2]; rfl, ?_⟩
      exact (((((below_to HB.out (Nat.le_refl _) (HGU.out uz)).setCell (p := ⟨br, 0, none⟩) (Nat.le_of_eq hbr.out) _).setCell (p := ⟨br, 1, none⟩) (Nat.le_of_eq hbr.out) _).setCell (p := ⟨br, 2, none⟩) (Nat.le_of_eq hbr.out) _).setCell (p := ⟨br, 3, none⟩) (Nat.le_of_eq hbr.out) _)
    | false =>
      rw [h2] at hte
      by_cases h3 : t.length ≤ 400
      · have e3 : decide ((400 : Int) < (t.length : Int)) = false := decide_eq_false (by omega)
        cases h4 : t.contains 10 with
        | true =>
          rw [h4] at CC
          have HV := hide (HV0.out (by rw [HM.out, h4]; simp))
          clear HV0 HV1 HM
          go_wp2_with (first | ((with_reducible refine (CN _).mono ?_); rintro e' w' ⟨rfl, uz, rfl⟩) | ((with_reducible refine (CC _).mono ?_); rintro e' w' ⟨rfl, uz, rfl⟩) | ((with_reducible refine (CI _).mono ?_); rintro e' w' ⟨rfl, uz, rfl⟩))
          have hbk := (((((HR.out.to (HGU.out uz)).set_ 0 (.string ⟨#[]⟩)).set_ 1 (.string ⟨#[]⟩)).set_ 2 (.string ⟨#[]⟩)).set_ 3 (.string ⟨#[]⟩))
          refine bodyPost_ret (results_c1 (p := 6) (u := 7) rfl _ _ br 32 _ _ rfl hbk Tryz.underlying32 rfl (by kernel_rfl)) rfl ⟨by rw [HV.out.1, HV.out.2]; rfl, ?_⟩
          exact (((((below_to HB.out (Nat.le_refl _) (HGU.out uz)).setCell (p := ⟨br, 0, none⟩) (Nat.le_of_eq hbr.out) _).setCell (p := ⟨br, 1, none⟩) (Nat.le_of_eq hbr.out) _).setCell (p := ⟨br, 2, none⟩) (Nat.le_of_eq hbr.out) _).setCell (p := ⟨br, 3, none⟩) (Nat.le_of_eq hbr.out) _)
        | false =>
          rw [h4] at CC
          cases h5 : isD s with
          | false =>
            rw [h5] at CI
            have HV := hide (HV0.out (by rw [HM.out, h5]; simp))
            clear HV0 HV1 HM
            go_wp2_with (first | ((with_reducible refine (CN _).mono ?_); rintro e' w' ⟨rfl, uz, rfl⟩) | ((with_reducible refine (CC _).mono ?_); rintro e' w' ⟨rfl, uz, rfl⟩) | ((with_reducible refine (CI _).mono ?_); rintro e' w' ⟨rfl, uz, rfl⟩))
            have hbk := (((((HR.out.to (HGU.out uz)).set_ 0 (.string ⟨#[]⟩)).set_ 1 (.string ⟨#[]⟩)).set_ 2 (.string ⟨#[]⟩)).set_ 3 (.string ⟨#[]⟩))
            refine bodyPost_ret (results_c1 (p := 6) (u := 7) rfl _ _ br 32 _ _ rfl hbk Tryz.underlying32 rfl (by kernel_rfl)) rfl ⟨by rw [HV.out.1, HV.out.2]; rfl, ?_⟩
            exact (((((below_to HB.out (Nat.le_refl _) (HGU.out uz)).setCell (p := ⟨br, 0, none⟩) (Nat.le_of_eq hbr.out) _).setCell (p := ⟨br, 1, none⟩) (Nat.le_of_eq hbr.out) _).setCell (p := ⟨br, 2, none⟩) (Nat.le_of_eq hbr.out) _).setCell (p := ⟨br, 3, none⟩) (Nat.le_of_eq hbr.out) _)
          | true =>
            rw [h5] at CI
            have HV := hide (HV1.out (by rw [HM.out, h1, h2, h4, h5, decide_eq_true h3]; rfl))
            clear HV0 HV1 HM
            have hp24 := (nm_facts h1).2.2.1
            have hs16 := ((isD_iff s).1 h5).1
            have CLi : ∀ u, Calls Tryz.prog 20 #[.slice (some ⟨(g u).heap.size, 0, none⟩) 4 4] ((g u).alloc (.cells #[.string ⟨#[108, 105, 110, 101]⟩, .string (bs p), .string (bs t), .string (bs s)] 9)) fun e w' => e = .returned (.string (bs (listD [lineT, p, t, s]))) ∧ ∃ u', w' = g u' := fun u => by
              have hb := below_alloc (HGU.out u) (Nat.le_refl _) (.cells #[.string ⟨#[108, 105, 110, 101]⟩, .string (bs p), .string (bs t), .string (bs s)] 9)
              refine (List_any [lineT, p, t, s] _ 9 _ (Blk.new (g u) 9 #[.string ⟨#[108, 105, 110, 101]⟩, .string (bs p), .string (bs t), .string (bs s)]) (by simp) ?_ ((HG.out.to (HGU.out u)).alloc _)).mono fun e w' ⟨he, hb2⟩ => ⟨he, HHI.out _ (below_to hb (Nat.le_refl _) hb2)⟩
              refine Nat.le_trans (join_len _ ?_) ?_
              · intro l hl
                simp only [List.mem_cons, List.not_mem_nil, or_false] at hl
                rcases hl with rfl | rfl | rfl | rfl <;> first | omega | (show (4 : Nat) < _; omega)
              · simp only [List.map_cons, List.map_nil, List.sum_cons, List.sum_nil, List.length_cons, List.length_nil]
                have : lineT.length = 4 := rfl
                omega
            clear hp24 hs16 h1 h2 h4 h5
            go_wp2_with (first | ((with_reducible refine (CN _).mono ?_); rintro e' w' ⟨rfl, uz, rfl⟩) | ((with_reducible refine (CC _).mono ?_); rintro e' w' ⟨rfl, uz, rfl⟩) | ((with_reducible refine (CI _).mono ?_); rintro e' w' ⟨rfl, uz, rfl⟩) | ((with_reducible refine (CLi _).mono ?_); rintro e' w' ⟨rfl, uz, rfl⟩))
            have hbk := (((((HR.out.to (HGU.out uz)).set_ 0 (.string (bs p))).set_ 1 (.string (bs t))).set_ 2 (.string (bs s))).set_ 3 (.string (bs (listD [lineT, p, t, s]))))
            refine bodyPost_ret (results_c1 (p := 6) (u := 7) rfl _ _ br 32 _ _ rfl hbk Tryz.underlying32 rfl (by kernel_rfl)) rfl ⟨by rw [HV.out.1, HV.out.2]; rfl, ?_⟩
            exact (((((below_to HB.out (Nat.le_refl _) (HGU.out uz)).setCell (p := ⟨br, 0, none⟩) (Nat.le_of_eq hbr.out) _).setCell (p := ⟨br, 1, none⟩) (Nat.le_of_eq hbr.out) _).setCell (p := ⟨br, 2, none⟩) (Nat.le_of_eq hbr.out) _).setCell (p := ⟨br, 3, none⟩) (Nat.le_of_eq hbr.out) _)
      · have e3 : decide ((400 : Int) < (t.length : Int)) = true := decide_eq_true (by omega)
        have HV := hide (HV0.out (by rw [HM.out, decide_eq_false h3]; simp))
        clear HV0 HV1 HM
        go_wp2_with (first | ((with_reducible refine (CN _).mono ?_); rintro e' w' ⟨rfl, uz, rfl⟩) | ((with_reducible refine (CC _).mono ?_); rintro e' w' ⟨rfl, uz, rfl⟩) | ((with_reducible refine (CI _).mono ?_); rintro e' w' ⟨rfl, uz, rfl⟩))
        have hbk := (((((HR.out.to (HGU.out uz)).set_ 0 (.string ⟨#[]⟩)).set_ 1 (.string ⟨#[]⟩)).set_ 2 (.string ⟨#[]⟩)).set_ 3 (.string ⟨#[]⟩))
        refine bodyPost_ret (results_c1 (p := 6) (u := 7) rfl _ _ br 32 _ _ rfl hbk Tryz.underlying32 rfl (by kernel_rfl)) rfl ⟨by rw [HV.out.1, HV.out.2]; rfl, ?_⟩
        exact (((((below_to HB.out (Nat.le_refl _) (HGU.out uz)).setCell (p := ⟨br, 0, none⟩) (Nat.le_of_eq hbr.out) _).setCell (p := ⟨br, 1, none⟩) (Nat.le_of_eq hbr.out) _).setCell (p := ⟨br, 2, none⟩) (Nat.le_of_eq hbr.out) _).setCell (p := ⟨br, 3, none⟩) (Nat.le_of_eq hbr.out) _)
end Go.Proofs.YtdiebacfbhjbdaaGreatDoor
