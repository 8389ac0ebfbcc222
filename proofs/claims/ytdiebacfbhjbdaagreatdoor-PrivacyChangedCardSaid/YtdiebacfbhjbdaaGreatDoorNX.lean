/- Several texts as one, in build order. -/
import Derived.Test.YtdiebacfbhjbdaaGreatDoorY6
import Derived.Test.YtdiebacfbhjbdaaGreatDoorSl
import Derived.Test.YtdiebacfbhjbdaaGreatDoorP2
import Derived.Test.YtdiebacfbhjbdaaGreatDoorDig5
import Derived.Test.YtdiebacfbhjbdaaGreatDoorT3
import Derived.Shelf.GgClosure.Gives
import Derived.Test.YtdiebacfbhjbdaaGreatDoorP3
/- Walks of package privacy: named. -/
set_option linter.unusedVariables false
set_option linter.unusedSimpArgs false
namespace Go.Proofs.YtdiebacfbhjbdaaGreatDoor
open Go.RowKit

set_option maxRecDepth 100000 in
set_option maxHeartbeats 4000000 in
theorem named_any (d : List UInt8) (hl : d.length ≤ 140737488355328) (w : World) : Calls Tryz.prog 45 #[.string (bs d)] w fun e w' => e = .returned (.bool (isNm d)) ∧ Below w.heap.size w w' := by
  have CL := fun w => Lex_any d hl w
  by_cases hE : (lexP d).2.1 ≠ 0
  · have HV : Hid (isNm d = false) := by
      show _ = _
      rw [← Bool.not_eq_true]; intro h; rw [lex_of_nm h] at hE; exact hE rfl
    have e1 : ((lexP d).2.1 == 0) = false := by rw [beq_eq_false_iff_ne]; exact hE
    clear hE
    generalize (lexP d).2.1 = E at *
    go_enter Tryz.func45, Tryz.ntmps45
    go_wp2_with fail
    refine (CL _).mono ?_
    rintro e w2 ⟨v, rfl, hv, hb⟩
    have HB := hide hb
    clear hv hb CL
    go_wp2_with fail
    go_ret
    exact ⟨ret_bool (by rw [HV.out]), HB.out⟩
  have hE0 : (lexP d).2.1 = 0 := Classical.byContradiction hE
  rw [hE0] at CL
  by_cases hn : (lexP d).1.length ≠ 1
  · have HV : Hid (isNm d = false) := by
      show _ = _
      rw [← Bool.not_eq_true]; intro h; rw [lex_of_nm h] at hn; exact hn rfl
    clear hE hE0
    go_enter Tryz.func45, Tryz.ntmps45
    go_wp2_with fail
    refine (CL _).mono ?_
    rintro e w2 ⟨v, rfl, hv, hb⟩
    have HB := hide hb
    obtain ⟨A, c, rfl⟩ : ∃ A c, v = .slice A (lexP d).1.length c := by
      rcases hv with ⟨h1, A, c, h2⟩ | ⟨b, c, h1, _⟩
      · rw [h1]; exact ⟨A, c, h2⟩
      · exact ⟨_, _, h1⟩
    have e1 : (((lexP d).1.length : Int) == 1) = false := by rw [beq_eq_false_iff_ne]; omega
    clear hv hb CL hn
    generalize (lexP d).1.length = n at *
    go_wp2_with fail
    go_ret
    exact ⟨ret_bool (by rw [HV.out]), HB.out⟩
  obtain ⟨⟨xk, xa, xn, xs⟩, hx⟩ : ∃ x, (lexP d).1 = [x] := by
    match hl : (lexP d).1, (Classical.byContradiction hn : (lexP d).1.length = 1) with
    | [x], _ => exact ⟨x, rfl⟩
  rw [hx] at CL
  have hone : ∀ {w2 : World} {v : Value}, TokRow w2 v [⟨xk, xa, xn, xs⟩] → ∃ tb tc, v = .slice (some ⟨tb, 0, none⟩) 1 tc ∧ w2.cell? ⟨tb, 0, none⟩ = some (.int .i64 xk) ∧ w2.cell? ⟨tb, 3, none⟩ = some (.string (bs xs)) := fun {w2 v} hv => by
    rcases hv with ⟨h1, _⟩ | ⟨b, c, h1, h2, h3⟩
    · cases h1
    · exact ⟨b, c, h1, h3 0 _ rfl 0 _ rfl, h3 0 _ rfl 3 _ rfl⟩
  by_cases hk : xk = 1
  · by_cases ht : xs = d
    · have HV : Hid (isNm d = true) := by
        show _ = _
        subst hk; subst ht
        exact nm_of_lex hE0 hx
      have e1 : ((bs xs).toList == (bs d).toList) = true := by rw [ht]; simp
      clear hE hE0 hn hx ht
      subst hk
      go_enter Tryz.func45, Tryz.ntmps45
      go_wp2_with fail
      refine (CL _).mono ?_
      rintro e w2 ⟨v, rfl, hv, hb⟩
      have HB := hide hb
      obtain ⟨tb, tc, rfl, t0, t3⟩ := hone hv
      clear hv hb CL hone
      go_wp2_with fail
      go_ret
      exact ⟨ret_bool (by rw [HV.out]), HB.out⟩
    · have HV : Hid (isNm d = false) := by
        show _ = _
        rw [← Bool.not_eq_true]; intro h; rw [lex_of_nm h] at hx
        simp at hx; exact ht hx.2.2.2.symm
      have e1 : ((bs xs).toList == (bs d).toList) = false := by rw [beq_eq_false_iff_ne, bs_toList, bs_toList]; exact ht
      clear hE hE0 hn hx ht
      subst hk
      go_enter Tryz.func45, Tryz.ntmps45
      go_wp2_with fail
      refine (CL _).mono ?_
      rintro e w2 ⟨v, rfl, hv, hb⟩
      have HB := hide hb
      obtain ⟨tb, tc, rfl, t0, t3⟩ := hone hv
      clear hv hb CL hone
      go_wp2_with fail
      go_ret
      exact ⟨ret_bool (by rw [HV.out]), HB.out⟩
  · have HV : Hid (isNm d = false) := by
      show _ = _
      rw [← Bool.not_eq_true]; intro h; rw [lex_of_nm h] at hx
      simp at hx; exact hk hx.1.symm
    have e1 : (xk == 1) = false := by rw [beq_eq_false_iff_ne]; exact hk
    clear hE hE0 hn hx hk
    go_enter Tryz.func45, Tryz.ntmps45
    go_wp2_with fail
    refine (CL _).mono ?_
    rintro e w2 ⟨v, rfl, hv, hb⟩
    have HB := hide hb
    obtain ⟨tb, tc, rfl, t0, t3⟩ := hone hv
    clear hv hb CL hone
    go_wp2_with fail
    go_ret
    exact ⟨ret_bool (by rw [HV.out]), HB.out⟩
end Go.Proofs.YtdiebacfbhjbdaaGreatDoor

/- Walks of package privacy: Make. -/
set_option linter.unusedVariables false
set_option linter.unusedSimpArgs false
namespace Go.Proofs.YtdiebacfbhjbdaaGreatDoor
open Go.RowKit

def lnC (l : Ln) : Array Value := #[.string (bs l.p), .string (bs l.t), .string (bs l.s), .string (bs l.d)]
theorem Contains_10 (t : List UInt8) (w : World) : Calls Tryz.prog 46 #[.string (bs t), .string ⟨#[10]⟩] w fun e w' => e = .returned (.bool (t.contains 10)) ∧ w' = w := by
  have h := Tryz.strings_Contains_one (bs t) 10 w
  rw [bs_list, ← Lib.contains_iff_indexByte] at h
  exact h
set_option maxRecDepth 100000 in
set_option maxHeartbeats 8000000 in
theorem Make_any (p t s : List UInt8) (hp : p.length ≤ 140737488355328) (ht : t.length ≤ 140737488355328) (hs : s.length ≤ 140737488355328) (w : World) (hg : Glob w) :
    Calls Tryz.prog 19 #[.string (bs p), .string (bs t), .string (bs s)] w fun e w' => e = .returned (.tuple #[.agg (lnC (makeV p t s)), .int .i64 (makeE p t s)]) ∧ Below w.heap.size w w' := by
  have HB := hide (below_one w (.cells #[.string ⟨#[]⟩, .string ⟨#[]⟩, .string ⟨#[]⟩, .string ⟨#[]⟩] 32))
  have HR := hide (Blk.new w 32 #[.string ⟨#[]⟩, .string ⟨#[]⟩, .string ⟨#[]⟩, .string ⟨#[]⟩])
  have HG := hide (hg.alloc (.cells #[.string ⟨#[]⟩, .string ⟨#[]⟩, .string ⟨#[]⟩, .string ⟨#[]⟩] 32))
  have hzt : (bs t).size = t.length := bs_size t
  have hte : (bs t).toList.isEmpty = t.isEmpty := by rw [bs_toList]
  clear hg
  go_enter Tryz.func19, Tryz.ntmps19
  go_wp2_with fail
  generalize w.alloc (.cells #[.string ⟨#[]⟩, .string ⟨#[]⟩, .string ⟨#[]⟩, .string ⟨#[]⟩] 32) = w1 at *
  obtain ⟨br, hbr⟩ : ∃ b, Hid (w.heap.size = b) := ⟨_, rfl⟩
  rw [hbr.out] at HR ⊢
  obtain ⟨U, hU, g, u0, rfl, hgu, hi⟩ := cls w1
  have CN := cls_call hgu hi (fun w _ => named_any p hp w)
  have CC := cls_call hgu hi (fun w _ => (Contains_10 t w).mono fun e w' ⟨he, hw⟩ => (⟨he, hw ▸ Below.refl _ _⟩ : e = .returned (.bool (t.contains 10)) ∧ Below w.heap.size w w'))
  have CI := cls_call hgu hi (fun w _ => Is_any s (by omega) w)
  have r0 := blk_all hgu HR.out 0 rfl
  have r1 := blk_all hgu HR.out 1 rfl
  have r2 := blk_all hgu HR.out 2 rfl
  have r3 := blk_all hgu HR.out 3 rfl
  have f0 : ∀ u i, (g u).frozen? ⟨br, i, none⟩ = false := fun u i => (HR.out.to (hgu u)).frozen i
  have HGU := hide hgu
  have HHI := hide hi
  have HM : Hid (canM p t s = (isNm p && !t.isEmpty && decide (t.length ≤ 400) && !t.contains 10 && isD s)) := rfl
  have HV0 : Hid (canM p t s = false → makeV p t s = noL ∧ makeE p t s = 1) := fun h => by unfold makeV makeE; rw [h]; exact ⟨rfl, rfl⟩
  have HV1 : Hid (canM p t s = true → makeV p t s = mkL p t s ∧ makeE p t s = 0) := fun h => by unfold makeV makeE; rw [h]; exact ⟨rfl, rfl⟩
  clear hgu hi
  cases h1 : isNm p with
  | false =>
    rw [h1] at CN
    have HV := hide (HV0.out (by rw [HM.out, h1]; simp))
    clear HV0 HV1 HM
    go_wp2_with (first | ((with_reducible refine (CN _).mono ?_); rintro e' w' ⟨rfl, uz, rfl⟩) | ((with_reducible refine (CC _).mono ?_); rintro e' w' ⟨rfl, uz, rfl⟩) | ((with_reducible refine (CI _).mono ?_); rintro e' w' ⟨rfl, uz, rfl⟩))
    have hbk := (((((HR.out.to (HGU.out uz)).set_ 0 (.string ⟨#[]⟩)).set_ 1 (.string ⟨#[]⟩)).set_ 2 (.string ⟨#[]⟩)).set_ 3 (.string ⟨#[]⟩))
    refine bodyPost_ret (results_c1 (p := 6) (u := 7) rfl _ _ br 32 _ _ rfl hbk Tryz.underlying32 rfl (by kernel_rfl)) rfl ⟨by rw [HV.out.1, HV.out.2]; rfl, ?_⟩
    exact (((((below_to HB.out (Nat.le_refl _) (HGU.out uz)).setCell (p := ⟨br, 0, none⟩) (Nat.le_of_eq hbr.out) _).setCell (p := ⟨br, 1, none⟩) (Nat.le_of_eq hbr.out) _).setCell (p := ⟨br, 2, none⟩) (Nat.le_of_eq hbr.out) _).setCell (p := ⟨br, 3, none⟩) (Nat.le_of_eq hbr.out) _)
  | true =>
    rw [h1] at CN
    cases h2 : t.isEmpty with
    | true =>
      rw [h2] at hte
      have HV := hide (HV0.out (by rw [HM.out, h2]; simp))
      clear HV0 HV1 HM
      go_wp2_with (first | ((with_reducible refine (CN _).mono ?_); rintro e' w' ⟨rfl, uz, rfl⟩) | ((with_reducible refine (CC _).mono ?_); rintro e' w' ⟨rfl, uz, rfl⟩) | ((with_reducible refine (CI _).mono ?_); rintro e' w' ⟨rfl, uz, rfl⟩))
      have hbk := (((((HR.out.to (HGU.out uz)).set_ 0 (.string ⟨#[]⟩)).set_ 1 (.string ⟨#[]⟩)).set_ 2 (.string ⟨#[]⟩)).set_ 3 (.string ⟨#[]⟩))
      refine bodyPost_ret (results_c1 (p := 6) (u := 7) rfl _ _ br 32 _ _ rfl hbk Tryz.underlying32 rfl (by kernel_rfl)) rfl ⟨by rw [HV.out.1, HV.out.2]; rfl, ?_⟩
      exact (((((below_to HB.out (Nat.le_refl _) (HGU.out uz)).setCell (p := ⟨br, 0, none⟩) (Nat.le_of_eq hbr.out) _).setCell (p := ⟨br, 1, none⟩) (Nat.le_of_eq hbr.out) _).setCell (p := ⟨br, 2, none⟩) (Nat.le_of_eq hbr.out) _).setCell (p := ⟨br, 3, none⟩) (Nat.le_of_eq hbr.out) _)
    | false =>
      rw [h2] at hte
      by_cases h3 : t.length ≤ 400
      · have e3 : decide ((400 : Int) < (t.length : Int)) = false := decide_eq_false (by omega)
        cases h4 : t.contains 10 with
        | true =>
          rw [h4] at CC
          have HV := hide (HV0.out (by rw [HM.out, h4]; simp))
          clear HV0 HV1 HM
          go_wp2_with (first | ((with_reducible refine (CN _).mono ?_); rintro e' w' ⟨rfl, uz, rfl⟩) | ((with_reducible refine (CC _).mono ?_); rintro e' w' ⟨rfl, uz, rfl⟩) | ((with_reducible refine (CI _).mono ?_); rintro e' w' ⟨rfl, uz, rfl⟩))
          have hbk := (((((HR.out.to (HGU.out uz)).set_ 0 (.string ⟨#[]⟩)).set_ 1 (.string ⟨#[]⟩)).set_ 2 (.string ⟨#[]⟩)).set_ 3 (.string ⟨#[]⟩))
          refine bodyPost_ret (results_c1 (p := 6) (u := 7) rfl _ _ br 32 _ _ rfl hbk Tryz.underlying32 rfl (by kernel_rfl)) rfl ⟨by rw [HV.out.1, HV.out.2]; rfl, ?_⟩
          exact (((((below_to HB.out (Nat.le_refl _) (HGU.out uz)).setCell (p := ⟨br, 0, none⟩) (Nat.le_of_eq hbr.out) _).setCell (p := ⟨br, 1, none⟩) (Nat.le_of_eq hbr.out) _).setCell (p := ⟨br, 2, none⟩) (Nat.le_of_eq hbr.out) _).setCell (p := ⟨br, 3, none⟩) (Nat.le_of_eq hbr.out) _)
        | false =>
          rw [h4] at CC
          cases h5 : isD s with
          | false =>
            rw [h5] at CI
            have HV := hide (HV0.out (by rw [HM.out, h5]; simp))
            clear HV0 HV1 HM
            go_wp2_with (first | ((with_reducible refine (CN _).mono ?_); rintro e' w' ⟨rfl, uz, rfl⟩) | ((with_reducible refine (CC _).mono ?_); rintro e' w' ⟨rfl, uz, rfl⟩) | ((with_reducible refine (CI _).mono ?_); rintro e' w' ⟨rfl, uz, rfl⟩))
            have hbk := (((((HR.out.to (HGU.out uz)).set_ 0 (.string ⟨#[]⟩)).set_ 1 (.string ⟨#[]⟩)).set_ 2 (.string ⟨#[]⟩)).set_ 3 (.string ⟨#[]⟩))
            refine bodyPost_ret (results_c1 (p := 6) (u := 7) rfl _ _ br 32 _ _ rfl hbk Tryz.underlying32 rfl (by kernel_rfl)) rfl ⟨by rw [HV.out.1, HV.out.2]; rfl, ?_⟩
            exact (((((below_to HB.out (Nat.le_refl _) (HGU.out uz)).setCell (p := ⟨br, 0, none⟩) (Nat.le_of_eq hbr.out) _).setCell (p := ⟨br, 1, none⟩) (Nat.le_of_eq hbr.out) _).setCell (p := ⟨br, 2, none⟩) (Nat.le_of_eq hbr.out) _).setCell (p := ⟨br, 3, none⟩) (Nat.le_of_eq hbr.out) _)
          | true =>
            rw [h5] at CI
            have HV := hide (HV1.out (by rw [HM.out, h1, h2, h4, h5, decide_eq_true h3]; rfl))
            clear HV0 HV1 HM
            have hp24 := (nm_facts h1).2.2.1
            have hs16 := ((isD_iff s).1 h5).1
            have CLi : ∀ u, Calls Tryz.prog 20 #[.slice (some ⟨(g u).heap.size, 0, none⟩) 4 4] ((g u).alloc (.cells #[.string ⟨#[108, 105, 110, 101]⟩, .string (bs p), .string (bs t), .string (bs s)] 9)) fun e w' => e = .returned (.string (bs (listD [lineT, p, t, s]))) ∧ ∃ u', w' = g u' := fun u => by
              have hb := below_alloc (HGU.out u) (Nat.le_refl _) (.cells #[.string ⟨#[108, 105, 110, 101]⟩, .string (bs p), .string (bs t), .string (bs s)] 9)
              refine (List_any [lineT, p, t, s] _ 9 _ (Blk.new (g u) 9 #[.string ⟨#[108, 105, 110, 101]⟩, .string (bs p), .string (bs t), .string (bs s)]) (by simp) ?_ ((HG.out.to (HGU.out u)).alloc _)).mono fun e w' ⟨he, hb2⟩ => ⟨he, HHI.out _ (below_to hb (Nat.le_refl _) hb2)⟩
              refine Nat.le_trans (join_len _ ?_) ?_
              · intro l hl
                simp only [List.mem_cons, List.not_mem_nil, or_false] at hl
                rcases hl with rfl | rfl | rfl | rfl <;> first | omega | (show (4 : Nat) < _; omega)
              · simp only [List.map_cons, List.map_nil, List.sum_cons, List.sum_nil, List.length_cons, List.length_nil]
                have : lineT.length = 4 := rfl
                omega
            clear hp24 hs16 h1 h2 h4 h5
            go_wp2_with (first | ((with_reducible refine (CN _).mono ?_); rintro e' w' ⟨rfl, uz, rfl⟩) | ((with_reducible refine (CC _).mono ?_); rintro e' w' ⟨rfl, uz, rfl⟩) | ((with_reducible refine (CI _).mono ?_); rintro e' w' ⟨rfl, uz, rfl⟩) | ((with_reducible refine (CLi _).mono ?_); rintro e' w' ⟨rfl, uz, rfl⟩))
            have hbk := (((((HR.out.to (HGU.out uz)).set_ 0 (.string (bs p))).set_ 1 (.string (bs t))).set_ 2 (.string (bs s))).set_ 3 (.string (bs (listD [lineT, p, t, s]))))
            refine bodyPost_ret (results_c1 (p := 6) (u := 7) rfl _ _ br 32 _ _ rfl hbk Tryz.underlying32 rfl (by kernel_rfl)) rfl ⟨by rw [HV.out.1, HV.out.2]; rfl, ?_⟩
            exact (((((below_to HB.out (Nat.le_refl _) (HGU.out uz)).setCell (p := ⟨br, 0, none⟩) (Nat.le_of_eq hbr.out) _).setCell (p := ⟨br, 1, none⟩) (Nat.le_of_eq hbr.out) _).setCell (p := ⟨br, 2, none⟩) (Nat.le_of_eq hbr.out) _).setCell (p := ⟨br, 3, none⟩) (Nat.le_of_eq hbr.out) _)
      · have e3 : decide ((400 : Int) < (t.length : Int)) = true := decide_eq_true (by omega)
        have HV := hide (HV0.out (by rw [HM.out, decide_eq_false h3]; simp))
        clear HV0 HV1 HM
        go_wp2_with (first | ((with_reducible refine (CN _).mono ?_); rintro e' w' ⟨rfl, uz, rfl⟩) | ((with_reducible refine (CC _).mono ?_); rintro e' w' ⟨rfl, uz, rfl⟩) | ((with_reducible refine (CI _).mono ?_); rintro e' w' ⟨rfl, uz, rfl⟩))
        have hbk := (((((HR.out.to (HGU.out uz)).set_ 0 (.string ⟨#[]⟩)).set_ 1 (.string ⟨#[]⟩)).set_ 2 (.string ⟨#[]⟩)).set_ 3 (.string ⟨#[]⟩))
        refine bodyPost_ret (results_c1 (p := 6) (u := 7) rfl _ _ br 32 _ _ rfl hbk Tryz.underlying32 rfl (by kernel_rfl)) rfl ⟨by rw [HV.out.1, HV.out.2]; rfl, ?_⟩
        exact (((((below_to HB.out (Nat.le_refl _) (HGU.out uz)).setCell (p := ⟨br, 0, none⟩) (Nat.le_of_eq hbr.out) _).setCell (p := ⟨br, 1, none⟩) (Nat.le_of_eq hbr.out) _).setCell (p := ⟨br, 2, none⟩) (Nat.le_of_eq hbr.out) _).setCell (p := ⟨br, 3, none⟩) (Nat.le_of_eq hbr.out) _)
end Go.Proofs.YtdiebacfbhjbdaaGreatDoor

/- Walks of package privacy: erased; lines compared. -/
set_option linter.unusedVariables false
set_option linter.unusedSimpArgs false
namespace Go.Proofs.YtdiebacfbhjbdaaGreatDoor
open Go.RowKit

theorem lnv_yes (l : Ln) (w : World) : (binOp .eql 32 (.agg #[.string (bs l.p), .string (bs l.t), .string (bs l.s), .string (bs l.d)]) (.agg #[.string (bs l.p), .string (bs l.t), .string (bs l.s), .string (bs l.d)])).run Tryz.prog w = .ok (.bool true) w := by
  rw [run_eql_struct]
  go_simp
theorem lnv_no {l m : Ln} (h : l ≠ m) (w : World) : (binOp .eql 32 (.agg #[.string (bs l.p), .string (bs l.t), .string (bs l.s), .string (bs l.d)]) (.agg #[.string (bs m.p), .string (bs m.t), .string (bs m.s), .string (bs m.d)])).run Tryz.prog w = .ok (.bool false) w := by
  rw [run_eql_struct]
  go_simp
  intro h1 h2 h3 h4
  rw [bs_toList, bs_toList] at h1 h2 h3 h4
  exact h ((Ln.eq_iff l m).2 ⟨h1, h2, h3, h4⟩)
set_option maxHeartbeats 2000000 in
theorem erased_any (l : Ln) (w : World) : Calls Tryz.prog 39 #[.agg (lnC l)] w fun e w' => e = .returned (.agg (lnC (er l))) ∧ Below w.heap.size w w' := by
  unfold lnC
  have HB := hide (below_two w (.cells #[.string (bs l.p), .string (bs l.t), .string (bs l.s), .string (bs l.d)] 32) (.cells #[.string ⟨#[]⟩, .string ⟨#[]⟩, .string ⟨#[]⟩, .string ⟨#[]⟩] 32))
  go_enter Tryz.func39, Tryz.ntmps39
  go_wp2_with fail
  have hb : Blk ((w.alloc (.cells #[.string (bs l.p), .string (bs l.t), .string (bs l.s), .string (bs l.d)] 32)).alloc (.cells #[.string ⟨#[]⟩, .string ⟨#[]⟩, .string ⟨#[]⟩, .string (bs l.d)] 32)) (w.heap.size + 1) 32 #[.string ⟨#[]⟩, .string ⟨#[]⟩, .string ⟨#[]⟩, .string (bs l.d)] := by
    have := Blk.new (w.alloc (.cells #[.string (bs l.p), .string (bs l.t), .string (bs l.s), .string (bs l.d)] 32)) 32 #[.string ⟨#[]⟩, .string ⟨#[]⟩, .string ⟨#[]⟩, .string (bs l.d)]
    show Blk _ _ _ _
    simpa using this
  refine bodyPost_ret (results_cell_blk rfl _ _ (w.heap.size + 1) 32 _ _ rfl hb Tryz.underlying32 rfl (by kernel_rfl)) rfl ⟨rfl, ?_⟩
  exact below_two w _ _
end Go.Proofs.YtdiebacfbhjbdaaGreatDoor

/- Walks of package privacy: Valid. -/
set_option linter.unusedVariables false
set_option linter.unusedSimpArgs false
namespace Go.Proofs.YtdiebacfbhjbdaaGreatDoor
open Go.RowKit

structure Ln.fit (l : Ln) : Prop where
  p : l.p.length ≤ 140737488355328
  t : l.t.length ≤ 140737488355328
  s : l.s.length ≤ 140737488355328
  d : l.d.length ≤ 140737488355328
set_option maxRecDepth 100000 in
set_option maxHeartbeats 4000000 in
theorem Valid_any (l : Ln) (hf : l.fit) (w : World) (hg : Glob w) : Calls Tryz.prog 15 #[.agg (lnC l)] w fun e w' => e = .returned (.bool (validL l)) ∧ Below w.heap.size w w' := by
  have HB := hide (below_one w (.cells #[.string (bs l.p), .string (bs l.t), .string (bs l.s), .string (bs l.d)] 32))
  have HG := hide (hg.alloc (.cells #[.string (bs l.p), .string (bs l.t), .string (bs l.s), .string (bs l.d)] 32))
  have HR := hide (Blk.new w 32 #[.string (bs l.p), .string (bs l.t), .string (bs l.s), .string (bs l.d)])
  have CE := fun w => erased_any l w
  unfold lnC at CE ⊢
  clear hg
  go_enter Tryz.func15, Tryz.ntmps15
  go_wp2_with fail
  generalize w.alloc (.cells #[.string (bs l.p), .string (bs l.t), .string (bs l.s), .string (bs l.d)] 32) = w1 at *
  obtain ⟨b1, hb1⟩ : ∃ b, Hid (w.heap.size = b) := ⟨_, rfl⟩
  rw [hb1.out] at HR ⊢
  obtain ⟨U, hU, g, u0, rfl, hgu, hi⟩ := cls w1
  have CEg := cls_call hgu hi (fun w _ => CE w)
  have r0 := blk_all hgu HR.out 0 rfl
  have r1 := blk_all hgu HR.out 1 rfl
  have r2 := blk_all hgu HR.out 2 rfl
  have r3 := blk_all hgu HR.out 3 rfl
  have lu : ∀ u, b1 < (g u).heap.size := fun u => (HR.out.to (hgu u)).lt
  have nu : ∀ u, b1 ≠ (g u).heap.size := fun u => Nat.ne_of_lt (lu u)
  have HGU := hide hgu
  have HHI := hide hi
  have CI := cls_call hgu hi (fun w _ => Is_any l.d (by have := hf.d; omega) w)
  have CM := cls_call hgu hi (fun w hb => Make_any l.p l.t l.s hf.p hf.t hf.s w (HG.out.to hb))
  by_cases he : l = er l
  · have HV : Hid (validL l = isD l.d) := by show _ = _; unfold validL; rw [if_pos he]
    have q := lnv_yes l
    rw [← he] at CEg
    clear he hgu hi CM
    refine wp_region_class g (by kernel_rfl) (by kernel_rfl) (HHI.out _ (HGU.out _).drew) ?_
    repeat (go_big_quiet_step (with_reducible exact CEg _))
    refine wpQuiet_nil ?_
    intro w5 hw5
    obtain ⟨u, rfl⟩ := hw5
    go_wp2_with ((with_reducible refine (CI _).mono ?_); rintro e w' ⟨rfl, uz, rfl⟩)
    go_ret
    exact ⟨ret_bool (by rw [HV.out]), below_to HB.out (Nat.le_refl _) (HGU.out _)⟩
  · have q := lnv_no he
    have HV0 : Hid (validL l = (canM l.p l.t l.s && decide (mkL l.p l.t l.s = l))) := by show _ = _; unfold validL; rw [if_neg he]
    unfold lnC at CM
    cases hc : canM l.p l.t l.s with
    | false =>
      have eV : makeV l.p l.t l.s = noL := by unfold makeV; rw [hc]; rfl
      have eE : makeE l.p l.t l.s = 1 := by unfold makeE; rw [hc]; rfl
      rw [eV, eE] at CM
      have HV : Hid (validL l = false) := by show _ = _; rw [HV0.out, hc]; rfl
      clear eV eE hc HV0 he hgu hi CI
      refine wp_region_class g (by kernel_rfl) (by kernel_rfl) (HHI.out _ (HGU.out _).drew) ?_
      repeat (go_big_quiet_step (with_reducible exact CEg _))
      refine wpQuiet_nil ?_
      intro w5 hw5
      obtain ⟨u, rfl⟩ := hw5
      go_wp2_with ((with_reducible refine (CM _).mono ?_); rintro e w' ⟨rfl, uz, rfl⟩)
      go_ret
      exact ⟨ret_bool (by rw [HV.out]), below_alloc (below_to HB.out (Nat.le_refl _) (HGU.out _)) (Nat.le_refl _) _⟩
    | true =>
      have eV : makeV l.p l.t l.s = mkL l.p l.t l.s := by unfold makeV; rw [hc]; rfl
      have eE : makeE l.p l.t l.s = 0 := by unfold makeE; rw [hc]; rfl
      rw [eV, eE] at CM
      by_cases hm : mkL l.p l.t l.s = l
      · have HV : Hid (validL l = true) := by show _ = _; rw [HV0.out, hc, decide_eq_true hm]; rfl
        rw [hm] at CM
        have q2 := lnv_yes l
        clear eV eE hc HV0 he hgu hi CI hm
        refine wp_region_class g (by kernel_rfl) (by kernel_rfl) (HHI.out _ (HGU.out _).drew) ?_
        repeat (go_big_quiet_step (with_reducible exact CEg _))
        refine wpQuiet_nil ?_
        intro w5 hw5
        obtain ⟨u, rfl⟩ := hw5
        go_wp2_with ((with_reducible refine (CM _).mono ?_); rintro e w' ⟨rfl, uz, rfl⟩)
        go_ret
        exact ⟨ret_bool (by rw [HV.out]), below_alloc (below_to HB.out (Nat.le_refl _) (HGU.out _)) (Nat.le_refl _) _⟩
      · have HV : Hid (validL l = false) := by show _ = _; rw [HV0.out, hc, decide_eq_false hm]; rfl
        have q2 := lnv_no hm
        clear eV eE hc HV0 he hgu hi CI hm
        generalize mkL l.p l.t l.s = m at *
        refine wp_region_class g (by kernel_rfl) (by kernel_rfl) (HHI.out _ (HGU.out _).drew) ?_
        repeat (go_big_quiet_step (with_reducible exact CEg _))
        refine wpQuiet_nil ?_
        intro w5 hw5
        obtain ⟨u, rfl⟩ := hw5
        go_wp2_with ((with_reducible refine (CM _).mono ?_); rintro e w' ⟨rfl, uz, rfl⟩)
        go_ret
        exact ⟨ret_bool (by rw [HV.out]), below_alloc (below_to HB.out (Nat.le_refl _) (HGU.out _)) (Nat.le_refl _) _⟩
end Go.Proofs.YtdiebacfbhjbdaaGreatDoor

/- Walks of package privacy: record.valid. -/
set_option linter.unusedVariables false
set_option linter.unusedSimpArgs false
namespace Go.Proofs.YtdiebacfbhjbdaaGreatDoor
open Go.RowKit

def lnV (l : Ln) : List Value := [.string (bs l.p), .string (bs l.t), .string (bs l.s), .string (bs l.d)]
def LnsAt (w : World) (v : Value) (log : List Ln) : Prop := RowsAt w 4 v (log.map lnV)
theorem LnsAt.to {w w' : World} {v : Value} {log : List Ln} (h : LnsAt w v log) (hb : Below w.heap.size w w') : LnsAt w' v log := RowsAt.to h hb
theorem LnsAt.slice {w : World} {v : Value} {log : List Ln} (h : LnsAt w v log) : ∃ A c, v = .slice A log.length c := by
  obtain ⟨A, c, h1, _⟩ := h
  exact ⟨A, c, by rw [h1, List.length_map]⟩
theorem LnsAt.at_ {w : World} {A : Option Addr} {n c : Nat} {log : List Ln} (h : LnsAt w (.slice A n c) log) {k : Nat} {l : Ln} (hl : log[k]? = some l) : ∃ a, A = some a ∧ a.block < w.heap.size ∧
    w.cell? (a.add (k * 4)) = some (.string (bs l.p)) ∧ w.cell? ⟨(a.add (k * 4)).block, (a.add (k * 4)).off + 1, none⟩ = some (.string (bs l.t)) ∧ w.cell? ⟨(a.add (k * 4)).block, (a.add (k * 4)).off + 2, none⟩ = some (.string (bs l.s)) ∧ w.cell? ⟨(a.add (k * 4)).block, (a.add (k * 4)).off + 3, none⟩ = some (.string (bs l.d)) := by
  obtain ⟨a, c', h1, _, h3, _, h5⟩ := RowsAt.at_ h (k := k) (x := lnV l) (by rw [List.getElem?_map, hl]; rfl)
  injection h1 with e1
  refine ⟨a, e1, h3, ?_, h5 1 _ rfl, h5 2 _ rfl, h5 3 _ rfl⟩
  have := h5 0 _ rfl
  rwa [show (a.add (k * 4)).add 0 = a.add (k * 4) by rw [add_of_add, Nat.add_zero]] at this
end Go.Proofs.YtdiebacfbhjbdaaGreatDoor

/- Walks of package privacy: record.valid. -/
set_option linter.unusedVariables false
set_option linter.unusedSimpArgs false
namespace Go.Proofs.YtdiebacfbhjbdaaGreatDoor
open Go.RowKit

set_option maxRecDepth 100000 in
set_option maxHeartbeats 4000000 in
theorem rvalid_any (log : List Ln) (hf : ∀ l ∈ log, l.fit) (hl : log.length ≤ 1000000000) (v : Value) (w : World) (hv : LnsAt w v log) (hg : Glob w) : Calls Tryz.prog 36 #[v] w fun e w' => e = .returned (.bool (validG log)) ∧ Below w.heap.size w w' := by
  obtain ⟨A, c, rfl⟩ := hv.slice
  have HS := hide hv
  have HG := hide hg
  have HV : Hid (validG log = (log.all validL && decide (log.length ≤ 10000))) := rfl
  clear hv hg
  go_enter Tryz.func36, Tryz.ntmps36
  go_wp2_with fail
  go_loopw [4, 7] (fun _ i wr => ∃ k : Nat, i = .int .i64 (k : Int) ∧ (k ≤ log.length ∧ log.all validL = (log.drop k).all validL) ∧ Below w.heap.size w wr) (fun _ i _ => log.length - (intOf i).toNat)
  case atStart => exact ⟨0, rfl, ⟨by omega, rfl⟩, Below.refl _ _⟩
  case round =>
    obtain ⟨k, rfl, ⟨hk, hall⟩, hB⟩ := hrel
    have HA := hide hall
    have HB := hide hB
    clear hall hB
    by_cases hlt : k < log.length
    · have e1 : decide ((k : Int) < (log.length : Int)) = true := decide_eq_true (by omega)
      obtain ⟨l, hl'⟩ : ∃ l, log[k]? = some l := ⟨_, List.getElem?_eq_getElem hlt⟩
      obtain ⟨a, rfl, ha, c0, c1, c2, c3⟩ := LnsAt.at_ (HS.out.to HB.out) hl'
      have HW := hide (below_alloc HB.out (Nat.le_refl _) (.cells #[.string (bs l.p), .string (bs l.t), .string (bs l.s), .string (bs l.d)] 32))
      have CV : Calls Tryz.prog 15 #[.agg #[.string (bs l.p), .string (bs l.t), .string (bs l.s), .string (bs l.d)]] (wr.alloc (.cells #[.string (bs l.p), .string (bs l.t), .string (bs l.s), .string (bs l.d)] 32)) fun e w' => e = .returned (.bool (validL l)) ∧ Below (wr.alloc (.cells #[.string (bs l.p), .string (bs l.t), .string (bs l.s), .string (bs l.d)] 32)).heap.size (wr.alloc (.cells #[.string (bs l.p), .string (bs l.t), .string (bs l.s), .string (bs l.d)] 32)) w' := Valid_any l (hf l (List.mem_of_getElem? hl')) _ (HG.out.to HW.out)
      have HD : Hid (log.drop k = l :: log.drop (k + 1)) := by
        show _ = _
        rw [List.drop_eq_getElem_cons hlt]
        rw [List.getElem?_eq_getElem hlt] at hl'
        rw [Option.some.inj hl']
      clear hl' hf
      cases hvl : validL l with
      | true =>
        rw [hvl] at CV
        have HN : Hid (log.all validL = (log.drop (k + 1)).all validL) := by show _ = _; rw [HA.out, HD.out, List.all_cons, hvl]; rfl
        clear hvl
        go_wp2_with ((with_reducible refine CV.mono ?_); rintro e w' ⟨rfl, hb⟩)
        refine ⟨⟨k + 1, by go_num, ⟨by omega, HN.out⟩, below_to HW.out (Nat.le_refl _) (by assumption)⟩, ?_⟩
        simp [intOf]; omega
      | false =>
        rw [hvl] at CV
        have HN : Hid (validG log = false) := by show _ = _; rw [HV.out, HA.out, HD.out, List.all_cons, hvl]; rfl
        clear hvl
        go_wp2_with ((with_reducible refine CV.mono ?_); rintro e w' ⟨rfl, hb⟩)
        go_ret
        exact ⟨ret_bool (by rw [HN.out]), below_to HW.out (Nat.le_refl _) (by assumption)⟩
    · obtain rfl : k = log.length := by omega
      have e1 : decide ((log.length : Int) < (log.length : Int)) = false := by simp
      have HN : Hid (validG log = decide ((log.length : Int) ≤ 10000)) := by
        show _ = _
        rw [HV.out, HA.out, List.drop_length, List.all_nil, Bool.true_and]
        exact decide_eq_decide.2 (by omega)
      go_wp2_with fail
      go_ret
      exact ⟨ret_bool (by rw [HN.out]), HB.out⟩
end Go.Proofs.YtdiebacfbhjbdaaGreatDoor

/- Walks of package privacy: proper. -/
set_option linter.unusedVariables false
set_option linter.unusedSimpArgs false
namespace Go.Proofs.YtdiebacfbhjbdaaGreatDoor
open Go.RowKit

theorem ent_rvalid : ∀ args w, (callFunc 36 args).run Tryz.prog w = .ok (.enter 36 args) w := enters_fn Tryz.func36 (by kernel_rfl) rfl
def rvalidF : Value := .func (.func 36) #[] #[]
set_option maxHeartbeats 2000000 in
theorem proper_any (v : Value) (log : List Ln) (hf : ∀ l ∈ log, l.fit) (hl : log.length ≤ 1000000000) (q : List UInt8) (hq : q.length ≤ 140737488355328) (w : World) (hv : LnsAt w v log) (hg : Glob w) :
    Calls Tryz.prog 35 #[.func (.func 36) #[] #[], v, .string (bs q)] w fun e w' => e = .returned (.bool (validG log && isNm q)) ∧ Below w.heap.size w w' := by
  have CV := rvalid_any log hf hl v w hv hg
  have CN := fun w => named_any q hq w
  have hE := ent_rvalid
  cases hvg : validG log with
  | false =>
    rw [hvg] at CV
    clear hv hg hvg
    go_enter Tryz.func35, Tryz.ntmps35
    go_wp2_with ((with_reducible refine CV.mono ?_); rintro e w' ⟨rfl, hb⟩)
    go_ret
    exact ⟨ret_bool (by simp), by assumption⟩
  | true =>
    rw [hvg] at CV
    clear hv hg hvg
    go_enter Tryz.func35, Tryz.ntmps35
    go_wp2_with (first | ((with_reducible refine CV.mono ?_); rintro e w1 ⟨rfl, hb⟩) | ((with_reducible refine (CN _).mono ?_); rintro e w2 ⟨rfl, hb2⟩))
    go_ret
    exact ⟨ret_bool (by simp), below_to (by assumption) (Nat.le_refl _) (by assumption)⟩
end Go.Proofs.YtdiebacfbhjbdaaGreatDoor

/- Walks of package privacy: mapped, at its instances; of what the function yields without a trace in older memory. -/
set_option linter.unusedVariables false
set_option linter.unusedSimpArgs false
namespace Go.Proofs.YtdiebacfbhjbdaaGreatDoor
open Go.RowKit

def mapP {α β : Type} (f : α → β) (p : α → Bool) (l : List α) : List β := (l.filter p).map f
theorem mapP_snoc {α β : Type} (f : α → β) (p : α → Bool) {l : List α} {k : Nat} {x : α} (h : l[k]? = some x) : mapP f p (l.take (k + 1)) = if p x then mapP f p (l.take k) ++ [f x] else mapP f p (l.take k) := by
  unfold mapP
  rw [List.take_add_one, h]
  simp only [Option.toList_some, List.filter_append, List.map_append]
  cases hp : p x <;> simp [hp]
theorem mapP_len {α β : Type} (f : α → β) (p : α → Bool) (l : List α) : (mapP f p l).length ≤ l.length := by
  unfold mapP
  rw [List.length_map]
  exact List.length_filter_le _ _
theorem cells_new {W : World} {xs : List Value} {ty : TypeId} {b : Nat} (hb : b = W.heap.size) : ∀ (j : Nat) (u : Value), xs[j]? = some u → (W.alloc (.cells xs.toArray ty)).cell? ((⟨b, 0, none⟩ : Addr).add j) = some u := by
  subst hb
  intro j u hu
  rw [show (⟨W.heap.size, 0, none⟩ : Addr).add j = ⟨W.heap.size, j, none⟩ by unfold Addr.add; split <;> simp_all]
  refine ((Blk.new W ty xs.toArray).cell j).trans ?_
  simpa using hu
/-- an order -/
structure Od where
  i : List UInt8
  p : List UInt8
  f : List UInt8
  t : List UInt8
  a : Int
  b : Int
def odV (o : Od) : List Value := [.string (bs o.i), .string (bs o.p), .string (bs o.f), .string (bs o.t), .int .i64 o.a, .int .i64 o.b]
def OdsAt (w : World) (v : Value) (l : List Od) : Prop := RowsAt w 6 v (l.map odV)
theorem OdsAt.to {w w' : World} {v : Value} {log : List Od} (h : OdsAt w v log) (hb : Below w.heap.size w w') : OdsAt w' v log := RowsAt.to h hb
theorem OdsAt.slice {w : World} {v : Value} {log : List Od} (h : OdsAt w v log) : ∃ A c, v = .slice A log.length c := by
  obtain ⟨A, c, h1, _⟩ := h
  exact ⟨A, c, by rw [h1, List.length_map]⟩
theorem OdsAt.at_ {w : World} {A : Option Addr} {n c : Nat} {log : List Od} (h : OdsAt w (.slice A n c) log) {k : Nat} {l : Od} (hl : log[k]? = some l) : ∃ a, A = some a ∧ a.block < w.heap.size ∧
    w.cell? (a.add (k * 6)) = some (.string (bs l.i)) ∧ w.cell? ⟨(a.add (k * 6)).block, (a.add (k * 6)).off + 1, none⟩ = some (.string (bs l.p)) ∧ w.cell? ⟨(a.add (k * 6)).block, (a.add (k * 6)).off + 2, none⟩ = some (.string (bs l.f)) ∧ w.cell? ⟨(a.add (k * 6)).block, (a.add (k * 6)).off + 3, none⟩ = some (.string (bs l.t)) ∧ w.cell? ⟨(a.add (k * 6)).block, (a.add (k * 6)).off + 4, none⟩ = some (.int .i64 l.a) ∧ w.cell? ⟨(a.add (k * 6)).block, (a.add (k * 6)).off + 5, none⟩ = some (.int .i64 l.b) := by
  obtain ⟨a, c', h1, _, h3, _, h5⟩ := RowsAt.at_ h (k := k) (x := odV l) (by rw [List.getElem?_map, hl]; rfl)
  injection h1 with e1
  refine ⟨a, e1, h3, ?_, h5 1 _ rfl, h5 2 _ rfl, h5 3 _ rfl, h5 4 _ rfl, h5 5 _ rfl⟩
  have := h5 0 _ rfl
  rwa [show (a.add (k * 6)).add 0 = a.add (k * 6) by rw [add_of_add, Nat.add_zero]] at this

set_option maxRecDepth 100000 in
set_option maxHeartbeats 4000000 in
theorem mLs0_any (K : FuncId) (hE : ∀ args w, (callFunc K args).run Tryz.prog w = .ok (.enter K args) w) (f : Ln → List UInt8) (p : Ln → Bool) (log : List Ln) (hl : log.length ≤ 1000000000) (v : Value) (w : World) (hv : LnsAt w v log)
    (hF : ∀ l ∈ log, ∀ w', Below w.heap.size w w' → Calls Tryz.prog K #[.agg #[.string (bs l.p), .string (bs l.t), .string (bs l.s), .string (bs l.d)]] w' fun e w'' => e = .returned (.tuple #[.string (bs (f l)), .bool (p l)]) ∧ Below w'.heap.size w' w'') :
    Calls Tryz.prog 41 #[v, .func (.func K) #[] #[]] w fun e w' => ∃ v', e = .returned v' ∧ RowsAt w' 1 v' ((mapP f p log).map strV) ∧ Below w.heap.size w w' := by
  obtain ⟨A, c, rfl⟩ := hv.slice
  have HS := hide hv
  have HF := hide hF
  obtain ⟨i0, hi0, hz0, hz1, hz2⟩ := info_parts (show (Tryz.prog.info? 9).map (fun i => (i.zero, i.size, i.bytes)) = some (some (.string ⟨#[]⟩), 1, 16) by kernel_rfl)
  clear hv hF
  go_enter Tryz.func41, Tryz.ntmps41
  go_wp2_with fail
  go_loopw [5, 7, 8, 9, 12] (fun out _ _ _ i wr => ∃ k : Nat, i = .int .i64 (k : Int) ∧ k ≤ log.length ∧ Aside (Below w.heap.size w wr) ∧ Aside (wr.ownsRow w.heap.size 9 1 out (mapP f p (log.take k)).length ((mapP f p (log.take k)).map strV).flatten)) (fun _ _ _ _ i _ => log.length - (intOf i).toNat)
  case atStart => exact ⟨0, rfl, by omega, Below.refl _ _, World.ownsRow_nil _ _ _ _⟩
  case round =>
    obtain ⟨k, rfl, hk, hB, hO⟩ := hrel
    have HB : Hid (Below w.heap.size w wr) := hB
    have HO : Hid (wr.ownsRow w.heap.size 9 1 _ (mapP f p (log.take k)).length ((mapP f p (log.take k)).map strV).flatten) := hO
    clear hB hO
    by_cases hlt : k < log.length
    · have e1 : decide ((k : Int) < (log.length : Int)) = true := decide_eq_true (by omega)
      obtain ⟨l, hl'⟩ : ∃ l, log[k]? = some l := ⟨_, List.getElem?_eq_getElem hlt⟩
      obtain ⟨a, rfl, ha, c0, c1, c2, c3⟩ := LnsAt.at_ (HS.out.to HB.out) hl'
      have HW := hide (below_alloc HB.out (Nat.le_refl _) (.cells #[.string (bs l.p), .string (bs l.t), .string (bs l.s), .string (bs l.d)] 32))
      have CV := HF.out l (List.mem_of_getElem? hl') (wr.alloc (.cells #[.string (bs l.p), .string (bs l.t), .string (bs l.s), .string (bs l.d)] 32)) HW.out
      have HT := hide (mapP_snoc f p hl')
      have HLE : (mapP f p (log.take k)).length ≤ k := Nat.le_trans (mapP_len f p _) (List.length_take_le _ _)
      clear hl'
      cases hp : p l with
      | true =>
        rw [hp] at CV HT
        clear hp
        go_wp2_with (first | ((with_reducible refine CV.mono ?_); rintro e w4 ⟨rfl, hb4⟩) | (at_builtin; refine wpList_append_own _ rfl (.tmp 23) (.tmp 25) _ rfl w.heap.size 9 i0 (.string ⟨#[]⟩) 1 16 Tryz.underlying34 hi0 hz0 hz1 hz2 rfl (by omega) _ (mapP f p (log.take k)).length ((mapP f p (log.take k)).map strV).flatten rfl ?c0 ⟨_, 0, none⟩ 1 1 [.string (bs (f l))] rfl rfl ?c1 ?c2 ?c4 ?c5 ?c3 ?_))
        case c0 => exact own_to' (own_to' (own_to' HO.out (below_one wr _)) (by assumption)) (below_one _ _)
        case c1 => exact cells_new (by simp)
        case c2 => intro u hu; simp only [List.mem_cons, List.not_mem_nil, or_false] at hu; rcases hu with rfl <;> rfl
        case c4 => simp only [maxLen]; omega
        case c5 => omega
        case c3 => have := HW.out.size; have := (by assumption : Below _ _ w4).size; simp at *; omega
        · intro v' w6 hown6 hgr6 _
          have HB6 := hide ((below_alloc (below_to HW.out (Nat.le_refl _) (by assumption)) (Nat.le_refl _) (.cells #[.string (bs (f l))] 9)).grown hgr6 (by have := HW.out.size; have := (by assumption : Below _ _ w4).size; simp at *; omega) (fun b hb => (HO.out.lt b hb).1))
          have HO6 : Hid (w6.ownsRow w.heap.size 9 1 v' (mapP f p (log.take (k + 1))).length ((mapP f p (log.take (k + 1))).map strV).flatten) := by
            show World.ownsRow _ _ _ _ _ _ _
            rw [HT.out]
            simpa [strV] using hown6
          clear hown6 hgr6
          go_wp2_with fail
          refine ⟨⟨k + 1, by go_num, by omega, HB6.out, HO6.out⟩, ?_⟩
          simp [intOf]; omega
      | false =>
        rw [hp] at CV HT
        clear hp
        go_wp2_with ((with_reducible refine CV.mono ?_); rintro e w4 ⟨rfl, hb4⟩)
        refine ⟨⟨k + 1, by go_num, by omega, below_to HW.out (Nat.le_refl _) (by assumption), ?_⟩, ?_⟩
        · rw [HT.out]
          exact own_to' (own_to' HO.out (below_one wr _)) (by assumption)
        · simp [intOf]; omega
    · obtain rfl : k = log.length := by omega
      have e1 : decide ((log.length : Int) < (log.length : Int)) = false := by simp
      rw [List.take_length] at HO
      go_wp2_with fail
      go_ret
      exact ⟨_, rfl, RowsAt.of_own (by simp [strV]) (by rw [List.length_map]; exact HO.out), HB.out⟩

set_option maxRecDepth 100000 in
set_option maxHeartbeats 4000000 in
theorem mLs1_any (K : FuncId) (hE : ∀ args w, (callFunc K args).run Tryz.prog w = .ok (.enter K args) w) (f : Ln → List UInt8) (p : Ln → Bool) (pb : Nat) (log : List Ln) (hl : log.length ≤ 1000000000) (v : Value) (w : World) (hv : LnsAt w v log)
    (hF : ∀ l ∈ log, ∀ w', Below w.heap.size w w' → Calls Tryz.prog K #[.agg #[.string (bs l.p), .string (bs l.t), .string (bs l.s), .string (bs l.d)], .pointer (some ⟨pb, 0, none⟩)] w' fun e w'' => e = .returned (.tuple #[.string (bs (f l)), .bool (p l)]) ∧ Below w'.heap.size w' w'') :
    Calls Tryz.prog 41 #[v, .func (.func K) #[] #[.pointer (some ⟨pb, 0, none⟩)]] w fun e w' => ∃ v', e = .returned v' ∧ RowsAt w' 1 v' ((mapP f p log).map strV) ∧ Below w.heap.size w w' := by
  obtain ⟨A, c, rfl⟩ := hv.slice
  have HS := hide hv
  have HF := hide hF
  obtain ⟨i0, hi0, hz0, hz1, hz2⟩ := info_parts (show (Tryz.prog.info? 9).map (fun i => (i.zero, i.size, i.bytes)) = some (some (.string ⟨#[]⟩), 1, 16) by kernel_rfl)
  clear hv hF
  go_enter Tryz.func41, Tryz.ntmps41
  go_wp2_with fail
  go_loopw [5, 7, 8, 9, 12] (fun out _ _ _ i wr => ∃ k : Nat, i = .int .i64 (k : Int) ∧ k ≤ log.length ∧ Aside (Below w.heap.size w wr) ∧ Aside (wr.ownsRow w.heap.size 9 1 out (mapP f p (log.take k)).length ((mapP f p (log.take k)).map strV).flatten)) (fun _ _ _ _ i _ => log.length - (intOf i).toNat)
  case atStart => exact ⟨0, rfl, by omega, Below.refl _ _, World.ownsRow_nil _ _ _ _⟩
  case round =>
    obtain ⟨k, rfl, hk, hB, hO⟩ := hrel
    have HB : Hid (Below w.heap.size w wr) := hB
    have HO : Hid (wr.ownsRow w.heap.size 9 1 _ (mapP f p (log.take k)).length ((mapP f p (log.take k)).map strV).flatten) := hO
    clear hB hO
    by_cases hlt : k < log.length
    · have e1 : decide ((k : Int) < (log.length : Int)) = true := decide_eq_true (by omega)
      obtain ⟨l, hl'⟩ : ∃ l, log[k]? = some l := ⟨_, List.getElem?_eq_getElem hlt⟩
      obtain ⟨a, rfl, ha, c0, c1, c2, c3⟩ := LnsAt.at_ (HS.out.to HB.out) hl'
      have HW := hide (below_alloc HB.out (Nat.le_refl _) (.cells #[.string (bs l.p), .string (bs l.t), .string (bs l.s), .string (bs l.d)] 32))
      have CV := HF.out l (List.mem_of_getElem? hl') (wr.alloc (.cells #[.string (bs l.p), .string (bs l.t), .string (bs l.s), .string (bs l.d)] 32)) HW.out
      have HT := hide (mapP_snoc f p hl')
      have HLE : (mapP f p (log.take k)).length ≤ k := Nat.le_trans (mapP_len f p _) (List.length_take_le _ _)
      clear hl'
      cases hp : p l with
      | true =>
        rw [hp] at CV HT
        clear hp
        go_wp2_with (first | ((with_reducible refine CV.mono ?_); rintro e w4 ⟨rfl, hb4⟩) | (at_builtin; refine wpList_append_own _ rfl (.tmp 23) (.tmp 25) _ rfl w.heap.size 9 i0 (.string ⟨#[]⟩) 1 16 Tryz.underlying34 hi0 hz0 hz1 hz2 rfl (by omega) _ (mapP f p (log.take k)).length ((mapP f p (log.take k)).map strV).flatten rfl ?c0 ⟨_, 0, none⟩ 1 1 [.string (bs (f l))] rfl rfl ?c1 ?c2 ?c4 ?c5 ?c3 ?_))
        case c0 => exact own_to' (own_to' (own_to' HO.out (below_one wr _)) (by assumption)) (below_one _ _)
        case c1 => exact cells_new (by simp)
        case c2 => intro u hu; simp only [List.mem_cons, List.not_mem_nil, or_false] at hu; rcases hu with rfl <;> rfl
        case c4 => simp only [maxLen]; omega
        case c5 => omega
        case c3 => have := HW.out.size; have := (by assumption : Below _ _ w4).size; simp at *; omega
        · intro v' w6 hown6 hgr6 _
          have HB6 := hide ((below_alloc (below_to HW.out (Nat.le_refl _) (by assumption)) (Nat.le_refl _) (.cells #[.string (bs (f l))] 9)).grown hgr6 (by have := HW.out.size; have := (by assumption : Below _ _ w4).size; simp at *; omega) (fun b hb => (HO.out.lt b hb).1))
          have HO6 : Hid (w6.ownsRow w.heap.size 9 1 v' (mapP f p (log.take (k + 1))).length ((mapP f p (log.take (k + 1))).map strV).flatten) := by
            show World.ownsRow _ _ _ _ _ _ _
            rw [HT.out]
            simpa [strV] using hown6
          clear hown6 hgr6
          go_wp2_with fail
          refine ⟨⟨k + 1, by go_num, by omega, HB6.out, HO6.out⟩, ?_⟩
          simp [intOf]; omega
      | false =>
        rw [hp] at CV HT
        clear hp
        go_wp2_with ((with_reducible refine CV.mono ?_); rintro e w4 ⟨rfl, hb4⟩)
        refine ⟨⟨k + 1, by go_num, by omega, below_to HW.out (Nat.le_refl _) (by assumption), ?_⟩, ?_⟩
        · rw [HT.out]
          exact own_to' (own_to' HO.out (below_one wr _)) (by assumption)
        · simp [intOf]; omega
    · obtain rfl : k = log.length := by omega
      have e1 : decide ((log.length : Int) < (log.length : Int)) = false := by simp
      rw [List.take_length] at HO
      go_wp2_with fail
      go_ret
      exact ⟨_, rfl, RowsAt.of_own (by simp [strV]) (by rw [List.length_map]; exact HO.out), HB.out⟩

set_option maxRecDepth 100000 in
set_option maxHeartbeats 4000000 in
theorem mOO_any (K : FuncId) (hE : ∀ args w, (callFunc K args).run Tryz.prog w = .ok (.enter K args) w) (f : Od → Od) (p : Od → Bool) (pb : Nat) (log : List Od) (hl : log.length ≤ 1000000000) (v : Value) (w : World) (hv : OdsAt w v log)
    (hF : ∀ l ∈ log, ∀ w', Below w.heap.size w w' → Calls Tryz.prog K #[.agg #[.string (bs l.i), .string (bs l.p), .string (bs l.f), .string (bs l.t), .int .i64 l.a, .int .i64 l.b], .pointer (some ⟨pb, 0, none⟩)] w' fun e w'' => e = .returned (.tuple #[.agg #[.string (bs (f l).i), .string (bs (f l).p), .string (bs (f l).f), .string (bs (f l).t), .int .i64 (f l).a, .int .i64 (f l).b], .bool (p l)]) ∧ Below w'.heap.size w' w'') :
    Calls Tryz.prog 59 #[v, .func (.func K) #[] #[.pointer (some ⟨pb, 0, none⟩)]] w fun e w' => ∃ v', e = .returned v' ∧ RowsAt w' 6 v' ((mapP f p log).map odV) ∧ Below w.heap.size w w' := by
  obtain ⟨A, c, rfl⟩ := hv.slice
  have HS := hide hv
  have HF := hide hF
  obtain ⟨i0, hi0, hz0, hz1, hz2⟩ := info_parts (show (Tryz.prog.info? 53).map (fun i => (i.zero, i.size, i.bytes)) = some (some (.agg #[.string ⟨#[]⟩, .string ⟨#[]⟩, .string ⟨#[]⟩, .string ⟨#[]⟩, .int .i64 0, .int .i64 0]), 6, 80) by kernel_rfl)
  clear hv hF
  go_enter Tryz.func59, Tryz.ntmps59
  go_wp2_with fail
  go_loopw [5, 7, 8, 9, 12] (fun out _ _ _ i wr => ∃ k : Nat, i = .int .i64 (k : Int) ∧ k ≤ log.length ∧ Aside (Below w.heap.size w wr) ∧ Aside (wr.ownsRow w.heap.size 53 6 out (mapP f p (log.take k)).length ((mapP f p (log.take k)).map odV).flatten)) (fun _ _ _ _ i _ => log.length - (intOf i).toNat)
  case atStart => exact ⟨0, rfl, by omega, Below.refl _ _, World.ownsRow_nil _ _ _ _⟩
  case round =>
    obtain ⟨k, rfl, hk, hB, hO⟩ := hrel
    have HB : Hid (Below w.heap.size w wr) := hB
    have HO : Hid (wr.ownsRow w.heap.size 53 6 _ (mapP f p (log.take k)).length ((mapP f p (log.take k)).map odV).flatten) := hO
    clear hB hO
    by_cases hlt : k < log.length
    · have e1 : decide ((k : Int) < (log.length : Int)) = true := decide_eq_true (by omega)
      obtain ⟨l, hl'⟩ : ∃ l, log[k]? = some l := ⟨_, List.getElem?_eq_getElem hlt⟩
      obtain ⟨a, rfl, ha, c0, c1, c2, c3, c4, c5⟩ := OdsAt.at_ (HS.out.to HB.out) hl'
      have HW := hide (below_alloc HB.out (Nat.le_refl _) (.cells #[.string (bs l.i), .string (bs l.p), .string (bs l.f), .string (bs l.t), .int .i64 l.a, .int .i64 l.b] 53))
      have CV := HF.out l (List.mem_of_getElem? hl') (wr.alloc (.cells #[.string (bs l.i), .string (bs l.p), .string (bs l.f), .string (bs l.t), .int .i64 l.a, .int .i64 l.b] 53)) HW.out
      have HT := hide (mapP_snoc f p hl')
      have HLE : (mapP f p (log.take k)).length ≤ k := Nat.le_trans (mapP_len f p _) (List.length_take_le _ _)
      clear hl'
      cases hp : p l with
      | true =>
        rw [hp] at CV HT
        clear hp
        go_wp2_with (first | ((with_reducible refine CV.mono ?_); rintro e w4 ⟨rfl, hb4⟩) | (at_builtin; refine wpList_append_own _ rfl (.tmp 23) (.tmp 25) _ rfl w.heap.size 53 i0 (.agg #[.string ⟨#[]⟩, .string ⟨#[]⟩, .string ⟨#[]⟩, .string ⟨#[]⟩, .int .i64 0, .int .i64 0]) 6 80 Tryz.underlying46 hi0 hz0 hz1 hz2 rfl (by omega) _ (mapP f p (log.take k)).length ((mapP f p (log.take k)).map odV).flatten rfl ?c0 ⟨_, 0, none⟩ 1 1 [.string (bs (f l).i), .string (bs (f l).p), .string (bs (f l).f), .string (bs (f l).t), .int .i64 (f l).a, .int .i64 (f l).b] rfl rfl ?c1 ?c2 ?c4 ?c5 ?c3 ?_))
        case c0 => exact own_to' (own_to' (own_to' (own_to' HO.out (below_one wr _)) (by assumption)) (below_one _ _)) (below_one _ _)
        case c1 => exact cells_new (by simp)
        case c2 => intro u hu; simp only [List.mem_cons, List.not_mem_nil, or_false] at hu; rcases hu with rfl | rfl | rfl | rfl | rfl | rfl <;> rfl
        case c4 => simp only [maxLen]; omega
        case c5 => omega
        case c3 => have := HW.out.size; have := (by assumption : Below _ _ w4).size; simp at *; omega
        · intro v' w6 hown6 hgr6 _
          have HB6 := hide ((below_alloc (below_alloc (below_to HW.out (Nat.le_refl _) (by assumption)) (Nat.le_refl _) (.cells #[.string (bs (f l).i), .string (bs (f l).p), .string (bs (f l).f), .string (bs (f l).t), .int .i64 (f l).a, .int .i64 (f l).b] 53)) (Nat.le_refl _) (.cells #[.string (bs (f l).i), .string (bs (f l).p), .string (bs (f l).f), .string (bs (f l).t), .int .i64 (f l).a, .int .i64 (f l).b] 53)).grown hgr6 (by have := HW.out.size; have := (by assumption : Below _ _ w4).size; simp at *; omega) (fun b hb => (HO.out.lt b hb).1))
          have HO6 : Hid (w6.ownsRow w.heap.size 53 6 v' (mapP f p (log.take (k + 1))).length ((mapP f p (log.take (k + 1))).map odV).flatten) := by
            show World.ownsRow _ _ _ _ _ _ _
            rw [HT.out]
            simpa [odV] using hown6
          clear hown6 hgr6
          go_wp2_with fail
          refine ⟨⟨k + 1, by go_num, by omega, HB6.out, HO6.out⟩, ?_⟩
          simp [intOf]; omega
      | false =>
        rw [hp] at CV HT
        clear hp
        go_wp2_with ((with_reducible refine CV.mono ?_); rintro e w4 ⟨rfl, hb4⟩)
        refine ⟨⟨k + 1, by go_num, by omega, below_alloc (below_to HW.out (Nat.le_refl _) (by assumption)) (Nat.le_refl _) _, ?_⟩, ?_⟩
        · rw [HT.out]
          exact own_to' (own_to' (own_to' HO.out (below_one wr _)) (by assumption)) (below_one _ _)
        · simp [intOf]; omega
    · obtain rfl : k = log.length := by omega
      have e1 : decide ((log.length : Int) < (log.length : Int)) = false := by simp
      rw [List.take_length] at HO
      go_wp2_with fail
      go_ret
      exact ⟨_, rfl, RowsAt.of_own (by simp [odV]) (by rw [List.length_map]; exact HO.out), HB.out⟩
end Go.Proofs.YtdiebacfbhjbdaaGreatDoor

/- Walks of package privacy: Root, About, Orders and their function values. -/
set_option linter.unusedVariables false
set_option linter.unusedSimpArgs false
namespace Go.Proofs.YtdiebacfbhjbdaaGreatDoor
open Go.RowKit

theorem ent_cRoot : ∀ args w, (callFunc 42 args).run Tryz.prog w = .ok (.enter 42 args) w := enters_fn Tryz.func42 (by kernel_rfl) rfl
theorem ent_cAbout : ∀ args w, (callFunc 44 args).run Tryz.prog w = .ok (.enter 44 args) w := enters_fn Tryz.func44 (by kernel_rfl) rfl
theorem ent_cOrders : ∀ args w, (callFunc 60 args).run Tryz.prog w = .ok (.enter 60 args) w := enters_fn Tryz.func60 (by kernel_rfl) rfl
set_option maxHeartbeats 2000000 in
theorem cRoot_any (l : Ln) (hf : l.d.length ≤ 100000000000) (w : World) (hg : Glob w) : Calls Tryz.prog 42 #[.agg #[.string (bs l.p), .string (bs l.t), .string (bs l.s), .string (bs l.d)]] w fun e w' => e = .returned (.tuple #[.string (bs (leafD l.d)), .bool true]) ∧ Below w.heap.size w w' := by
  have HB := hide (below_one w (.cells #[.string (bs l.p), .string (bs l.t), .string (bs l.s), .string (bs l.d)] 32))
  have CL := Leaf_any l.d hf (w.alloc (.cells #[.string (bs l.p), .string (bs l.t), .string (bs l.s), .string (bs l.d)] 32)) (hg.alloc _)
  clear hg
  go_enter Tryz.func42, Tryz.ntmps42
  go_wp2_with ((with_reducible refine CL.mono ?_); rintro e w' ⟨rfl, hb⟩)
  go_ret2
  exact ⟨rfl, below_to HB.out (Nat.le_refl _) (by assumption)⟩
set_option maxHeartbeats 2000000 in
theorem cAbout_any (l : Ln) (q : List UInt8) (pb : Nat) (w : World) (hp : w.cell? ⟨pb, 0, none⟩ = some (.string (bs q))) : Calls Tryz.prog 44 #[.agg #[.string (bs l.p), .string (bs l.t), .string (bs l.s), .string (bs l.d)], .pointer (some ⟨pb, 0, none⟩)] w fun e w' => e = .returned (.tuple #[.string (bs l.t), .bool (decide (l.p = q))]) ∧ Below w.heap.size w w' := by
  have HB := hide (below_one w (.cells #[.string (bs l.p), .string (bs l.t), .string (bs l.s), .string (bs l.d)] 32))
  have hlt := World.block_lt_of_cell? w _ hp
  have hp2 : (w.alloc (.cells #[.string (bs l.p), .string (bs l.t), .string (bs l.s), .string (bs l.d)] 32)).cell? ⟨pb, 0, none⟩ = some (.string (bs q)) := (HB.out.cell (p := ⟨pb, 0, none⟩) hlt).trans hp
  have HV : Hid (((bs l.p).toList == (bs q).toList) = decide (l.p = q)) := by
    show _ = _
    rw [bs_toList, bs_toList]
    by_cases h : l.p = q
    · rw [decide_eq_true h, h]; simp
    · rw [decide_eq_false h, beq_eq_false_iff_ne]; exact h
  clear hp
  go_enter Tryz.func44, Tryz.ntmps44
  go_wp2_with fail
  go_quiet (fail)
  go_wp2_with fail
  go_ret2
  exact ⟨by rw [← HV.out]; rfl, below_drewN HB.out _⟩
def odC (o : Od) : Array Value := #[.string (bs o.i), .string (bs o.p), .string (bs o.f), .string (bs o.t), .int .i64 o.a, .int .i64 o.b]
set_option maxHeartbeats 2000000 in
theorem cOrders_any (l : Od) (q : List UInt8) (pb : Nat) (w : World) (hp : w.cell? ⟨pb, 0, none⟩ = some (.string (bs q))) : Calls Tryz.prog 60 #[.agg #[.string (bs l.i), .string (bs l.p), .string (bs l.f), .string (bs l.t), .int .i64 l.a, .int .i64 l.b], .pointer (some ⟨pb, 0, none⟩)] w fun e w' => e = .returned (.tuple #[.agg #[.string (bs l.i), .string (bs l.p), .string (bs l.f), .string (bs l.t), .int .i64 l.a, .int .i64 l.b], .bool (!decide (l.p = q))]) ∧ Below w.heap.size w w' := by
  have HB := hide (below_two w (.cells #[.string (bs l.i), .string (bs l.p), .string (bs l.f), .string (bs l.t), .int .i64 l.a, .int .i64 l.b] 53) (.cells #[.string ⟨#[]⟩, .string ⟨#[]⟩, .string ⟨#[]⟩, .string ⟨#[]⟩, .int .i64 0, .int .i64 0] 53))
  have hlt := World.block_lt_of_cell? w _ hp
  have hp2 : ((w.alloc (.cells #[.string (bs l.i), .string (bs l.p), .string (bs l.f), .string (bs l.t), .int .i64 l.a, .int .i64 l.b] 53)).alloc (.cells #[.string ⟨#[]⟩, .string ⟨#[]⟩, .string ⟨#[]⟩, .string ⟨#[]⟩, .int .i64 0, .int .i64 0] 53)).cell? ⟨pb, 0, none⟩ = some (.string (bs q)) := (HB.out.cell (p := ⟨pb, 0, none⟩) hlt).trans hp
  have HV : Hid ((!((bs l.p).toList == (bs q).toList)) = !decide (l.p = q)) := by
    show _ = _
    rw [bs_toList, bs_toList]
    by_cases h : l.p = q
    · rw [decide_eq_true h, h]; simp
    · rw [decide_eq_false h]; simp [h]
  have hlt' : pb < w.heap.size := hlt
  have hn1 : pb ≠ w.heap.size := by omega
  have hn2 : pb ≠ w.heap.size + 1 := by omega
  clear hlt'
  clear hp2
  go_enter Tryz.func60, Tryz.ntmps60
  go_wp2_with fail
  go_region
  all_goals go_wp2_with fail
  have hb : Blk ((w.alloc (.cells #[.string (bs l.i), .string (bs l.p), .string (bs l.f), .string (bs l.t), .int .i64 l.a, .int .i64 l.b] 53)).alloc (.cells #[.string (bs l.i), .string (bs l.p), .string (bs l.f), .string (bs l.t), .int .i64 l.a, .int .i64 l.b] 53)).drew (w.heap.size + 1) 53 (odC l) := by
    have := Blk.new (w.alloc (.cells #[.string (bs l.i), .string (bs l.p), .string (bs l.f), .string (bs l.t), .int .i64 l.a, .int .i64 l.b] 53)) 53 (odC l)
    exact Blk.drew (by simpa [odC] using this)
  refine bodyPost_ret (results_c1 (p := 3) (u := 4) rfl _ _ (w.heap.size + 1) 53 _ _ rfl hb Tryz.underlying53 rfl (by kernel_rfl)) rfl ⟨by rw [← HV.out]; rfl, (below_two w _ _).drew⟩
/-- what came out of a log: an error or a list of texts -/
def okA (log : List Ln) (q : List UInt8) : Bool := validG log && isNm q
def aboutV (log : List Ln) (q : List UInt8) : List (List UInt8) := if okA log q then aboutP log q else []
def errE (b : Bool) : Int := if b then 0 else 1
def AboutR (log : List Ln) (q : List UInt8) (w : World) (e : Ending) (w' : World) : Prop := ∃ v', e = .returned (.tuple #[v', .int .i64 (errE (okA log q))]) ∧ TextsAt w' v' (aboutV log q) ∧ Below w.heap.size w w'
set_option maxRecDepth 100000 in
set_option maxHeartbeats 4000000 in
theorem About_any (log : List Ln) (hf : ∀ l ∈ log, l.fit) (hl : log.length ≤ 1000000000) (q : List UInt8) (hq : q.length ≤ 140737488355328) (v : Value) (w : World) (hv : LnsAt w v log) (hg : Glob w) :
    Calls Tryz.prog 16 #[v, .string (bs q)] w (AboutR log q w) := by
  have HB := hide (below_one w (.cells #[.string (bs q)] 9))
  have HX := hide (Blk.new w 9 #[.string (bs q)])
  have CP := proper_any v log hf hl q hq (w.alloc (.cells #[.string (bs q)] 9)) (hv.to HB.out) (hg.alloc _)
  have CM := fun (w' : World) (hb : Below (w.alloc (.cells #[.string (bs q)] 9)).heap.size (w.alloc (.cells #[.string (bs q)] 9)) w') => mLs1_any 44 ent_cAbout (fun l => l.t) (fun l => decide (l.p = q)) w.heap.size log hl v w' ((hv.to HB.out).to hb) (fun l hl w2 hb2 => cAbout_any l q w.heap.size w2 (((HX.out.to hb).to hb2).cell 0))
  have HO : Hid (okA log q = (validG log && isNm q)) := rfl
  clear hv hg hf
  cases hp : validG log && isNm q with
  | false =>
    rw [hp] at CP HO
    clear hp CM
    go_enter Tryz.func16, Tryz.ntmps16
    go_wp2_with ((with_reducible refine CP.mono ?_); rintro e w' ⟨rfl, hb⟩)
    go_ret2
    exact ⟨.slice none 0 0, by rw [HO.out]; rfl, by unfold aboutV; rw [HO.out]; exact RowsAt.nil _ _, below_to HB.out (Nat.le_refl _) (by assumption)⟩
  | true =>
    rw [hp] at CP HO
    clear hp
    go_enter Tryz.func16, Tryz.ntmps16
    go_wp2_with fail
    refine CP.mono ?_
    rintro e w2 ⟨rfl, hb⟩
    have HB2 := hide (below_to HB.out (Nat.le_refl _) hb)
    have CM2 := CM _ hb
    clear CM CP hb
    go_wp2_with fail
    refine CM2.mono ?_
    rintro e w3 ⟨v', rfl, hr, hb⟩
    have HB3 := hide (below_to HB2.out (Nat.le_refl _) hb)
    have HR := hide hr
    clear hr hb CM2
    go_wp2_with fail
    go_ret2
    exact ⟨v', by rw [HO.out]; rfl, by unfold aboutV; rw [HO.out]; exact HR.out, HB3.out⟩
set_option maxRecDepth 100000 in
set_option maxHeartbeats 4000000 in
theorem Root_any (log : List Ln) (hf : ∀ l ∈ log, l.fit) (hd : ∀ l ∈ log, l.d.length ≤ 100000000000) (hl : log.length ≤ 1000000000) (v : Value) (w : World) (hv : LnsAt w v log) (hg : Glob w) :
    Calls Tryz.prog 14 #[v] w fun e w' => e = .returned (.tuple #[.string (bs (if validG log then totalT (leavesP log) else [])), .int .i64 (errE (validG log))]) ∧ Below w.heap.size w w' := by
  have CP := rvalid_any log hf hl v w hv hg
  have CM := fun (w' : World) (hb : Below w.heap.size w w') => mLs0_any 42 ent_cRoot (fun l => leafD l.d) (fun l => true) log hl v w' (hv.to hb) (fun l hl w2 hb2 => cRoot_any l (hd l hl) w2 ((hg.to hb).to hb2))
  have CR := fun (w' : World) (hb : Below w.heap.size w w') (u : Value) (hu : TextsAt w' u (leavesP log)) => tRoot_any (leavesP log) (by unfold leavesP; rw [List.length_map]; omega) (fun x hx => by
    unfold leavesP at hx
    obtain ⟨l, _, rfl⟩ := List.mem_map.1 hx
    have := isD_len (leaf_isD l.d)
    omega) u w' hu (hg.to hb)
  have HM : Hid (mapP (fun l : Ln => leafD l.d) (fun _ => true) log = leavesP log) := by show _ = _; unfold mapP leavesP; rw [List.filter_eq_self.2 (by simp)]
  have HRV : Hid (rootV (leavesP log) = totalT (leavesP log) ∧ rootE (leavesP log) = 0) := ⟨by unfold rootV; rw [if_pos (leaves_proper log)], by unfold rootE; rw [if_pos (leaves_proper log)]⟩
  clear hv hg hf hd
  cases hp : validG log with
  | false =>
    rw [hp] at CP
    rw [if_neg (by simp)]
    clear hp CM CR
    go_enter Tryz.func14, Tryz.ntmps14
    go_wp2_with ((with_reducible refine CP.mono ?_); rintro e w' ⟨rfl, hb⟩)
    go_ret2
    exact ⟨rfl, by assumption⟩
  | true =>
    rw [hp] at CP
    rw [if_pos rfl]
    clear hp
    go_enter Tryz.func14, Tryz.ntmps14
    go_wp2_with fail
    refine CP.mono ?_
    rintro e w2 ⟨rfl, hb⟩
    have HB2 := hide hb
    have CM2 := CM _ hb
    clear CM CP hb
    go_wp2_with fail
    refine CM2.mono ?_
    rintro e w3 ⟨v', rfl, hr, hb⟩
    have HB3 := hide (below_to HB2.out (Nat.le_refl _) hb)
    rw [HM.out] at hr
    have CR2 := CR _ HB3.out v' hr
    rw [HRV.out.1, HRV.out.2] at CR2
    clear hr hb CM2 CR
    go_wp2_with ((with_reducible refine CR2.mono ?_); rintro e w' ⟨rfl, hb⟩)
    go_ret2
    exact ⟨rfl, below_to HB3.out (Nat.le_refl _) (by assumption)⟩
def ordersP (l : List Od) (q : List UInt8) : List Od := l.filter fun o => !decide (o.p = q)
def OrdersR (l : List Od) (q : List UInt8) (w : World) (e : Ending) (w' : World) : Prop := ∃ v', e = .returned v' ∧ OdsAt w' v' (ordersP l q) ∧ Below w.heap.size w w'
set_option maxRecDepth 100000 in
set_option maxHeartbeats 4000000 in
theorem Orders_any (l : List Od) (hl : l.length ≤ 1000000000) (q : List UInt8) (v : Value) (w : World) (hv : OdsAt w v l) :
    Calls Tryz.prog 27 #[v, .string (bs q)] w (OrdersR l q w) := by
  have HB := hide (below_one w (.cells #[.string (bs q)] 9))
  have HX := hide (Blk.new w 9 #[.string (bs q)])
  have CM := mOO_any 60 ent_cOrders id (fun l => !decide (l.p = q)) w.heap.size l hl v (w.alloc (.cells #[.string (bs q)] 9)) (hv.to HB.out) (fun l hl w2 hb2 => cOrders_any l q w.heap.size w2 ((HX.out.to hb2).cell 0))
  have HM : Hid (mapP id (fun l : Od => !decide (l.p = q)) l = ordersP l q) := by show _ = _; unfold mapP ordersP; rw [List.map_id]
  rw [HM.out] at CM
  clear hv HX HM
  go_enter Tryz.func27, Tryz.ntmps27
  go_wp2_with fail
  refine CM.mono ?_
  rintro e w3 ⟨v', rfl, hr, hb⟩
  have HB3 := hide (below_to HB.out (Nat.le_refl _) hb)
  have HR := hide hr
  clear hr hb CM
  go_wp2_with fail
  go_ret
  exact ⟨v', rfl, HR.out, HB3.out⟩
end Go.Proofs.YtdiebacfbhjbdaaGreatDoor

/- Walks of package privacy: Erase, its function value that counts, mapped with it. -/
set_option linter.unusedVariables false
set_option linter.unusedSimpArgs false
namespace Go.Proofs.YtdiebacfbhjbdaaGreatDoor
open Go.RowKit

/-- below B all is as it was but for block nb -/
structure But (nb B : Nat) (w w' : World) : Prop where
  os : w'.os = w.os
  tape : w'.tape = w.tape
  output : w'.output = w.output
  size : w.heap.size ≤ w'.heap.size
  block : ∀ k, k < B → k ≠ nb → w'.heap[k]? = w.heap[k]?
section
variable {nb B : Nat} {a w w' : World}
theorem But.refl (nb B : Nat) (w : World) : But nb B w w := ⟨rfl, rfl, rfl, Nat.le_refl _, fun _ _ _ => rfl⟩
theorem But.trans {b c : World} (h : But nb B a b) (k : But nb B b c) : But nb B a c := ⟨k.os.trans h.os, k.tape.trans h.tape, k.output.trans h.output, Nat.le_trans h.size k.size, fun i hi hn => (k.block i hi hn).trans (h.block i hi hn)⟩
theorem But.mono {B' : Nat} (h : But nb B w w') (hB : B' ≤ B) : But nb B' w w' := ⟨h.os, h.tape, h.output, h.size, fun k hk => h.block k (Nat.lt_of_lt_of_le hk hB)⟩
theorem But.of (h : Below B w w') : But nb B w w' := ⟨h.os, h.tape, h.output, h.size, fun k hk _ => h.block k hk⟩
theorem But.to {w2 : World} (h : But nb B w w') (hB : B ≤ w.heap.size) (h' : Below w'.heap.size w' w2) : But nb B w w2 := h.trans (But.of (h'.mono (Nat.le_trans hB h.size)))
theorem But.to' {w2 : World} (h : But nb B w w') (hB : B ≤ w.heap.size) (h' : But nb w'.heap.size w' w2) : But nb B w w2 := h.trans (h'.mono (Nat.le_trans hB h.size))
theorem But.alloc (h : But nb B a w) (hB : B ≤ a.heap.size) (o : Obj) : But nb B a (w.alloc o) := h.to hB (below_one w o)
theorem But.set_ (h : But nb B a w) (u : Value) : But nb B a (w.setCell ⟨nb, 0, none⟩ u) := h.trans ⟨rfl, rfl, rfl, by simp [World.setCell], fun k hk hn => Below.heap_setCell _ _ _ _ hn⟩
theorem But.far (h : But nb B a w) {p : Addr} (hp : B ≤ p.block) (u : Value) : But nb B a (w.setCell p u) := h.trans ⟨rfl, rfl, rfl, by simp [World.setCell], fun k hk hn => Below.heap_setCell _ _ _ _ (by omega)⟩
theorem But.below {B' : Nat} (h : But nb B w w') (h1 : B' ≤ B) (h2 : B' ≤ nb) : Below B' w w' := ⟨h.os, h.tape, h.output, h.size, fun k hk => h.block k (by omega) (by omega)⟩
theorem But.grown {row : Option Nat} (h : But nb B a w) (hg : w.grownBy w' row) (hB : B ≤ w.heap.size) (hr : ∀ k, row = some k → B ≤ k) : But nb B a w' :=
  h.trans ⟨hg.os, hg.tape, hg.output, hg.size, fun k hk _ => hg.block k (by omega) (fun e => by have := hr k e.symm; omega)⟩
theorem But.own {base : Nat} {e : TypeId} {size n : Nat} {v : Value} {xs : List Value} (h : w.ownsRow base e size v n xs) (hb : But nb w.heap.size w w') (hn : nb < base) : w'.ownsRow base e size v n xs := by
  obtain ⟨h1, h2⟩ := h
  refine ⟨h1, ?_⟩
  rcases h2 with h2 | ⟨g, cap, cur, hv, hB, hg, h3⟩
  · exact .inl h2
  · refine .inr ⟨g, cap, cur, hv, hB, ?_, h3⟩
    rw [hb.block g ?_ (by omega)]
    · exact hg
    · rcases Nat.lt_or_ge g w.heap.size with h | h
      · exact h
      · rw [Array.getElem?_eq_none h] at hg; cases hg
theorem But.blk {g : Nat} {t : TypeId} {cs : Array Value} (H : Blk w g t cs) (hb : But nb w.heap.size w w') (hn : g ≠ nb) : Blk w' g t cs := (hb.block g H.lt hn).trans H
end
theorem ent_cErase : ∀ args w, (callFunc 38 args).run Tryz.prog w = .ok (.enter 38 args) w := enters_fn Tryz.func38 (by kernel_rfl) rfl
/-- a line when q is erased -/
def erQ (q : List UInt8) (l : Ln) : Ln := if l.p = q then er l else l
def hit (q : List UInt8) (l : Ln) : Nat := if l.p = q then 1 else 0
def EraC (q : List UInt8) (l : Ln) (nb : Nat) (c : Nat) (w : World) (e : Ending) (w' : World) : Prop := e = .returned (.tuple #[.agg #[.string (bs (erQ q l).p), .string (bs (erQ q l).t), .string (bs (erQ q l).s), .string (bs (erQ q l).d)], .bool true]) ∧ But nb w.heap.size w w' ∧ Blk w' nb 3 #[.int .i64 ((c + hit q l : Nat) : Int)]
set_option maxHeartbeats 2000000 in
theorem cErase_any (l : Ln) (q : List UInt8) (pb nb c : Nat) (hc : c ≤ 1000000000) (w : World) (hp : w.cell? ⟨pb, 0, none⟩ = some (.string (bs q))) (hn : Blk w nb 3 #[.int .i64 (c : Int)]) :
    Calls Tryz.prog 38 #[.agg #[.string (bs l.p), .string (bs l.t), .string (bs l.s), .string (bs l.d)], .pointer (some ⟨pb, 0, none⟩), .pointer (some ⟨nb, 0, none⟩)] w (EraC q l nb c w) := by
  have hlt0 := World.block_lt_of_cell? w _ hp
  have hlt : pb < w.heap.size := hlt0
  have hnlt := hn.lt
  have n1 : pb ≠ w.heap.size := by omega
  have n2 : pb ≠ w.heap.size + 1 := by omega
  have n3 : nb ≠ w.heap.size := by omega
  have n4 : nb ≠ w.heap.size + 1 := by omega
  have n5 : w.heap.size ≠ nb := by omega
  have n6 : w.heap.size + 1 ≠ nb := by omega
  have hc0 := hn.cell 0
  have hf0 := hn.frozen 0
  simp only [List.getElem?_toArray, List.getElem?_cons_zero] at hc0
  have HN := hide hn
  clear hlt0 hn
  by_cases h : l.p = q
  · have HV : Hid (erQ q l = er l ∧ hit q l = 1) := ⟨by unfold erQ; rw [if_pos h], by unfold hit; rw [if_pos h]⟩
    have e1 : ((bs l.p).toList == (bs q).toList) = true := by rw [h]; simp
    have CE := fun w => erased_any l w
    unfold lnC er at CE
    clear h
    go_enter Tryz.func38, Tryz.ntmps38
    go_wp2_with fail
    have HX : Hid (Blk (((w.setCell ⟨nb, 0, none⟩ (.int .i64 ((c : Int) + 1))).alloc (.cells #[.string (bs l.p), .string (bs l.t), .string (bs l.s), .string (bs l.d)] 32)).alloc (.cells #[.string ⟨#[]⟩, .string ⟨#[]⟩, .string ⟨#[]⟩, .string ⟨#[]⟩] 32)) (w.heap.size + 1) 32 #[.string ⟨#[]⟩, .string ⟨#[]⟩, .string ⟨#[]⟩, .string ⟨#[]⟩]) := by
      have := Blk.new ((w.setCell ⟨nb, 0, none⟩ (.int .i64 ((c : Int) + 1))).alloc (.cells #[.string (bs l.p), .string (bs l.t), .string (bs l.s), .string (bs l.d)] 32)) 32 #[.string ⟨#[]⟩, .string ⟨#[]⟩, .string ⟨#[]⟩, .string ⟨#[]⟩]
      show Blk _ _ _ _
      simpa using this
    have HB : Hid (But nb w.heap.size w (((w.setCell ⟨nb, 0, none⟩ (.int .i64 ((c : Int) + 1))).alloc (.cells #[.string (bs l.p), .string (bs l.t), .string (bs l.s), .string (bs l.d)] 32)).alloc (.cells #[.string ⟨#[]⟩, .string ⟨#[]⟩, .string ⟨#[]⟩, .string ⟨#[]⟩] 32))) := (((But.refl nb _ w).set_ _).alloc (Nat.le_refl _) _).alloc (Nat.le_refl _) _
    have HC : Hid (Blk (((w.setCell ⟨nb, 0, none⟩ (.int .i64 ((c : Int) + 1))).alloc (.cells #[.string (bs l.p), .string (bs l.t), .string (bs l.s), .string (bs l.d)] 32)).alloc (.cells #[.string ⟨#[]⟩, .string ⟨#[]⟩, .string ⟨#[]⟩, .string ⟨#[]⟩] 32)) nb 3 #[.int .i64 ((c + 1 : Nat) : Int)]) := ((HN.out.set_ 0 (.int .i64 ((c : Int) + 1))).alloc _).alloc _
    refine (CE _).mono ?_
    rintro e w2 ⟨rfl, hb⟩
    have HX2 := hide (HX.out.to hb)
    have HB2 := hide (HB.out.to (Nat.le_refl _) hb)
    have HC2 := hide (HC.out.to hb)
    have r0 := (HX2.out.cell 0).trans rfl
    have r1 := (HX2.out.cell 1).trans rfl
    have r2 := (HX2.out.cell 2).trans rfl
    have r3 := (HX2.out.cell 3).trans rfl
    have f0 : ∀ i, w2.frozen? ⟨w.heap.size + 1, i, none⟩ = false := fun i => HX2.out.frozen i
    clear hb HX HB HC CE hp hc0 hf0
    go_wp2_with fail
    have hbk := (((((HX2.out.set_ 0 (.string (bs []))).set_ 1 (.string (bs []))).set_ 2 (.string (bs []))).set_ 3 (.string (bs l.d))))
    refine bodyPost_ret (results_c1 (p := 4) (u := 5) rfl _ _ (w.heap.size + 1) 32 _ _ rfl hbk Tryz.underlying32 rfl (by kernel_rfl)) rfl ⟨by rw [HV.out.1]; rfl, ?_, ?_⟩
    · exact (((HB2.out.far (p := ⟨w.heap.size + 1, 0, none⟩) (Nat.le_succ _) _).far (p := ⟨w.heap.size + 1, 1, none⟩) (Nat.le_succ _) _).far (p := ⟨w.heap.size + 1, 2, none⟩) (Nat.le_succ _) _).far (p := ⟨w.heap.size + 1, 3, none⟩) (Nat.le_succ _) _
    · rw [HV.out.2]
      exact (((HC2.out.far n4 _).far n4 _).far n4 _).far n4 _
  · have HV : Hid (erQ q l = l ∧ hit q l = 0) := ⟨by unfold erQ; rw [if_neg h], by unfold hit; rw [if_neg h]⟩
    have e1 : ((bs l.p).toList == (bs q).toList) = false := by rw [beq_eq_false_iff_ne, bs_toList, bs_toList]; exact h
    clear h
    go_enter Tryz.func38, Tryz.ntmps38
    go_wp2_with fail
    have hbk : Blk ((w.alloc (.cells #[.string (bs l.p), .string (bs l.t), .string (bs l.s), .string (bs l.d)] 32)).alloc (.cells #[.string (bs l.p), .string (bs l.t), .string (bs l.s), .string (bs l.d)] 32)) (w.heap.size + 1) 32 #[.string (bs l.p), .string (bs l.t), .string (bs l.s), .string (bs l.d)] := by
      have := Blk.new (w.alloc (.cells #[.string (bs l.p), .string (bs l.t), .string (bs l.s), .string (bs l.d)] 32)) 32 #[.string (bs l.p), .string (bs l.t), .string (bs l.s), .string (bs l.d)]
      show Blk _ _ _ _
      simpa using this
    refine bodyPost_ret (results_c1 (p := 4) (u := 5) rfl _ _ (w.heap.size + 1) 32 _ _ rfl hbk Tryz.underlying32 rfl (by kernel_rfl)) rfl ⟨by rw [HV.out.1]; rfl, But.of (below_two w _ _), ?_⟩
    rw [HV.out.2]
    exact (HN.out.alloc _).alloc _
theorem era_take (q : List UInt8) {log : List Ln} {k : Nat} {l : Ln} (h : log[k]? = some l) : (log.take (k + 1)).map (erQ q) = (log.take k).map (erQ q) ++ [erQ q l] ∧ hitsP (log.take (k + 1)) q = hitsP (log.take k) q + hit q l := by
  unfold hitsP hit
  rw [List.take_add_one, h]
  refine ⟨by simp, ?_⟩
  simp only [Option.toList_some, List.filter_append, List.length_append]
  by_cases hp : l.p = q <;> simp [hp]
theorem hits_le (log : List Ln) (q : List UInt8) : hitsP log q ≤ log.length := List.length_filter_le _ _
def EraM (log : List Ln) (q : List UInt8) (nb : Nat) (w : World) (e : Ending) (w' : World) : Prop := ∃ v', e = .returned v' ∧ LnsAt w' v' (eraseP log q) ∧ But nb w.heap.size w w' ∧ Blk w' nb 3 #[.int .i64 ((hitsP log q : Nat) : Int)]
set_option maxRecDepth 100000 in
set_option maxHeartbeats 4000000 in
theorem mLLe_any (log : List Ln) (hl : log.length ≤ 1000000000) (q : List UInt8) (pb nb : Nat) (hpn : pb ≠ nb) (v : Value) (w : World) (hv : ∀ w', But nb w.heap.size w w' → LnsAt w' v log) (hp : Blk w pb 9 #[.string (bs q)]) (hn : Blk w nb 3 #[.int .i64 0]) :
    Calls Tryz.prog 37 #[v, .func (.func 38) #[] #[.pointer (some ⟨pb, 0, none⟩), .pointer (some ⟨nb, 0, none⟩)]] w (EraM log q nb w) := by
  obtain ⟨A, c, rfl⟩ := (hv w (But.refl _ _ _)).slice
  have HS := hide hv
  have HP := hide hp
  have HN := hide hn
  have hE := ent_cErase
  have hnlt := hn.lt
  obtain ⟨i0, hi0, hz0, hz1, hz2⟩ := info_parts (show (Tryz.prog.info? 32).map (fun i => (i.zero, i.size, i.bytes)) = some (some (.agg #[.string ⟨#[]⟩, .string ⟨#[]⟩, .string ⟨#[]⟩, .string ⟨#[]⟩]), 4, 64) by kernel_rfl)
  clear hv hp hn
  go_enter Tryz.func37, Tryz.ntmps37
  go_wp2_with fail
  go_loopw [5, 7, 8, 9, 12] (fun out _ _ _ i wr => ∃ k : Nat, i = .int .i64 (k : Int) ∧ k ≤ log.length ∧ Aside (But nb w.heap.size w wr) ∧ Aside (Blk wr nb 3 #[.int .i64 ((hitsP (log.take k) q : Nat) : Int)]) ∧ Aside (wr.ownsRow w.heap.size 32 4 out ((log.take k).map (erQ q)).length (((log.take k).map (erQ q)).map lnV).flatten)) (fun _ _ _ _ i _ => log.length - (intOf i).toNat)
  case atStart => exact ⟨0, rfl, by omega, But.refl _ _ _, HN.out, World.ownsRow_nil _ _ _ _⟩
  case round =>
    obtain ⟨k, rfl, hk, hB, hC, hO⟩ := hrel
    have HB : Hid (But nb w.heap.size w wr) := hB
    have HC : Hid (Blk wr nb 3 #[.int .i64 ((hitsP (log.take k) q : Nat) : Int)]) := hC
    have HO : Hid (wr.ownsRow w.heap.size 32 4 _ ((log.take k).map (erQ q)).length (((log.take k).map (erQ q)).map lnV).flatten) := hO
    clear hB hC hO
    by_cases hlt : k < log.length
    · have e1 : decide ((k : Int) < (log.length : Int)) = true := decide_eq_true (by omega)
      obtain ⟨l, hl'⟩ : ∃ l, log[k]? = some l := ⟨_, List.getElem?_eq_getElem hlt⟩
      obtain ⟨a, rfl, ha, c0, c1, c2, c3⟩ := (HS.out wr HB.out).at_ hl'
      have HT := hide (era_take q hl')
      have hcnt : hitsP (log.take k) q ≤ 1000000000 := Nat.le_trans (hits_le _ _) (Nat.le_trans (List.length_take_le _ _) (by omega))
      have HLEN : ((log.take k).map (erQ q)).length ≤ k := by rw [List.length_map]; exact List.length_take_le _ _
      have CV := cErase_any l q pb nb (hitsP (log.take k) q) hcnt (wr.alloc (.cells #[.string (bs l.p), .string (bs l.t), .string (bs l.s), .string (bs l.d)] 32)) (((But.blk HP.out HB.out hpn).alloc _).cell 0) (HC.out.alloc _)
      clear hl' hcnt
      generalize (log.take k).map (erQ q) = xs at *
      go_wp2_with fail
      refine CV.mono ?_
      rintro e w4 ⟨rfl, hb4, hc4⟩
      have HB4 := hide ((HB.out.alloc (Nat.le_refl _) (.cells #[.string (bs l.p), .string (bs l.t), .string (bs l.s), .string (bs l.d)] 32)).to' (Nat.le_refl _) hb4)
      have HO4 := hide (But.own (own_to' HO.out (below_one wr (.cells #[.string (bs l.p), .string (bs l.t), .string (bs l.s), .string (bs l.d)] 32))) hb4 hnlt)
      have HC4 := hide hc4
      have HSZ : Hid (w.heap.size ≤ w4.heap.size) := HB4.out.size
      clear hb4 hc4 CV HC HO
      generalize hm : erQ q l = m at *
      go_wp2_with (at_builtin; refine wpList_append_own _ rfl (.tmp 23) (.tmp 25) _ rfl w.heap.size 32 i0 (.agg #[.string ⟨#[]⟩, .string ⟨#[]⟩, .string ⟨#[]⟩, .string ⟨#[]⟩]) 4 64 Tryz.underlying22 hi0 hz0 hz1 hz2 rfl (by omega) _ xs.length (xs.map lnV).flatten rfl ?c0 ⟨_, 0, none⟩ 1 1 (lnV m) rfl rfl ?c1 ?c2 ?c4 ?c5 ?c3 ?_)
      case c0 => exact own_to' (own_to' HO4.out (below_one _ _)) (below_one _ _)
      case c1 => exact cells_new (xs := lnV m) (by simp)
      case c2 => intro u hu; simp only [lnV, List.mem_cons, List.not_mem_nil, or_false] at hu; rcases hu with rfl | rfl | rfl | rfl <;> rfl
      case c4 => simp only [maxLen]; omega
      case c5 => omega
      case c3 => have := HSZ.out; simp; omega
      · intro v' w6 hown6 hgr6 _
        have HB6 := hide (((HB4.out.alloc (Nat.le_refl _) _).alloc (Nat.le_refl _) _).grown hgr6 (by have := HSZ.out; simp; omega) (fun b hb => (HO4.out.lt b hb).1))
        have HO6 : Hid (w6.ownsRow w.heap.size 32 4 v' ((log.take (k + 1)).map (erQ q)).length (((log.take (k + 1)).map (erQ q)).map lnV).flatten) := by
          show World.ownsRow _ _ _ _ _ _ _
          rw [HT.out.1]
          simp only [List.length_append, List.length_cons, List.length_nil, Nat.zero_add, List.map_append, List.map_cons, List.map_nil, List.flatten_append, List.flatten_cons, List.flatten_nil, List.append_nil]
          exact hown6
        have HC6 : Hid (Blk w6 nb 3 #[.int .i64 ((hitsP (log.take (k + 1)) q : Nat) : Int)]) := by
          show Blk _ _ _ _
          rw [HT.out.2]
          exact ((hgr6.block nb (by have := HSZ.out; simp; omega) (fun e => by have := (HO4.out.lt nb e.symm).1; omega)).trans ((HC4.out.alloc _).alloc _) : _)
        clear hown6 hgr6
        go_wp2_with fail
        refine ⟨⟨k + 1, by go_num, by omega, HB6.out, HC6.out, HO6.out⟩, ?_⟩
        simp [intOf]; omega
    · obtain rfl : k = log.length := by omega
      have e1 : decide ((log.length : Int) < (log.length : Int)) = false := by simp
      rw [List.take_length] at HO HC
      go_wp2_with fail
      go_ret
      exact ⟨_, rfl, RowsAt.of_own (by simp [lnV]) (by rw [List.length_map]; exact HO.out), HB.out, HC.out⟩
def eraseV (log : List Ln) (q : List UInt8) : List Ln := if okA log q then eraseP log q else []
def hitsV (log : List Ln) (q : List UInt8) : Nat := if okA log q then hitsP log q else 0
def EraseR (log : List Ln) (q : List UInt8) (w : World) (e : Ending) (w' : World) : Prop := ∃ v', e = .returned (.tuple #[v', .int .i64 ((hitsV log q : Nat) : Int), .int .i64 (errE (okA log q))]) ∧ LnsAt w' v' (eraseV log q) ∧ Below w.heap.size w w'
set_option maxRecDepth 100000 in
set_option maxHeartbeats 4000000 in
theorem Erase_any (log : List Ln) (hf : ∀ l ∈ log, l.fit) (hl : log.length ≤ 1000000000) (q : List UInt8) (hq : q.length ≤ 140737488355328) (v : Value) (w : World) (hv : LnsAt w v log) (hg : Glob w) :
    Calls Tryz.prog 13 #[v, .string (bs q)] w (EraseR log q w) := by
  have HB := hide (below_one w (.cells #[.string (bs q)] 9))
  have HX := hide (Blk.new w 9 #[.string (bs q)])
  have CP := proper_any v log hf hl q hq (w.alloc (.cells #[.string (bs q)] 9)) (hv.to HB.out) (hg.alloc _)
  have HO : Hid (okA log q = (validG log && isNm q)) := rfl
  have HS := hide hv
  clear hv hg hf
  cases hp : validG log && isNm q with
  | false =>
    rw [hp] at CP HO
    clear hp
    go_enter Tryz.func13, Tryz.ntmps13
    go_wp2_with ((with_reducible refine CP.mono ?_); rintro e w' ⟨rfl, hb⟩)
    go_ret3
    exact ⟨.slice none 0 0, by unfold hitsV; rw [HO.out]; rfl, by unfold eraseV; rw [HO.out]; exact RowsAt.nil _ _, below_to HB.out (Nat.le_refl _) (by assumption)⟩
  | true =>
    rw [hp] at CP HO
    clear hp
    go_enter Tryz.func13, Tryz.ntmps13
    go_wp2_with fail
    refine CP.mono ?_
    rintro e w2 ⟨rfl, hb⟩
    have HB2 := hide (below_to HB.out (Nat.le_refl _) hb)
    have HX2 := hide (HX.out.to hb)
    have HW2 : Hid (w.heap.size < w2.heap.size) := HX2.out.lt
    have HB3 := hide (below_alloc HB2.out (Nat.le_refl _) (.cells #[.int .i64 0] 3))
    have CM := mLLe_any log hl q w.heap.size w2.heap.size (Nat.ne_of_lt HW2.out) v (w2.alloc (.cells #[.int .i64 0] 3)) (fun w' hb' => HS.out.to (HB3.out.trans (hb'.below (by have := HW2.out; simp; omega) (by have := HW2.out; omega)))) (HX2.out.alloc _) (Blk.new _ _ _)
    clear CP hb
    go_wp2_with fail
    refine CM.mono ?_
    rintro e w3 ⟨v', rfl, hr, hb, hc⟩
    have HB4 := hide (HB3.out.trans (hb.below (by have := HW2.out; simp; omega) (by have := HW2.out; omega)))
    have HR := hide hr
    have hn := (hc.cell 0).trans rfl
    clear hr hb CM hc
    generalize hN : hitsP log q = N at *
    have HN := hide hN
    clear hN
    go_wp2_with fail
    go_quiet (fail)
    go_wp2_with fail
    go_ret3
    exact ⟨v', by unfold hitsV; rw [HO.out, if_pos rfl, HN.out]; rfl, by unfold eraseV; rw [HO.out]; exact HR.out, below_drewN HB4.out _⟩
end Go.Proofs.YtdiebacfbhjbdaaGreatDoor

/- Walks of the statements' own helpers: lists compared, sizes, leaves. -/
set_option linter.unusedVariables false
set_option linter.unusedSimpArgs false
namespace Go.Proofs.YtdiebacfbhjbdaaGreatDoor
open Go.RowKit

theorem Od.eq_iff (a b : Od) : a = b ↔ a.i = b.i ∧ a.p = b.p ∧ a.f = b.f ∧ a.t = b.t ∧ a.a = b.a ∧ a.b = b.b := by
  constructor
  · rintro rfl; exact ⟨rfl, rfl, rfl, rfl, rfl, rfl⟩
  · rintro ⟨h1, h2, h3, h4, h5, h6⟩; cases a; cases b; simp_all
instance : DecidableEq Od := fun a b => decidable_of_iff _ (Od.eq_iff a b).symm
instance : DecidableEq Ln := fun a b => inferInstance
theorem lnq_no (x : Ln) (w : World) : (binOp .neq 32 (.agg #[.string (bs x.p), .string (bs x.t), .string (bs x.s), .string (bs x.d)]) (.agg #[.string (bs x.p), .string (bs x.t), .string (bs x.s), .string (bs x.d)])).run Tryz.prog w = .ok (.bool false) w := by
  rw [run_neq_struct]
  go_simp
theorem lnq_yes {x y : Ln} (h : x ≠ y) (w : World) : (binOp .neq 32 (.agg #[.string (bs x.p), .string (bs x.t), .string (bs x.s), .string (bs x.d)]) (.agg #[.string (bs y.p), .string (bs y.t), .string (bs y.s), .string (bs y.d)])).run Tryz.prog w = .ok (.bool true) w := by
  rw [run_neq_struct]
  go_simp
  intro h1 h2 h3 h4
  rw [bs_toList, bs_toList] at h1 h2 h3 h4
  exact h ((Ln.eq_iff x y).2 ⟨h1, h2, h3, h4⟩)
theorem odq_no (x : Od) (w : World) : (binOp .neq 53 (.agg #[.string (bs x.i), .string (bs x.p), .string (bs x.f), .string (bs x.t), .int .i64 x.a, .int .i64 x.b]) (.agg #[.string (bs x.i), .string (bs x.p), .string (bs x.f), .string (bs x.t), .int .i64 x.a, .int .i64 x.b])).run Tryz.prog w = .ok (.bool false) w := by
  rw [run_neq_struct]
  go_simp
theorem odq_yes {x y : Od} (h : x ≠ y) (w : World) : (binOp .neq 53 (.agg #[.string (bs x.i), .string (bs x.p), .string (bs x.f), .string (bs x.t), .int .i64 x.a, .int .i64 x.b]) (.agg #[.string (bs y.i), .string (bs y.p), .string (bs y.f), .string (bs y.t), .int .i64 y.a, .int .i64 y.b])).run Tryz.prog w = .ok (.bool true) w := by
  rw [run_neq_struct]
  go_simp
  intro h1 h2 h3 h4 h5
  rw [bs_toList, bs_toList] at h1 h2 h3 h4
  intro h6
  exact h ((Od.eq_iff x y).2 ⟨h1, h2, h3, h4, h5, h6⟩)
set_option maxRecDepth 100000 in
set_option maxHeartbeats 4000000 in
theorem Texts_any (a b : List (List UInt8)) (ha : a.length ≤ 1000000000) (hb : b.length ≤ 1000000000) (v u : Value) (w : World) (hv : TextsAt w v a) (hu : TextsAt w u b) : Calls Tryz.prog 17 #[v, u] w fun e w' => e = .returned (.bool (decide (a = b))) ∧ Below w.heap.size w w' := by
  obtain ⟨A, c, rfl, _⟩ := hv.slice
  obtain ⟨B, d, rfl, _⟩ := hu.slice
  have HS := hide hv
  have HU := hide hu
  clear hv hu
  by_cases hab : a.length = b.length
  · have HAB := hide hab
    rw [← hab] at HU hb ⊢
    clear hab
    go_enter Tryz.func17, Tryz.ntmps17
    go_wp2_with fail
    go_loopw [5] (fun i wr => ∃ k : Nat, i = .int .i64 (k : Int) ∧ k ≤ a.length ∧ Aside (Below w.heap.size w wr) ∧ Aside (a.take k = b.take k)) (fun i _ => a.length - (intOf i).toNat)
    case atStart => exact ⟨0, rfl, by omega, Below.refl _ _, rfl⟩
    case round =>
      obtain ⟨k, rfl, hk, hB, hT⟩ := hrel
      have HB : Hid (Below w.heap.size w wr) := hB
      have HT : Hid (a.take k = b.take k) := hT
      clear hB hT
      by_cases hlt : k < a.length
      · have e1 : decide ((k : Int) < (a.length : Int)) = true := decide_eq_true (by omega)
        obtain ⟨x, hx⟩ : ∃ x, a[k]? = some x := ⟨_, List.getElem?_eq_getElem hlt⟩
        obtain ⟨y, hy⟩ : ∃ y, b[k]? = some y := ⟨_, List.getElem?_eq_getElem (by have := HAB.out; omega)⟩
        obtain ⟨aa, rfl, ha0, c0⟩ := (HS.out.to HB.out).at_ hx
        obtain ⟨ba, rfl, hb0, d0⟩ := (HU.out.to HB.out).at_ hy
        have i0 : (0 : Int) ≤ (k : Int) := by omega
        have i1 : (k : Int) < (a.length : Int) := by omega
        by_cases hxy : x = y
        · have HN : Hid (a.take (k + 1) = b.take (k + 1)) := by show _ = _; rw [List.take_add_one, List.take_add_one, hx, hy, HT.out, hxy]
          subst hxy
          have q : ((bs x).toList == (bs x).toList) = true := by simp
          clear hx hy
          go_wp2_with fail
          go_quiet (fail)
          go_wp2_with fail
          refine ⟨⟨k + 1, by go_num, by omega, below_drewN HB.out _, HN.out⟩, ?_⟩
          simp [intOf]; omega
        · have HN : Hid (decide (a = b) = false) := by
            show _ = _
            apply decide_eq_false
            rintro rfl
            exact hxy (Option.some.inj (hx.symm.trans hy))
          have q : ((bs x).toList == (bs y).toList) = false := by rw [beq_eq_false_iff_ne, bs_toList, bs_toList]; exact hxy
          clear hx hy hxy
          go_wp2_with fail
          go_quiet (fail)
          go_wp2_with fail
          go_ret
          exact ⟨ret_bool (by rw [HN.out]), below_drewN HB.out _⟩
      · obtain rfl : k = a.length := by omega
        have e1 : decide ((a.length : Int) < (a.length : Int)) = false := by simp
        have HN : Hid (decide (a = b) = true) := by
          show _ = _
          apply decide_eq_true
          have := HT.out
          rwa [List.take_length, HAB.out, List.take_length] at this
        go_wp2_with fail
        go_ret
        exact ⟨ret_bool (by rw [HN.out]), HB.out⟩
  · have HN : Hid (decide (a = b) = false) := by
      show _ = _
      apply decide_eq_false
      rintro rfl
      exact hab rfl
    have e1 : ((a.length : Int) == (b.length : Int)) = false := by rw [beq_eq_false_iff_ne]; omega
    have e2 : (a.length == b.length) = false := by rw [beq_eq_false_iff_ne]; exact hab
    clear hab
    go_enter Tryz.func17, Tryz.ntmps17
    go_wp2_with fail
    go_ret
    exact ⟨ret_bool (by rw [HN.out]), Below.refl _ _⟩
set_option maxRecDepth 100000 in
set_option maxHeartbeats 4000000 in
theorem Same_any (a b : List Ln) (ha : a.length ≤ 1000000000) (hb : b.length ≤ 1000000000) (v u : Value) (w : World) (hv : LnsAt w v a) (hu : LnsAt w u b) : Calls Tryz.prog 18 #[v, u] w fun e w' => e = .returned (.bool (decide (a = b))) ∧ Below w.heap.size w w' := by
  obtain ⟨A, c, rfl⟩ := hv.slice
  obtain ⟨B, d, rfl⟩ := hu.slice
  have HS := hide hv
  have HU := hide hu
  clear hv hu
  by_cases hab : a.length = b.length
  · have HAB := hide hab
    rw [← hab] at HU hb ⊢
    clear hab
    go_enter Tryz.func18, Tryz.ntmps18
    go_wp2_with fail
    go_loopw [5] (fun i wr => ∃ k : Nat, i = .int .i64 (k : Int) ∧ k ≤ a.length ∧ Aside (Below w.heap.size w wr) ∧ Aside (a.take k = b.take k)) (fun i _ => a.length - (intOf i).toNat)
    case atStart => exact ⟨0, rfl, by omega, Below.refl _ _, rfl⟩
    case round =>
      obtain ⟨k, rfl, hk, hB, hT⟩ := hrel
      have HB : Hid (Below w.heap.size w wr) := hB
      have HT : Hid (a.take k = b.take k) := hT
      clear hB hT
      by_cases hlt : k < a.length
      · have e1 : decide ((k : Int) < (a.length : Int)) = true := decide_eq_true (by omega)
        obtain ⟨x, hx⟩ : ∃ x, a[k]? = some x := ⟨_, List.getElem?_eq_getElem hlt⟩
        obtain ⟨y, hy⟩ : ∃ y, b[k]? = some y := ⟨_, List.getElem?_eq_getElem (by have := HAB.out; omega)⟩
        obtain ⟨aa, rfl, ha0, c0, c1, c2, c3⟩ := (HS.out.to HB.out).at_ hx
        obtain ⟨ba, rfl, hb0, d0, d1, d2, d3⟩ := (HU.out.to HB.out).at_ hy
        have i0 : (0 : Int) ≤ (k : Int) := by omega
        have i1 : (k : Int) < (a.length : Int) := by omega
        by_cases hxy : x = y
        · have HN : Hid (a.take (k + 1) = b.take (k + 1)) := by show _ = _; rw [List.take_add_one, List.take_add_one, hx, hy, HT.out, hxy]
          subst hxy
          have q := lnq_no x
          clear hx hy
          go_wp2_with fail
          go_quiet (fail)
          go_wp2_with fail
          refine ⟨⟨k + 1, by go_num, by omega, below_drewN HB.out _, HN.out⟩, ?_⟩
          simp [intOf]; omega
        · have HN : Hid (decide (a = b) = false) := by
            show _ = _
            apply decide_eq_false
            rintro rfl
            exact hxy (Option.some.inj (hx.symm.trans hy))
          have q := lnq_yes hxy
          clear hx hy hxy
          go_wp2_with fail
          go_quiet (fail)
          go_wp2_with fail
          go_ret
          exact ⟨ret_bool (by rw [HN.out]), below_drewN HB.out _⟩
      · obtain rfl : k = a.length := by omega
        have e1 : decide ((a.length : Int) < (a.length : Int)) = false := by simp
        have HN : Hid (decide (a = b) = true) := by
          show _ = _
          apply decide_eq_true
          have := HT.out
          rwa [List.take_length, HAB.out, List.take_length] at this
        go_wp2_with fail
        go_ret
        exact ⟨ret_bool (by rw [HN.out]), HB.out⟩
  · have HN : Hid (decide (a = b) = false) := by
      show _ = _
      apply decide_eq_false
      rintro rfl
      exact hab rfl
    have e1 : ((a.length : Int) == (b.length : Int)) = false := by rw [beq_eq_false_iff_ne]; omega
    have e2 : (a.length == b.length) = false := by rw [beq_eq_false_iff_ne]; exact hab
    clear hab
    go_enter Tryz.func18, Tryz.ntmps18
    go_wp2_with fail
    go_ret
    exact ⟨ret_bool (by rw [HN.out]), Below.refl _ _⟩
set_option maxRecDepth 100000 in
set_option maxHeartbeats 4000000 in
theorem SameO_any (a b : List Od) (ha : a.length ≤ 1000000000) (hb : b.length ≤ 1000000000) (v u : Value) (w : World) (hv : OdsAt w v a) (hu : OdsAt w u b) : Calls Tryz.prog 26 #[v, u] w fun e w' => e = .returned (.bool (decide (a = b))) ∧ Below w.heap.size w w' := by
  obtain ⟨A, c, rfl⟩ := hv.slice
  obtain ⟨B, d, rfl⟩ := hu.slice
  have HS := hide hv
  have HU := hide hu
  clear hv hu
  by_cases hab : a.length = b.length
  · have HAB := hide hab
    rw [← hab] at HU hb ⊢
    clear hab
    go_enter Tryz.func26, Tryz.ntmps26
    go_wp2_with fail
    go_loopw [5] (fun i wr => ∃ k : Nat, i = .int .i64 (k : Int) ∧ k ≤ a.length ∧ Aside (Below w.heap.size w wr) ∧ Aside (a.take k = b.take k)) (fun i _ => a.length - (intOf i).toNat)
    case atStart => exact ⟨0, rfl, by omega, Below.refl _ _, rfl⟩
    case round =>
      obtain ⟨k, rfl, hk, hB, hT⟩ := hrel
      have HB : Hid (Below w.heap.size w wr) := hB
      have HT : Hid (a.take k = b.take k) := hT
      clear hB hT
      by_cases hlt : k < a.length
      · have e1 : decide ((k : Int) < (a.length : Int)) = true := decide_eq_true (by omega)
        obtain ⟨x, hx⟩ : ∃ x, a[k]? = some x := ⟨_, List.getElem?_eq_getElem hlt⟩
        obtain ⟨y, hy⟩ : ∃ y, b[k]? = some y := ⟨_, List.getElem?_eq_getElem (by have := HAB.out; omega)⟩
        obtain ⟨aa, rfl, ha0, c0, c1, c2, c3, c4, c5⟩ := (HS.out.to HB.out).at_ hx
        obtain ⟨ba, rfl, hb0, d0, d1, d2, d3, d4, d5⟩ := (HU.out.to HB.out).at_ hy
        have i0 : (0 : Int) ≤ (k : Int) := by omega
        have i1 : (k : Int) < (a.length : Int) := by omega
        by_cases hxy : x = y
        · have HN : Hid (a.take (k + 1) = b.take (k + 1)) := by show _ = _; rw [List.take_add_one, List.take_add_one, hx, hy, HT.out, hxy]
          subst hxy
          have q := odq_no x
          clear hx hy
          go_wp2_with fail
          go_quiet (fail)
          go_wp2_with fail
          refine ⟨⟨k + 1, by go_num, by omega, below_drewN HB.out _, HN.out⟩, ?_⟩
          simp [intOf]; omega
        · have HN : Hid (decide (a = b) = false) := by
            show _ = _
            apply decide_eq_false
            rintro rfl
            exact hxy (Option.some.inj (hx.symm.trans hy))
          have q := odq_yes hxy
          clear hx hy hxy
          go_wp2_with fail
          go_quiet (fail)
          go_wp2_with fail
          go_ret
          exact ⟨ret_bool (by rw [HN.out]), below_drewN HB.out _⟩
      · obtain rfl : k = a.length := by omega
        have e1 : decide ((a.length : Int) < (a.length : Int)) = false := by simp
        have HN : Hid (decide (a = b) = true) := by
          show _ = _
          apply decide_eq_true
          have := HT.out
          rwa [List.take_length, HAB.out, List.take_length] at this
        go_wp2_with fail
        go_ret
        exact ⟨ret_bool (by rw [HN.out]), HB.out⟩
  · have HN : Hid (decide (a = b) = false) := by
      show _ = _
      apply decide_eq_false
      rintro rfl
      exact hab rfl
    have e1 : ((a.length : Int) == (b.length : Int)) = false := by rw [beq_eq_false_iff_ne]; omega
    have e2 : (a.length == b.length) = false := by rw [beq_eq_false_iff_ne]; exact hab
    clear hab
    go_enter Tryz.func26, Tryz.ntmps26
    go_wp2_with fail
    go_ret
    exact ⟨ret_bool (by rw [HN.out]), Below.refl _ _⟩
def smL (l : Ln) : Bool := decide (l.p.length ≤ 500) && decide (l.t.length ≤ 500) && decide (l.s.length ≤ 500) && decide (l.d.length ≤ 500)
def fewG (log : List Ln) : Bool := (log.take 30).all smL && decide (log.length ≤ 30)
set_option maxRecDepth 100000 in
set_option maxHeartbeats 8000000 in
theorem Few_any (log : List Ln) (hl : log.length ≤ 140737488355328) (v : Value) (w : World) (hv : LnsAt w v log) : Calls Tryz.prog 34 #[v] w fun e w' => e = .returned (.bool (fewG log)) ∧ Below w.heap.size w w' := by
  obtain ⟨A, c, rfl⟩ := hv.slice
  have HS := hide hv
  have HV : Hid (fewG log = ((log.take 30).all smL && decide (log.length ≤ 30))) := rfl
  clear hv
  go_enter Tryz.func34, Tryz.ntmps34
  go_wp2_with fail
  go_loopw [3, 4] (fun i _ wr => ∃ k : Nat, i = .int .i64 (k : Int) ∧ (k ≤ log.length ∧ k ≤ 30) ∧ Aside (Below w.heap.size w wr) ∧ Aside ((log.take 30).all smL = ((log.take 30).drop k).all smL)) (fun i _ _ => log.length - (intOf i).toNat)
  case atStart => exact ⟨0, rfl, ⟨by omega, by omega⟩, Below.refl _ _, rfl⟩
  case round =>
    obtain ⟨k, rfl, ⟨hk, hk30⟩, hB, hA⟩ := hrel
    have HB : Hid (Below w.heap.size w wr) := hB
    have HA : Hid ((log.take 30).all smL = ((log.take 30).drop k).all smL) := hA
    clear hB hA
    by_cases hlt : k < log.length ∧ k < 30
    · obtain ⟨h', h30⟩ := hlt
      have e1 : decide ((k : Int) < (log.length : Int)) = true := decide_eq_true (by omega)
      have e2 : decide ((k : Int) < 30) = true := decide_eq_true (by omega)
      obtain ⟨l, hl'⟩ : ∃ l, log[k]? = some l := ⟨_, List.getElem?_eq_getElem h'⟩
      obtain ⟨a, rfl, ha, c0, c1, c2, c3⟩ := (HS.out.to HB.out).at_ hl'
      have HX : Hid ((log.take 30).drop k = l :: (log.take 30).drop (k + 1)) := drop_at' (by rw [List.getElem?_take_of_lt h30]; exact hl')
      have HD : Hid (smL l = true → ((log.take 30).drop k).all smL = ((log.take 30).drop (k + 1)).all smL) := fun h => by rw [HX.out, List.all_cons, h]; rfl
      have HW := hide (below_alloc HB.out (Nat.le_refl _) (.cells #[.string (bs l.p), .string (bs l.t), .string (bs l.s), .string (bs l.d)] 32))
      have z0 : (bs l.p).size = l.p.length := bs_size _
      have z1 : (bs l.t).size = l.t.length := bs_size _
      have z2 : (bs l.s).size = l.s.length := bs_size _
      have z3 : (bs l.d).size = l.d.length := bs_size _
      clear hl'
      by_cases h0 : l.p.length ≤ 500
      · have q0 : decide ((500 : Int) < (l.p.length : Int)) = false := decide_eq_false (by omega)
        by_cases h1 : l.t.length ≤ 500
        · have q1 : decide ((500 : Int) < (l.t.length : Int)) = false := decide_eq_false (by omega)
          by_cases h2 : l.s.length ≤ 500
          · have q2 : decide ((500 : Int) < (l.s.length : Int)) = false := decide_eq_false (by omega)
            by_cases h3 : l.d.length ≤ 500
            · have q3 : decide ((500 : Int) < (l.d.length : Int)) = false := decide_eq_false (by omega)
              have HN : Hid (smL l = true) := by show _ = _; unfold smL; rw [decide_eq_true h0, decide_eq_true h1, decide_eq_true h2, decide_eq_true h3]; rfl
              go_wp2_with fail
              refine ⟨⟨k + 1, by go_num, by omega, HW.out, HA.out.trans (HD.out HN.out)⟩, ?_⟩
              simp [intOf]; omega
            · have q3 : decide ((500 : Int) < (l.d.length : Int)) = true := decide_eq_true (by omega)
              have HN : Hid (fewG log = false) := by show _ = _; rw [HV.out, HA.out, HX.out, List.all_cons, show smL l = false by unfold smL; rw [decide_eq_false h3]; simp]; rfl
              go_wp2_with fail
              go_ret
              exact ⟨ret_bool (by rw [HN.out]), HW.out⟩
          · have q2 : decide ((500 : Int) < (l.s.length : Int)) = true := decide_eq_true (by omega)
            have HN : Hid (fewG log = false) := by show _ = _; rw [HV.out, HA.out, HX.out, List.all_cons, show smL l = false by unfold smL; rw [decide_eq_false h2]; simp]; rfl
            go_wp2_with fail
            go_ret
            exact ⟨ret_bool (by rw [HN.out]), HW.out⟩
        · have q1 : decide ((500 : Int) < (l.t.length : Int)) = true := decide_eq_true (by omega)
          have HN : Hid (fewG log = false) := by show _ = _; rw [HV.out, HA.out, HX.out, List.all_cons, show smL l = false by unfold smL; rw [decide_eq_false h1]; simp]; rfl
          go_wp2_with fail
          go_ret
          exact ⟨ret_bool (by rw [HN.out]), HW.out⟩
      · have q0 : decide ((500 : Int) < (l.p.length : Int)) = true := decide_eq_true (by omega)
        have HN : Hid (fewG log = false) := by show _ = _; rw [HV.out, HA.out, HX.out, List.all_cons, show smL l = false by unfold smL; rw [decide_eq_false h0]; simp]; rfl
        go_wp2_with fail
        go_ret
        exact ⟨ret_bool (by rw [HN.out]), HW.out⟩
    · have HN : Hid (fewG log = decide ((log.length : Int) ≤ 30)) := by
        show _ = _
        rw [HV.out, HA.out, List.drop_of_length_le (by rw [List.length_take]; omega), List.all_nil, Bool.true_and]
        exact decide_eq_decide.2 (by omega)
      by_cases h' : k < log.length
      · have e1 : decide ((k : Int) < (log.length : Int)) = true := decide_eq_true (by omega)
        have e2 : decide ((k : Int) < 30) = false := decide_eq_false (by omega)
        clear hlt
        go_wp2_with fail
        go_ret
        exact ⟨ret_bool (by rw [HN.out]), HB.out⟩
      · have e1 : decide ((k : Int) < (log.length : Int)) = false := decide_eq_false (by omega)
        clear hlt
        go_wp2_with fail
        go_ret
        exact ⟨ret_bool (by rw [HN.out]), HB.out⟩
def shT (ts : List (List UInt8)) : Bool := ts.all fun t => decide (t.length ≤ 500)
set_option maxRecDepth 100000 in
set_option maxHeartbeats 4000000 in
theorem few_any (log : List Ln) (hl : log.length ≤ 140737488355328) (ts : List (List UInt8)) (ht : ts.length ≤ 100) (v u : Value) (w : World) (hv : LnsAt w v log) (hu : TextsAt w u ts) : Calls Tryz.prog 12 #[v, u] w fun e w' => e = .returned (.bool (shT ts && fewG log)) ∧ Below w.heap.size w w' := by
  obtain ⟨A, c, rfl, _⟩ := hu.slice
  have HU := hide hu
  have CF := Few_any log hl v w hv
  have HV : Hid (shT ts = ts.all fun t => decide (t.length ≤ 500)) := rfl
  clear hu hv
  go_enter Tryz.func12, Tryz.ntmps12
  go_wp2_with fail
  go_loopw [5] (fun i wr => ∃ k : Nat, i = .int .i64 (k : Int) ∧ k ≤ ts.length ∧ wr = w ∧ Aside (shT ts = (ts.drop k).all fun t => decide (t.length ≤ 500))) (fun i _ => ts.length - (intOf i).toNat)
  case atStart => exact ⟨0, rfl, by omega, rfl, rfl⟩
  case round =>
    obtain ⟨k, rfl, hk, rfl, hA⟩ := hrel
    have HA : Hid (shT ts = (ts.drop k).all fun t => decide (t.length ≤ 500)) := hA
    clear hA
    by_cases hlt : k < ts.length
    · have e1 : decide ((k : Int) < (ts.length : Int)) = true := decide_eq_true (by omega)
      obtain ⟨x, hx⟩ : ∃ x, ts[k]? = some x := ⟨_, List.getElem?_eq_getElem hlt⟩
      obtain ⟨a, rfl, ha, c0⟩ := HU.out.at_ hx
      have HX := hide (drop_at' hx)
      have z0 : (bs x).size = x.length := bs_size _
      clear hx
      by_cases h0 : x.length ≤ 500
      · have q0 : decide ((500 : Int) < (x.length : Int)) = false := decide_eq_false (by omega)
        have HN : Hid (shT ts = (ts.drop (k + 1)).all fun t => decide (t.length ≤ 500)) := by show _ = _; rw [HA.out, HX.out, List.all_cons, decide_eq_true h0]; rfl
        clear CF
        go_wp2_with fail
        refine ⟨⟨k + 1, by go_num, by omega, trivial, HN.out⟩, ?_⟩
        simp [intOf]; omega
      · have q0 : decide ((500 : Int) < (x.length : Int)) = true := decide_eq_true (by omega)
        have HN : Hid (shT ts = false) := by show _ = _; rw [HA.out, HX.out, List.all_cons, decide_eq_false h0]; rfl
        clear CF
        go_wp2_with fail
        go_ret
        exact ⟨ret_bool (by rw [HN.out]; rfl), Below.refl _ _⟩
    · obtain rfl : k = ts.length := by omega
      have e1 : decide ((ts.length : Int) < (ts.length : Int)) = false := by simp
      have HN : Hid (shT ts = true) := by show _ = _; rw [HA.out, List.drop_length]; rfl
      go_wp2_with ((with_reducible refine CF.mono ?_); rintro e w' ⟨rfl, hb⟩)
      go_ret
      exact ⟨ret_bool (by rw [HN.out]; rfl), by assumption⟩
def LvR (log : List Ln) (w : World) (e : Ending) (w' : World) : Prop := ∃ v', e = .returned v' ∧ TextsAt w' v' (leavesP log) ∧ Below w.heap.size w w'
set_option maxRecDepth 100000 in
set_option maxHeartbeats 4000000 in
theorem leaves_any (log : List Ln) (hl : log.length ≤ 1000000000) (hd : ∀ l ∈ log, l.d.length ≤ 100000000000) (v : Value) (w : World) (hv : LnsAt w v log) (hg : Glob w) : Calls Tryz.prog 30 #[v] w (LvR log w) := by
  obtain ⟨A, c, rfl⟩ := hv.slice
  have HS := hide hv
  have HG := hide hg
  have HDl := hide hd
  obtain ⟨i0, hi0, hz0, hz1, hz2⟩ := info_parts (show (Tryz.prog.info? 9).map (fun i => (i.zero, i.size, i.bytes)) = some (some (.string ⟨#[]⟩), 1, 16) by kernel_rfl)
  clear hv hg hd
  go_enter Tryz.func30, Tryz.ntmps30
  go_wp2_with fail
  go_loopw [3, 4] (fun out i wr => ∃ k : Nat, i = .int .i64 (k : Int) ∧ k ≤ log.length ∧ Aside (Below w.heap.size w wr) ∧ Aside (wr.ownsRow w.heap.size 9 1 out (leavesP (log.take k)).length ((leavesP (log.take k)).map strV).flatten)) (fun _ i _ => log.length - (intOf i).toNat)
  case atStart => exact ⟨0, rfl, by omega, Below.refl _ _, World.ownsRow_nil _ _ _ _⟩
  case round =>
    obtain ⟨k, rfl, hk, hB, hO⟩ := hrel
    have HB : Hid (Below w.heap.size w wr) := hB
    have HO : Hid (wr.ownsRow w.heap.size 9 1 _ (leavesP (log.take k)).length ((leavesP (log.take k)).map strV).flatten) := hO
    clear hB hO
    by_cases hlt : k < log.length
    · have e1 : decide ((k : Int) < (log.length : Int)) = true := decide_eq_true (by omega)
      obtain ⟨l, hl'⟩ : ∃ l, log[k]? = some l := ⟨_, List.getElem?_eq_getElem hlt⟩
      obtain ⟨a, rfl, ha, c0, c1, c2, c3⟩ := (HS.out.to HB.out).at_ hl'
      have CV := Leaf_any l.d (HDl.out l (List.mem_of_getElem? hl')) wr (HG.out.to HB.out)
      have HT : Hid (leavesP (log.take (k + 1)) = leavesP (log.take k) ++ [leafD l.d]) := by show _ = _; unfold leavesP; rw [List.take_add_one, hl']; simp
      have HLEN : (leavesP (log.take k)).length ≤ k := by unfold leavesP; rw [List.length_map]; exact List.length_take_le _ _
      have HDR := hide (drop_at' hl')
      clear hl'
      generalize leavesP (log.take k) = xs at *
      generalize leafD l.d = m at *
      go_wp2_with fail
      refine CV.mono ?_
      rintro e w4 ⟨rfl, hb4⟩
      have HB4 := hide (below_to HB.out (Nat.le_refl _) hb4)
      have HO4 := hide (own_to' HO.out hb4)
      have HSZ : Hid (w.heap.size ≤ w4.heap.size) := HB4.out.size
      clear hb4 CV HO
      go_wp2_with (at_builtin; refine wpList_append_own _ rfl (.tmp 11) (.tmp 18) _ rfl w.heap.size 9 i0 (.string ⟨#[]⟩) 1 16 Tryz.underlying34 hi0 hz0 hz1 hz2 rfl (by omega) _ xs.length (xs.map strV).flatten rfl ?c0 ⟨_, 0, none⟩ 1 1 [.string (bs m)] rfl rfl ?c1 ?c2 ?c4 ?c5 ?c3 ?_)
      case c0 => exact own_to' HO4.out (below_one _ _)
      case c1 => exact cells_new (xs := [.string (bs m)]) (by simp)
      case c2 => intro u hu; simp only [List.mem_cons, List.not_mem_nil, or_false] at hu; rcases hu with rfl; rfl
      case c4 => simp only [maxLen]; omega
      case c5 => omega
      case c3 => have := HSZ.out; simp; omega
      · intro v' w6 hown6 hgr6 _
        have HB6 := hide ((below_alloc HB4.out (Nat.le_refl _) _).grown hgr6 (by have := HSZ.out; simp; omega) (fun b hb => (HO4.out.lt b hb).1))
        have HO6 : Hid (w6.ownsRow w.heap.size 9 1 v' (leavesP (log.take (k + 1))).length ((leavesP (log.take (k + 1))).map strV).flatten) := by
          show World.ownsRow _ _ _ _ _ _ _
          rw [HT.out]
          simp only [List.length_append, List.length_cons, List.length_nil, Nat.zero_add, List.map_append, List.map_cons, List.map_nil, List.flatten_append, List.flatten_cons, List.flatten_nil, List.append_nil]
          exact hown6
        clear hown6 hgr6
        go_wp2_with fail
        refine ⟨⟨k + 1, by go_num, by omega, HB6.out, HO6.out⟩, ?_⟩
        simp [intOf]; omega
    · obtain rfl : k = log.length := by omega
      have e1 : decide ((log.length : Int) < (log.length : Int)) = false := by simp
      rw [List.take_length] at HO
      go_wp2_with fail
      go_ret
      exact ⟨_, rfl, RowsAt.of_own (by simp [strV]) (by rw [List.length_map]; exact HO.out), HB.out⟩
end Go.Proofs.YtdiebacfbhjbdaaGreatDoor

/- The walk of the statements' examples: head. -/
set_option linter.unusedVariables false
set_option linter.unusedSimpArgs false
namespace Go.Proofs.YtdiebacfbhjbdaaGreatDoor
open Go.RowKit

theorem make_yes {p t s : List UInt8} (h : canM p t s = true) (hs : s.length ≤ 140737488355328) (ht : t.length ≤ 140737488355328) (hp : p.length ≤ 140737488355328) (w : World) (hg : Glob w) {l : Ln} (hl : mkL p t s = l) :
    Calls Tryz.prog 19 #[.string (bs p), .string (bs t), .string (bs s)] w fun e w' => e = .returned (.tuple #[.agg #[.string (bs l.p), .string (bs l.t), .string (bs l.s), .string (bs l.d)], .int .i64 0]) ∧ Below w.heap.size w w' := by
  have := Make_any p t s hp ht hs w hg
  rw [show makeV p t s = l by unfold makeV; rw [h]; exact hl, show makeE p t s = 0 by unfold makeE; rw [h]; rfl] at this
  exact this
theorem make_no {p t s : List UInt8} (h : canM p t s = false) (hs : s.length ≤ 140737488355328) (ht : t.length ≤ 140737488355328) (hp : p.length ≤ 140737488355328) (w : World) (hg : Glob w) :
    Calls Tryz.prog 19 #[.string (bs p), .string (bs t), .string (bs s)] w fun e w' => e = .returned (.tuple #[.agg #[.string ⟨#[]⟩, .string ⟨#[]⟩, .string ⟨#[]⟩, .string ⟨#[]⟩], .int .i64 1]) ∧ Below w.heap.size w w' := by
  have := Make_any p t s hp ht hs w hg
  rw [show makeV p t s = noL by unfold makeV; rw [h]; rfl, show makeE p t s = 1 by unfold makeE; rw [h]; rfl] at this
  exact this
theorem rows_new (w : World) (size : Nat) (t : TypeId) (ls : List (List Value)) (hs : ∀ x ∈ ls, x.length = size) (cs : Array Value) (hcs : cs.toList = ls.flatten) (n : Nat) (hn : n = ls.length) : RowsAt (w.alloc (.cells cs t)) size (.slice (some ⟨w.heap.size, 0, none⟩) n n) ls := by
  refine RowsAt.of_blk (Blk.new w t cs) hn (Nat.le_refl _) hs fun k x hx j u hu => ?_
  have := flat_at ls hs k x j u hx hu
  rw [← hcs] at this
  simpa using this
theorem okA_of (log : List Ln) (q : List UInt8) (h1 : validG log = true) (h2 : isNm q = true) : okA log q = true := by unfold okA; rw [h1, h2]; rfl
def SomeTx (ls : List (List UInt8)) (k : Int) (w : World) (e : Ending) (w' : World) : Prop := ∃ v', e = .returned (.tuple #[v', .int .i64 k]) ∧ TextsAt w' v' ls ∧ Below w.heap.size w w'
theorem about_yes {log : List Ln} (hf : ∀ l ∈ log, l.fit) (hl : log.length ≤ 1000000000) {q : List UInt8} (hok : okA log q = true) (hq : q.length ≤ 140737488355328) (v : Value) (w : World) (hv : LnsAt w v log) (hg : Glob w) {ls : List (List UInt8)} (he : aboutP log q = ls) :
    Calls Tryz.prog 16 #[v, .string (bs q)] w (SomeTx ls 0 w) :=
  (About_any log hf hl q hq v w hv hg).mono fun e w' ⟨v', h1, h2, h3⟩ => ⟨v', by rw [h1, hok]; rfl, by rw [← he]; unfold aboutV at h2; rw [hok] at h2; exact h2, h3⟩
def SomeLn (ls : List Ln) (k m : Int) (w : World) (e : Ending) (w' : World) : Prop := ∃ v', e = .returned (.tuple #[v', .int .i64 k, .int .i64 m]) ∧ LnsAt w' v' ls ∧ Below w.heap.size w w'
theorem erase_yes {log : List Ln} (hf : ∀ l ∈ log, l.fit) (hl : log.length ≤ 1000000000) {q : List UInt8} (hok : okA log q = true) (hq : q.length ≤ 140737488355328) (v : Value) (w : World) (hv : LnsAt w v log) (hg : Glob w) {ls : List Ln} (he : eraseP log q = ls) {k : Int} (hk : ((hitsP log q : Nat) : Int) = k) :
    Calls Tryz.prog 13 #[v, .string (bs q)] w (SomeLn ls k 0 w) :=
  (Erase_any log hf hl q hq v w hv hg).mono fun e w' ⟨v', h1, h2, h3⟩ => ⟨v', by rw [h1, hok, ← hk]; unfold hitsV; rw [hok]; rfl, by rw [← he]; unfold eraseV at h2; rw [hok] at h2; exact h2, h3⟩
theorem root_yes {log : List Ln} (hf : ∀ l ∈ log, l.fit) (hd : ∀ l ∈ log, l.d.length ≤ 100000000000) (hl : log.length ≤ 1000000000) (hok : validG log = true) (v : Value) (w : World) (hv : LnsAt w v log) (hg : Glob w) {R : List UInt8} (hR : totalT (leavesP log) = R) :
    Calls Tryz.prog 14 #[v] w fun e w' => e = .returned (.tuple #[.string (bs R), .int .i64 0]) ∧ Below w.heap.size w w' := by
  have := Root_any log hf hd hl v w hv hg
  rw [hok, if_pos rfl, hR] at this
  exact this
set_option maxRecDepth 100000 in
set_option maxHeartbeats 16000000 in
theorem head_any (w : World) (hg : Glob w) : Calls Tryz.prog 11 #[] w fun e w' => e = .returned (.bool true) ∧ Below w.heap.size w w' := by
  have CS : Calls Tryz.prog 33 #[.string ⟨#[115, 97, 108, 116]⟩] w fun e w' => e = .returned (.string (bs (sumD [115, 97, 108, 116]))) ∧ Below w.heap.size w w' := Sum_any [115, 97, 108, 116] (by decide) w hg
  have HS := hide (sumD_isD [115, 97, 108, 116])
  generalize sumD [115, 97, 108, 116] = S at *
  have HSl : Hid (S.length ≤ 140737488355328) := by have := isD_len HS.out; show _ ≤ _; omega
  have HG := hide hg
  clear hg
  obtain ⟨la, HLA⟩ : ∃ l, Hid (mkL annaT inT S = l) := ⟨_, rfl⟩
  obtain ⟨lb, HLB⟩ : ∃ l, Hid (mkL bobT parT S = l) := ⟨_, rfl⟩
  obtain ⟨lc, HLC⟩ : ∃ l, Hid (mkL annaT outT S = l) := ⟨_, rfl⟩
  have HVL : Hid (validG [la, lb, lc] = true) := by show _ = _; rw [← HLA.out, ← HLB.out, ← HLC.out]; exact head_valid HS.out
  have HAB : Hid (aboutP [la, lb, lc] annaT = [inT, outT]) := by show _ = _; rw [← HLA.out, ← HLB.out, ← HLC.out]; exact head_about S
  have HHI : Hid (hitsP [la, lb, lc] annaT = 2) := by show _ = _; rw [← HLA.out, ← HLB.out, ← HLC.out]; exact head_hits S
  have HBO : Hid (aboutP [la, lb, lc] bobT = [parT]) := by show _ = _; rw [← HLA.out, ← HLB.out, ← HLC.out]; exact head_bob S
  have HFI : Hid (∀ l ∈ [la, lb, lc], l.fit ∧ l.d.length ≤ 100000000000) := fun l hl => by
    simp only [List.mem_cons, List.not_mem_nil, or_false] at hl
    have h1 := HSl.out
    have h2 : ∀ x, (listD x).length = 16 := fun x => isD_len (listD_isD x)
    rcases hl with rfl | rfl | rfl
    · rw [← HLA.out]; exact ⟨⟨by show annaT.length ≤ _; decide, by show inT.length ≤ _; decide, h1, by show (listD _).length ≤ _; rw [h2]; decide⟩, by show (listD _).length ≤ _; rw [h2]; decide⟩
    · rw [← HLB.out]; exact ⟨⟨by show bobT.length ≤ _; decide, by show parT.length ≤ _; decide, h1, by show (listD _).length ≤ _; rw [h2]; decide⟩, by show (listD _).length ≤ _; rw [h2]; decide⟩
    · rw [← HLC.out]; exact ⟨⟨by show annaT.length ≤ _; decide, by show outT.length ≤ _; decide, h1, by show (listD _).length ≤ _; rw [h2]; decide⟩, by show (listD _).length ≤ _; rw [h2]; decide⟩
  go_enter Tryz.func11, Tryz.ntmps11
  go_wp2_with fail
  refine CS.mono ?_
  rintro e w1 ⟨rfl, hb⟩
  have HB1 := hide hb
  clear hb CS
  have C2 : Calls Tryz.prog 19 #[.string ⟨#[97, 110, 110, 97]⟩, .string ⟨#[109, 111, 118, 101, 100, 32, 105, 110]⟩, .string (bs S)] w1 fun e w' => e = .returned (.tuple #[.agg #[.string (bs la.p), .string (bs la.t), .string (bs la.s), .string (bs la.d)], .int .i64 0]) ∧ Below w1.heap.size w1 w' := make_yes (can_in HS.out) (by first | exact HSl.out | decide) (by first | exact HSl.out | decide) (by first | exact HSl.out | decide) w1 (HG.out.to HB1.out) HLA.out
  go_wp2_with fail
  refine C2.mono ?_
  rintro e v2 ⟨rfl, hb⟩
  have HB2 := hide (below_alloc (below_to HB1.out (Nat.le_refl _) hb) (Nat.le_refl _) (.cells #[.string (bs la.p), .string (bs la.t), .string (bs la.s), .string (bs la.d)] 32))
  clear hb C2 HB1
  go_wp2_with fail
  have HX2 := hide (Blk.new v2 32 #[.string (bs la.p), .string (bs la.t), .string (bs la.s), .string (bs la.d)])
  generalize v2.alloc (.cells #[.string (bs la.p), .string (bs la.t), .string (bs la.s), .string (bs la.d)] 32) = w2 at *
  have C3 : Calls Tryz.prog 19 #[.string ⟨#[98, 111, 98]⟩, .string ⟨#[112, 97, 114, 99, 101, 108]⟩, .string (bs S)] w2 fun e w' => e = .returned (.tuple #[.agg #[.string (bs lb.p), .string (bs lb.t), .string (bs lb.s), .string (bs lb.d)], .int .i64 0]) ∧ Below w2.heap.size w2 w' := make_yes (can_par HS.out) (by first | exact HSl.out | decide) (by first | exact HSl.out | decide) (by first | exact HSl.out | decide) w2 (HG.out.to HB2.out) HLB.out
  go_wp2_with fail
  refine C3.mono ?_
  rintro e v3 ⟨rfl, hb⟩
  have HB3 := hide (below_alloc (below_to HB2.out (Nat.le_refl _) hb) (Nat.le_refl _) (.cells #[.string (bs lb.p), .string (bs lb.t), .string (bs lb.s), .string (bs lb.d)] 32))
  have HY2 := hide (HX2.out.to hb)
  clear hb C3 HB2
  go_wp2_with fail
  replace HX2 := hide (HY2.out.alloc (.cells #[.string (bs lb.p), .string (bs lb.t), .string (bs lb.s), .string (bs lb.d)] 32))
  clear HY2
  have HX3 := hide (Blk.new v3 32 #[.string (bs lb.p), .string (bs lb.t), .string (bs lb.s), .string (bs lb.d)])
  generalize v3.alloc (.cells #[.string (bs lb.p), .string (bs lb.t), .string (bs lb.s), .string (bs lb.d)] 32) = w3 at *
  have C4 : Calls Tryz.prog 19 #[.string ⟨#[97, 110, 110, 97]⟩, .string ⟨#[109, 111, 118, 101, 100, 32, 111, 117, 116]⟩, .string (bs S)] w3 fun e w' => e = .returned (.tuple #[.agg #[.string (bs lc.p), .string (bs lc.t), .string (bs lc.s), .string (bs lc.d)], .int .i64 0]) ∧ Below w3.heap.size w3 w' := make_yes (can_out HS.out) (by first | exact HSl.out | decide) (by first | exact HSl.out | decide) (by first | exact HSl.out | decide) w3 (HG.out.to HB3.out) HLC.out
  go_wp2_with fail
  refine C4.mono ?_
  rintro e v4 ⟨rfl, hb⟩
  have HB4 := hide (below_alloc (below_to HB3.out (Nat.le_refl _) hb) (Nat.le_refl _) (.cells #[.string (bs lc.p), .string (bs lc.t), .string (bs lc.s), .string (bs lc.d)] 32))
  have HY2 := hide (HX2.out.to hb)
  have HY3 := hide (HX3.out.to hb)
  clear hb C4 HB3
  go_wp2_with fail
  replace HX2 := hide (HY2.out.alloc (.cells #[.string (bs lc.p), .string (bs lc.t), .string (bs lc.s), .string (bs lc.d)] 32))
  clear HY2
  replace HX3 := hide (HY3.out.alloc (.cells #[.string (bs lc.p), .string (bs lc.t), .string (bs lc.s), .string (bs lc.d)] 32))
  clear HY3
  have HX4 := hide (Blk.new v4 32 #[.string (bs lc.p), .string (bs lc.t), .string (bs lc.s), .string (bs lc.d)])
  generalize v4.alloc (.cells #[.string (bs lc.p), .string (bs lc.t), .string (bs lc.s), .string (bs lc.d)] 32) = w4 at *
  have C5 : Calls Tryz.prog 19 #[.string ⟨#[49]⟩, .string ⟨#[109, 111, 118, 101, 100, 32, 105, 110]⟩, .string (bs S)] w4 fun e w' => e = .returned (.tuple #[.agg #[.string ⟨#[]⟩, .string ⟨#[]⟩, .string ⟨#[]⟩, .string ⟨#[]⟩], .int .i64 1]) ∧ Below w4.heap.size w4 w' := make_no (can_1 inT S) (by first | exact HSl.out | decide) (by first | exact HSl.out | decide) (by first | exact HSl.out | decide) w4 (HG.out.to HB4.out)
  go_wp2_with fail
  refine C5.mono ?_
  rintro e v5 ⟨rfl, hb⟩
  have HB5 := hide (below_alloc (below_to HB4.out (Nat.le_refl _) hb) (Nat.le_refl _) (.cells #[.string ⟨#[]⟩, .string ⟨#[]⟩, .string ⟨#[]⟩, .string ⟨#[]⟩] 32))
  have HY2 := hide (HX2.out.to hb)
  have HY3 := hide (HX3.out.to hb)
  have HY4 := hide (HX4.out.to hb)
  clear hb C5 HB4
  go_wp2_with fail
  replace HX2 := hide (HY2.out.alloc (.cells #[.string ⟨#[]⟩, .string ⟨#[]⟩, .string ⟨#[]⟩, .string ⟨#[]⟩] 32))
  clear HY2
  replace HX3 := hide (HY3.out.alloc (.cells #[.string ⟨#[]⟩, .string ⟨#[]⟩, .string ⟨#[]⟩, .string ⟨#[]⟩] 32))
  clear HY3
  replace HX4 := hide (HY4.out.alloc (.cells #[.string ⟨#[]⟩, .string ⟨#[]⟩, .string ⟨#[]⟩, .string ⟨#[]⟩] 32))
  clear HY4
  generalize v5.alloc (.cells #[.string ⟨#[]⟩, .string ⟨#[]⟩, .string ⟨#[]⟩, .string ⟨#[]⟩] 32) = w5 at *
  have C6 : Calls Tryz.prog 19 #[.string ⟨#[97, 110, 110, 97]⟩, .string ⟨#[]⟩, .string (bs S)] w5 fun e w' => e = .returned (.tuple #[.agg #[.string ⟨#[]⟩, .string ⟨#[]⟩, .string ⟨#[]⟩, .string ⟨#[]⟩], .int .i64 1]) ∧ Below w5.heap.size w5 w' := make_no (can_0 annaT S) (by first | exact HSl.out | decide) (by first | exact HSl.out | decide) (by first | exact HSl.out | decide) w5 (HG.out.to HB5.out)
  go_wp2_with fail
  refine C6.mono ?_
  rintro e v6 ⟨rfl, hb⟩
  have HB6 := hide (below_alloc (below_to HB5.out (Nat.le_refl _) hb) (Nat.le_refl _) (.cells #[.string ⟨#[]⟩, .string ⟨#[]⟩, .string ⟨#[]⟩, .string ⟨#[]⟩] 32))
  have HY2 := hide (HX2.out.to hb)
  have HY3 := hide (HX3.out.to hb)
  have HY4 := hide (HX4.out.to hb)
  clear hb C6 HB5
  go_wp2_with fail
  replace HX2 := hide (HY2.out.alloc (.cells #[.string ⟨#[]⟩, .string ⟨#[]⟩, .string ⟨#[]⟩, .string ⟨#[]⟩] 32))
  clear HY2
  replace HX3 := hide (HY3.out.alloc (.cells #[.string ⟨#[]⟩, .string ⟨#[]⟩, .string ⟨#[]⟩, .string ⟨#[]⟩] 32))
  clear HY3
  replace HX4 := hide (HY4.out.alloc (.cells #[.string ⟨#[]⟩, .string ⟨#[]⟩, .string ⟨#[]⟩, .string ⟨#[]⟩] 32))
  clear HY4
  generalize v6.alloc (.cells #[.string ⟨#[]⟩, .string ⟨#[]⟩, .string ⟨#[]⟩, .string ⟨#[]⟩] 32) = w6 at *
  have C7 : Calls Tryz.prog 19 #[.string ⟨#[97, 110, 110, 97]⟩, .string ⟨#[109, 111, 118, 101, 100, 32, 105, 110]⟩, .string ⟨#[120]⟩] w6 fun e w' => e = .returned (.tuple #[.agg #[.string ⟨#[]⟩, .string ⟨#[]⟩, .string ⟨#[]⟩, .string ⟨#[]⟩], .int .i64 1]) ∧ Below w6.heap.size w6 w' := make_no (can_x annaT inT) (by first | exact HSl.out | decide) (by first | exact HSl.out | decide) (by first | exact HSl.out | decide) w6 (HG.out.to HB6.out)
  go_wp2_with fail
  refine C7.mono ?_
  rintro e v7 ⟨rfl, hb⟩
  have HB7 := hide (below_alloc (below_to HB6.out (Nat.le_refl _) hb) (Nat.le_refl _) (.cells #[.string ⟨#[]⟩, .string ⟨#[]⟩, .string ⟨#[]⟩, .string ⟨#[]⟩] 32))
  have HY2 := hide (HX2.out.to hb)
  have x2_0 := (HY2.out.cell 0).trans rfl
  have x2_1 := (HY2.out.cell 1).trans rfl
  have x2_2 := (HY2.out.cell 2).trans rfl
  have x2_3 := (HY2.out.cell 3).trans rfl
  have lt2 : v2.heap.size < v7.heap.size := HY2.out.lt
  have ne2 : v2.heap.size ≠ v7.heap.size := Nat.ne_of_lt lt2
  have HY3 := hide (HX3.out.to hb)
  have x3_0 := (HY3.out.cell 0).trans rfl
  have x3_1 := (HY3.out.cell 1).trans rfl
  have x3_2 := (HY3.out.cell 2).trans rfl
  have x3_3 := (HY3.out.cell 3).trans rfl
  have lt3 : v3.heap.size < v7.heap.size := HY3.out.lt
  have ne3 : v3.heap.size ≠ v7.heap.size := Nat.ne_of_lt lt3
  have HY4 := hide (HX4.out.to hb)
  have x4_0 := (HY4.out.cell 0).trans rfl
  have x4_1 := (HY4.out.cell 1).trans rfl
  have x4_2 := (HY4.out.cell 2).trans rfl
  have x4_3 := (HY4.out.cell 3).trans rfl
  have lt4 : v4.heap.size < v7.heap.size := HY4.out.lt
  have ne4 : v4.heap.size ≠ v7.heap.size := Nat.ne_of_lt lt4
  clear hb C7 HB6
  go_wp2_with fail
  have HL8 : Hid (LnsAt ((v7.alloc (.cells #[.string ⟨#[]⟩, .string ⟨#[]⟩, .string ⟨#[]⟩, .string ⟨#[]⟩] 32)).alloc (.cells #[.string (bs la.p), .string (bs la.t), .string (bs la.s), .string (bs la.d), .string (bs lb.p), .string (bs lb.t), .string (bs lb.s), .string (bs lb.d), .string (bs lc.p), .string (bs lc.t), .string (bs lc.s), .string (bs lc.d)] 32)) (.slice (some ⟨v7.heap.size + 1, 0, none⟩) 3 3) [la, lb, lc]) := by
    have := rows_new (v7.alloc (.cells #[.string ⟨#[]⟩, .string ⟨#[]⟩, .string ⟨#[]⟩, .string ⟨#[]⟩] 32)) 4 32 ([la, lb, lc].map lnV) (by simp [lnV]) #[.string (bs la.p), .string (bs la.t), .string (bs la.s), .string (bs la.d), .string (bs lb.p), .string (bs lb.t), .string (bs lb.s), .string (bs lb.d), .string (bs lc.p), .string (bs lc.t), .string (bs lc.s), .string (bs lc.d)] rfl 3 rfl
    rw [show (v7.alloc (.cells #[.string ⟨#[]⟩, .string ⟨#[]⟩, .string ⟨#[]⟩, .string ⟨#[]⟩] 32)).heap.size = v7.heap.size + 1 by simp] at this
    exact this
  have HB8 := hide (below_alloc HB7.out (Nat.le_refl _) (.cells #[.string (bs la.p), .string (bs la.t), .string (bs la.s), .string (bs la.d), .string (bs lb.p), .string (bs lb.t), .string (bs lb.s), .string (bs lb.d), .string (bs lc.p), .string (bs lc.t), .string (bs lc.s), .string (bs lc.d)] 32))
  generalize (v7.alloc (.cells #[.string ⟨#[]⟩, .string ⟨#[]⟩, .string ⟨#[]⟩, .string ⟨#[]⟩] 32)).alloc (.cells #[.string (bs la.p), .string (bs la.t), .string (bs la.s), .string (bs la.d), .string (bs lb.p), .string (bs lb.t), .string (bs lb.s), .string (bs lb.d), .string (bs lc.p), .string (bs lc.t), .string (bs lc.s), .string (bs lc.d)] 32) = w8 at *
  generalize Value.slice (some ⟨v7.heap.size + 1, 0, none⟩) 3 3 = lv at *
  clear x2_0 x2_1 x2_2 x2_3 x3_0 x3_1 x3_2 x3_3 x4_0 x4_1 x4_2 x4_3 lt2 lt3 lt4 ne2 ne3 ne4 HX2 HX3 HX4 HY2 HY3 HY4 HB7
  obtain ⟨R, HR⟩ : ∃ R, Hid (totalT (leavesP [la, lb, lc]) = R) := ⟨_, rfl⟩
  obtain ⟨le, HLE⟩ : ∃ l, Hid (eraseP [la, lb, lc] annaT = l) := ⟨_, rfl⟩
  have HV2 : Hid (validG le = true) := by show _ = _; rw [← HLE.out]; exact valid_erase HVL.out
  have HR2 : Hid (totalT (leavesP le) = R) := by show _ = _; rw [← HLE.out, leaves_erase]; exact HR.out
  have HA2 : Hid (aboutP le annaT = []) := by show _ = _; rw [← HLE.out]; exact about_none anna_nm _
  have HB2 : Hid (aboutP le bobT = [parT]) := by show _ = _; rw [← HLE.out, about_other bob_nm (by decide)]; exact HBO.out
  have HF2 : Hid (∀ l ∈ le, l.fit ∧ l.d.length ≤ 100000000000) := fun l hl => by
    rw [← HLE.out] at hl
    obtain ⟨x, hx, rfl⟩ := List.mem_map.1 hl
    obtain ⟨h1, h2⟩ := HFI.out x hx
    split
    · exact ⟨⟨Nat.zero_le _, Nat.zero_le _, Nat.zero_le _, h1.d⟩, h2⟩
    · exact ⟨h1, h2⟩
  have HL2 : Hid (le.length ≤ 1000000000) := by show _ ≤ _; rw [← HLE.out, erase_len]; show 3 ≤ _; decide
  have HL3 : Hid ([la, lb, lc].length ≤ 1000000000) := by show 3 ≤ _; decide
  have HRE : Hid (R ≠ []) := by rw [← HR.out]; exact total_ne (leaves_proper _)
  have hre : (bs R).toList.isEmpty = false := by
    rw [bs_toList]
    have := HRE.out
    cases R with
    | nil => exact absurd rfl this
    | cons _ _ => rfl
  have hrs : ((bs R).toList == (bs R).toList) = true := by simp
  have C9 := root_yes (fun l hl => (HFI.out l hl).1) (fun l hl => (HFI.out l hl).2) HL3.out HVL.out lv w8 HL8.out (HG.out.to HB8.out) HR.out
  refine C9.mono ?_
  rintro e w9 ⟨rfl, hb⟩
  have HB9 := hide (below_to HB8.out (Nat.le_refl _) hb)
  have HL9 := hide (HL8.out.to hb)
  clear hb C9 HL8 HB8
  go_wp2_with fail
  have C10 : Calls Tryz.prog 16 #[lv, .string ⟨#[97, 110, 110, 97]⟩] w9 (SomeTx [inT, outT] 0 w9) := about_yes (fun l hl => (HFI.out l hl).1) HL3.out (okA_of _ _ HVL.out anna_nm) (by decide) lv w9 HL9.out (HG.out.to HB9.out) HAB.out
  refine C10.mono ?_
  rintro e w10 ⟨va, rfl, ha, hb⟩
  have HB10 := hide (below_to HB9.out (Nat.le_refl _) hb)
  have HL10 := hide (HL9.out.to hb)
  have HA10 := hide ha
  clear hb C10 HL9 HB9 ha
  go_wp2_with fail
  have C11 : Calls Tryz.prog 13 #[lv, .string ⟨#[97, 110, 110, 97]⟩] w10 (SomeLn le 2 0 w10) := erase_yes (fun l hl => (HFI.out l hl).1) HL3.out (okA_of _ _ HVL.out anna_nm) (by decide) lv w10 HL10.out (HG.out.to HB10.out) HLE.out (by rw [HHI.out]; rfl)
  refine C11.mono ?_
  rintro e w11 ⟨lx, rfl, hx, hb⟩
  have HB11 := hide (below_to HB10.out (Nat.le_refl _) hb)
  have HL11 := hide hx
  have HA11 := hide (HA10.out.to hb)
  clear hb C11 HL10 HB10 HA10 hx
  go_wp2_with fail
  have C12 := root_yes (fun l hl => (HF2.out l hl).1) (fun l hl => (HF2.out l hl).2) HL2.out HV2.out lx w11 HL11.out (HG.out.to HB11.out) HR2.out
  refine C12.mono ?_
  rintro e w12 ⟨rfl, hb⟩
  have HB12 := hide (below_to HB11.out (Nat.le_refl _) hb)
  have HL12 := hide (HL11.out.to hb)
  have HA12 := hide (HA11.out.to hb)
  clear hb C12 HL11 HB11 HA11
  go_wp2_with fail
  have C13 : Calls Tryz.prog 16 #[lx, .string ⟨#[97, 110, 110, 97]⟩] w12 (SomeTx [] 0 w12) := about_yes (fun l hl => (HF2.out l hl).1) HL2.out (okA_of _ _ HV2.out anna_nm) (by decide) lx w12 HL12.out (HG.out.to HB12.out) HA2.out
  refine C13.mono ?_
  rintro e w13 ⟨vn, rfl, hn, hb⟩
  obtain ⟨An, cn, rfl, _⟩ := hn.slice
  have HB13 := hide (below_to HB12.out (Nat.le_refl _) hb)
  have HL13 := hide (HL12.out.to hb)
  have HA13 := hide (HA12.out.to hb)
  clear hb C13 HL12 HB12 HA12 hn
  go_wp2_with fail
  have C14 : Calls Tryz.prog 16 #[lx, .string ⟨#[98, 111, 98]⟩] w13 (SomeTx [parT] 0 w13) := about_yes (fun l hl => (HF2.out l hl).1) HL2.out (okA_of _ _ HV2.out bob_nm) (by decide) lx w13 HL13.out (HG.out.to HB13.out) HB2.out
  refine C14.mono ?_
  rintro e w14 ⟨vr, rfl, hr, hb⟩
  have HB14 := hide (below_to HB13.out (Nat.le_refl _) hb)
  have HA14 := hide (HA13.out.to hb)
  have HR14 := hide hr
  clear hb C14 HL13 HB13 HA13 hr
  go_wp2_with fail
  have C15 : Calls Tryz.prog 17 #[va, .slice (some ⟨w14.heap.size, 0, none⟩) 2 2] (w14.alloc (.cells #[.string ⟨#[109, 111, 118, 101, 100, 32, 105, 110]⟩, .string ⟨#[109, 111, 118, 101, 100, 32, 111, 117, 116]⟩] 9)) fun e w' => e = .returned (.bool true) ∧ Below (w14.alloc (.cells #[.string ⟨#[109, 111, 118, 101, 100, 32, 105, 110]⟩, .string ⟨#[109, 111, 118, 101, 100, 32, 111, 117, 116]⟩] 9)).heap.size (w14.alloc (.cells #[.string ⟨#[109, 111, 118, 101, 100, 32, 105, 110]⟩, .string ⟨#[109, 111, 118, 101, 100, 32, 111, 117, 116]⟩] 9)) w' :=
    Texts_any [inT, outT] [inT, outT] (by decide) (by decide) va _ _ (RowsAt.to HA14.out (below_one _ _)) (rows_new w14 1 9 ([inT, outT].map strV) (by simp [strV]) _ rfl 2 rfl)
  have HB15 := hide (below_alloc HB14.out (Nat.le_refl _) (.cells #[.string ⟨#[109, 111, 118, 101, 100, 32, 105, 110]⟩, .string ⟨#[109, 111, 118, 101, 100, 32, 111, 117, 116]⟩] 9))
  have HR15 := hide (HR14.out.to (below_one w14 (.cells #[.string ⟨#[109, 111, 118, 101, 100, 32, 105, 110]⟩, .string ⟨#[109, 111, 118, 101, 100, 32, 111, 117, 116]⟩] 9)))
  refine C15.mono ?_
  rintro e w16 ⟨rfl, hb⟩
  have HB16 := hide (below_to HB15.out (Nat.le_refl _) hb)
  have HR16 := hide (HR15.out.to hb)
  clear hb C15 HB15 HR15 HB14 HR14 HA14
  go_wp2_with fail
  have C17 : Calls Tryz.prog 17 #[vr, .slice (some ⟨w16.heap.size, 0, none⟩) 1 1] (w16.alloc (.cells #[.string ⟨#[112, 97, 114, 99, 101, 108]⟩] 9)) fun e w' => e = .returned (.bool true) ∧ Below (w16.alloc (.cells #[.string ⟨#[112, 97, 114, 99, 101, 108]⟩] 9)).heap.size (w16.alloc (.cells #[.string ⟨#[112, 97, 114, 99, 101, 108]⟩] 9)) w' :=
    Texts_any [parT] [parT] (by decide) (by decide) vr _ _ (RowsAt.to HR16.out (below_one _ _)) (rows_new w16 1 9 ([parT].map strV) (by simp [strV]) _ rfl 1 rfl)
  have HB17 := hide (below_alloc HB16.out (Nat.le_refl _) (.cells #[.string ⟨#[112, 97, 114, 99, 101, 108]⟩] 9))
  refine C17.mono ?_
  rintro e w18 ⟨rfl, hb⟩
  have HB18 := hide (below_to HB17.out (Nat.le_refl _) hb)
  clear hb C17 HB17 HB16 HR16
  go_wp2_with fail
  go_ret
  exact ⟨rfl, HB18.out⟩
end Go.Proofs.YtdiebacfbhjbdaaGreatDoor
