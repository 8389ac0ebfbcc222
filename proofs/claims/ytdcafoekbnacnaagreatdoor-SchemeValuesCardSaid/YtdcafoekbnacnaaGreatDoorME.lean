/- Several texts as one, in build order. -/
import Derived.Test.YtdcafoekbnacnaaGreatDoorMD
import Derived.Test.YtdcafoekbnacnaaGreatDoorMA
import Derived.Deep.DeepCutAuto
/- Chapter 23: the walk of SchemeValues. -/
set_option linter.unusedVariables false
set_option linter.unusedSimpArgs false
namespace Go.Proofs.YtdcafoekbnacnaaGreatDoor
open Go.RowKit Go.Shelf
attribute [local go_sem] Oper.semAt_some

theorem fields_put (f0 f1 f2 f3 f4 f5 f6 f7 f8 x : List UInt8) : ∀ (k : Nat), k < 9 → ∃ g0 g1 g2 g3 g4 g5 g6 g7 g8 : List UInt8, [f0, f1, f2, f3, f4, f5, f6, f7, f8].set k x = [g0, g1, g2, g3, g4, g5, g6, g7, g8] ∧ (#[Value.string (bs f0), Value.string (bs f1), Value.string (bs f2), Value.string (bs f3), Value.string (bs f4), Value.string (bs f5), Value.string (bs f6), Value.string (bs f7), Value.string (bs f8)] : Array Value).setIfInBounds k (.string (bs x)) = #[Value.string (bs g0), Value.string (bs g1), Value.string (bs g2), Value.string (bs g3), Value.string (bs g4), Value.string (bs g5), Value.string (bs g6), Value.string (bs g7), Value.string (bs g8)]
  | 0, _ => ⟨x, f1, f2, f3, f4, f5, f6, f7, f8, rfl, rfl⟩
  | 1, _ => ⟨f0, x, f2, f3, f4, f5, f6, f7, f8, rfl, rfl⟩
  | 2, _ => ⟨f0, f1, x, f3, f4, f5, f6, f7, f8, rfl, rfl⟩
  | 3, _ => ⟨f0, f1, f2, x, f4, f5, f6, f7, f8, rfl, rfl⟩
  | 4, _ => ⟨f0, f1, f2, f3, x, f5, f6, f7, f8, rfl, rfl⟩
  | 5, _ => ⟨f0, f1, f2, f3, f4, x, f6, f7, f8, rfl, rfl⟩
  | 6, _ => ⟨f0, f1, f2, f3, f4, f5, x, f7, f8, rfl, rfl⟩
  | 7, _ => ⟨f0, f1, f2, f3, f4, f5, f6, x, f8, rfl, rfl⟩
  | 8, _ => ⟨f0, f1, f2, f3, f4, f5, f6, f7, x, rfl, rfl⟩
theorem add_block (a : Addr) (n : Nat) : (a.add n).block = a.block := by unfold Addr.add; split <;> rfl
set_option maxRecDepth 100000 in
set_option maxHeartbeats 8000000 in
theorem values_law (s : Sch) (hl0 : s.ps.length ≤ 8796093022208) (hc0 : s.c.length ≤ 140737488355328) (v : Value) (f0 f1 f2 f3 f4 f5 f6 f7 f8 : List UInt8) (one : Nat) (hone : one < 256) (two : Nat) (htwo : two < 256) (w : World) (hP : PartsAt w v s.ps) (hg : Glob w) :
    Calls Tryz.prog 7 #[.agg #[.string (bs s.c), v], .agg #[.string (bs f0), .string (bs f1), .string (bs f2), .string (bs f3), .string (bs f4), .string (bs f5), .string (bs f6), .string (bs f7), .string (bs f8)], .int .u8 (one : Int), .int .u8 (two : Int)] w fun e w' => e = .returned (.bool true) ∧ Below w.heap.size w w' := by
  have HP0 := hide hP
  have HG0 := hide hg
  have HGo := hide hg
  obtain ⟨A, c, rfl, hc⟩ := hP.slice
  clear hP hg
  go_enter Tryz.func7, Tryz.ntmps7
  go_wp2_with fail
  obtain ⟨Xs, Xf, B0⟩ := box2 w 24 #[.string (bs s.c), .slice A s.ps.length c] 26 #[.string (bs f0), .string (bs f1), .string (bs f2), .string (bs f3), .string (bs f4), .string (bs f5), .string (bs f6), .string (bs f7), .string (bs f8)]
  have HXs := hide Xs
  have HXf := hide Xf
  have HB := hide B0
  have HP := hide (HP0.out.to B0)
  have HG := hide (HG0.out.to B0)
  clear Xs Xf B0 HP0 HG0
  generalize (w.alloc (.cells #[.string (bs s.c), .slice A s.ps.length c] 24)).alloc (.cells #[.string (bs f0), .string (bs f1), .string (bs f2), .string (bs f3), .string (bs f4), .string (bs f5), .string (bs f6), .string (bs f7), .string (bs f8)] 26) = w1 at *
  refine (head_any w1 HG.out).mono ?_
  rintro e w2 ⟨rfl, hb⟩
  have zHXs := hide (HXs.out.to hb)
  have zHXf := hide (HXf.out.to hb)
  have zHP := hide (HP.out.to hb)
  have zHG := hide (HG.out.to hb)
  have zHB := hide (below_to HB.out (Nat.le_refl _) hb)
  clear hb HB HXs HXf HP HG
  have HXs := zHXs
  have HXf := zHXf
  have HP := zHP
  have HG := zHG
  have HB := zHB
  clear zHXs zHXf zHP zHG zHB
  obtain ⟨U, hU, g, u0, rfl, hgu, hgi⟩ := cls w2
  have xs_0 := fun u => (((HXs.out.to (hgu u)).cell 0).trans (show _ = some (Value.string (bs s.c)) from rfl))
  have xs_1 := fun u => (((HXs.out.to (hgu u)).cell 1).trans (show _ = some (Value.slice A s.ps.length c) from rfl))
  have xf_0 := fun u => (((HXf.out.to (hgu u)).cell 0).trans (show _ = some (Value.string (bs f0)) from rfl))
  have xf_1 := fun u => (((HXf.out.to (hgu u)).cell 1).trans (show _ = some (Value.string (bs f1)) from rfl))
  have xf_2 := fun u => (((HXf.out.to (hgu u)).cell 2).trans (show _ = some (Value.string (bs f2)) from rfl))
  have xf_3 := fun u => (((HXf.out.to (hgu u)).cell 3).trans (show _ = some (Value.string (bs f3)) from rfl))
  have xf_4 := fun u => (((HXf.out.to (hgu u)).cell 4).trans (show _ = some (Value.string (bs f4)) from rfl))
  have xf_5 := fun u => (((HXf.out.to (hgu u)).cell 5).trans (show _ = some (Value.string (bs f5)) from rfl))
  have xf_6 := fun u => (((HXf.out.to (hgu u)).cell 6).trans (show _ = some (Value.string (bs f6)) from rfl))
  have xf_7 := fun u => (((HXf.out.to (hgu u)).cell 7).trans (show _ = some (Value.string (bs f7)) from rfl))
  have xf_8 := fun u => (((HXf.out.to (hgu u)).cell 8).trans (show _ = some (Value.string (bs f8)) from rfl))
  have CF : ∀ u, Calls Tryz.prog 16 #[.agg #[.string (bs s.c), .slice A s.ps.length c]] (g u) fun e w' => e = .returned (.bool (fewB s)) ∧ ∃ u', w' = g u' := fun u => cls_call hgu hgi (fun W hb => Few_any s hl0 (.slice A s.ps.length c) W (HP.out.to hb)) u
  have CS : ∀ u, Calls Tryz.prog 17 #[.agg #[.string (bs f0), .string (bs f1), .string (bs f2), .string (bs f3), .string (bs f4), .string (bs f5), .string (bs f6), .string (bs f7), .string (bs f8)]] (g u) fun e w' => e = .returned (.bool (shortF [f0, f1, f2, f3, f4, f5, f6, f7, f8])) ∧ ∃ u', w' = g u' := fun u => cls_call hgu hgi (fun W hb => Short_any f0 f1 f2 f3 f4 f5 f6 f7 f8 W) u
  have CA : ∀ u, Calls Tryz.prog 24 #[.agg #[.string (bs s.c), .slice A s.ps.length c], .agg #[.string (bs f0), .string (bs f1), .string (bs f2), .string (bs f3), .string (bs f4), .string (bs f5), .string (bs f6), .string (bs f7), .string (bs f8)]] (g u) fun e w' => e = .returned (.bool (fitsB isNm numB s [f0, f1, f2, f3, f4, f5, f6, f7, f8])) ∧ ∃ u', w' = g u' := fun u => cls_call hgu hgi (fun W hb => Fits_any s hl0 hc0 (.slice A s.ps.length c) f0 f1 f2 f3 f4 f5 f6 f7 f8 W (HP.out.to hb) (HG.out.to hb)) u
  cases hCF : fewB s with
  | false =>
    rw [hCF] at CF
    clear hCF
    go_wp2_with (first | ((with_reducible refine (CF _).mono ?_); rintro e w' ⟨rfl, u, rfl⟩) | ((with_reducible refine (CS _).mono ?_); rintro e w' ⟨rfl, u, rfl⟩) | ((with_reducible refine (CA _).mono ?_); rintro e w' ⟨rfl, u, rfl⟩))
    all_goals go_ret
    all_goals exact ⟨rfl, below_to HB.out (Nat.le_refl _) (hgu _)⟩
  | true =>
    rw [hCF] at CF
    have kCF := hide hCF
    clear hCF
    cases hCS : shortF [f0, f1, f2, f3, f4, f5, f6, f7, f8] with
    | false =>
      rw [hCS] at CS
      clear hCS kCF
      go_wp2_with (first | ((with_reducible refine (CF _).mono ?_); rintro e w' ⟨rfl, u, rfl⟩) | ((with_reducible refine (CS _).mono ?_); rintro e w' ⟨rfl, u, rfl⟩) | ((with_reducible refine (CA _).mono ?_); rintro e w' ⟨rfl, u, rfl⟩))
      all_goals go_ret
      all_goals exact ⟨rfl, below_to HB.out (Nat.le_refl _) (hgu _)⟩
    | true =>
      rw [hCS] at CS
      have kCS := hide hCS
      clear hCS
      cases hCA : fitsB isNm numB s [f0, f1, f2, f3, f4, f5, f6, f7, f8] with
      | false =>
        rw [hCA] at CA
        clear hCA kCF kCS
        go_wp2_with (first | ((with_reducible refine (CF _).mono ?_); rintro e w' ⟨rfl, u, rfl⟩) | ((with_reducible refine (CS _).mono ?_); rintro e w' ⟨rfl, u, rfl⟩) | ((with_reducible refine (CA _).mono ?_); rintro e w' ⟨rfl, u, rfl⟩))
        all_goals go_ret
        all_goals exact ⟨rfl, below_to HB.out (Nat.le_refl _) (hgu _)⟩
      | true =>
        rw [hCA] at CA
        have kCA := hide hCA
        clear hCA
        by_cases h0 : s.ps.length = 0
        · have e1 : ((s.ps.length : Int) == 0) = true := by rw [h0]; rfl
          clear h0
          go_wp2_with (first | ((with_reducible refine (CF _).mono ?_); rintro e w' ⟨rfl, u, rfl⟩) | ((with_reducible refine (CS _).mono ?_); rintro e w' ⟨rfl, u, rfl⟩) | ((with_reducible refine (CA _).mono ?_); rintro e w' ⟨rfl, u, rfl⟩))
          all_goals go_ret
          all_goals exact ⟨rfl, below_to HB.out (Nat.le_refl _) (hgu _)⟩
        have e1 : ((s.ps.length : Int) == 0) = false := by rw [beq_eq_false_iff_ne]; omega
        have hf := (fitsB_iff isNm numB s [f0, f1, f2, f3, f4, f5, f6, f7, f8] rfl).1 kCA.out
        have h8 := hf.valid.n8
        obtain ⟨i, hi⟩ : ∃ k, one % s.ps.length = k := ⟨_, rfl⟩
        obtain ⟨j, hj⟩ : ∃ k, two % s.ps.length = k := ⟨_, rfl⟩
        have hil : i < s.ps.length := by rw [← hi]; exact Nat.mod_lt _ (by omega)
        have hjl : j < s.ps.length := by rw [← hj]; exact Nat.mod_lt _ (by omega)
        have ew : IntKind.i64.wrap (one : Int) = (one : Int) := w64 (by omega) (by omega)
        have ew2 : IntKind.i64.wrap (two : Int) = (two : Int) := w64 (by omega) (by omega)
        have em : (one : Int).tmod (s.ps.length : Int) = (i : Int) := by rw [Int.tmod_eq_emod_of_nonneg (by omega), ← hi, Int.natCast_emod]
        have em2 : (two : Int).tmod (s.ps.length : Int) = (j : Int) := by rw [Int.tmod_eq_emod_of_nonneg (by omega), ← hj, Int.natCast_emod]
        obtain ⟨p, hp⟩ : ∃ p, s.ps[i]? = some p := ⟨_, List.getElem?_eq_getElem hil⟩
        obtain ⟨q, hq⟩ : ∃ p, s.ps[j]? = some p := ⟨_, List.getElem?_eq_getElem hjl⟩
        have hpk := (hf.valid.part p (List.mem_of_getElem? hp)).1
        have hqk := (hf.valid.part q (List.mem_of_getElem? hq)).1
        have HFF := hide hf
        have HPI := hide hp
        have HQJ := hide hq
        obtain ⟨ad, c', eA, -⟩ := HP.out.at_ hp
        have eA : A = some ad := (Value.slice.inj eA).1
        subst eA
        clear hi hj hp hq hf h0
        obtain ⟨kp, hkp, hkp9⟩ : ∃ k : Nat, p.k = (k : Int) ∧ k < 9 := ⟨p.k.toNat, by omega, by omega⟩
        obtain ⟨kq, hkq, hkq9⟩ : ∃ k : Nat, q.k = (k : Int) ∧ k < 9 := ⟨q.k.toNat, by omega, by omega⟩
        have hne : ¬ s.ps = [] := by intro h; rw [h] at hil; exact absurd hil (Nat.not_lt_zero _)
        rw [hkp] at hpk
        rw [hkq] at hqk
        have HKP := hide hkp
        have HKQ := hide hkq
        clear hkp hkq
        go_upto_region 4 with (first | ((with_reducible refine (CF _).mono ?_); rintro e w' ⟨rfl, u, rfl⟩) | ((with_reducible refine (CS _).mono ?_); rintro e w' ⟨rfl, u, rfl⟩) | ((with_reducible refine (CA _).mono ?_); rintro e w' ⟨rfl, u, rfl⟩))
        have HP3 := hide (HP.out.to (hgu u))
        have HXs3 := hide (HXs.out.to (hgu u))
        have HXf3 := hide (HXf.out.to (hgu u))
        have HB3 := hide (below_to HB.out (Nat.le_refl _) (hgu u))
        revert HP3 HXs3 HXf3 HB3
        generalize g u = w3
        intro HP3 HXs3 HXf3 HB3
        clear xs_0 xs_1 xf_0 xf_1 xf_2 xf_3 xf_4 xf_5 xf_6 xf_7 xf_8 CF CS CA hgu hgi HP HG HXs HXf HB
        apply wp_region_lo4 (C := fun W => Below w3.heap.size w3 W) (V := [some _, some _, some _, some _, some _, some _, some _, some _, some _, some _, some _, some _, some _, some _, some _, some _, some _, some _, some _, some _, none, none, none, none]) (Fs := [(20, NewB4 w3.heap.size 41 10 11), (21, NewB4 w3.heap.size 41 11 10), (22, HasB w3.heap.size 41 10 11 #[.int .i64 (kp : Int), .string (bs p.b), .string (bs p.a), .bool p.need]), (23, HasB w3.heap.size 41 11 10 #[.int .i64 (kq : Int), .string (bs q.b), .string (bs q.a), .bool q.need])]) (Ns := [(20, OldB 11), (21, OldB 10)]) (Rel := fun i a0_ a1_ x x' => if i = 20 then (RAl 10) a0_ a1_ x x' else if i = 21 then (RAl 11) a0_ a1_ x x' else if i = 22 then (RSt w3.heap.size 41 10 (.int .i64 (kp : Int)) (.string (bs p.b)) (.string (bs p.a)) (.bool p.need)) a0_ a1_ x x' else if i = 23 then (RSt w3.heap.size 41 11 (.int .i64 (kq : Int)) (.string (bs q.b)) (.string (bs q.a)) (.bool q.need)) a0_ a1_ x x' else Below x.heap.size x x')
        case hm => kernel_rfl
        case hB => kernel_rfl
        case hCw => exact (Below.refl _ w3).drew
        case hC =>
          intro i a a' w_ w' hw hr
          by_cases e20 : i = 20
          · subst e20
            have hr' : (RAl 10) a a' w_ w' := hr
            exact below_to hw (Nat.le_refl _) hr'.1
          by_cases e21 : i = 21
          · subst e21
            have hr' : (RAl 11) a a' w_ w' := hr
            exact below_to hw (Nat.le_refl _) hr'.1
          by_cases e22 : i = 22
          · subst e22
            have hr' : (RSt w3.heap.size 41 10 (.int .i64 (kp : Int)) (.string (bs p.b)) (.string (bs p.a)) (.bool p.need)) a a' w_ w' := hr
            exact hr'.below hw hw.size
          by_cases e23 : i = 23
          · subst e23
            have hr' : (RSt w3.heap.size 41 11 (.int .i64 (kq : Int)) (.string (bs q.b)) (.string (bs q.a)) (.bool q.need)) a a' w_ w' := hr
            exact hr'.below hw hw.size
          have hr' : Below w_.heap.size w_ w' := by simpa [e20, e21, e22, e23] using hr
          exact below_to hw (Nat.le_refl _) hr'
        case hst =>
          refine keeps4_cons (fun i a a' w_ w' hne hwt hs hput hr h => by
            by_cases e20 : i = 20
            · exact absurd e20 hne
            by_cases e21 : i = 21
            · subst e21
              have hr' : (RAl 11) a a' w_ w' := hr
              exact h.alloc (hs 10 (by kernel_rfl)) hr'
            by_cases e22 : i = 22
            · subst e22
              have hr' : (RSt w3.heap.size 41 10 (.int .i64 (kp : Int)) (.string (bs p.b)) (.string (bs p.a)) (.bool p.need)) a a' w_ w' := hr
              exact h.st (hs 10 (by kernel_rfl)) (other_slot (d := 11) (k := 21) (by kernel_rfl) hput (by decide)) hr'
            by_cases e23 : i = 23
            · subst e23
              have hr' : (RSt w3.heap.size 41 11 (.int .i64 (kq : Int)) (.string (bs q.b)) (.string (bs q.a)) (.bool q.need)) a a' w_ w' := hr
              exact h.far (hs 10 (by kernel_rfl)) (other_slot (d := 11) (k := 21) (by kernel_rfl) hput (by decide)) hr'
            have hr' : Below w_.heap.size w_ w' := by simpa [e20, e21, e22, e23] using hr
            exact h.keep (hs 10 (by kernel_rfl)) (other_slot (d := 11) (k := 21) (by kernel_rfl) hput e21) hr') ?_
          refine keeps4_cons (fun i a a' w_ w' hne hwt hs hput hr h => by
            by_cases e20 : i = 20
            · subst e20
              have hr' : (RAl 10) a a' w_ w' := hr
              exact h.alloc (hs 11 (by kernel_rfl)) hr'
            by_cases e21 : i = 21
            · exact absurd e21 hne
            by_cases e22 : i = 22
            · subst e22
              have hr' : (RSt w3.heap.size 41 10 (.int .i64 (kp : Int)) (.string (bs p.b)) (.string (bs p.a)) (.bool p.need)) a a' w_ w' := hr
              exact h.far (hs 11 (by kernel_rfl)) (other_slot (d := 10) (k := 20) (by kernel_rfl) hput (by decide)) hr'
            by_cases e23 : i = 23
            · subst e23
              have hr' : (RSt w3.heap.size 41 11 (.int .i64 (kq : Int)) (.string (bs q.b)) (.string (bs q.a)) (.bool q.need)) a a' w_ w' := hr
              exact h.st (hs 11 (by kernel_rfl)) (other_slot (d := 10) (k := 20) (by kernel_rfl) hput (by decide)) hr'
            have hr' : Below w_.heap.size w_ w' := by simpa [e20, e21, e22, e23] using hr
            exact h.keep (hs 11 (by kernel_rfl)) (other_slot (d := 10) (k := 20) (by kernel_rfl) hput e20) hr') ?_
          refine keeps4_cons (fun i a a' w_ w' hne hwt hs hput hr h => by
            by_cases e20 : i = 20
            · subst e20
              exact absurd (hwt.symm.trans (show waitsT .any _ _ 22 20 = true by kernel_rfl)) (by decide)
            by_cases e21 : i = 21
            · subst e21
              have hr' : (RAl 11) a a' w_ w' := hr
              exact h.alloc (hs 10 (by kernel_rfl)) hr'
            by_cases e22 : i = 22
            · exact absurd e22 hne
            by_cases e23 : i = 23
            · subst e23
              have hr' : (RSt w3.heap.size 41 11 (.int .i64 (kq : Int)) (.string (bs q.b)) (.string (bs q.a)) (.bool q.need)) a a' w_ w' := hr
              exact h.far (hs 10 (by kernel_rfl)) (other_slot (d := 11) (k := 21) (by kernel_rfl) hput (by decide)) hr'
            have hr' : Below w_.heap.size w_ w' := by simpa [e20, e21, e22, e23] using hr
            exact h.keep (hs 10 (by kernel_rfl)) (other_slot (d := 11) (k := 21) (by kernel_rfl) hput e21) hr') ?_
          refine keeps4_cons (fun i a a' w_ w' hne hwt hs hput hr h => by
            by_cases e20 : i = 20
            · subst e20
              have hr' : (RAl 10) a a' w_ w' := hr
              exact h.alloc (hs 11 (by kernel_rfl)) hr'
            by_cases e21 : i = 21
            · subst e21
              exact absurd (hwt.symm.trans (show waitsT .any _ _ 23 21 = true by kernel_rfl)) (by decide)
            by_cases e22 : i = 22
            · subst e22
              have hr' : (RSt w3.heap.size 41 10 (.int .i64 (kp : Int)) (.string (bs p.b)) (.string (bs p.a)) (.bool p.need)) a a' w_ w' := hr
              exact h.far (hs 11 (by kernel_rfl)) (other_slot (d := 10) (k := 20) (by kernel_rfl) hput (by decide)) hr'
            by_cases e23 : i = 23
            · exact absurd e23 hne
            have hr' : Below w_.heap.size w_ w' := by simpa [e20, e21, e22, e23] using hr
            exact h.keep (hs 11 (by kernel_rfl)) (other_slot (d := 10) (k := 20) (by kernel_rfl) hput e20) hr') ?_
          exact keeps4_nil
        case hN0 => exact pre0_cons (OldB.start rfl) (pre0_cons (OldB.start rfl) (pre0_nil))
        case hNst =>
          refine prek_cons3 (fun i a a' w_ w' hne hwt hr h hput => by
            by_cases e20 : i = 20
            · exact absurd e20 hne
            by_cases e21 : i = 21
            · subst e21
              have hr' : (RAl 11) a a' w_ w' := hr
              exact OldB.alloc hr'
            by_cases e22 : i = 22
            · subst e22
              exact absurd (hwt.symm.trans (show waitsT .any _ _ 22 20 = true by kernel_rfl)) (by decide)
            by_cases e23 : i = 23
            · subst e23
              have hr' : (RSt w3.heap.size 41 11 (.int .i64 (kq : Int)) (.string (bs q.b)) (.string (bs q.a)) (.bool q.need)) a a' w_ w' := hr
              exact h.keep (other_slot (d := 11) (k := 21) (by kernel_rfl) hput (by decide)) hr'.size
            have hr' : Below w_.heap.size w_ w' := by simpa [e20, e21, e22, e23] using hr
            exact h.keep (other_slot (d := 11) (k := 21) (by kernel_rfl) hput e21) hr'.size) ?_
          refine prek_cons3 (fun i a a' w_ w' hne hwt hr h hput => by
            by_cases e20 : i = 20
            · subst e20
              have hr' : (RAl 10) a a' w_ w' := hr
              exact OldB.alloc hr'
            by_cases e21 : i = 21
            · exact absurd e21 hne
            by_cases e22 : i = 22
            · subst e22
              have hr' : (RSt w3.heap.size 41 10 (.int .i64 (kp : Int)) (.string (bs p.b)) (.string (bs p.a)) (.bool p.need)) a a' w_ w' := hr
              exact h.keep (other_slot (d := 10) (k := 20) (by kernel_rfl) hput (by decide)) hr'.size
            by_cases e23 : i = 23
            · subst e23
              exact absurd (hwt.symm.trans (show waitsT .any _ _ 23 21 = true by kernel_rfl)) (by decide)
            have hr' : Below w_.heap.size w_ w' := by simpa [e20, e21, e22, e23] using hr
            exact h.keep (other_slot (d := 10) (k := 20) (by kernel_rfl) hput e20) hr'.size) ?_
          exact prek_nil3
        case hop =>
          refine ⟨?_, ?_, ?_, ?_, ?_, ?_, ?_, ?_, ?_, ?_, ?_, ?_, ?_, ?_, ?_, ?_, ?_, ?_, ?_, ?_, ?_, ?_, ?_, ?_, trivial⟩
          · intro a w_ K hw hS hd hN hK
            have s4 := hS.at 4 (by kernel_rfl) rfl
            rw [if_pos (want_free rfl)]
            go_simp
            exact hK _ _ (Below.refl _ _) (vok rfl) (facts_cons (fun h => absurd h (by decide)) (facts_cons (fun h => absurd h (by decide)) (facts_cons (fun h => absurd h (by decide)) (facts_cons (fun h => absurd h (by decide)) facts_nil))))
          · intro a w_ K hw hS hd hN hK
            have s37 := (hd 0 (by kernel_rfl)).at (d := 37) rfl rfl rfl
            rw [if_pos (want_free rfl)]
            have x1 := ((HXs3.out.to hw).cell 1).trans (show _ = some (Value.slice (some ad) s.ps.length c) from rfl)
            go_simp
            exact hK _ _ (Below.refl _ _) (vok rfl) (facts_cons (fun h => absurd h (by decide)) (facts_cons (fun h => absurd h (by decide)) (facts_cons (fun h => absurd h (by decide)) (facts_cons (fun h => absurd h (by decide)) facts_nil))))
          · intro a w_ K hw hS hd hN hK
            have s2 := hS.at 2 (by kernel_rfl) rfl
            rw [if_pos (want_free rfl)]
            go_simp
            exact hK _ _ (Below.refl _ _) (vok rfl) (facts_cons (fun h => absurd h (by decide)) (facts_cons (fun h => absurd h (by decide)) (facts_cons (fun h => absurd h (by decide)) (facts_cons (fun h => absurd h (by decide)) facts_nil))))
          · intro a w_ K hw hS hd hN hK
            have s39 := (hd 2 (by kernel_rfl)).at (d := 39) rfl rfl rfl
            rw [if_pos (want_free rfl)]
            go_simp
            exact hK _ _ (Below.refl _ _) (vok rfl) (facts_cons (fun h => absurd h (by decide)) (facts_cons (fun h => absurd h (by decide)) (facts_cons (fun h => absurd h (by decide)) (facts_cons (fun h => absurd h (by decide)) facts_nil))))
          · intro a w_ K hw hS hd hN hK
            have s4 := hS.at 4 (by kernel_rfl) rfl
            rw [if_pos (want_free rfl)]
            go_simp
            exact hK _ _ (Below.refl _ _) (vok rfl) (facts_cons (fun h => absurd h (by decide)) (facts_cons (fun h => absurd h (by decide)) (facts_cons (fun h => absurd h (by decide)) (facts_cons (fun h => absurd h (by decide)) facts_nil))))
          · intro a w_ K hw hS hd hN hK
            have s41 := (hd 4 (by kernel_rfl)).at (d := 41) rfl rfl rfl
            rw [if_pos (want_free rfl)]
            have x1 := ((HXs3.out.to hw).cell 1).trans (show _ = some (Value.slice (some ad) s.ps.length c) from rfl)
            go_simp
            exact hK _ _ (Below.refl _ _) (vok rfl) (facts_cons (fun h => absurd h (by decide)) (facts_cons (fun h => absurd h (by decide)) (facts_cons (fun h => absurd h (by decide)) (facts_cons (fun h => absurd h (by decide)) facts_nil))))
          · intro a w_ K hw hS hd hN hK
            have s42 := (hd 5 (by kernel_rfl)).at (d := 42) rfl rfl rfl
            rw [if_pos (want_free rfl)]
            go_simp
            exact hK _ _ (Below.refl _ _) (vok rfl) (facts_cons (fun h => absurd h (by decide)) (facts_cons (fun h => absurd h (by decide)) (facts_cons (fun h => absurd h (by decide)) (facts_cons (fun h => absurd h (by decide)) facts_nil))))
          · intro a w_ K hw hS hd hN hK
            have s40 := (hd 3 (by kernel_rfl)).at (d := 40) rfl rfl rfl
            have s43 := (hd 6 (by kernel_rfl)).at (d := 43) rfl rfl rfl
            rw [if_pos (want_free rfl)]
            go_simp
            exact hK _ _ (Below.refl _ _) (vok rfl) (facts_cons (fun h => absurd h (by decide)) (facts_cons (fun h => absurd h (by decide)) (facts_cons (fun h => absurd h (by decide)) (facts_cons (fun h => absurd h (by decide)) facts_nil))))
          · intro a w_ K hw hS hd hN hK
            have s38 := (hd 1 (by kernel_rfl)).at (d := 38) rfl rfl rfl
            have s44 := (hd 7 (by kernel_rfl)).at (d := 44) rfl rfl rfl
            rw [if_pos (want_free rfl)]
            go_simp
            exact hK _ _ (Below.refl _ _) (vok rfl) (facts_cons (fun h => absurd h (by decide)) (facts_cons (fun h => absurd h (by decide)) (facts_cons (fun h => absurd h (by decide)) (facts_cons (fun h => absurd h (by decide)) facts_nil))))
          · intro a w_ K hw hS hd hN hK
            have s45 := (hd 8 (by kernel_rfl)).at (d := 45) rfl rfl rfl
            rw [if_pos (want_free rfl)]
            obtain ⟨a7, c7, e7, _, _, p0, p1, p2, p3⟩ := (HP3.out.to hw).at_ HPI.out
            have e9 := Option.some.inj (Value.slice.inj e7).1
            clear e7
            subst e9
            rw [HKP.out] at p0
            go_simp
            exact hK _ _ (Below.refl _ _) (vok rfl) (facts_cons (fun h => absurd h (by decide)) (facts_cons (fun h => absurd h (by decide)) (facts_cons (fun h => absurd h (by decide)) (facts_cons (fun h => absurd h (by decide)) facts_nil))))
          · intro a w_ K hw hS hd hN hK
            have s4 := hS.at 4 (by kernel_rfl) rfl
            rw [if_pos (want_free rfl)]
            go_simp
            exact hK _ _ (Below.refl _ _) (vok rfl) (facts_cons (fun h => absurd h (by decide)) (facts_cons (fun h => absurd h (by decide)) (facts_cons (fun h => absurd h (by decide)) (facts_cons (fun h => absurd h (by decide)) facts_nil))))
          · intro a w_ K hw hS hd hN hK
            have s47 := (hd 10 (by kernel_rfl)).at (d := 47) rfl rfl rfl
            rw [if_pos (want_free rfl)]
            have x1 := ((HXs3.out.to hw).cell 1).trans (show _ = some (Value.slice (some ad) s.ps.length c) from rfl)
            go_simp
            exact hK _ _ (Below.refl _ _) (vok rfl) (facts_cons (fun h => absurd h (by decide)) (facts_cons (fun h => absurd h (by decide)) (facts_cons (fun h => absurd h (by decide)) (facts_cons (fun h => absurd h (by decide)) facts_nil))))
          · intro a w_ K hw hS hd hN hK
            have s3 := hS.at 3 (by kernel_rfl) rfl
            rw [if_pos (want_free rfl)]
            go_simp
            exact hK _ _ (Below.refl _ _) (vok rfl) (facts_cons (fun h => absurd h (by decide)) (facts_cons (fun h => absurd h (by decide)) (facts_cons (fun h => absurd h (by decide)) (facts_cons (fun h => absurd h (by decide)) facts_nil))))
          · intro a w_ K hw hS hd hN hK
            have s49 := (hd 12 (by kernel_rfl)).at (d := 49) rfl rfl rfl
            rw [if_pos (want_free rfl)]
            go_simp
            exact hK _ _ (Below.refl _ _) (vok rfl) (facts_cons (fun h => absurd h (by decide)) (facts_cons (fun h => absurd h (by decide)) (facts_cons (fun h => absurd h (by decide)) (facts_cons (fun h => absurd h (by decide)) facts_nil))))
          · intro a w_ K hw hS hd hN hK
            have s4 := hS.at 4 (by kernel_rfl) rfl
            rw [if_pos (want_free rfl)]
            go_simp
            exact hK _ _ (Below.refl _ _) (vok rfl) (facts_cons (fun h => absurd h (by decide)) (facts_cons (fun h => absurd h (by decide)) (facts_cons (fun h => absurd h (by decide)) (facts_cons (fun h => absurd h (by decide)) facts_nil))))
          · intro a w_ K hw hS hd hN hK
            have s51 := (hd 14 (by kernel_rfl)).at (d := 51) rfl rfl rfl
            rw [if_pos (want_free rfl)]
            have x1 := ((HXs3.out.to hw).cell 1).trans (show _ = some (Value.slice (some ad) s.ps.length c) from rfl)
            go_simp
            exact hK _ _ (Below.refl _ _) (vok rfl) (facts_cons (fun h => absurd h (by decide)) (facts_cons (fun h => absurd h (by decide)) (facts_cons (fun h => absurd h (by decide)) (facts_cons (fun h => absurd h (by decide)) facts_nil))))
          · intro a w_ K hw hS hd hN hK
            have s52 := (hd 15 (by kernel_rfl)).at (d := 52) rfl rfl rfl
            rw [if_pos (want_free rfl)]
            go_simp
            exact hK _ _ (Below.refl _ _) (vok rfl) (facts_cons (fun h => absurd h (by decide)) (facts_cons (fun h => absurd h (by decide)) (facts_cons (fun h => absurd h (by decide)) (facts_cons (fun h => absurd h (by decide)) facts_nil))))
          · intro a w_ K hw hS hd hN hK
            have s50 := (hd 13 (by kernel_rfl)).at (d := 50) rfl rfl rfl
            have s53 := (hd 16 (by kernel_rfl)).at (d := 53) rfl rfl rfl
            rw [if_pos (want_free rfl)]
            go_simp
            exact hK _ _ (Below.refl _ _) (vok rfl) (facts_cons (fun h => absurd h (by decide)) (facts_cons (fun h => absurd h (by decide)) (facts_cons (fun h => absurd h (by decide)) (facts_cons (fun h => absurd h (by decide)) facts_nil))))
          · intro a w_ K hw hS hd hN hK
            have s48 := (hd 11 (by kernel_rfl)).at (d := 48) rfl rfl rfl
            have s54 := (hd 17 (by kernel_rfl)).at (d := 54) rfl rfl rfl
            rw [if_pos (want_free rfl)]
            go_simp
            exact hK _ _ (Below.refl _ _) (vok rfl) (facts_cons (fun h => absurd h (by decide)) (facts_cons (fun h => absurd h (by decide)) (facts_cons (fun h => absurd h (by decide)) (facts_cons (fun h => absurd h (by decide)) facts_nil))))
          · intro a w_ K hw hS hd hN hK
            have s55 := (hd 18 (by kernel_rfl)).at (d := 55) rfl rfl rfl
            rw [if_pos (want_free rfl)]
            obtain ⟨a7, c7, e7, _, _, p0, p1, p2, p3⟩ := (HP3.out.to hw).at_ HQJ.out
            have e9 := Option.some.inj (Value.slice.inj e7).1
            clear e7
            subst e9
            rw [HKQ.out] at p0
            go_simp
            exact hK _ _ (Below.refl _ _) (vok rfl) (facts_cons (fun h => absurd h (by decide)) (facts_cons (fun h => absurd h (by decide)) (facts_cons (fun h => absurd h (by decide)) (facts_cons (fun h => absurd h (by decide)) facts_nil))))
          · intro a w_ K hw hS hd hN hK
            have hold := hN _ (List.mem_cons_self ..) rfl
            rw [if_pos (want_free rfl)]
            go_simp
            exact hK _ _ ⟨below_one _ _, hS.put_at (by kernel_rfl) _, by simp⟩ (vfree rfl) (facts_cons (fun _ => ⟨_, _, _, _, _, hS.put_at (by kernel_rfl) _, hw.size, Blk.new _ _ _, fun b' hb => Nat.ne_of_lt (hold b' ((put_other (by decide) _).symm.trans hb))⟩) (facts_cons (fun h => absurd h (by decide)) (facts_cons (fun h => absurd h (by decide)) (facts_cons (fun h => absurd h (by decide)) facts_nil))))
          · intro a w_ K hw hS hd hN hK
            have hold := hN _ (List.mem_cons_of_mem _ (List.mem_cons_self ..)) rfl
            rw [if_pos (want_free rfl)]
            go_simp
            exact hK _ _ ⟨below_one _ _, hS.put_at (by kernel_rfl) _, by simp⟩ (vfree rfl) (facts_cons (fun h => absurd h (by decide)) (facts_cons (fun _ => ⟨_, _, _, _, _, hS.put_at (by kernel_rfl) _, hw.size, Blk.new _ _ _, fun b' hb => Nat.ne_of_lt (hold b' ((put_other (by decide) _).symm.trans hb))⟩) (facts_cons (fun h => absurd h (by decide)) (facts_cons (fun h => absurd h (by decide)) facts_nil))))
          · intro a w_ K hw hS hd hN hK
            obtain ⟨b10, x10_0, x10_1, x10_2, x10_3, s10, l10, r10, g10⟩ := (hd 20 (by kernel_rfl)).2 _ (List.mem_cons_self ..) rfl
            have s46 := (hd 9 (by kernel_rfl)).at (d := 46) rfl rfl rfl
            rw [if_pos (want_free rfl)]
            have c0 := r10.cell 0
            have f0 := r10.frozen 0
            have c1 := r10.cell 1
            have f1 := r10.frozen 1
            have c2 := r10.cell 2
            have f2 := r10.frozen 2
            have c3 := r10.cell 3
            have f3 := r10.frozen 3
            go_simp
            exact hK undef _ ⟨b10, s10, l10, (((((Only.refl _ _).set_ 0 _).set_ 1 _).set_ 2 _).set_ 3 _), ((((r10.set_ 0 (.int .i64 (kp : Int))).set_ 1 (.string (bs p.b))).set_ 2 (.string (bs p.a))).set_ 3 (.bool p.need))⟩ (vfree rfl) (facts_cons (fun h => absurd h (by decide)) (facts_cons (fun h => absurd h (by decide)) (facts_cons (fun _ => ⟨b10, s10, l10, ((((r10.set_ 0 (.int .i64 (kp : Int))).set_ 1 (.string (bs p.b))).set_ 2 (.string (bs p.a))).set_ 3 (.bool p.need)), g10⟩) (facts_cons (fun h => absurd h (by decide)) facts_nil))))
          · intro a w_ K hw hS hd hN hK
            obtain ⟨b11, x11_0, x11_1, x11_2, x11_3, s11, l11, r11, g11⟩ := (hd 21 (by kernel_rfl)).2 _ (List.mem_cons_of_mem _ (List.mem_cons_self ..)) rfl
            have s56 := (hd 19 (by kernel_rfl)).at (d := 56) rfl rfl rfl
            rw [if_pos (want_free rfl)]
            have c0 := r11.cell 0
            have f0 := r11.frozen 0
            have c1 := r11.cell 1
            have f1 := r11.frozen 1
            have c2 := r11.cell 2
            have f2 := r11.frozen 2
            have c3 := r11.cell 3
            have f3 := r11.frozen 3
            go_simp
            exact hK undef _ ⟨b11, s11, l11, (((((Only.refl _ _).set_ 0 _).set_ 1 _).set_ 2 _).set_ 3 _), ((((r11.set_ 0 (.int .i64 (kq : Int))).set_ 1 (.string (bs q.b))).set_ 2 (.string (bs q.a))).set_ 3 (.bool q.need))⟩ (vfree rfl) (facts_cons (fun h => absurd h (by decide)) (facts_cons (fun h => absurd h (by decide)) (facts_cons (fun h => absurd h (by decide)) (facts_cons (fun _ => ⟨b11, s11, l11, ((((r11.set_ 0 (.int .i64 (kq : Int))).set_ 1 (.string (bs q.b))).set_ 2 (.string (bs q.a))).set_ 3 (.bool q.need)), g11⟩) facts_nil))))
        case hfin =>
          intro a w4 hw hS hk
          have s37 := (hk 0 (by decide)).at (d := 37) rfl rfl rfl
          have s38 := (hk 1 (by decide)).at (d := 38) rfl rfl rfl
          have s39 := (hk 2 (by decide)).at (d := 39) rfl rfl rfl
          have s40 := (hk 3 (by decide)).at (d := 40) rfl rfl rfl
          have s41 := (hk 4 (by decide)).at (d := 41) rfl rfl rfl
          have s42 := (hk 5 (by decide)).at (d := 42) rfl rfl rfl
          have s43 := (hk 6 (by decide)).at (d := 43) rfl rfl rfl
          have s44 := (hk 7 (by decide)).at (d := 44) rfl rfl rfl
          have s45 := (hk 8 (by decide)).at (d := 45) rfl rfl rfl
          have s46 := (hk 9 (by decide)).at (d := 46) rfl rfl rfl
          have s47 := (hk 10 (by decide)).at (d := 47) rfl rfl rfl
          have s48 := (hk 11 (by decide)).at (d := 48) rfl rfl rfl
          have s49 := (hk 12 (by decide)).at (d := 49) rfl rfl rfl
          have s50 := (hk 13 (by decide)).at (d := 50) rfl rfl rfl
          have s51 := (hk 14 (by decide)).at (d := 51) rfl rfl rfl
          have s52 := (hk 15 (by decide)).at (d := 52) rfl rfl rfl
          have s53 := (hk 16 (by decide)).at (d := 53) rfl rfl rfl
          have s54 := (hk 17 (by decide)).at (d := 54) rfl rfl rfl
          have s55 := (hk 18 (by decide)).at (d := 55) rfl rfl rfl
          have s56 := (hk 19 (by decide)).at (d := 56) rfl rfl rfl
          obtain ⟨b10, x10_0, x10_1, x10_2, x10_3, s10, l10, r10, g10⟩ := (hk 20 (by decide)).2 _ (List.mem_cons_self ..) rfl
          obtain ⟨b11, x11_0, x11_1, x11_2, x11_3, s11, l11, r11, g11⟩ := (hk 21 (by decide)).2 _ (List.mem_cons_of_mem _ (List.mem_cons_self ..)) rfl
          obtain ⟨z10, zs10, zl10, zr10, -⟩ := (hk 22 (by decide)).2 _ (List.mem_cons_of_mem _ (List.mem_cons_of_mem _ (List.mem_cons_self ..))) rfl
          obtain ⟨z11, zs11, zl11, zr11, -⟩ := (hk 23 (by decide)).2 _ (List.mem_cons_of_mem _ (List.mem_cons_of_mem _ (List.mem_cons_of_mem _ (List.mem_cons_self ..)))) rfl
          have hlit := hS.lit _ (by kernel_rfl) (lits_cons s37 (lits_cons s38 (lits_cons s39 (lits_cons s40 (lits_cons s41 (lits_cons s42 (lits_cons s43 (lits_cons s44 (lits_cons s45 (lits_cons s46 (lits_cons s47 (lits_cons s48 (lits_cons s49 (lits_cons s50 (lits_cons s51 (lits_cons s52 (lits_cons s53 (lits_cons s54 (lits_cons s55 (lits_cons s56 (lits_cons s10 (lits_cons s11 lits_nil))))))))))))))))))))))
          rw [hlit]
          obtain rfl := ptr_eq (s10.symm.trans zs10)
          obtain rfl := ptr_eq (s11.symm.trans zs11)
          have Kp := hide zr10
          have Kq := hide zr11
          have HP4 := hide (HP3.out.to hw)
          have HXs4 := hide (HXs3.out.to hw)
          have HXf4 := hide (HXf3.out.to hw)
          have HB4 := hide (below_to HB3.out (Nat.le_refl _) hw)
          clear zr10 zr11 r10 r11 g10 g11 l10 l11 zl10 zl11 zs10 zs11 HP3 HXs3 HXf3 HB3 hw
          simp only [litT, List.setIfInBounds_toArray, List.set_cons_succ, List.set_cons_zero, ptrV]
          clear hlit hk hS s37 s38 s39 s40 s41 s42 s43 s44 s45 s46 s47 s48 s49 s50 s51 s52 s53 s54 s55 s56 s10 s11
          have HP3 := HP4
          have HXs3 := HXs4
          have HXf3 := HXf4
          have HB3 := HB4
          clear HP4 HXs4 HXf4 HB4
          have xq1 : decide ((kp : Int) < 1) = false := decide_eq_false (by omega)
          have xq2 : decide ((9 : Int) ≤ (kp : Int)) = false := decide_eq_false (by omega)
          have xq3 : decide ((kq : Int) < 1) = false := decide_eq_false (by omega)
          have xq4 : decide ((9 : Int) ≤ (kq : Int)) = false := decide_eq_false (by omega)
          have hp0 : (kp : Int) < 9 := by omega
          have hq0 : (kq : Int) < 9 := by omega
          obtain ⟨U3, hU3, h, u3, rfl, hhu, hhi⟩ := cls w4
          have xs_0 := fun u => (((HXs3.out.to (hhu u)).cell 0).trans (show _ = some (Value.string (bs s.c)) from rfl))
          have xs_1 := fun u => (((HXs3.out.to (hhu u)).cell 1).trans (show _ = some (Value.slice (some ad) s.ps.length c) from rfl))
          have xp_0 := fun u => (((Kp.out.to (hhu u)).cell 0).trans (show _ = some (Value.int IntKind.i64 (kp : Int)) from rfl))
          have xq_0 := fun u => (((Kq.out.to (hhu u)).cell 0).trans (show _ = some (Value.int IntKind.i64 (kq : Int)) from rfl))
          have xf_0 := fun u => (((HXf3.out.to (hhu u)).cell 0).trans (show _ = some (Value.string (bs f0)) from rfl))
          have xf_1 := fun u => (((HXf3.out.to (hhu u)).cell 1).trans (show _ = some (Value.string (bs f1)) from rfl))
          have xf_2 := fun u => (((HXf3.out.to (hhu u)).cell 2).trans (show _ = some (Value.string (bs f2)) from rfl))
          have xf_3 := fun u => (((HXf3.out.to (hhu u)).cell 3).trans (show _ = some (Value.string (bs f3)) from rfl))
          have xf_4 := fun u => (((HXf3.out.to (hhu u)).cell 4).trans (show _ = some (Value.string (bs f4)) from rfl))
          have xf_5 := fun u => (((HXf3.out.to (hhu u)).cell 5).trans (show _ = some (Value.string (bs f5)) from rfl))
          have xf_6 := fun u => (((HXf3.out.to (hhu u)).cell 6).trans (show _ = some (Value.string (bs f6)) from rfl))
          have xf_7 := fun u => (((HXf3.out.to (hhu u)).cell 7).trans (show _ = some (Value.string (bs f7)) from rfl))
          have xf_8 := fun u => (((HXf3.out.to (hhu u)).cell 8).trans (show _ = some (Value.string (bs f8)) from rfl))
          go_wp2_with fail
          go_loopw [12] (fun i wr => ∃ k : Nat, k ≤ 9 ∧ i = .int .i64 (k : Int) ∧ ∃ u, wr = h u) (fun i _ => 9 - (intOf i).toNat)
          case atStart => exact ⟨0, by omega, rfl, u3, rfl⟩
          case round =>
            obtain ⟨k, hk, rfl, u, rfl⟩ := hrel
            by_cases hlt : k < 9
            · have e2 : decide ((k : Int) < 9) = true := decide_eq_true (by omega)
              have hk9 : (k : Int) < 9 := by omega
              have ck := fun u => (((HXf3.out.to (hhu u)).cell k).trans (fields_at f0 f1 f2 f3 f4 f5 f6 f7 f8 k hlt))
              have HN : Hid (((([f0, f1, f2, f3, f4, f5, f6, f7, f8]).getD k []).any (mrk s.ps)) = false) := by
                show _ = _
                have := fits_nomark HFF.out k hlt
                rw [val_nat] at this
                rw [List.any_eq_false]
                intro c hc; rw [this c hc]; decide
              have hxl : (([f0, f1, f2, f3, f4, f5, f6, f7, f8]).getD k []).length ≤ 100 := short_facts rfl kCS.out k
              have CM : ∀ u, Calls Tryz.prog 28 #[.agg #[.string (bs s.c), .slice (some ad) s.ps.length c], .string (bs (([f0, f1, f2, f3, f4, f5, f6, f7, f8]).getD k []))] (h u) fun e w' => e = .returned (.bool false) ∧ ∃ u', w' = h u' := fun u => by
                have := cls_call hhu hhi (fun W hb => marked_any s.c s.ps (by omega) (.slice (some ad) s.ps.length c) (([f0, f1, f2, f3, f4, f5, f6, f7, f8]).getD k []) (by omega) W (HP3.out.to hb)) u
                rw [HN.out] at this
                exact this
              generalize ([f0, f1, f2, f3, f4, f5, f6, f7, f8]).getD k [] = x at *
              clear HN hxl
              go_wp2_with fail
              refine wp_region_class h (by kernel_rfl) (by kernel_rfl) (hhi _ (hhu _).drew) ?_
              repeat (go_big_quiet_step (first | with_reducible exact CM _))
              refine wpQuiet_nil ?_
              intro w8 hw8
              obtain ⟨u8, rfl⟩ := hw8
              go_wp2_with fail
              go_roundw
              case rel => exact ⟨k + 1, by omega, by go_num, u8, rfl⟩
              case measure => simp [intOf]; omega
            · obtain rfl : k = 9 := by omega
              have e2 : decide (((9 : Nat) : Int) < 9) = false := by decide
              go_upto_region 13 with fail
              have HL5 := hide (Blk.new (h u) 26 #[.string (bs f0), .string (bs f1), .string (bs f2), .string (bs f3), .string (bs f4), .string (bs f5), .string (bs f6), .string (bs f7), .string (bs f8)])
              have lb := (HXs3.out.to (hhu u)).lt
              have lf := (HXf3.out.to (hhu u)).lt
              have lp := (Kp.out.to (hhu u)).lt
              have lq := (Kq.out.to (hhu u)).lt
              obtain ⟨a7, c7, e7, _, la, _⟩ := (HP3.out.to (hhu u)).at_ HPI.out
              have e9 := Option.some.inj (Value.slice.inj e7).1
              clear e7
              subst e9
              have hb5 := (hhu u).trans ((below_one (h u) (.cells #[.string (bs f0), .string (bs f1), .string (bs f2), .string (bs f3), .string (bs f4), .string (bs f5), .string (bs f6), .string (bs f7), .string (bs f8)] 26)).mono (hhu u).size)
              have HP5 := hide (HP3.out.to hb5)
              have HXs5 := hide (HXs3.out.to hb5)
              have HXf5 := hide (HXf3.out.to hb5)
              have Kp5 := hide (Kp.out.to hb5)
              have Kq5 := hide (Kq.out.to hb5)
              have HB5 := hide (below_to HB3.out (Nat.le_refl _) hb5)
              clear xs_0 xs_1 xp_0 xq_0 xf_0 xf_1 xf_2 xf_3 xf_4 xf_5 xf_6 xf_7 xf_8 hb5 HP3 HXs3 HXf3 Kp Kq HB3 e2 hlt hk
              generalize (h u).alloc (.cells #[.string (bs f0), .string (bs f1), .string (bs f2), .string (bs f3), .string (bs f4), .string (bs f5), .string (bs f6), .string (bs f7), .string (bs f8)] 26) = w5 at *
              generalize (h u).heap.size = bl at *
              have z0 : w5.cell? ⟨b10, 0, none⟩ = some (.int .i64 (kp : Int)) := Kp5.out.cell 0
              have z1 := (HL5.out.cell kp).trans (fields_at f0 f1 f2 f3 f4 f5 f6 f7 f8 kp hkp9)
              have z2 := HL5.out.frozen kp
              obtain ⟨g0, g1, g2, g3, g4, g5, g6, g7, g8, hset, harr⟩ := fields_put f0 f1 f2 f3 f4 f5 f6 f7 f8 [] kp hkp9
              have HL6 : Hid (Blk (w5.setCell ⟨bl, kp, none⟩ (.string ⟨#[]⟩)) bl 26 #[.string (bs g0), .string (bs g1), .string (bs g2), .string (bs g3), .string (bs g4), .string (bs g5), .string (bs g6), .string (bs g7), .string (bs g8)]) := by
                have this : Blk (w5.setCell ⟨bl, kp, none⟩ (.string ⟨#[]⟩)) bl 26 ((#[Value.string (bs f0), Value.string (bs f1), Value.string (bs f2), Value.string (bs f3), Value.string (bs f4), Value.string (bs f5), Value.string (bs f6), Value.string (bs f7), Value.string (bs f8)] : Array Value).setIfInBounds kp (.string (bs []))) := HL5.out.set_ kp (.string ⟨#[]⟩)
                rw [harr] at this
                exact this
              have HP6 : Hid (PartsAt (w5.setCell ⟨bl, kp, none⟩ (.string ⟨#[]⟩)) (.slice (some ad) s.ps.length c) s.ps) := RowsAt.store HP5.out (fun a ha => by cases ha; show ad.block ≠ bl; omega) _
              have HXs6 := hide (HXs5.out.far (p := ⟨bl, kp, none⟩) (by show w.heap.size ≠ bl; omega) (.string ⟨#[]⟩))
              have HXf6 := hide (HXf5.out.far (p := ⟨bl, kp, none⟩) (by show w.heap.size + 1 ≠ bl; omega) (.string ⟨#[]⟩))
              have Kp6 := hide (Kp5.out.far (p := ⟨bl, kp, none⟩) (by show b10 ≠ bl; omega) (.string ⟨#[]⟩))
              have Kq6 := hide (Kq5.out.far (p := ⟨bl, kp, none⟩) (by show b11 ≠ bl; omega) (.string ⟨#[]⟩))
              have HB6 := hide (HB5.out.setCell (p := ⟨bl, kp, none⟩) (by show w.heap.size ≤ bl; omega) (.string ⟨#[]⟩))
              have HLE : Hid (fitsB isNm numB s [g0, g1, g2, g3, g4, g5, g6, g7, g8] = !p.need) := by
                show _ = _
                have h1 := fits_less HFF.out (List.mem_of_getElem? HPI.out)
                rw [show p.k.toNat = kp by have := HKP.out; omega, hset] at h1
                rw [Bool.eq_iff_iff, fitsB_iff _ _ _ _ rfl, h1]; simp
              clear harr hset HL5 HP5 HXs5 HXf5 Kp5 Kq5 HB5
              go_upto_region 14 with fail
              clear z0 z1 z2
              generalize w5.setCell ⟨bl, kp, none⟩ (.string ⟨#[]⟩) = w6 at *
              obtain ⟨U6, hU6, k6, u6, rfl, hku, hki⟩ := cls w6
              have xs_0 := fun u => (((HXs6.out.to (hku u)).cell 0).trans (show _ = some (Value.string (bs s.c)) from rfl))
              have xs_1 := fun u => (((HXs6.out.to (hku u)).cell 1).trans (show _ = some (Value.slice (some ad) s.ps.length c) from rfl))
              have xp_0 := fun u => (((Kp6.out.to (hku u)).cell 0).trans (show _ = some (Value.int IntKind.i64 (kp : Int)) from rfl))
              have xp_3 := fun u => (((Kp6.out.to (hku u)).cell 3).trans (show _ = some (Value.bool p.need) from rfl))
              have xq_0 := fun u => (((Kq6.out.to (hku u)).cell 0).trans (show _ = some (Value.int IntKind.i64 (kq : Int)) from rfl))
              have xf_0 := fun u => (((HXf6.out.to (hku u)).cell 0).trans (show _ = some (Value.string (bs f0)) from rfl))
              have xf_1 := fun u => (((HXf6.out.to (hku u)).cell 1).trans (show _ = some (Value.string (bs f1)) from rfl))
              have xf_2 := fun u => (((HXf6.out.to (hku u)).cell 2).trans (show _ = some (Value.string (bs f2)) from rfl))
              have xf_3 := fun u => (((HXf6.out.to (hku u)).cell 3).trans (show _ = some (Value.string (bs f3)) from rfl))
              have xf_4 := fun u => (((HXf6.out.to (hku u)).cell 4).trans (show _ = some (Value.string (bs f4)) from rfl))
              have xf_5 := fun u => (((HXf6.out.to (hku u)).cell 5).trans (show _ = some (Value.string (bs f5)) from rfl))
              have xf_6 := fun u => (((HXf6.out.to (hku u)).cell 6).trans (show _ = some (Value.string (bs f6)) from rfl))
              have xf_7 := fun u => (((HXf6.out.to (hku u)).cell 7).trans (show _ = some (Value.string (bs f7)) from rfl))
              have xf_8 := fun u => (((HXf6.out.to (hku u)).cell 8).trans (show _ = some (Value.string (bs f8)) from rfl))
              have xl_0 := fun u => (((HL6.out.to (hku u)).cell 0).trans (show _ = some (Value.string (bs g0)) from rfl))
              have xl_1 := fun u => (((HL6.out.to (hku u)).cell 1).trans (show _ = some (Value.string (bs g1)) from rfl))
              have xl_2 := fun u => (((HL6.out.to (hku u)).cell 2).trans (show _ = some (Value.string (bs g2)) from rfl))
              have xl_3 := fun u => (((HL6.out.to (hku u)).cell 3).trans (show _ = some (Value.string (bs g3)) from rfl))
              have xl_4 := fun u => (((HL6.out.to (hku u)).cell 4).trans (show _ = some (Value.string (bs g4)) from rfl))
              have xl_5 := fun u => (((HL6.out.to (hku u)).cell 5).trans (show _ = some (Value.string (bs g5)) from rfl))
              have xl_6 := fun u => (((HL6.out.to (hku u)).cell 6).trans (show _ = some (Value.string (bs g6)) from rfl))
              have xl_7 := fun u => (((HL6.out.to (hku u)).cell 7).trans (show _ = some (Value.string (bs g7)) from rfl))
              have xl_8 := fun u => (((HL6.out.to (hku u)).cell 8).trans (show _ = some (Value.string (bs g8)) from rfl))
              have CL : ∀ u, Calls Tryz.prog 24 #[.agg #[.string (bs s.c), .slice (some ad) s.ps.length c], .agg #[.string (bs g0), .string (bs g1), .string (bs g2), .string (bs g3), .string (bs g4), .string (bs g5), .string (bs g6), .string (bs g7), .string (bs g8)]] (k6 u) fun e w' => e = .returned (.bool (!p.need)) ∧ ∃ u', w' = k6 u' := fun u => by
                have := cls_call hku hki (fun W hb => Fits_any s (by omega) hc0 (.slice (some ad) s.ps.length c) g0 g1 g2 g3 g4 g5 g6 g7 g8 W (HP6.out.to hb) (HGo.out.to (below_to HB6.out (Nat.le_refl _) hb))) u
                rw [HLE.out] at this
                exact this
              have HTU : Hid (kp ≠ 3 → kq ≠ 3 → ([f0, f1, f2, f3, f4, f5, f6, f7, f8]).getD kp [] ≠ [] → ([f0, f1, f2, f3, f4, f5, f6, f7, f8]).getD kq [] ≠ [] → Fits isNm numB s ((([f0, f1, f2, f3, f4, f5, f6, f7, f8]).set kp (([f0, f1, f2, f3, f4, f5, f6, f7, f8]).getD kq [])).set kq (([f0, f1, f2, f3, f4, f5, f6, f7, f8]).getD kp []))) := fun h1 h2 h3 h4 => by
                have := fits_turned HFF.out (List.mem_of_getElem? HPI.out) (List.mem_of_getElem? HQJ.out) (by rw [HKP.out]; omega) (by rw [HKQ.out]; omega) (by rw [HKP.out, val_nat]; exact h3) (by rw [HKQ.out, val_nat]; exact h4)
                rw [HKP.out, HKQ.out, val_nat, val_nat, show ((kp : Nat) : Int).toNat = kp by omega, show ((kq : Nat) : Int).toNat = kq by omega] at this
                exact this
              have cp := fun u => (((HXf6.out.to (hku u)).cell kp).trans (fields_at f0 f1 f2 f3 f4 f5 f6 f7 f8 kp hkp9))
              have cq := fun u => (((HXf6.out.to (hku u)).cell kq).trans (fields_at f0 f1 f2 f3 f4 f5 f6 f7 f8 kq hkq9))
              obtain ⟨vp, hvp⟩ : ∃ x, ([f0, f1, f2, f3, f4, f5, f6, f7, f8]).getD kp [] = x := ⟨_, rfl⟩
              obtain ⟨vq, hvq⟩ : ∃ x, ([f0, f1, f2, f3, f4, f5, f6, f7, f8]).getD kq [] = x := ⟨_, rfl⟩
              have HVP := hide hvp
              have HVQ := hide hvq
              simp only [hvp] at cp
              simp only [hvq] at cq
              rw [hvp, hvq] at HTU
              clear hvp hvq HLE HFF HKP HKQ
              generalize p.need = pn at *
              have hpn : ((!pn) == (!pn)) = true := by simp
              refine wp_region_class k6 (by kernel_rfl) (by kernel_rfl) (hki _ (hku _).drew) ?_
              repeat (go_big_quiet_step (first | with_reducible exact CL _))
              refine wpQuiet_nil ?_
              intro w8 hw8
              obtain ⟨u, rfl⟩ := hw8
              clear CL
              by_cases t3 : kp = 3
              · have e3 : ((kp : Int) == 3) = true := by rw [t3]; rfl
                clear t3
                go_wp2_with fail
                go_ret
                exact ⟨rfl, below_to HB6.out (Nat.le_refl _) (hku _)⟩
              have e3 : ((kp : Int) == 3) = false := by rw [beq_eq_false_iff_ne]; omega
              by_cases t4 : kq = 3
              · have e4 : ((kq : Int) == 3) = true := by rw [t4]; rfl
                clear t4 t3
                go_wp2_with fail
                go_ret
                exact ⟨rfl, below_to HB6.out (Nat.le_refl _) (hku _)⟩
              have e4 : ((kq : Int) == 3) = false := by rw [beq_eq_false_iff_ne]; omega
              by_cases t5 : vp = []
              · have e5 : (bs vp).toList.isEmpty = true := by rw [bs_toList, t5]; rfl
                clear t5 t4 t3
                go_wp2_with fail
                go_ret
                exact ⟨rfl, below_to HB6.out (Nat.le_refl _) (hku _)⟩
              have e5 : (bs vp).toList.isEmpty = false := by rw [bs_toList]; cases vp with | nil => exact absurd rfl t5 | cons a l => rfl
              by_cases t6 : vq = []
              · have e6 : (bs vq).toList.isEmpty = true := by rw [bs_toList, t6]; rfl
                clear t6 t5 t4 t3
                go_wp2_with fail
                go_ret
                exact ⟨rfl, below_to HB6.out (Nat.le_refl _) (hku _)⟩
              have e6 : (bs vq).toList.isEmpty = false := by rw [bs_toList]; cases vq with | nil => exact absurd rfl t6 | cons a l => rfl
              have HFT := hide (HTU.out t3 t4 t5 t6)
              clear t3 t4 t5 t6 HTU
              go_upto_region 19 with fail
              have HT7 := hide (Blk.new (k6 u) 26 #[.string (bs f0), .string (bs f1), .string (bs f2), .string (bs f3), .string (bs f4), .string (bs f5), .string (bs f6), .string (bs f7), .string (bs f8)])
              have l10 := (Kp6.out.to (hku u)).lt
              have l11 := (Kq6.out.to (hku u)).lt
              have lf := (HXf6.out.to (hku u)).lt
              obtain ⟨a7, c7, e7, _, la, _⟩ := (HP6.out.to (hku u)).at_ HPI.out
              have e9 := Option.some.inj (Value.slice.inj e7).1
              clear e7
              subst e9
              have hb7 := (hku u).trans ((below_one (k6 u) (.cells #[.string (bs f0), .string (bs f1), .string (bs f2), .string (bs f3), .string (bs f4), .string (bs f5), .string (bs f6), .string (bs f7), .string (bs f8)] 26)).mono (hku u).size)
              have HP7 := hide (HP6.out.to hb7)
              have HXs7 := hide (HXs6.out.to hb7)
              have HXf7 := hide (HXf6.out.to hb7)
              have Kp7 := hide (Kp6.out.to hb7)
              have Kq7 := hide (Kq6.out.to hb7)
              have HB7 := hide (below_to HB6.out (Nat.le_refl _) hb7)
              clear xs_0 xs_1 xp_0 xp_3 xq_0 xf_0 xf_1 xf_2 xf_3 xf_4 xf_5 xf_6 xf_7 xf_8 xl_0 xl_1 xl_2 xl_3 xl_4 xl_5 xl_6 xl_7 xl_8 hb7 HP6 HXs6 HXf6 Kp6 Kq6 HB6 HL6 cp cq
              generalize (k6 u).alloc (.cells #[.string (bs f0), .string (bs f1), .string (bs f2), .string (bs f3), .string (bs f4), .string (bs f5), .string (bs f6), .string (bs f7), .string (bs f8)] 26) = w7 at *
              generalize (k6 u).heap.size = bt at *
              have y0 : w7.cell? ⟨b10, 0, none⟩ = some (.int .i64 (kp : Int)) := Kp7.out.cell 0
              have y1 : w7.cell? ⟨b11, 0, none⟩ = some (.int .i64 (kq : Int)) := Kq7.out.cell 0
              have cp : w7.cell? ⟨w.heap.size + 1, kp, none⟩ = some (.string (bs vp)) := ((HXf7.out.cell kp).trans (fields_at f0 f1 f2 f3 f4 f5 f6 f7 f8 kp hkp9)).trans (by rw [HVP.out])
              have cq : w7.cell? ⟨w.heap.size + 1, kq, none⟩ = some (.string (bs vq)) := ((HXf7.out.cell kq).trans (fields_at f0 f1 f2 f3 f4 f5 f6 f7 f8 kq hkq9)).trans (by rw [HVQ.out])
              have dp : w7.cell? ⟨bt, kp, none⟩ = some (.string (bs vp)) := ((HT7.out.cell kp).trans (fields_at f0 f1 f2 f3 f4 f5 f6 f7 f8 kp hkp9)).trans (by rw [HVP.out])
              have dq : w7.cell? ⟨bt, kq, none⟩ = some (.string (bs vq)) := ((HT7.out.cell kq).trans (fields_at f0 f1 f2 f3 f4 f5 f6 f7 f8 kq hkq9)).trans (by rw [HVQ.out])
              have zp := HT7.out.frozen kp
              have zq := HT7.out.frozen kq
              have n1 : b10 ≠ bt := by omega
              have n2 : b11 ≠ bt := by omega
              have n3 : w.heap.size + 1 ≠ bt := by omega
              have n0 : w.heap.size ≠ bt := by omega
              have na : ad.block ≠ bt := by omega
              have nw : w.heap.size ≤ bt := by omega
              have HN := hide (And.intro nw (And.intro n3 (And.intro n0 na)))
              have HKK := hide (And.intro hkp9 (And.intro hkq9 (And.intro hl0 (And.intro hc0 h8))))
              obtain ⟨FV, hFV⟩ : ∃ x, Value.agg #[.string (bs f0), .string (bs f1), .string (bs f2), .string (bs f3), .string (bs f4), .string (bs f5), .string (bs f6), .string (bs f7), .string (bs f8)] = x := ⟨_, rfl⟩
              obtain ⟨SV, hSV⟩ : ∃ x, Value.agg #[.string (bs s.c), .slice (some ad) s.ps.length c] = x := ⟨_, rfl⟩
              rw [hFV, hSV]
              have HFV := hide hFV
              have HSV := hide hSV
              clear hFV hSV hpk hqk la lf l10 l11 hkp9 hkq9 hl0 hc0 h8 hone htwo hc e3 e4 e5 e6
              by_cases hpq : kp = kq
              · subst hpq
                go_region
                have evv := HVP.out.symm.trans HVQ.out
                subst evv
                obtain ⟨hkp9, hkq9, hl0, hc0, h8⟩ := HKK.out
                obtain ⟨nw, n3', n0', na'⟩ := HN.out
                obtain ⟨g0, g1, g2, g3, g4, g5, g6, g7, g8, hs1, ha1⟩ := fields_put f0 f1 f2 f3 f4 f5 f6 f7 f8 vp kp hkp9
                obtain ⟨t0, t1, t2, t3, t4, t5, t6, t7, t8, hs2, ha2⟩ := fields_put g0 g1 g2 g3 g4 g5 g6 g7 g8 vp kp hkp9
                have HT8 : Hid (Blk ((w7.setCell ⟨bt, kp, none⟩ (.string (bs vp))).setCell ⟨bt, kp, none⟩ (.string (bs vp))) bt 26 #[.string (bs t0), .string (bs t1), .string (bs t2), .string (bs t3), .string (bs t4), .string (bs t5), .string (bs t6), .string (bs t7), .string (bs t8)]) := by
                  have := (HT7.out.set_ kp (.string (bs vp))).set_ kp (.string (bs vp))
                  rw [ha1, ha2] at this
                  exact this
                have HP8 : Hid (PartsAt ((w7.setCell ⟨bt, kp, none⟩ (.string (bs vp))).setCell ⟨bt, kp, none⟩ (.string (bs vp))) (.slice (some ad) s.ps.length c) s.ps) := RowsAt.store (RowsAt.store HP7.out (fun a ha => by cases ha; exact na') _) (fun a ha => by cases ha; exact na') _
                have HXs8 : Hid (Blk ((w7.setCell ⟨bt, kp, none⟩ (.string (bs vp))).setCell ⟨bt, kp, none⟩ (.string (bs vp))) w.heap.size 24 #[.string (bs s.c), .slice (some ad) s.ps.length c]) := (HXs7.out.far (p := ⟨bt, kp, none⟩) n0' _).far (p := ⟨bt, kp, none⟩) n0' _
                have HB8 : Hid (Below w.heap.size w ((w7.setCell ⟨bt, kp, none⟩ (.string (bs vp))).setCell ⟨bt, kp, none⟩ (.string (bs vp)))) := (HB7.out.setCell (p := ⟨bt, kp, none⟩) nw _).setCell (p := ⟨bt, kp, none⟩) nw _
                have HF8 := hide ((fitsB_iff isNm numB s [t0, t1, t2, t3, t4, t5, t6, t7, t8] rfl).2 (by rw [← hs2, ← hs1]; exact HFT.out))
                have eFV := HFV.out
                have eSV := HSV.out
                subst eFV eSV
                clear hs1 hs2 ha1 ha2 y0 y1 cp cq dp dq zp zq HT7 HP7 HXs7 HB7 HXf7 Kp7 Kq7 n1 n2 n3 n0 na n3' n0' na' HN
                have hdr : Below ((w7.setCell ⟨bt, kp, none⟩ (.string (bs vp))).setCell ⟨bt, kp, none⟩ (.string (bs vp))).heap.size ((w7.setCell ⟨bt, kp, none⟩ (.string (bs vp))).setCell ⟨bt, kp, none⟩ (.string (bs vp))) ((w7.setCell ⟨bt, kp, none⟩ (.string (bs vp))).setCell ⟨bt, kp, none⟩ (.string (bs vp))).drew := (Below.refl _ _).drew
                have zHT8 := hide (HT8.out.to hdr)
                have zHP8 := hide (HP8.out.to hdr)
                have zHXs8 := hide (HXs8.out.to hdr)
                have zHB8 := hide (HB8.out.drew)
                clear HT8 HP8 HXs8 HB8 hdr
                have HT8 := zHT8
                have HP8 := zHP8
                have HXs8 := zHXs8
                have HB8 := zHB8
                clear zHT8 zHP8 zHXs8 zHB8
                generalize ((w7.setCell ⟨bt, kp, none⟩ (.string (bs vp))).setCell ⟨bt, kp, none⟩ (.string (bs vp))).drew = w8 at *
                obtain ⟨U8, hU8, k8, u8, rfl, hru, hri⟩ := cls w8
                have xs_0 := fun u => (((HXs8.out.to (hru u)).cell 0).trans (show _ = some (Value.string (bs s.c)) from rfl))
                have xs_1 := fun u => (((HXs8.out.to (hru u)).cell 1).trans (show _ = some (Value.slice (some ad) s.ps.length c) from rfl))
                have xt_0 := fun u => (((HT8.out.to (hru u)).cell 0).trans (show _ = some (Value.string (bs t0)) from rfl))
                have xt_1 := fun u => (((HT8.out.to (hru u)).cell 1).trans (show _ = some (Value.string (bs t1)) from rfl))
                have xt_2 := fun u => (((HT8.out.to (hru u)).cell 2).trans (show _ = some (Value.string (bs t2)) from rfl))
                have xt_3 := fun u => (((HT8.out.to (hru u)).cell 3).trans (show _ = some (Value.string (bs t3)) from rfl))
                have xt_4 := fun u => (((HT8.out.to (hru u)).cell 4).trans (show _ = some (Value.string (bs t4)) from rfl))
                have xt_5 := fun u => (((HT8.out.to (hru u)).cell 5).trans (show _ = some (Value.string (bs t5)) from rfl))
                have xt_6 := fun u => (((HT8.out.to (hru u)).cell 6).trans (show _ = some (Value.string (bs t6)) from rfl))
                have xt_7 := fun u => (((HT8.out.to (hru u)).cell 7).trans (show _ = some (Value.string (bs t7)) from rfl))
                have xt_8 := fun u => (((HT8.out.to (hru u)).cell 8).trans (show _ = some (Value.string (bs t8)) from rfl))
                have CE : ∀ u, Calls Tryz.prog 24 #[.agg #[.string (bs s.c), .slice (some ad) s.ps.length c], .agg #[.string (bs t0), .string (bs t1), .string (bs t2), .string (bs t3), .string (bs t4), .string (bs t5), .string (bs t6), .string (bs t7), .string (bs t8)]] (k8 u) fun e w' => e = .returned (.bool true) ∧ ∃ u', w' = k8 u' := fun u => by
                  have := cls_call hru hri (fun W hb => Fits_any s hl0 hc0 (.slice (some ad) s.ps.length c) t0 t1 t2 t3 t4 t5 t6 t7 t8 W (HP8.out.to hb) (HGo.out.to (below_to HB8.out (Nat.le_refl _) hb))) u
                  rw [HF8.out] at this
                  exact this
                go_wp2_with (((with_reducible refine (CE _).mono ?_); rintro e w' ⟨rfl, u, rfl⟩))
                all_goals go_ret
                all_goals exact ⟨rfl, below_to HB8.out (Nat.le_refl _) (hru _)⟩
              · have hqp : kq ≠ kp := fun h => hpq h.symm
                go_region
                obtain ⟨hkp9, hkq9, hl0, hc0, h8⟩ := HKK.out
                obtain ⟨nw, n3', n0', na'⟩ := HN.out
                obtain ⟨g0, g1, g2, g3, g4, g5, g6, g7, g8, hs1, ha1⟩ := fields_put f0 f1 f2 f3 f4 f5 f6 f7 f8 vq kp hkp9
                obtain ⟨t0, t1, t2, t3, t4, t5, t6, t7, t8, hs2, ha2⟩ := fields_put g0 g1 g2 g3 g4 g5 g6 g7 g8 vp kq hkq9
                have HT8 : Hid (Blk ((w7.setCell ⟨bt, kp, none⟩ (.string (bs vq))).setCell ⟨bt, kq, none⟩ (.string (bs vp))) bt 26 #[.string (bs t0), .string (bs t1), .string (bs t2), .string (bs t3), .string (bs t4), .string (bs t5), .string (bs t6), .string (bs t7), .string (bs t8)]) := by
                  have := (HT7.out.set_ kp (.string (bs vq))).set_ kq (.string (bs vp))
                  rw [ha1, ha2] at this
                  exact this
                have HP8 : Hid (PartsAt ((w7.setCell ⟨bt, kp, none⟩ (.string (bs vq))).setCell ⟨bt, kq, none⟩ (.string (bs vp))) (.slice (some ad) s.ps.length c) s.ps) := RowsAt.store (RowsAt.store HP7.out (fun a ha => by cases ha; exact na') _) (fun a ha => by cases ha; exact na') _
                have HXs8 : Hid (Blk ((w7.setCell ⟨bt, kp, none⟩ (.string (bs vq))).setCell ⟨bt, kq, none⟩ (.string (bs vp))) w.heap.size 24 #[.string (bs s.c), .slice (some ad) s.ps.length c]) := (HXs7.out.far (p := ⟨bt, kp, none⟩) n0' _).far (p := ⟨bt, kq, none⟩) n0' _
                have HB8 : Hid (Below w.heap.size w ((w7.setCell ⟨bt, kp, none⟩ (.string (bs vq))).setCell ⟨bt, kq, none⟩ (.string (bs vp)))) := (HB7.out.setCell (p := ⟨bt, kp, none⟩) nw _).setCell (p := ⟨bt, kq, none⟩) nw _
                have HF8 := hide ((fitsB_iff isNm numB s [t0, t1, t2, t3, t4, t5, t6, t7, t8] rfl).2 (by rw [← hs2, ← hs1]; exact HFT.out))
                have eFV := HFV.out
                have eSV := HSV.out
                subst eFV eSV
                clear hs1 hs2 ha1 ha2 y0 y1 cp cq dp dq zp zq HT7 HP7 HXs7 HB7 HXf7 Kp7 Kq7 n1 n2 n3 n0 na n3' n0' na' HN
                have hdr : Below ((w7.setCell ⟨bt, kp, none⟩ (.string (bs vq))).setCell ⟨bt, kq, none⟩ (.string (bs vp))).heap.size ((w7.setCell ⟨bt, kp, none⟩ (.string (bs vq))).setCell ⟨bt, kq, none⟩ (.string (bs vp))) ((w7.setCell ⟨bt, kp, none⟩ (.string (bs vq))).setCell ⟨bt, kq, none⟩ (.string (bs vp))).drew := (Below.refl _ _).drew
                have zHT8 := hide (HT8.out.to hdr)
                have zHP8 := hide (HP8.out.to hdr)
                have zHXs8 := hide (HXs8.out.to hdr)
                have zHB8 := hide (HB8.out.drew)
                clear HT8 HP8 HXs8 HB8 hdr
                have HT8 := zHT8
                have HP8 := zHP8
                have HXs8 := zHXs8
                have HB8 := zHB8
                clear zHT8 zHP8 zHXs8 zHB8
                generalize ((w7.setCell ⟨bt, kp, none⟩ (.string (bs vq))).setCell ⟨bt, kq, none⟩ (.string (bs vp))).drew = w8 at *
                obtain ⟨U8, hU8, k8, u8, rfl, hru, hri⟩ := cls w8
                have xs_0 := fun u => (((HXs8.out.to (hru u)).cell 0).trans (show _ = some (Value.string (bs s.c)) from rfl))
                have xs_1 := fun u => (((HXs8.out.to (hru u)).cell 1).trans (show _ = some (Value.slice (some ad) s.ps.length c) from rfl))
                have xt_0 := fun u => (((HT8.out.to (hru u)).cell 0).trans (show _ = some (Value.string (bs t0)) from rfl))
                have xt_1 := fun u => (((HT8.out.to (hru u)).cell 1).trans (show _ = some (Value.string (bs t1)) from rfl))
                have xt_2 := fun u => (((HT8.out.to (hru u)).cell 2).trans (show _ = some (Value.string (bs t2)) from rfl))
                have xt_3 := fun u => (((HT8.out.to (hru u)).cell 3).trans (show _ = some (Value.string (bs t3)) from rfl))
                have xt_4 := fun u => (((HT8.out.to (hru u)).cell 4).trans (show _ = some (Value.string (bs t4)) from rfl))
                have xt_5 := fun u => (((HT8.out.to (hru u)).cell 5).trans (show _ = some (Value.string (bs t5)) from rfl))
                have xt_6 := fun u => (((HT8.out.to (hru u)).cell 6).trans (show _ = some (Value.string (bs t6)) from rfl))
                have xt_7 := fun u => (((HT8.out.to (hru u)).cell 7).trans (show _ = some (Value.string (bs t7)) from rfl))
                have xt_8 := fun u => (((HT8.out.to (hru u)).cell 8).trans (show _ = some (Value.string (bs t8)) from rfl))
                have CE : ∀ u, Calls Tryz.prog 24 #[.agg #[.string (bs s.c), .slice (some ad) s.ps.length c], .agg #[.string (bs t0), .string (bs t1), .string (bs t2), .string (bs t3), .string (bs t4), .string (bs t5), .string (bs t6), .string (bs t7), .string (bs t8)]] (k8 u) fun e w' => e = .returned (.bool true) ∧ ∃ u', w' = k8 u' := fun u => by
                  have := cls_call hru hri (fun W hb => Fits_any s hl0 hc0 (.slice (some ad) s.ps.length c) t0 t1 t2 t3 t4 t5 t6 t7 t8 W (HP8.out.to hb) (HGo.out.to (below_to HB8.out (Nat.le_refl _) hb))) u
                  rw [HF8.out] at this
                  exact this
                go_wp2_with (((with_reducible refine (CE _).mono ?_); rintro e w' ⟨rfl, u, rfl⟩))
                all_goals go_ret
                all_goals exact ⟨rfl, below_to HB8.out (Nat.le_refl _) (hru _)⟩
end Go.Proofs.YtdcafoekbnacnaaGreatDoor
