/- Walk of the statement PrivacyMatchesReference (printed by genq4.py). -/
import Derived.Test.YtdiebacfbhjbdaaGreatDoorNX
import Derived.Test.YtdiebacfbhjbdaaGreatDoorO6
set_option linter.unusedVariables false
set_option linter.unusedSimpArgs false
namespace Go.Proofs.YtdiebacfbhjbdaaGreatDoor
open Go.RowKit

theorem few_small {log : List Ln} (h : fewG log = true) : log.length ≤ 30 ∧ ∀ l ∈ log, l.p.length ≤ 500 ∧ l.t.length ≤ 500 ∧ l.s.length ≤ 500 ∧ l.d.length ≤ 500 := by
  unfold fewG at h
  simp only [Bool.and_eq_true, decide_eq_true_eq, List.all_eq_true] at h
  obtain ⟨h1, h2⟩ := h
  rw [List.take_of_length_le h2] at h1
  refine ⟨h2, fun l hl => ?_⟩
  have := h1 l hl
  unfold smL at this
  simp only [Bool.and_eq_true, decide_eq_true_eq] at this
  exact ⟨this.1.1.1, this.1.1.2, this.1.2, this.2⟩
theorem sh_small {ts : List (List UInt8)} (h : shT ts = true) : ∀ t ∈ ts, t.length ≤ 500 := fun t ht => by
  unfold shT at h
  have := List.all_eq_true.1 h t ht
  simp only [decide_eq_true_eq] at this
  omega
theorem fitS_of {l : Ln} (h : l.p.length ≤ 500 ∧ l.t.length ≤ 500 ∧ l.s.length ≤ 500 ∧ l.d.length ≤ 500) : l.fitS := ⟨by omega, by omega, by omega, by omega⟩
theorem fit_of {l : Ln} (h : l.p.length ≤ 500 ∧ l.t.length ≤ 500 ∧ l.s.length ≤ 500 ∧ l.d.length ≤ 500) : l.fit := ⟨by omega, by omega, by omega, by omega⟩
theorem make_is (p t s : List UInt8) (hp : p.length ≤ 500) (ht : t.length ≤ 500) (hs : s.length ≤ 500) (w : World) (hg : Glob w) {a : Ln} {e : Int} (ha : makeV p t s = a) (he : makeE p t s = e) :
    Calls Tryz.prog 19 #[.string (bs p), .string (bs t), .string (bs s)] w fun x w' => x = .returned (.tuple #[.agg #[.string (bs a.p), .string (bs a.t), .string (bs a.s), .string (bs a.d)], .int .i64 e]) ∧ Below w.heap.size w w' := by
  have := Make_any p t s (by omega) (by omega) (by omega) w hg
  rw [ha, he] at this
  exact this
theorem rmake_is (p t s : List UInt8) (hp : p.length ≤ 500) (ht : t.length ≤ 500) (hs : s.length ≤ 500) (w : World) {a : Ln} {e : Int} (ha : makeV p t s = a) (he : makeE p t s = e) :
    Calls Tryz.prog 21 #[.string (bs p), .string (bs t), .string (bs s)] w fun x w' => x = .returned (.tuple #[.agg #[.string (bs a.p), .string (bs a.t), .string (bs a.s), .string (bs a.d)], .int .i64 e]) ∧ Below w.heap.size w w' := by
  have := rMake_any p t s (by omega) (by omega) (by omega) w
  rw [ha, he] at this
  exact this
theorem root_is (log : List Ln) (hf : ∀ l ∈ log, l.fit) (hd : ∀ l ∈ log, l.d.length ≤ 100000000000) (hl : log.length ≤ 30) (v : Value) (w : World) (hv : LnsAt w v log) (hg : Glob w) {R : List UInt8} {E : Int} (hR : (if validG log then totalT (leavesP log) else []) = R) (hE : errE (validG log) = E) :
    Calls Tryz.prog 14 #[v] w fun e w' => e = .returned (.tuple #[.string (bs R), .int .i64 E]) ∧ Below w.heap.size w w' := by
  have := Root_any log hf hd (by omega) v w hv hg
  rw [hR, hE] at this
  exact this
theorem rroot_is (log : List Ln) (hf : ∀ l ∈ log, l.fitS) (hl : log.length ≤ 30) (v : Value) (w : World) (hv : LnsAt w v log) {R : List UInt8} {E : Int} (hR : (if validG log then totalT (leavesP log) else []) = R) (hE : errE (validG log) = E) :
    Calls Tryz.prog 22 #[v] w fun e w' => e = .returned (.tuple #[.string (bs R), .int .i64 E]) ∧ Below w.heap.size w w' := by
  have := rRootL_any log hf (by omega) v w hv
  rw [hR, hE] at this
  exact this
def EraseX (le : List Ln) (N E : Int) (w : World) (e : Ending) (w' : World) : Prop := ∃ v', e = .returned (.tuple #[v', .int .i64 N, .int .i64 E]) ∧ LnsAt w' v' le ∧ Below w.heap.size w w'
theorem eraseX {log : List Ln} {q : List UInt8} {w : World} {le : List Ln} {N E : Int} (h1 : eraseV log q = le) (h2 : ((hitsV log q : Nat) : Int) = N) (h3 : errE (okA log q) = E) {e : Ending} {w' : World} (h : EraseR log q w e w') : EraseX le N E w e w' := by
  obtain ⟨v', he, hv, hb⟩ := h
  exact ⟨v', by rw [he, h2, h3], by rw [← h1]; exact hv, hb⟩
def AboutX (ab : List (List UInt8)) (E : Int) (w : World) (e : Ending) (w' : World) : Prop := ∃ v', e = .returned (.tuple #[v', .int .i64 E]) ∧ TextsAt w' v' ab ∧ Below w.heap.size w w'
theorem aboutX {log : List Ln} {q : List UInt8} {w : World} {ab : List (List UInt8)} {E : Int} (h1 : aboutV log q = ab) (h3 : errE (okA log q) = E) {e : Ending} {w' : World} (h : AboutR log q w e w') : AboutX ab E w e w' := by
  obtain ⟨v', he, hv, hb⟩ := h
  exact ⟨v', by rw [he, h3], by rw [← h1]; exact hv, hb⟩
theorem same_is (a : List Ln) (ha : a.length ≤ 1000000000) (v u : Value) (w : World) (hv : LnsAt w v a) (hu : LnsAt w u a) : Calls Tryz.prog 18 #[v, u] w fun e w' => e = .returned (.bool true) ∧ Below w.heap.size w w' :=
  (Same_any a a ha ha v u w hv hu).mono fun e w' h => ⟨by rw [h.1]; simp, h.2⟩
theorem texts_is (a : List (List UInt8)) (ha : a.length ≤ 1000000000) (v u : Value) (w : World) (hv : TextsAt w v a) (hu : TextsAt w u a) : Calls Tryz.prog 17 #[v, u] w fun e w' => e = .returned (.bool true) ∧ Below w.heap.size w w' :=
  (Texts_any a a ha ha v u w hv hu).mono fun e w' h => ⟨by rw [h.1]; simp, h.2⟩
theorem sameO_is (a : List Od) (ha : a.length ≤ 1000000000) (v u : Value) (w : World) (hv : OdsAt w v a) (hu : OdsAt w u a) : Calls Tryz.prog 26 #[v, u] w fun e w' => e = .returned (.bool true) ∧ Below w.heap.size w w' :=
  (SameO_any a a ha ha v u w hv hu).mono fun e w' h => ⟨by rw [h.1]; simp, h.2⟩
theorem valid_is {l : Ln} (hf : l.fit) (w : World) (hg : Glob w) {b : Bool} (hb : validL l = b) : Calls Tryz.prog 15 #[.agg #[.string (bs l.p), .string (bs l.t), .string (bs l.s), .string (bs l.d)]] w fun e w' => e = .returned (.bool b) ∧ Below w.heap.size w w' := by
  have := Valid_any l hf w hg
  rw [hb] at this
  exact this
theorem rvalid_is {l : Ln} (hf : l.fitS) (w : World) {b : Bool} (hb : validL l = b) : Calls Tryz.prog 25 #[.agg #[.string (bs l.p), .string (bs l.t), .string (bs l.s), .string (bs l.d)]] w fun e w' => e = .returned (.bool b) ∧ Below w.heap.size w w' := by
  have := rValid_any l hf w
  rw [hb] at this
  exact this
theorem eraseV_len (log : List Ln) (q : List UInt8) : (eraseV log q).length ≤ log.length := by
  unfold eraseV
  split
  · rw [erase_len]; exact Nat.le_refl _
  · first | exact Nat.zero_le _ | exact Nat.le_refl _
theorem aboutV_len (log : List Ln) (q : List UInt8) : (aboutV log q).length ≤ log.length := by
  unfold aboutV
  split
  · exact mapP_len (fun l : Ln => l.t) (fun l => decide (l.p = q)) _
  · exact Nat.zero_le _
set_option maxRecDepth 100000 in
set_option maxHeartbeats 1000000 in
theorem matches_law (log : List Ln) (hl0 : log.length ≤ 8796093022208) (ln : Ln) (lo : List Od) (ho0 : lo.length ≤ 8796093022208) (p t s : List UInt8) (v vo : Value) (w : World) (hv : LnsAt w v log) (hvo : OdsAt w vo lo) (hg : Glob w) :
    Calls Tryz.prog 8 #[v, .agg #[.string (bs ln.p), .string (bs ln.t), .string (bs ln.s), .string (bs ln.d)], vo, .string (bs p), .string (bs t), .string (bs s)] w fun e w' => e = .returned (.bool true) ∧ Below w.heap.size w w' := by
  have HG := hide hg
  obtain ⟨Ao, co, rfl⟩ := hvo.slice
  have HB0 := hide (below_one w (.cells #[.string (bs ln.p), .string (bs ln.t), .string (bs ln.s), .string (bs ln.d)] 32))
  have KL0 := hide (Blk.new w 32 #[.string (bs ln.p), .string (bs ln.t), .string (bs ln.s), .string (bs ln.d)])
  have HS0 := hide (hv.to HB0.out)
  have HO0 := hide (hvo.to HB0.out)
  clear hv hvo hg
  go_enter Tryz.func8, Tryz.ntmps8
  go_wp2_with fail
  have C1 := head_any _ (HG.out.to HB0.out)
  refine C1.mono ?_
  rintro e w1 ⟨rfl, hb⟩
  have HB1 := hide (below_to HB0.out (Nat.le_refl _) hb)
  have HS1 := hide (HS0.out.to hb)
  have HO1 := hide (HO0.out.to hb)
  have KL1 := hide (KL0.out.to hb)
  clear hb C1 HB0 HS0 HO0 KL0
  go_wp2_with fail
  have HB2 := hide (below_alloc HB1.out (Nat.le_refl _) (.cells #[.string (bs p), .string (bs t), .string (bs s)] 9))
  have HS2 := hide (HS1.out.to (below_one w1 (.cells #[.string (bs p), .string (bs t), .string (bs s)] 9)))
  have HO2 := hide (HO1.out.to (below_one w1 (.cells #[.string (bs p), .string (bs t), .string (bs s)] 9)))
  have KL2 := hide (KL1.out.to (below_one w1 (.cells #[.string (bs p), .string (bs t), .string (bs s)] 9)))
  clear HB1 HS1 HO1 KL1
  cases hfew : shT [p, t, s] && fewG log with
  | false =>
    have CF : Calls Tryz.prog 12 #[v, .slice (some ⟨w1.heap.size, 0, none⟩) 3 3] (w1.alloc (.cells #[.string (bs p), .string (bs t), .string (bs s)] 9)) fun e w' => e = .returned (.bool (shT [p, t, s] && fewG log)) ∧ Below (w1.alloc (.cells #[.string (bs p), .string (bs t), .string (bs s)] 9)).heap.size (w1.alloc (.cells #[.string (bs p), .string (bs t), .string (bs s)] 9)) w' := few_any log (Nat.le_trans hl0 (by decide)) [p, t, s] (by simp) v _ _ HS2.out (rows_new w1 1 9 ([p, t, s].map strV) (by simp [strV]) _ rfl 3 rfl)
    rw [hfew] at CF
    clear hfew hl0
    have C3 := CF
    refine C3.mono ?_
    rintro e w3 ⟨rfl, hb⟩
    have HB3 := hide (below_to HB2.out (Nat.le_refl _) hb)
    have HS3 := hide (HS2.out.to hb)
    have HO3 := hide (HO2.out.to hb)
    have KL3 := hide (KL2.out.to hb)
    clear hb C3 HB2 HS2 HO2 KL2
    go_wp2_with fail
    go_ret
    exact ⟨rfl, HB3.out⟩
  | true =>
    have CF : Calls Tryz.prog 12 #[v, .slice (some ⟨w1.heap.size, 0, none⟩) 3 3] (w1.alloc (.cells #[.string (bs p), .string (bs t), .string (bs s)] 9)) fun e w' => e = .returned (.bool (shT [p, t, s] && fewG log)) ∧ Below (w1.alloc (.cells #[.string (bs p), .string (bs t), .string (bs s)] 9)).heap.size (w1.alloc (.cells #[.string (bs p), .string (bs t), .string (bs s)] 9)) w' := few_any log (Nat.le_trans hl0 (by decide)) [p, t, s] (by simp) v _ _ HS2.out (rows_new w1 1 9 ([p, t, s].map strV) (by simp [strV]) _ rfl 3 rfl)
    rw [hfew] at CF
    simp only [Bool.and_eq_true] at hfew
    obtain ⟨hl, hs0⟩ := few_small hfew.2
    have lp := sh_small hfew.1 p (by simp)
    have lt := sh_small hfew.1 t (by simp)
    have ls := sh_small hfew.1 s (by simp)
    have HF := hide (fun l hl => fit_of (hs0 l hl))
    have HFS := hide (fun l hl => fitS_of (hs0 l hl))
    have HD : Hid (∀ l ∈ log, l.d.length ≤ 100000000000) := fun l hl => by have := hs0 l hl; omega
    clear hfew hl0 hs0
    have C3 := CF
    refine C3.mono ?_
    rintro e w3 ⟨rfl, hb⟩
    have HB3 := hide (below_to HB2.out (Nat.le_refl _) hb)
    have HS3 := hide (HS2.out.to hb)
    have HO3 := hide (HO2.out.to hb)
    have KL3 := hide (KL2.out.to hb)
    clear hb C3 HB2 HS2 HO2 KL2
    have xKL_0 := (KL3.out.cell 0).trans rfl
    have xKL_1 := (KL3.out.cell 1).trans rfl
    have xKL_2 := (KL3.out.cell 2).trans rfl
    have xKL_3 := (KL3.out.cell 3).trans rfl
    go_wp2_with fail
    clear xKL_0 xKL_1 xKL_2 xKL_3
    have HB4 := hide (below_alloc HB3.out (Nat.le_refl _) (.cells #[.string (bs ln.p), .string (bs ln.t), .string (bs ln.s), .string (bs ln.d)] 32))
    have HS4 := hide (HS3.out.to (below_one w3 (.cells #[.string (bs ln.p), .string (bs ln.t), .string (bs ln.s), .string (bs ln.d)] 32)))
    have HO4 := hide (HO3.out.to (below_one w3 (.cells #[.string (bs ln.p), .string (bs ln.t), .string (bs ln.s), .string (bs ln.d)] 32)))
    have KL4 := hide (KL3.out.to (below_one w3 (.cells #[.string (bs ln.p), .string (bs ln.t), .string (bs ln.s), .string (bs ln.d)] 32)))
    clear HB3 HS3 HO3 KL3
    have CF : Calls Tryz.prog 12 #[.slice (some ⟨w3.heap.size, 0, none⟩) 1 1, .slice none 0 0] (w3.alloc (.cells #[.string (bs ln.p), .string (bs ln.t), .string (bs ln.s), .string (bs ln.d)] 32)) fun e w' => e = .returned (.bool (shT [] && fewG [ln])) ∧ Below (w3.alloc (.cells #[.string (bs ln.p), .string (bs ln.t), .string (bs ln.s), .string (bs ln.d)] 32)).heap.size (w3.alloc (.cells #[.string (bs ln.p), .string (bs ln.t), .string (bs ln.s), .string (bs ln.d)] 32)) w' := few_any [ln] (by show 1 ≤ _; decide) [] (by decide) (.slice (some ⟨w3.heap.size, 0, none⟩) 1 1) (.slice none 0 0) _ (rows_new w3 4 32 ([ln].map lnV) (by simp [lnV]) _ rfl 1 rfl) (RowsAt.nil _ _)
    rw [show shT [] = true from rfl, Bool.true_and] at CF
    cases hfew : fewG [ln] with
    | false =>
      rw [hfew] at CF
      clear hfew
      have C5 := CF
      refine C5.mono ?_
      rintro e w5 ⟨rfl, hb⟩
      have HB5 := hide (below_to HB4.out (Nat.le_refl _) hb)
      have HS5 := hide (HS4.out.to hb)
      have HO5 := hide (HO4.out.to hb)
      have KL5 := hide (KL4.out.to hb)
      clear hb C5 HB4 HS4 HO4 KL4
      go_wp2_with fail
      go_ret
      exact ⟨rfl, HB5.out⟩
    | true =>
      rw [hfew] at CF
      have hsl := (few_small hfew).2 ln (by simp)
      have HLF := hide (fit_of hsl)
      have HLS := hide (fitS_of hsl)
      clear hfew hsl
      by_cases h30 : lo.length ≤ 30
      · have e0 : decide ((30 : Int) < (lo.length : Int)) = false := decide_eq_false (by omega)
        obtain ⟨ma, HMA⟩ : ∃ x, Hid (makeV p t s = x) := ⟨_, rfl⟩
        obtain ⟨me, HME⟩ : ∃ x, Hid (makeE p t s = x) := ⟨_, rfl⟩
        obtain ⟨R, HR⟩ : ∃ x, Hid ((if validG log then totalT (leavesP log) else []) = x) := ⟨_, rfl⟩
        obtain ⟨E1, HE1⟩ : ∃ x, Hid (errE (validG log) = x) := ⟨_, rfl⟩
        obtain ⟨le, HLE⟩ : ∃ x, Hid (eraseV log p = x) := ⟨_, rfl⟩
        obtain ⟨N, HN⟩ : ∃ x, Hid (((hitsV log p : Nat) : Int) = x) := ⟨_, rfl⟩
        obtain ⟨E2, HE2⟩ : ∃ x, Hid (errE (okA log p) = x) := ⟨_, rfl⟩
        obtain ⟨ab, HAB⟩ : ∃ x, Hid (aboutV log p = x) := ⟨_, rfl⟩
        obtain ⟨vb, HVB⟩ : ∃ x, Hid (validL ln = x) := ⟨_, rfl⟩
        have HLEL : le.length ≤ 1000000000 := by have := eraseV_len log p; rw [HLE.out] at this; omega
        have HABL : ab.length ≤ 1000000000 := by have := aboutV_len log p; rw [HAB.out] at this; omega
        have C5 := CF
        refine C5.mono ?_
        rintro e w5 ⟨rfl, hb⟩
        have HB5 := hide (below_to HB4.out (Nat.le_refl _) hb)
        have HS5 := hide (HS4.out.to hb)
        have HO5 := hide (HO4.out.to hb)
        have KL5 := hide (KL4.out.to hb)
        clear hb C5 HB4 HS4 HO4 KL4
        go_wp2_with fail
        have C6 := make_is p t s lp lt ls w5 (HG.out.to HB5.out) HMA.out HME.out
        refine C6.mono ?_
        rintro e w6 ⟨rfl, hb⟩
        have HB6 := hide (below_to HB5.out (Nat.le_refl _) hb)
        have HS6 := hide (HS5.out.to hb)
        have HO6 := hide (HO5.out.to hb)
        have KL6 := hide (KL5.out.to hb)
        clear hb C6 HB5 HS5 HO5 KL5
        go_wp2_with fail
        have HB7 := hide (below_alloc HB6.out (Nat.le_refl _) (.cells #[.string (bs ma.p), .string (bs ma.t), .string (bs ma.s), .string (bs ma.d)] 32))
        have HS7 := hide (HS6.out.to (below_one w6 (.cells #[.string (bs ma.p), .string (bs ma.t), .string (bs ma.s), .string (bs ma.d)] 32)))
        have HO7 := hide (HO6.out.to (below_one w6 (.cells #[.string (bs ma.p), .string (bs ma.t), .string (bs ma.s), .string (bs ma.d)] 32)))
        have KL7 := hide (KL6.out.to (below_one w6 (.cells #[.string (bs ma.p), .string (bs ma.t), .string (bs ma.s), .string (bs ma.d)] 32)))
        clear HB6 HS6 HO6 KL6
        have KA7 := hide (Blk.new w6 32 #[.string (bs ma.p), .string (bs ma.t), .string (bs ma.s), .string (bs ma.d)])
        have C8 := rmake_is p t s lp lt ls (w6.alloc (.cells #[.string (bs ma.p), .string (bs ma.t), .string (bs ma.s), .string (bs ma.d)] 32)) HMA.out HME.out
        refine C8.mono ?_
        rintro e w8 ⟨rfl, hb⟩
        have HB8 := hide (below_to HB7.out (Nat.le_refl _) hb)
        have HS8 := hide (HS7.out.to hb)
        have HO8 := hide (HO7.out.to hb)
        have KL8 := hide (KL7.out.to hb)
        have KA8 := hide (KA7.out.to hb)
        clear hb C8 HB7 HS7 HO7 KL7 KA7
        go_wp2_with fail
        have HB9 := hide (below_alloc HB8.out (Nat.le_refl _) (.cells #[.string (bs ma.p), .string (bs ma.t), .string (bs ma.s), .string (bs ma.d)] 32))
        have HS9 := hide (HS8.out.to (below_one w8 (.cells #[.string (bs ma.p), .string (bs ma.t), .string (bs ma.s), .string (bs ma.d)] 32)))
        have HO9 := hide (HO8.out.to (below_one w8 (.cells #[.string (bs ma.p), .string (bs ma.t), .string (bs ma.s), .string (bs ma.d)] 32)))
        have KL9 := hide (KL8.out.to (below_one w8 (.cells #[.string (bs ma.p), .string (bs ma.t), .string (bs ma.s), .string (bs ma.d)] 32)))
        have KA9 := hide (KA8.out.to (below_one w8 (.cells #[.string (bs ma.p), .string (bs ma.t), .string (bs ma.s), .string (bs ma.d)] 32)))
        clear HB8 HS8 HO8 KL8 KA8
        have KB9 := hide (Blk.new w8 32 #[.string (bs ma.p), .string (bs ma.t), .string (bs ma.s), .string (bs ma.d)])
        have C10 := root_is log HF.out HD.out hl v (w8.alloc (.cells #[.string (bs ma.p), .string (bs ma.t), .string (bs ma.s), .string (bs ma.d)] 32)) HS9.out (HG.out.to HB9.out) HR.out HE1.out
        refine C10.mono ?_
        rintro e w10 ⟨rfl, hb⟩
        have HB10 := hide (below_to HB9.out (Nat.le_refl _) hb)
        have HS10 := hide (HS9.out.to hb)
        have HO10 := hide (HO9.out.to hb)
        have KL10 := hide (KL9.out.to hb)
        have KA10 := hide (KA9.out.to hb)
        have KB10 := hide (KB9.out.to hb)
        clear hb C10 HB9 HS9 HO9 KL9 KA9 KB9
        go_wp2_with fail
        have C11 := rroot_is log HFS.out hl v w10 HS10.out HR.out HE1.out
        refine C11.mono ?_
        rintro e w11 ⟨rfl, hb⟩
        have HB11 := hide (below_to HB10.out (Nat.le_refl _) hb)
        have HS11 := hide (HS10.out.to hb)
        have HO11 := hide (HO10.out.to hb)
        have KL11 := hide (KL10.out.to hb)
        have KA11 := hide (KA10.out.to hb)
        have KB11 := hide (KB10.out.to hb)
        clear hb C11 HB10 HS10 HO10 KL10 KA10 KB10
        go_wp2_with fail
        have C12 := (Erase_any log HF.out (by omega) p (by omega) v w11 HS11.out (HG.out.to HB11.out)).mono fun _ _ h => eraseX HLE.out HN.out HE2.out h
        refine C12.mono ?_
        rintro e w12 ⟨va, rfl, hHEA, hb⟩
        have HB12 := hide (below_to HB11.out (Nat.le_refl _) hb)
        have HS12 := hide (HS11.out.to hb)
        have HO12 := hide (HO11.out.to hb)
        have KL12 := hide (KL11.out.to hb)
        have KA12 := hide (KA11.out.to hb)
        have KB12 := hide (KB11.out.to hb)
        have HEA12 := hide hHEA
        clear hb C12 HB11 HS11 HO11 KL11 KA11 KB11 hHEA
        go_wp2_with fail
        have C13 := (rErase_any log HFS.out (by omega) p (by omega) v w12 HS12.out).mono fun _ _ h => eraseX HLE.out HN.out HE2.out h
        refine C13.mono ?_
        rintro e w13 ⟨vb1, rfl, hHEB, hb⟩
        have HB13 := hide (below_to HB12.out (Nat.le_refl _) hb)
        have HS13 := hide (HS12.out.to hb)
        have HO13 := hide (HO12.out.to hb)
        have KL13 := hide (KL12.out.to hb)
        have KA13 := hide (KA12.out.to hb)
        have KB13 := hide (KB12.out.to hb)
        have HEA13 := hide (HEA12.out.to hb)
        have HEB13 := hide hHEB
        clear hb C13 HB12 HS12 HO12 KL12 KA12 KB12 HEA12 hHEB
        go_wp2_with fail
        have C14 := (About_any log HF.out (by omega) p (by omega) v w13 HS13.out (HG.out.to HB13.out)).mono fun _ _ h => aboutX HAB.out HE2.out h
        refine C14.mono ?_
        rintro e w14 ⟨vc, rfl, hHAA, hb⟩
        have HB14 := hide (below_to HB13.out (Nat.le_refl _) hb)
        have HS14 := hide (HS13.out.to hb)
        have HO14 := hide (HO13.out.to hb)
        have KL14 := hide (KL13.out.to hb)
        have KA14 := hide (KA13.out.to hb)
        have KB14 := hide (KB13.out.to hb)
        have HEA14 := hide (HEA13.out.to hb)
        have HEB14 := hide (HEB13.out.to hb)
        have HAA14 := hide hHAA
        clear hb C14 HB13 HS13 HO13 KL13 KA13 KB13 HEA13 HEB13 hHAA
        go_wp2_with fail
        have C15 := (rAbout_any log HFS.out (by omega) p (by omega) v w14 HS14.out).mono fun _ _ h => aboutX HAB.out HE2.out h
        refine C15.mono ?_
        rintro e w15 ⟨vd, rfl, hHAC, hb⟩
        have HB15 := hide (below_to HB14.out (Nat.le_refl _) hb)
        have HS15 := hide (HS14.out.to hb)
        have HO15 := hide (HO14.out.to hb)
        have KL15 := hide (KL14.out.to hb)
        have KA15 := hide (KA14.out.to hb)
        have KB15 := hide (KB14.out.to hb)
        have HEA15 := hide (HEA14.out.to hb)
        have HEB15 := hide (HEB14.out.to hb)
        have HAA15 := hide (HAA14.out.to hb)
        have HAC15 := hide hHAC
        clear hb C15 HB14 HS14 HO14 KL14 KA14 KB14 HEA14 HEB14 HAA14 hHAC
        go_wp2_with fail
        obtain ⟨U, hU, g, u0, hw, hgu, hi⟩ := cls w15
        have CV := cls_call hgu hi (fun w hw => valid_is HLF.out w ((HG.out.to HB15.out).to hw) HVB.out)
        have CR := cls_call hgu hi (fun w hw => rvalid_is HLS.out w HVB.out)
        have CS := cls_call hgu hi (fun w hw => same_is le HLEL va vb1 w (HEA15.out.to hw) (HEB15.out.to hw))
        have xKL_0 := blk_all hgu KL15.out 0 rfl
        have xKL_1 := blk_all hgu KL15.out 1 rfl
        have xKL_2 := blk_all hgu KL15.out 2 rfl
        have xKL_3 := blk_all hgu KL15.out 3 rfl
        have xKA_0 := blk_all hgu KA15.out 0 rfl
        have xKA_1 := blk_all hgu KA15.out 1 rfl
        have xKA_2 := blk_all hgu KA15.out 2 rfl
        have xKA_3 := blk_all hgu KA15.out 3 rfl
        have xKB_0 := blk_all hgu KB15.out 0 rfl
        have xKB_1 := blk_all hgu KB15.out 1 rfl
        have xKB_2 := blk_all hgu KB15.out 2 rfl
        have xKB_3 := blk_all hgu KB15.out 3 rfl
        have qm := lnv_yes ma
        have q1 : (me == me) = true := by simp
        have q2 : (E1 == E1) = true := by simp
        have q3 : (N == N) = true := by simp
        have q4 : (E2 == E2) = true := by simp
        have q5 : (vb == vb) = true := by simp
        have q6 : ((bs R).toList == (bs R).toList) = true := by simp
        have HGU := hide hgu
        have HHI := hide hi
        rw [hw]
        refine wp_region_class g (by kernel_rfl) (by kernel_rfl) (HHI.out _ (HGU.out _).drew) ?_
        repeat (go_big_quiet_step (first | with_reducible exact CV _ | with_reducible exact CR _ | with_reducible exact CS _))
        refine wpQuiet_nil ?_
        intro wz hwz
        obtain ⟨u, rfl⟩ := hwz
        have hb := HGU.out u
        clear xKL_0 xKL_1 xKL_2 xKL_3 xKA_0 xKA_1 xKA_2 xKA_3 xKB_0 xKB_1 xKB_2 xKB_3 CV CR CS qm
        have HO16 := hide (HO15.out.to hb)
        have HAA16 := hide (HAA15.out.to hb)
        have HAC16 := hide (HAC15.out.to hb)
        have HB16 := hide (below_to HB15.out (Nat.le_refl _) hb)
        clear hb
        go_wp2_with fail
        have C17 := texts_is ab HABL vc vd (g u) HAA16.out HAC16.out
        refine C17.mono ?_
        rintro e w17 ⟨rfl, hb⟩
        have HB17 := hide (below_to HB16.out (Nat.le_refl _) hb)
        have HO17 := hide (HO16.out.to hb)
        have HAA17 := hide (HAA16.out.to hb)
        have HAC17 := hide (HAC16.out.to hb)
        clear hb C17 HB16 HO16 HAA16 HAC16
        go_wp2_with fail
        have C18 := Orders_any lo (by omega) p _ w17 HO17.out
        refine C18.mono ?_
        rintro e w18 ⟨ve, rfl, hHOA, hb⟩
        have HB18 := hide (below_to HB17.out (Nat.le_refl _) hb)
        have HO18 := hide (HO17.out.to hb)
        have HAA18 := hide (HAA17.out.to hb)
        have HAC18 := hide (HAC17.out.to hb)
        have HOA18 := hide hHOA
        clear hb C18 HB17 HO17 HAA17 HAC17 hHOA
        go_wp2_with fail
        have C19 := rOrders_any lo (by omega) p _ w18 HO18.out
        refine C19.mono ?_
        rintro e w19 ⟨vf, rfl, hHOB, hb⟩
        have HB19 := hide (below_to HB18.out (Nat.le_refl _) hb)
        have HO19 := hide (HO18.out.to hb)
        have HAA19 := hide (HAA18.out.to hb)
        have HAC19 := hide (HAC18.out.to hb)
        have HOA19 := hide (HOA18.out.to hb)
        have HOB19 := hide hHOB
        clear hb C19 HB18 HO18 HAA18 HAC18 HOA18 hHOB
        go_wp2_with fail
        have C20 := sameO_is (ordersP lo p) (Nat.le_trans (List.length_filter_le _ _) (by omega)) ve vf w19 HOA19.out HOB19.out
        refine C20.mono ?_
        rintro e w20 ⟨rfl, hb⟩
        have HB20 := hide (below_to HB19.out (Nat.le_refl _) hb)
        have HO20 := hide (HO19.out.to hb)
        have HAA20 := hide (HAA19.out.to hb)
        have HAC20 := hide (HAC19.out.to hb)
        have HOA20 := hide (HOA19.out.to hb)
        have HOB20 := hide (HOB19.out.to hb)
        clear hb C20 HB19 HO19 HAA19 HAC19 HOA19 HOB19
        go_wp2_with fail
        go_ret
        exact ⟨rfl, HB20.out⟩
      · have e0 : decide ((30 : Int) < (lo.length : Int)) = true := decide_eq_true (by omega)
        have C5 := CF
        refine C5.mono ?_
        rintro e w5 ⟨rfl, hb⟩
        have HB5 := hide (below_to HB4.out (Nat.le_refl _) hb)
        have HS5 := hide (HS4.out.to hb)
        have HO5 := hide (HO4.out.to hb)
        have KL5 := hide (KL4.out.to hb)
        clear hb C5 HB4 HS4 HO4 KL4
        go_wp2_with fail
        go_ret
        exact ⟨rfl, HB5.out⟩
end Go.Proofs.YtdiebacfbhjbdaaGreatDoor
