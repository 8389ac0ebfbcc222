/- Walks of the statements' own helpers: lists compared, sizes, leaves. -/
import Derived.Test.YtdiebacfbhjbdaaGreatDoorNA
set_option linter.unusedVariables false
set_option linter.unusedSimpArgs false
namespace Go.Proofs.YtdiebacfbhjbdaaGreatDoor
open Go.RowKit

theorem Od.eq_iff (a b : Od) : a = b ↔ a.i = b.i ∧ a.p = b.p ∧ a.f = b.f ∧ a.t = b.t ∧ a.a = b.a ∧ a.b = b.b := by
  constructor
  · rintro rfl; exact ⟨rfl, rfl, rfl, rfl, rfl, rfl⟩
  · rintro ⟨h1, h2, h3, h4, h5, h6⟩; cases a; cases b; simp_all
instance : DecidableEq Od := fun a b => decidable_of_iff _ (Od.eq_iff a b).symm
instance : DecidableEq Ln := fun a b => inferInstance
theorem lnq_no (x : Ln) (w : World) : (binOp .neq 32 (.agg #[.string (bs x.p), .string (bs x.t), .string (bs x.s), .string (bs x.d)]) (.agg #[.string (bs x.p), .string (bs x.t), .string (bs x.s), .string (bs x.d)])).run Tryz.prog w = .ok (.bool false) w := by
  rw [run_neq_struct]
  go_simp
theorem lnq_yes {x y : Ln} (h : x ≠ y) (w : World) : (binOp .neq 32 (.agg #[.string (bs x.p), .string (bs x.t), .string (bs x.s), .string (bs x.d)]) (.agg #[.string (bs y.p), .string (bs y.t), .string (bs y.s), .string (bs y.d)])).run Tryz.prog w = .ok (.bool true) w := by
  rw [run_neq_struct]
  go_simp
  intro h1 h2 h3 h4
  rw [bs_toList, bs_toList] at h1 h2 h3 h4
  exact h ((Ln.eq_iff x y).2 ⟨h1, h2, h3, h4⟩)
theorem odq_no (x : Od) (w : World) : (binOp .neq 53 (.agg #[.string (bs x.i), .string (bs x.p), .string (bs x.f), .string (bs x.t), .int .i64 x.a, .int .i64 x.b]) (.agg #[.string (bs x.i), .string (bs x.p), .string (bs x.f), .string (bs x.t), .int .i64 x.a, .int .i64 x.b])).run Tryz.prog w = .ok (.bool false) w := by
  rw [run_neq_struct]
  go_simp
theorem odq_yes {x y : Od} (h : x ≠ y) (w : World) : (binOp .neq 53 (.agg #[.string (bs x.i), .string (bs x.p), .string (bs x.f), .string (bs x.t), .int .i64 x.a, .int .i64 x.b]) (.agg #[.string (bs y.i), .string (bs y.p), .string (bs y.f), .string (bs y.t), .int .i64 y.a, .int .i64 y.b])).run Tryz.prog w = .ok (.bool true) w := by
  rw [run_neq_struct]
  go_simp
  intro h1 h2 h3 h4 h5
  rw [bs_toList, bs_toList] at h1 h2 h3 h4
  intro h6
  exact h ((Od.eq_iff x y).2 ⟨h1, h2, h3, h4, h5, h6⟩)
set_option maxRecDepth 100000 in
set_option maxHeartbeats 4000000 in
theorem Texts_any (a b : List (List UInt8)) (ha : a.length ≤ 1000000000) (hb : b.length ≤ 1000000000) (v u : Value) (w : World) (hv : TextsAt w v a) (hu : TextsAt w u b) : Calls Tryz.prog 17 #[v, u] w fun e w' => e = .returned (.bool (decide (a = b))) ∧ Below w.heap.size w w' := by
  obtain ⟨A, c, rfl, _⟩ := hv.slice
  obtain ⟨B, d, rfl, _⟩ := hu.slice
  have HS := hide hv
  have HU := hide hu
  clear hv hu
  by_cases hab : a.length = b.length
  · have HAB := hide hab
    rw [← hab] at HU hb ⊢
    clear hab
    go_enter Tryz.func17, Tryz.ntmps17
    go_wp2_with fail
    go_loopw [5] (fun i wr => ∃ k : Nat, i = .int .i64 (k : Int) ∧ k ≤ a.length ∧ Aside (Below w.heap.size w wr) ∧ Aside (a.take k = b.take k)) (fun i _ => a.length - (intOf i).toNat)
    case atStart => exact ⟨0, rfl, by omega, Below.refl _ _, rfl⟩
    case round =>
      obtain ⟨k, rfl, hk, hB, hT⟩ := hrel
      have HB : Hid (Below w.heap.size w wr) := hB
      have HT : Hid (a.take k = b.take k) := hT
      clear hB hT
      by_cases hlt : k < a.length
      · have e1 : decide ((k : Int) < (a.length : Int)) = true := decide_eq_true (by omega)
        obtain ⟨x, hx⟩ : ∃ x, a[k]? = some x := ⟨_, List.getElem?_eq_getElem hlt⟩
        obtain ⟨y, hy⟩ : ∃ y, b[k]? = some y := ⟨_, List.getElem?_eq_getElem (by have := HAB.out; omega)⟩
        obtain ⟨aa, rfl, ha0, c0⟩ := (HS.out.to HB.out).at_ hx
        obtain ⟨ba, rfl, hb0, d0⟩ := (HU.out.to HB.out).at_ hy
        have i0 : (0 : Int) ≤ (k : Int) := by omega
        have i1 : (k : Int) < (a.length : Int) := by omega
        by_cases hxy : x = y
        · have HN : Hid (a.take (k + 1) = b.take (k + 1)) := by show _ = _; rw [List.take_add_one, List.take_add_one, hx, hy, HT.out, hxy]
          subst hxy
          have q : ((bs x).toList == (bs x).toList) = true := by simp
          clear hx hy
          go_wp2_with fail
          go_quiet (fail)
          go_wp2_with fail
          refine ⟨⟨k + 1, by go_num, by omega, below_drewN HB.out _, HN.out⟩, ?_⟩
          simp [intOf]; omega
        · have HN : Hid (decide (a = b) = false) := by
            show _ = _
            apply decide_eq_false
            rintro rfl
            exact hxy (Option.some.inj (hx.symm.trans hy))
          have q : ((bs x).toList == (bs y).toList) = false := by rw [beq_eq_false_iff_ne, bs_toList, bs_toList]; exact hxy
          clear hx hy hxy
          go_wp2_with fail
          go_quiet (fail)
          go_wp2_with fail
          go_ret
          exact ⟨ret_bool (by rw [HN.out]), below_drewN HB.out _⟩
      · obtain rfl : k = a.length := by omega
        have e1 : decide ((a.length : Int) < (a.length : Int)) = false := by simp
        have HN : Hid (decide (a = b) = true) := by
          show _ = _
          apply decide_eq_true
          have := HT.out
          rwa [List.take_length, HAB.out, List.take_length] at this
        go_wp2_with fail
        go_ret
        exact ⟨ret_bool (by rw [HN.out]), HB.out⟩
  · have HN : Hid (decide (a = b) = false) := by
      show _ = _
      apply decide_eq_false
      rintro rfl
      exact hab rfl
    have e1 : ((a.length : Int) == (b.length : Int)) = false := by rw [beq_eq_false_iff_ne]; omega
    have e2 : (a.length == b.length) = false := by rw [beq_eq_false_iff_ne]; exact hab
    clear hab
    go_enter Tryz.func17, Tryz.ntmps17
    go_wp2_with fail
    go_ret
    exact ⟨ret_bool (by rw [HN.out]), Below.refl _ _⟩
set_option maxRecDepth 100000 in
set_option maxHeartbeats 4000000 in
theorem Same_any (a b : List Ln) (ha : a.length ≤ 1000000000) (hb : b.length ≤ 1000000000) (v u : Value) (w : World) (hv : LnsAt w v a) (hu : LnsAt w u b) : Calls Tryz.prog 18 #[v, u] w fun e w' => e = .returned (.bool (decide (a = b))) ∧ Below w.heap.size w w' := by
  obtain ⟨A, c, rfl⟩ := hv.slice
  obtain ⟨B, d, rfl⟩ := hu.slice
  have HS := hide hv
  have HU := hide hu
  clear hv hu
  by_cases hab : a.length = b.length
  · have HAB := hide hab
    rw [← hab] at HU hb ⊢
    clear hab
    go_enter Tryz.func18, Tryz.ntmps18
    go_wp2_with fail
    go_loopw [5] (fun i wr => ∃ k : Nat, i = .int .i64 (k : Int) ∧ k ≤ a.length ∧ Aside (Below w.heap.size w wr) ∧ Aside (a.take k = b.take k)) (fun i _ => a.length - (intOf i).toNat)
    case atStart => exact ⟨0, rfl, by omega, Below.refl _ _, rfl⟩
    case round =>
      obtain ⟨k, rfl, hk, hB, hT⟩ := hrel
      have HB : Hid (Below w.heap.size w wr) := hB
      have HT : Hid (a.take k = b.take k) := hT
      clear hB hT
      by_cases hlt : k < a.length
      · have e1 : decide ((k : Int) < (a.length : Int)) = true := decide_eq_true (by omega)
        obtain ⟨x, hx⟩ : ∃ x, a[k]? = some x := ⟨_, List.getElem?_eq_getElem hlt⟩
        obtain ⟨y, hy⟩ : ∃ y, b[k]? = some y := ⟨_, List.getElem?_eq_getElem (by have := HAB.out; omega)⟩
        obtain ⟨aa, rfl, ha0, c0, c1, c2, c3⟩ := (HS.out.to HB.out).at_ hx
        obtain ⟨ba, rfl, hb0, d0, d1, d2, d3⟩ := (HU.out.to HB.out).at_ hy
        have i0 : (0 : Int) ≤ (k : Int) := by omega
        have i1 : (k : Int) < (a.length : Int) := by omega
        by_cases hxy : x = y
        · have HN : Hid (a.take (k + 1) = b.take (k + 1)) := by show _ = _; rw [List.take_add_one, List.take_add_one, hx, hy, HT.out, hxy]
          subst hxy
          have q := lnq_no x
          clear hx hy
          go_wp2_with fail
          go_quiet (fail)
          go_wp2_with fail
          refine ⟨⟨k + 1, by go_num, by omega, below_drewN HB.out _, HN.out⟩, ?_⟩
          simp [intOf]; omega
        · have HN : Hid (decide (a = b) = false) := by
            show _ = _
            apply decide_eq_false
            rintro rfl
            exact hxy (Option.some.inj (hx.symm.trans hy))
          have q := lnq_yes hxy
          clear hx hy hxy
          go_wp2_with fail
          go_quiet (fail)
          go_wp2_with fail
          go_ret
          exact ⟨ret_bool (by rw [HN.out]), below_drewN HB.out _⟩
      · obtain rfl : k = a.length := by omega
        have e1 : decide ((a.length : Int) < (a.length : Int)) = false := by simp
        have HN : Hid (decide (a = b) = true) := by
          show _ = _
          apply decide_eq_true
          have := HT.out
          rwa [List.take_length, HAB.out, List.take_length] at this
        go_wp2_with fail
        go_ret
        exact ⟨ret_bool (by rw [HN.out]), HB.out⟩
  · have HN : Hid (decide (a = b) = false) := by
      show _ = _
      apply decide_eq_false
      rintro rfl
      exact hab rfl
    have e1 : ((a.length : Int) == (b.length : Int)) = false := by rw [beq_eq_false_iff_ne]; omega
    have e2 : (a.length == b.length) = false := by rw [beq_eq_false_iff_ne]; exact hab
    clear hab
    go_enter Tryz.func18, Tryz.ntmps18
    go_wp2_with fail
    go_ret
    exact ⟨ret_bool (by rw [HN.out]), Below.refl _ _⟩
set_option maxRecDepth 100000 in
set_option maxHeartbeats 4000000 in
theorem SameO_any (a b : List Od) (ha : a.length ≤ 1000000000) (hb : b.length ≤ 1000000000) (v u : Value) (w : World) (hv : OdsAt w v a) (hu : OdsAt w u b) : Calls Tryz.prog 26 #[v, u] w fun e w' => e = .returned (.bool (decide (a = b))) ∧ Below w.heap.size w w' := by
  obtain ⟨A, c, rfl⟩ := hv.slice
  obtain ⟨B, d, rfl⟩ := hu.slice
  have HS := hide hv
  have HU := hide hu
  clear hv hu
  by_cases hab : a.length = b.length
  · have HAB := hide hab
    rw [← hab] at HU hb ⊢
    clear hab
    go_enter Tryz.func26, Tryz.ntmps26
    go_wp2_with fail
    go_loopw [5] (fun i wr => ∃ k : Nat, i = .int .i64 (k : Int) ∧ k ≤ a.length ∧ Aside (Below w.heap.size w wr) ∧ Aside (a.take k = b.take k)) (fun i _ => a.length - (intOf i).toNat)
    case atStart => exact ⟨0, rfl, by omega, Below.refl _ _, rfl⟩
    case round =>
      obtain ⟨k, rfl, hk, hB, hT⟩ := hrel
      have HB : Hid (Below w.heap.size w wr) := hB
      have HT : Hid (a.take k = b.take k) := hT
      clear hB hT
      by_cases hlt : k < a.length
      · have e1 : decide ((k : Int) < (a.length : Int)) = true := decide_eq_true (by omega)
        obtain ⟨x, hx⟩ : ∃ x, a[k]? = some x := ⟨_, List.getElem?_eq_getElem hlt⟩
        obtain ⟨y, hy⟩ : ∃ y, b[k]? = some y := ⟨_, List.getElem?_eq_getElem (by have := HAB.out; omega)⟩
        obtain ⟨aa, rfl, ha0, c0, c1, c2, c3, c4, c5⟩ := (HS.out.to HB.out).at_ hx
        obtain ⟨ba, rfl, hb0, d0, d1, d2, d3, d4, d5⟩ := (HU.out.to HB.out).at_ hy
        have i0 : (0 : Int) ≤ (k : Int) := by omega
        have i1 : (k : Int) < (a.length : Int) := by omega
        by_cases hxy : x = y
        · have HN : Hid (a.take (k + 1) = b.take (k + 1)) := by show _ = _; rw [List.take_add_one, List.take_add_one, hx, hy, HT.out, hxy]
          subst hxy
          have q := odq_no x
          clear hx hy
          go_wp2_with fail
          go_quiet (fail)
          go_wp2_with fail
          refine ⟨⟨k + 1, by go_num, by omega, below_drewN HB.out _, HN.out⟩, ?_⟩
          simp [intOf]; omega
        · have HN : Hid (decide (a = b) = false) := by
            show _ = _
            apply decide_eq_false
            rintro rfl
            exact hxy (Option.some.inj (hx.symm.trans hy))
          have q := odq_yes hxy
          clear hx hy hxy
          go_wp2_with fail
          go_quiet (fail)
          go_wp2_with fail
          go_ret
          exact ⟨ret_bool (by rw [HN.out]), below_drewN HB.out _⟩
      · obtain rfl : k = a.length := by omega
        have e1 : decide ((a.length : Int) < (a.length : Int)) = false := by simp
        have HN : Hid (decide (a = b) = true) := by
          show _ = _
          apply decide_eq_true
          have := HT.out
          rwa [List.take_length, HAB.out, List.take_length] at this
        go_wp2_with fail
        go_ret
        exact ⟨ret_bool (by rw [HN.out]), HB.out⟩
  · have HN : Hid (decide (a = b) = false) := by
      show _ = _
      apply decide_eq_false
      rintro rfl
      exact hab rfl
    have e1 : ((a.length : Int) == (b.length : Int)) = false := by rw [beq_eq_false_iff_ne]; omega
    have e2 : (a.length == b.length) = false := by rw [beq_eq_false_iff_ne]; exact hab
    clear hab
    go_enter Tryz.func26, Tryz.ntmps26
    go_wp2_with fail
    go_ret
    exact ⟨ret_bool (by rw [HN.out]), Below.refl _ _⟩
def smL (l : Ln) : Bool := decide (l.p.length ≤ 500) && decide (l.t.length ≤ 500) && decide (l.s.length ≤ 500) && decide (l.d.length ≤ 500)
def fewG (log : List Ln) : Bool := (log.take 30).all smL && decide (log.length ≤ 30)
set_option maxRecDepth 100000 in
set_option maxHeartbeats 8000000 in
theorem Few_any (log : List Ln) (hl : log.length ≤ 140737488355328) (v : Value) (w : World) (hv : LnsAt w v log) : Calls Tryz.prog 34 #[v] w fun e w' => e = .returned (.bool (fewG log)) ∧ Below w.heap.size w w' := by
  obtain ⟨A, c, rfl⟩ := hv.slice
  have HS := hide hv
  have HV : Hid (fewG log = ((log.take 30).all smL && decide (log.length ≤ 30))) := rfl
  clear hv
  go_enter Tryz.func34, Tryz.ntmps34
  go_wp2_with fail
  go_loopw [3, 4] (fun i _ wr => ∃ k : Nat, i = .int .i64 (k : Int) ∧ (k ≤ log.length ∧ k ≤ 30) ∧ Aside (Below w.heap.size w wr) ∧ Aside ((log.take 30).all smL = ((log.take 30).drop k).all smL)) (fun i _ _ => log.length - (intOf i).toNat)
  case atStart => exact ⟨0, rfl, ⟨by omega, by omega⟩, Below.refl _ _, rfl⟩
  case round =>
    obtain ⟨k, rfl, ⟨hk, hk30⟩, hB, hA⟩ := hrel
    have HB : Hid (Below w.heap.size w wr) := hB
    have HA : Hid ((log.take 30).all smL = ((log.take 30).drop k).all smL) := hA
    clear hB hA
    by_cases hlt : k < log.length ∧ k < 30
    · obtain ⟨h', h30⟩ := hlt
      have e1 : decide ((k : Int) < (log.length : Int)) = true := decide_eq_true (by omega)
      have e2 : decide ((k : Int) < 30) = true := decide_eq_true (by omega)
      obtain ⟨l, hl'⟩ : ∃ l, log[k]? = some l := ⟨_, List.getElem?_eq_getElem h'⟩
      obtain ⟨a, rfl, ha, c0, c1, c2, c3⟩ := (HS.out.to HB.out).at_ hl'
      have HX : Hid ((log.take 30).drop k = l :: (log.take 30).drop (k + 1)) := drop_at' (by rw [List.getElem?_take_of_lt h30]; exact hl')
      have HD : Hid (smL l = true → ((log.take 30).drop k).all smL = ((log.take 30).drop (k + 1)).all smL) := fun h => by rw [HX.out, List.all_cons, h]; rfl
      have HW := hide (below_alloc HB.out (Nat.le_refl _) (.cells #[.string (bs l.p), .string (bs l.t), .string (bs l.s), .string (bs l.d)] 32))
      have z0 : (bs l.p).size = l.p.length := bs_size _
      have z1 : (bs l.t).size = l.t.length := bs_size _
      have z2 : (bs l.s).size = l.s.length := bs_size _
      have z3 : (bs l.d).size = l.d.length := bs_size _
      clear hl'
      by_cases h0 : l.p.length ≤ 500
      · have q0 : decide ((500 : Int) < (l.p.length : Int)) = false := decide_eq_false (by omega)
        by_cases h1 : l.t.length ≤ 500
        · have q1 : decide ((500 : Int) < (l.t.length : Int)) = false := decide_eq_false (by omega)
          by_cases h2 : l.s.length ≤ 500
          · have q2 : decide ((500 : Int) < (l.s.length : Int)) = false := decide_eq_false (by omega)
            by_cases h3 : l.d.length ≤ 500
            · have q3 : decide ((500 : Int) < (l.d.length : Int)) = false := decide_eq_false (by omega)
              have HN : Hid (smL l = true) := by show _ = _; unfold smL; rw [decide_eq_true h0, decide_eq_true h1, decide_eq_true h2, decide_eq_true h3]; rfl
              go_wp2_with fail
              refine ⟨⟨k + 1, by go_num, by omega, HW.out, HA.out.trans (HD.out HN.out)⟩, ?_⟩
              simp [intOf]; omega
            · have q3 : decide ((500 : Int) < (l.d.length : Int)) = true := decide_eq_true (by omega)
              have HN : Hid (fewG log = false) := by show _ = _; rw [HV.out, HA.out, HX.out, List.all_cons, show smL l = false by unfold smL; rw [decide_eq_false h3]; simp]; rfl
              go_wp2_with fail
              go_ret
              exact ⟨ret_bool (by rw [HN.out]), HW.out⟩
          · have q2 : decide ((500 : Int) < (l.s.length : Int)) = true := decide_eq_true (by omega)
            have HN : Hid (fewG log = false) := by show _ = _; rw [HV.out, HA.out, HX.out, List.all_cons, show smL l = false by unfold smL; rw [decide_eq_false h2]; simp]; rfl
            go_wp2_with fail
            go_ret
            exact ⟨ret_bool (by rw [HN.out]), HW.out⟩
        · have q1 : decide ((500 : Int) < (l.t.length : Int)) = true := decide_eq_true (by omega)
          have HN : Hid (fewG log = false) := by show _ = _; rw [HV.out, HA.out, HX.out, List.all_cons, show smL l = false by unfold smL; rw [decide_eq_false h1]; simp]; rfl
          go_wp2_with fail
          go_ret
          exact ⟨ret_bool (by rw [HN.out]), HW.out⟩
      · have q0 : decide ((500 : Int) < (l.p.length : Int)) = true := decide_eq_true (by omega)
        have HN : Hid (fewG log = false) := by show _ = _; rw [HV.out, HA.out, HX.out, List.all_cons, show smL l = false by unfold smL; rw [decide_eq_false h0]; simp]; rfl
        go_wp2_with fail
        go_ret
        exact ⟨ret_bool (by rw [HN.out]), HW.out⟩
    · have HN : Hid (fewG log = decide ((log.length : Int) ≤ 30)) := by
        show _ = _
        rw [HV.out, HA.out, List.drop_of_length_le (by rw [List.length_take]; omega), List.all_nil, Bool.true_and]
        exact decide_eq_decide.2 (by omega)
      by_cases h' : k < log.length
      · have e1 : decide ((k : Int) < (log.length : Int)) = true := decide_eq_true (by omega)
        have e2 : decide ((k : Int) < 30) = false := decide_eq_false (by omega)
        clear hlt
        go_wp2_with fail
        go_ret
        exact ⟨ret_bool (by rw [HN.out]), HB.out⟩
      · have e1 : decide ((k : Int) < (log.length : Int)) = false := decide_eq_false (by omega)
        clear hlt
        go_wp2_with fail
        go_ret
        exact ⟨ret_bool (by rw [HN.out]), HB.out⟩
def shT (ts : List (List UInt8)) : Bool := ts.all fun t => decide (t.length ≤ 500)
set_option maxRecDepth 100000 in
set_option maxHeartbeats 4000000 in
theorem few_any (log : List Ln) (hl : log.length ≤ 140737488355328) (ts : List (List UInt8)) (ht : ts.length ≤ 100) (v u : Value) (w : World) (hv : LnsAt w v log) (hu : TextsAt w u ts) : Calls Tryz.prog 12 #[v, u] w fun e w' => e = .returned (.bool (shT ts && fewG log)) ∧ Below w.heap.size w w' := by
  obtain ⟨A, c, rfl, _⟩ := hu.slice
  have HU := hide hu
  have CF := Few_any log hl v w hv
  have HV : Hid (shT ts = ts.all fun t => decide (t.length ≤ 500)) := rfl
  clear hu hv
  go_enter Tryz.func12, Tryz.ntmps12
  go_wp2_with fail
  go_loopw [5] (fun i wr => ∃ k : Nat, i = .int .i64 (k : Int) ∧ k ≤ ts.length ∧ wr = w ∧ Aside (shT ts = (ts.drop k).all fun t => decide (t.length ≤ 500))) (fun i _ => ts.length - (intOf i).toNat)
  case atStart => exact ⟨0, rfl, by omega, rfl, rfl⟩
  case round =>
    obtain ⟨k, rfl, hk, rfl, hA⟩ := hrel
    have HA : Hid (shT ts = (ts.drop k).all fun t => decide (t.length ≤ 500)) := hA
    clear hA
    by_cases hlt : k < ts.length
    · have e1 : decide ((k : Int) < (ts.length : Int)) = true := decide_eq_true (by omega)
      obtain ⟨x, hx⟩ : ∃ x, ts[k]? = some x := ⟨_, List.getElem?_eq_getElem hlt⟩
      obtain ⟨a, rfl, ha, c0⟩ := HU.out.at_ hx
      have HX := hide (drop_at' hx)
      have z0 : (bs x).size = x.length := bs_size _
      clear hx
      by_cases h0 : x.length ≤ 500
      · have q0 : decide ((500 : Int) < (x.length : Int)) = false := decide_eq_false (by omega)
        have HN : Hid (shT ts = (ts.drop (k + 1)).all fun t => decide (t.length ≤ 500)) := by show _ = _; rw [HA.out, HX.out, List.all_cons, decide_eq_true h0]; rfl
        clear CF
        go_wp2_with fail
        refine ⟨⟨k + 1, by go_num, by omega, trivial, HN.out⟩, ?_⟩
        simp [intOf]; omega
      · have q0 : decide ((500 : Int) < (x.length : Int)) = true := decide_eq_true (by omega)
        have HN : Hid (shT ts = false) := by show _ = _; rw [HA.out, HX.out, List.all_cons, decide_eq_false h0]; rfl
        clear CF
        go_wp2_with fail
        go_ret
        exact ⟨ret_bool (by rw [HN.out]; rfl), Below.refl _ _⟩
    · obtain rfl : k = ts.length := by omega
      have e1 : decide ((ts.length : Int) < (ts.length : Int)) = false := by simp
      have HN : Hid (shT ts = true) := by show _ = _; rw [HA.out, List.drop_length]; rfl
      go_wp2_with ((with_reducible refine CF.mono ?_); rintro e w' ⟨rfl, hb⟩)
      go_ret
      exact ⟨ret_bool (by rw [HN.out]; rfl), by assumption⟩
def LvR (log : List Ln) (w : World) (e : Ending) (w' : World) : Prop := ∃ v', e = .returned v' ∧ TextsAt w' v' (leavesP log) ∧ Below w.heap.size w w'
set_option maxRecDepth 100000 in
set_option maxHeartbeats 4000000 in
theorem leaves_any (log : List Ln) (hl : log.length ≤ 1000000000) (hd : ∀ l ∈ log, l.d.length ≤ 100000000000) (v : Value) (w : World) (hv : LnsAt w v log) (hg : Glob w) : Calls Tryz.prog 30 #[v] w (LvR log w) := by
  obtain ⟨A, c, rfl⟩ := hv.slice
  have HS := hide hv
  have HG := hide hg
  have HDl := hide hd
  obtain ⟨i0, hi0, hz0, hz1, hz2⟩ := info_parts (show (Tryz.prog.info? 9).map (fun i => (i.zero, i.size, i.bytes)) = some (some (.string ⟨#[]⟩), 1, 16) by kernel_rfl)
  clear hv hg hd
  go_enter Tryz.func30, Tryz.ntmps30
  go_wp2_with fail
  go_loopw [3, 4] (fun out i wr => ∃ k : Nat, i = .int .i64 (k : Int) ∧ k ≤ log.length ∧ Aside (Below w.heap.size w wr) ∧ Aside (wr.ownsRow w.heap.size 9 1 out (leavesP (log.take k)).length ((leavesP (log.take k)).map strV).flatten)) (fun _ i _ => log.length - (intOf i).toNat)
  case atStart => exact ⟨0, rfl, by omega, Below.refl _ _, World.ownsRow_nil _ _ _ _⟩
  case round =>
    obtain ⟨k, rfl, hk, hB, hO⟩ := hrel
    have HB : Hid (Below w.heap.size w wr) := hB
    have HO : Hid (wr.ownsRow w.heap.size 9 1 _ (leavesP (log.take k)).length ((leavesP (log.take k)).map strV).flatten) := hO
    clear hB hO
    by_cases hlt : k < log.length
    · have e1 : decide ((k : Int) < (log.length : Int)) = true := decide_eq_true (by omega)
      obtain ⟨l, hl'⟩ : ∃ l, log[k]? = some l := ⟨_, List.getElem?_eq_getElem hlt⟩
      obtain ⟨a, rfl, ha, c0, c1, c2, c3⟩ := (HS.out.to HB.out).at_ hl'
      have CV := Leaf_any l.d (HDl.out l (List.mem_of_getElem? hl')) wr (HG.out.to HB.out)
      have HT : Hid (leavesP (log.take (k + 1)) = leavesP (log.take k) ++ [leafD l.d]) := by show _ = _; unfold leavesP; rw [List.take_add_one, hl']; simp
      have HLEN : (leavesP (log.take k)).length ≤ k := by unfold leavesP; rw [List.length_map]; exact List.length_take_le _ _
      have HDR := hide (drop_at' hl')
      clear hl'
      generalize leavesP (log.take k) = xs at *
      generalize leafD l.d = m at *
      go_wp2_with fail
      refine CV.mono ?_
      rintro e w4 ⟨rfl, hb4⟩
      have HB4 := hide (below_to HB.out (Nat.le_refl _) hb4)
      have HO4 := hide (own_to' HO.out hb4)
      have HSZ : Hid (w.heap.size ≤ w4.heap.size) := HB4.out.size
      clear hb4 CV HO
      go_wp2_with (at_builtin; refine wpList_append_own _ rfl (.tmp 11) (.tmp 18) _ rfl w.heap.size 9 i0 (.string ⟨#[]⟩) 1 16 Tryz.underlying34 hi0 hz0 hz1 hz2 rfl (by omega) _ xs.length (xs.map strV).flatten rfl ?c0 ⟨_, 0, none⟩ 1 1 [.string (bs m)] rfl rfl ?c1 ?c2 ?c4 ?c5 ?c3 ?_)
      case c0 => exact own_to' HO4.out (below_one _ _)
      case c1 => exact cells_new (xs := [.string (bs m)]) (by simp)
      case c2 => intro u hu; simp only [List.mem_cons, List.not_mem_nil, or_false] at hu; rcases hu with rfl; rfl
      case c4 => simp only [maxLen]; omega
      case c5 => omega
      case c3 => have := HSZ.out; simp; omega
      · intro v' w6 hown6 hgr6 _
        have HB6 := hide ((below_alloc HB4.out (Nat.le_refl _) _).grown hgr6 (by have := HSZ.out; simp; omega) (fun b hb => (HO4.out.lt b hb).1))
        have HO6 : Hid (w6.ownsRow w.heap.size 9 1 v' (leavesP (log.take (k + 1))).length ((leavesP (log.take (k + 1))).map strV).flatten) := by
          show World.ownsRow _ _ _ _ _ _ _
          rw [HT.out]
          simp only [List.length_append, List.length_cons, List.length_nil, Nat.zero_add, List.map_append, List.map_cons, List.map_nil, List.flatten_append, List.flatten_cons, List.flatten_nil, List.append_nil]
          exact hown6
        clear hown6 hgr6
        go_wp2_with fail
        refine ⟨⟨k + 1, by go_num, by omega, HB6.out, HO6.out⟩, ?_⟩
        simp [intOf]; omega
    · obtain rfl : k = log.length := by omega
      have e1 : decide ((log.length : Int) < (log.length : Int)) = false := by simp
      rw [List.take_length] at HO
      go_wp2_with fail
      go_ret
      exact ⟨_, rfl, RowsAt.of_own (by simp [strV]) (by rw [List.length_map]; exact HO.out), HB.out⟩
end Go.Proofs.YtdiebacfbhjbdaaGreatDoor
