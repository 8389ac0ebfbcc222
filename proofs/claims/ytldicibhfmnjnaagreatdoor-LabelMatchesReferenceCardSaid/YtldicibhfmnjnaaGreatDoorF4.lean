/- Walk of chapter 46: LabelPacks. -/
import Derived.Test.YtldicibhfmnjnaaGreatDoorF3
import Derived.Test.YtldicibhfmnjnaaGreatDoorE1
set_option linter.unusedVariables false
set_option linter.unusedSimpArgs false
namespace Go.Proofs.YtldicibhfmnjnaaGreatDoor
open Go.RowKit

theorem leq_yes (ad : List UInt8) (ao az ah : Int) (ab : Bool) (w : World) : (binOp .eql 23 (.agg #[.string (bs ad), .int .i64 ao, .int .i64 az, .int .i64 ah, .bool ab]) (.agg #[.string (bs ad), .int .i64 ao, .int .i64 az, .int .i64 ah, .bool ab])).run Tryz.prog w = .ok (.bool true) w := by
  rw [run_eql_struct]
  go_simp
theorem leq_no {ad bd : List UInt8} {ao az ah bo bz bh : Int} {ab bb : Bool} (h : ¬ (ad = bd ∧ ao = bo ∧ az = bz ∧ ah = bh ∧ ab = bb)) (w : World) : (binOp .eql 23 (.agg #[.string (bs ad), .int .i64 ao, .int .i64 az, .int .i64 ah, .bool ab]) (.agg #[.string (bs bd), .int .i64 bo, .int .i64 bz, .int .i64 bh, .bool bb])).run Tryz.prog w = .ok (.bool false) w := by
  rw [run_eql_struct]
  go_simp
  intro h1 h2 h3 h4 h5
  refine h ⟨?_, h2, h3, h4, h5⟩
  simpa [bs_toList] using h1
theorem lne_no (ad : List UInt8) (ao az ah : Int) (ab : Bool) (w : World) : (binOp .neq 23 (.agg #[.string (bs ad), .int .i64 ao, .int .i64 az, .int .i64 ah, .bool ab]) (.agg #[.string (bs ad), .int .i64 ao, .int .i64 az, .int .i64 ah, .bool ab])).run Tryz.prog w = .ok (.bool false) w := by
  rw [run_neq_struct]
  go_simp
/-- Unpack at every text -/
def unV (p : List UInt8) : Value := if unOk p then lval (p.drop 11) (numV (sub p 1 3)) (numV (sub p 5 11) - 1) (numV (sub p 3 5)) (uB p) else lval [] 0 0 0 false
def unE (p : List UInt8) : Int := if unOk p then 0 else 5
theorem Unpack_any (p : List UInt8) (hl : p.length ≤ 1000000000) (w : World) (hg : Glob w) : Calls Tryz.prog 14 #[.string (bs p)] w fun e w' => e = .returned (.tuple #[unV p, .int .i64 (unE p)]) ∧ Below w.heap.size w w' := by
  by_cases h12 : p.length < 12
  · have hn : unOk p = false := by unfold unOk; rw [decide_eq_false (show ¬ 12 ≤ p.length by omega)]; rfl
    unfold unV unE
    rw [hn]
    exact Unpack_short p h12 w
  · have h := Unpack_long p _ rfl (by omega) hl _ (numV (sub p 5 11) - 1) _ _ _ _ rfl (by omega) rfl rfl rfl rfl (unOk p) (by
      rw [Bool.eq_iff_iff, decide_eq_true_iff]
      unfold unOk pkE pkP
      cases hgd : goodL (p.drop 11) (numV (sub p 1 3)) (numV (sub p 5 11) - 1) (numV (sub p 3 5)) with
      | true => simp; omega
      | false => simp) w hg
    exact h
set_option maxRecDepth 100000 in
set_option maxHeartbeats 8000000 in
theorem packs_any (ad : List UInt8) (ao az ah : Int) (ab : Bool) (bd : List UInt8) (bo bz bh : Int) (bb : Bool) (t : List UInt8) (w : World) (hg : Glob w) :
    Calls Tryz.prog 9 #[lval ad ao az ah ab, lval bd bo bz bh bb, .string (bs t)] w fun e w' => e = .returned (.bool true) ∧ Below w.heap.size w w' := by
  have CH := fun w hg => head_any w hg
  have hza : (bs ad).size = ad.length := bs_size ad
  have hzb : (bs bd).size = bd.length := bs_size bd
  have hzt : (bs t).size = t.length := bs_size t
  have hbe : (bs []).toList.isEmpty = true := by rw [bs_toList]; rfl
  have HB0 := hide (below_two w (.cells #[.string (bs ad), .int .i64 ao, .int .i64 az, .int .i64 ah, .bool ab] 23) (.cells #[.string (bs bd), .int .i64 bo, .int .i64 bz, .int .i64 bh, .bool bb] 23))
  have HG0 := hide ((hg.alloc (.cells #[.string (bs ad), .int .i64 ao, .int .i64 az, .int .i64 ah, .bool ab] 23)).alloc (.cells #[.string (bs bd), .int .i64 bo, .int .i64 bz, .int .i64 bh, .bool bb] 23))
  have HA0 : Hid (Blk ((w.alloc (.cells #[.string (bs ad), .int .i64 ao, .int .i64 az, .int .i64 ah, .bool ab] 23)).alloc (.cells #[.string (bs bd), .int .i64 bo, .int .i64 bz, .int .i64 bh, .bool bb] 23)) w.heap.size 23 #[.string (bs ad), .int .i64 ao, .int .i64 az, .int .i64 ah, .bool ab]) := (Blk.new w _ _).alloc _
  have HC0 : Hid (Blk ((w.alloc (.cells #[.string (bs ad), .int .i64 ao, .int .i64 az, .int .i64 ah, .bool ab] 23)).alloc (.cells #[.string (bs bd), .int .i64 bo, .int .i64 bz, .int .i64 bh, .bool bb] 23)) (w.heap.size + 1) 23 #[.string (bs bd), .int .i64 bo, .int .i64 bz, .int .i64 bh, .bool bb]) := by have := Blk.new (w.alloc (.cells #[.string (bs ad), .int .i64 ao, .int .i64 az, .int .i64 ah, .bool ab] 23)) 23 #[.string (bs bd), .int .i64 bo, .int .i64 bz, .int .i64 bh, .bool bb]; show Blk _ _ _ _; simpa using this
  clear hg
  unfold lval
  go_enter Tryz.func9, Tryz.ntmps9
  go_wp2_with fail
  generalize (w.alloc (.cells #[.string (bs ad), .int .i64 ao, .int .i64 az, .int .i64 ah, .bool ab] 23)).alloc (.cells #[.string (bs bd), .int .i64 bo, .int .i64 bz, .int .i64 bh, .bool bb] 23) = w1 at *
  obtain ⟨b2, hb2⟩ : ∃ b, Hid (w.heap.size + 1 = b) := ⟨_, rfl⟩
  rw [hb2.out] at HC0 ⊢
  obtain ⟨b1, hb1⟩ : ∃ b, Hid (w.heap.size = b) := ⟨_, rfl⟩
  rw [hb1.out] at HA0 ⊢
  refine (CH _ HG0.out).mono ?_
  rintro e w2 ⟨rfl, hb⟩
  have HB2 := hide (below_to HB0.out (Nat.le_refl _) hb)
  have HG2 := hide (HG0.out.to hb)
  have HA2 := hide (HA0.out.to hb)
  have HC2 := hide (HC0.out.to hb)
  clear hb CH HB0 HG0 HA0 HC0
  obtain ⟨U, hU, g, u0, rfl, hgu, hi⟩ := cls w2
  have a0 := blk_all hgu HA2.out 0 rfl
  have a1 := blk_all hgu HA2.out 1 rfl
  have a2 := blk_all hgu HA2.out 2 rfl
  have a3 := blk_all hgu HA2.out 3 rfl
  have a4 := blk_all hgu HA2.out 4 rfl
  have c0 := blk_all hgu HC2.out 0 rfl
  have c1 := blk_all hgu HC2.out 1 rfl
  have c2 := blk_all hgu HC2.out 2 rfl
  have c3 := blk_all hgu HC2.out 3 rfl
  have c4 := blk_all hgu HC2.out 4 rfl
  have HGU := hide hgu
  by_cases h1 : 100 < ad.length
  · have d1 : decide ((100 : Int) < (ad.length : Int)) = true := by simp; omega
    clear hgu hi
    go_wp2_with fail
    go_ret
    exact ⟨rfl, HB2.out⟩
  have d1 : decide ((100 : Int) < (ad.length : Int)) = false := by simp; omega
  by_cases h2 : 100 < bd.length
  · have d2 : decide ((100 : Int) < (bd.length : Int)) = true := by simp; omega
    clear hgu hi
    go_wp2_with fail
    go_ret
    exact ⟨rfl, HB2.out⟩
  have d2 : decide ((100 : Int) < (bd.length : Int)) = false := by simp; omega
  by_cases h3 : 100 < t.length
  · have d3 : decide ((100 : Int) < (t.length : Int)) = true := by simp; omega
    clear hgu hi
    go_wp2_with fail
    go_ret
    exact ⟨rfl, HB2.out⟩
  have d3 : decide ((100 : Int) < (t.length : Int)) = false := by simp; omega
  have PA := cls_call hgu hi (fun w hb => Pack_any ad (by omega) ao az ah ab w (HG2.out.to hb))
  have PB := cls_call hgu hi (fun w hb => Pack_any bd (by omega) bo bz bh bb w (HG2.out.to hb))
  have UT := fun w hg => Unpack_any t (by omega) w hg
  unfold lval at PA PB
  have qz : ∀ w, (binOp .eql 23 (.agg #[.string ⟨#[]⟩, .int .i64 0, .int .i64 0, .int .i64 0, .bool false]) (.agg #[.string ⟨#[]⟩, .int .i64 0, .int .i64 0, .int .i64 0, .bool false])).run Tryz.prog w = .ok (.bool true) w := leq_yes [] 0 0 0 false
  cases gA : goodL ad ao az ah with
  | false =>
    have eA : pkE ad ao az ah = 1 := by unfold pkE; rw [gA]; rfl
    have eP : pkP ad ao az ah ab = [] := by unfold pkP; rw [gA]; rfl
    rw [eA, eP] at PA
    clear eA eP gA
    generalize pkE bd bo bz bh = EB at *
    generalize pkP bd bo bz bh bb = SB at *
    cases gT : unOk t with
    | false =>
      have UT0 : ∀ w, Glob w → Calls Tryz.prog 14 #[.string (bs t)] w fun e w' => e = .returned (.tuple #[.agg #[.string ⟨#[]⟩, .int .i64 0, .int .i64 0, .int .i64 0, .bool false], .int .i64 5]) ∧ Below w.heap.size w w' := fun w hg => by have := UT w hg; unfold unV unE at this; rw [gT] at this; exact this
      have UTg := cls_call hgu hi (fun w hb => UT0 w (HG2.out.to hb))
      clear UT UT0 gT
      go_wp2_with (first | ((with_reducible refine (PA _).mono ?_); rintro e' w' ⟨rfl, uz, rfl⟩) | ((with_reducible refine (PB _).mono ?_); rintro e' w' ⟨rfl, uz, rfl⟩) | ((with_reducible refine (UTg _).mono ?_); rintro e' w' ⟨rfl, uz, rfl⟩))
      go_ret
      exact ⟨rfl, below_alloc (below_to HB2.out (Nat.le_refl _) (HGU.out _)) (Nat.le_refl _) _⟩
    | true =>
      obtain ⟨_, g2', g3'⟩ := un_facts gT
      have UT0 : ∀ w, Glob w → Calls Tryz.prog 14 #[.string (bs t)] w fun e w' => e = .returned (.tuple #[lval (t.drop 11) (numV (sub t 1 3)) (numV (sub t 5 11) - 1) (numV (sub t 3 5)) (uB t), .int .i64 0]) ∧ Below w.heap.size w w' := fun w hg => by have := UT w hg; unfold unV unE at this; rw [gT] at this; exact this
      have PY := fun w hg => Pack_any (t.drop 11) (by simp; omega) (numV (sub t 1 3)) (numV (sub t 5 11) - 1) (numV (sub t 3 5)) (uB t) w hg
      unfold pkP pkE at PY
      rw [if_pos g2', if_pos g2', g3'] at PY
      clear UT gT g2' g3'
      unfold lval at UT0 PY
      generalize t.drop 11 = yd at *
      generalize numV (sub t 1 3) = yo at *
      generalize numV (sub t 5 11) - 1 = yz at *
      generalize numV (sub t 3 5) = yh at *
      generalize uB t = yb at *
      have UTg := cls_call hgu hi (fun w hb => UT0 w (HG2.out.to hb))
      clear UT0
      go_wp2_with (first | ((with_reducible refine (PA _).mono ?_); rintro e' w' ⟨rfl, uz, rfl⟩) | ((with_reducible refine (PB _).mono ?_); rintro e' w' ⟨rfl, uz, rfl⟩) | ((with_reducible refine (UTg _).mono ?_); rintro e' w' ⟨rfl, uz, rfl⟩))
      refine (PY _ ((HG2.out.to (HGU.out _)).alloc _)).mono ?_
      rintro e w3 ⟨rfl, hb3⟩
      have HB3 := hide (below_to (below_alloc (below_to HB2.out (Nat.le_refl _) (HGU.out _)) (Nat.le_refl _) _) (Nat.le_refl _) hb3)
      clear hb3
      go_wp2_with fail
      go_ret
      exact ⟨rfl, HB3.out⟩

  | true =>
    have eA : pkE ad ao az ah = 0 := by unfold pkE; rw [gA]; rfl
    have eP : pkP ad ao az ah ab = packP ad ao az ah ab := by unfold pkP; rw [gA]; rfl
    rw [eA, eP] at PA
    clear eA eP
    obtain ⟨p1, p2, p3, p4, p5, p6⟩ := pack_parts (b := ab) gA
    have UA := fun w hg => Unpack_any (packP ad ao az ah ab) (by omega) w hg
    have eV : unV (packP ad ao az ah ab) = .agg #[.string (bs ad), .int .i64 ao, .int .i64 az, .int .i64 ah, .bool ab] := by unfold unV; rw [un_of_pack gA, if_pos rfl, p2, p3, p4, p5, p6, show az + 1 - 1 = az by omega]; rfl
    have eE : unE (packP ad ao az ah ab) = 0 := by unfold unE; rw [un_of_pack gA]; rfl
    rw [eV, eE] at UA
    have WA := fun w => Write_any (packP ad ao az ah ab) (by omega) w
    rw [(write_ok (pack_can gA)).1] at WA
    have UAg := cls_call hgu hi (fun w hb => UA w (HG2.out.to hb))
    have HINJ : Hid (∀ hB : goodL bd bo bz bh = true, packP ad ao az ah ab = packP bd bo bz bh bb → ad = bd ∧ ao = bo ∧ az = bz ∧ ah = bh ∧ ab = bb) := fun hB he => pack_inj gA hB he
    clear p1 p2 p3 p4 p5 p6 eV eE gA UA
    have qn := lne_no ad ao az ah ab
    generalize writeP (packP ad ao az ah ab) = WP at *
    cases gB : goodL bd bo bz bh with
    | false =>
      have eB : pkE bd bo bz bh = 1 := by unfold pkE; rw [gB]; rfl
      have eQ : pkP bd bo bz bh bb = [] := by unfold pkP; rw [gB]; rfl
      rw [eB, eQ] at PB
      clear eB eQ gB HINJ
      generalize packP ad ao az ah ab = SA at *
      go_wp2_with (first | ((with_reducible refine (PA _).mono ?_); rintro e' w' ⟨rfl, uz, rfl⟩) | ((with_reducible refine (PB _).mono ?_); rintro e' w' ⟨rfl, uz, rfl⟩) | ((with_reducible refine (UAg _).mono ?_); rintro e' w' ⟨rfl, uz, rfl⟩))
      have HB3 := hide (below_alloc (below_to HB2.out (Nat.le_refl _) (HGU.out uz)) (Nat.le_refl _) (.cells #[.string (bs ad), .int .i64 ao, .int .i64 az, .int .i64 ah, .bool ab] 23))
      have HG3 := hide ((HG2.out.to (HGU.out uz)).alloc (.cells #[.string (bs ad), .int .i64 ao, .int .i64 az, .int .i64 ah, .bool ab] 23))
      have HA3 := hide ((HA2.out.to (HGU.out uz)).alloc (.cells #[.string (bs ad), .int .i64 ao, .int .i64 az, .int .i64 ah, .bool ab] 23))
      have HC3 := hide ((HC2.out.to (HGU.out uz)).alloc (.cells #[.string (bs ad), .int .i64 ao, .int .i64 az, .int .i64 ah, .bool ab] 23))
      have HX3 := hide (Blk.new (g uz) 23 #[.string (bs ad), .int .i64 ao, .int .i64 az, .int .i64 ah, .bool ab])
      clear a0 c0 a1 c1 a2 c2 a3 c3 a4 c4 PA PB UAg hgu hi HGU HB2 HG2 HA2 HC2
      generalize (g uz).alloc (.cells #[.string (bs ad), .int .i64 ao, .int .i64 az, .int .i64 ah, .bool ab] 23) = w3 at *
      generalize (g uz).heap.size = b3 at *
      obtain ⟨U3, hU3, k, k0, rfl, hku, hki⟩ := cls w3
      have a0 := blk_all hku HA3.out 0 rfl
      have a1 := blk_all hku HA3.out 1 rfl
      have a2 := blk_all hku HA3.out 2 rfl
      have a3 := blk_all hku HA3.out 3 rfl
      have a4 := blk_all hku HA3.out 4 rfl
      have c0 := blk_all hku HC3.out 0 rfl
      have c1 := blk_all hku HC3.out 1 rfl
      have c2 := blk_all hku HC3.out 2 rfl
      have c3 := blk_all hku HC3.out 3 rfl
      have c4 := blk_all hku HC3.out 4 rfl
      have x0 := blk_all hku HX3.out 0 rfl
      have x1 := blk_all hku HX3.out 1 rfl
      have x2 := blk_all hku HX3.out 2 rfl
      have x3 := blk_all hku HX3.out 3 rfl
      have x4 := blk_all hku HX3.out 4 rfl
      have HKU := hide hku
      have WAk := cls_call hku hki (fun w _ => WA w)
      clear WA
      cases gT : unOk t with
      | false =>
        have UT0 : ∀ w, Glob w → Calls Tryz.prog 14 #[.string (bs t)] w fun e w' => e = .returned (.tuple #[.agg #[.string ⟨#[]⟩, .int .i64 0, .int .i64 0, .int .i64 0, .bool false], .int .i64 5]) ∧ Below w.heap.size w w' := fun w hg => by have := UT w hg; unfold unV unE at this; rw [gT] at this; exact this
        have UTk := cls_call hku hki (fun w hb => UT0 w (HG3.out.to hb))
        clear UT UT0 gT
        go_wp2_with (first | ((with_reducible refine (WAk _).mono ?_); rintro e' w' ⟨rfl, uz, rfl⟩) | ((with_reducible refine (UTk _).mono ?_); rintro e' w' ⟨rfl, uz, rfl⟩))
        go_ret
        exact ⟨rfl, below_alloc (below_to HB3.out (Nat.le_refl _) (HKU.out _)) (Nat.le_refl _) _⟩
      | true =>
        obtain ⟨_, g2', g3'⟩ := un_facts gT
        have UT0 : ∀ w, Glob w → Calls Tryz.prog 14 #[.string (bs t)] w fun e w' => e = .returned (.tuple #[lval (t.drop 11) (numV (sub t 1 3)) (numV (sub t 5 11) - 1) (numV (sub t 3 5)) (uB t), .int .i64 0]) ∧ Below w.heap.size w w' := fun w hg => by have := UT w hg; unfold unV unE at this; rw [gT] at this; exact this
        have PY := fun w hg => Pack_any (t.drop 11) (by simp; omega) (numV (sub t 1 3)) (numV (sub t 5 11) - 1) (numV (sub t 3 5)) (uB t) w hg
        unfold pkP pkE at PY
        rw [if_pos g2', if_pos g2', g3'] at PY
        clear UT gT g2' g3'
        unfold lval at UT0 PY
        generalize t.drop 11 = yd at *
        generalize numV (sub t 1 3) = yo at *
        generalize numV (sub t 5 11) - 1 = yz at *
        generalize numV (sub t 3 5) = yh at *
        generalize uB t = yb at *
        have UTk := cls_call hku hki (fun w hb => UT0 w (HG3.out.to hb))
        clear UT0
        go_wp2_with (first | ((with_reducible refine (WAk _).mono ?_); rintro e' w' ⟨rfl, uz, rfl⟩) | ((with_reducible refine (UTk _).mono ?_); rintro e' w' ⟨rfl, uz, rfl⟩))
        refine (PY _ ((HG3.out.to (HKU.out _)).alloc _)).mono ?_
        rintro e w3 ⟨rfl, hb3⟩
        have HB3 := hide (below_to (below_alloc (below_to HB3.out (Nat.le_refl _) (HKU.out _)) (Nat.le_refl _) _) (Nat.le_refl _) hb3)
        clear hb3
        go_wp2_with fail
        go_ret
        exact ⟨rfl, HB3.out⟩
    | true =>
      have eB : pkE bd bo bz bh = 0 := by unfold pkE; rw [gB]; rfl
      have eQ : pkP bd bo bz bh bb = packP bd bo bz bh bb := by unfold pkP; rw [gB]; rfl
      rw [eB, eQ] at PB
      clear eB eQ
      by_cases hsame : packP ad ao az ah ab = packP bd bo bz bh bb
      · obtain ⟨rfl, rfl, rfl, rfl, rfl⟩ := HINJ.out gB hsame
        clear hsame HINJ gB
        have qa := leq_yes ad ao az ah ab
        generalize packP ad ao az ah ab = SA at *
        go_wp2_with (first | ((with_reducible refine (PA _).mono ?_); rintro e' w' ⟨rfl, uz, rfl⟩) | ((with_reducible refine (PB _).mono ?_); rintro e' w' ⟨rfl, uz, rfl⟩) | ((with_reducible refine (UAg _).mono ?_); rintro e' w' ⟨rfl, uz, rfl⟩))
        have HB3 := hide (below_alloc (below_to HB2.out (Nat.le_refl _) (HGU.out uz)) (Nat.le_refl _) (.cells #[.string (bs ad), .int .i64 ao, .int .i64 az, .int .i64 ah, .bool ab] 23))
        have HG3 := hide ((HG2.out.to (HGU.out uz)).alloc (.cells #[.string (bs ad), .int .i64 ao, .int .i64 az, .int .i64 ah, .bool ab] 23))
        have HA3 := hide ((HA2.out.to (HGU.out uz)).alloc (.cells #[.string (bs ad), .int .i64 ao, .int .i64 az, .int .i64 ah, .bool ab] 23))
        have HC3 := hide ((HC2.out.to (HGU.out uz)).alloc (.cells #[.string (bs ad), .int .i64 ao, .int .i64 az, .int .i64 ah, .bool ab] 23))
        have HX3 := hide (Blk.new (g uz) 23 #[.string (bs ad), .int .i64 ao, .int .i64 az, .int .i64 ah, .bool ab])
        clear a0 c0 a1 c1 a2 c2 a3 c3 a4 c4 PA PB UAg hgu hi HGU HB2 HG2 HA2 HC2
        generalize (g uz).alloc (.cells #[.string (bs ad), .int .i64 ao, .int .i64 az, .int .i64 ah, .bool ab] 23) = w3 at *
        generalize (g uz).heap.size = b3 at *
        obtain ⟨U3, hU3, k, k0, rfl, hku, hki⟩ := cls w3
        have a0 := blk_all hku HA3.out 0 rfl
        have a1 := blk_all hku HA3.out 1 rfl
        have a2 := blk_all hku HA3.out 2 rfl
        have a3 := blk_all hku HA3.out 3 rfl
        have a4 := blk_all hku HA3.out 4 rfl
        have c0 := blk_all hku HC3.out 0 rfl
        have c1 := blk_all hku HC3.out 1 rfl
        have c2 := blk_all hku HC3.out 2 rfl
        have c3 := blk_all hku HC3.out 3 rfl
        have c4 := blk_all hku HC3.out 4 rfl
        have x0 := blk_all hku HX3.out 0 rfl
        have x1 := blk_all hku HX3.out 1 rfl
        have x2 := blk_all hku HX3.out 2 rfl
        have x3 := blk_all hku HX3.out 3 rfl
        have x4 := blk_all hku HX3.out 4 rfl
        have HKU := hide hku
        have WAk := cls_call hku hki (fun w _ => WA w)
        clear WA
        cases gT : unOk t with
        | false =>
          have UT0 : ∀ w, Glob w → Calls Tryz.prog 14 #[.string (bs t)] w fun e w' => e = .returned (.tuple #[.agg #[.string ⟨#[]⟩, .int .i64 0, .int .i64 0, .int .i64 0, .bool false], .int .i64 5]) ∧ Below w.heap.size w w' := fun w hg => by have := UT w hg; unfold unV unE at this; rw [gT] at this; exact this
          have UTk := cls_call hku hki (fun w hb => UT0 w (HG3.out.to hb))
          clear UT UT0 gT
          go_wp2_with (first | ((with_reducible refine (WAk _).mono ?_); rintro e' w' ⟨rfl, uz, rfl⟩) | ((with_reducible refine (UTk _).mono ?_); rintro e' w' ⟨rfl, uz, rfl⟩))
          go_ret
          exact ⟨rfl, below_alloc (below_to HB3.out (Nat.le_refl _) (HKU.out _)) (Nat.le_refl _) _⟩
        | true =>
          obtain ⟨_, g2', g3'⟩ := un_facts gT
          have UT0 : ∀ w, Glob w → Calls Tryz.prog 14 #[.string (bs t)] w fun e w' => e = .returned (.tuple #[lval (t.drop 11) (numV (sub t 1 3)) (numV (sub t 5 11) - 1) (numV (sub t 3 5)) (uB t), .int .i64 0]) ∧ Below w.heap.size w w' := fun w hg => by have := UT w hg; unfold unV unE at this; rw [gT] at this; exact this
          have PY := fun w hg => Pack_any (t.drop 11) (by simp; omega) (numV (sub t 1 3)) (numV (sub t 5 11) - 1) (numV (sub t 3 5)) (uB t) w hg
          unfold pkP pkE at PY
          rw [if_pos g2', if_pos g2', g3'] at PY
          clear UT gT g2' g3'
          unfold lval at UT0 PY
          generalize t.drop 11 = yd at *
          generalize numV (sub t 1 3) = yo at *
          generalize numV (sub t 5 11) - 1 = yz at *
          generalize numV (sub t 3 5) = yh at *
          generalize uB t = yb at *
          have UTk := cls_call hku hki (fun w hb => UT0 w (HG3.out.to hb))
          clear UT0
          go_wp2_with (first | ((with_reducible refine (WAk _).mono ?_); rintro e' w' ⟨rfl, uz, rfl⟩) | ((with_reducible refine (UTk _).mono ?_); rintro e' w' ⟨rfl, uz, rfl⟩))
          refine (PY _ ((HG3.out.to (HKU.out _)).alloc _)).mono ?_
          rintro e w3 ⟨rfl, hb3⟩
          have HB3 := hide (below_to (below_alloc (below_to HB3.out (Nat.le_refl _) (HKU.out _)) (Nat.le_refl _) _) (Nat.le_refl _) hb3)
          clear hb3
          go_wp2_with fail
          go_ret
          exact ⟨rfl, HB3.out⟩
      · have qa := leq_no (ad := ad) (bd := bd) (ao := ao) (az := az) (ah := ah) (bo := bo) (bz := bz) (bh := bh) (ab := ab) (bb := bb) (fun ⟨h1, h2, h3, h4, h5⟩ => hsame (by rw [h1, h2, h3, h4, h5]))
        have eS : ((bs (packP ad ao az ah ab)).toList == (bs (packP bd bo bz bh bb)).toList) = false := by rw [beq_eq_false_iff_ne, bs_toList, bs_toList]; exact hsame
        clear hsame HINJ gB
        generalize packP ad ao az ah ab = SA at *
        generalize packP bd bo bz bh bb = SB at *
        go_wp2_with (first | ((with_reducible refine (PA _).mono ?_); rintro e' w' ⟨rfl, uz, rfl⟩) | ((with_reducible refine (PB _).mono ?_); rintro e' w' ⟨rfl, uz, rfl⟩) | ((with_reducible refine (UAg _).mono ?_); rintro e' w' ⟨rfl, uz, rfl⟩))
        have HB3 := hide (below_alloc (below_to HB2.out (Nat.le_refl _) (HGU.out uz)) (Nat.le_refl _) (.cells #[.string (bs ad), .int .i64 ao, .int .i64 az, .int .i64 ah, .bool ab] 23))
        have HG3 := hide ((HG2.out.to (HGU.out uz)).alloc (.cells #[.string (bs ad), .int .i64 ao, .int .i64 az, .int .i64 ah, .bool ab] 23))
        have HA3 := hide ((HA2.out.to (HGU.out uz)).alloc (.cells #[.string (bs ad), .int .i64 ao, .int .i64 az, .int .i64 ah, .bool ab] 23))
        have HC3 := hide ((HC2.out.to (HGU.out uz)).alloc (.cells #[.string (bs ad), .int .i64 ao, .int .i64 az, .int .i64 ah, .bool ab] 23))
        have HX3 := hide (Blk.new (g uz) 23 #[.string (bs ad), .int .i64 ao, .int .i64 az, .int .i64 ah, .bool ab])
        clear a0 c0 a1 c1 a2 c2 a3 c3 a4 c4 PA PB UAg hgu hi HGU HB2 HG2 HA2 HC2
        generalize (g uz).alloc (.cells #[.string (bs ad), .int .i64 ao, .int .i64 az, .int .i64 ah, .bool ab] 23) = w3 at *
        generalize (g uz).heap.size = b3 at *
        obtain ⟨U3, hU3, k, k0, rfl, hku, hki⟩ := cls w3
        have a0 := blk_all hku HA3.out 0 rfl
        have a1 := blk_all hku HA3.out 1 rfl
        have a2 := blk_all hku HA3.out 2 rfl
        have a3 := blk_all hku HA3.out 3 rfl
        have a4 := blk_all hku HA3.out 4 rfl
        have c0 := blk_all hku HC3.out 0 rfl
        have c1 := blk_all hku HC3.out 1 rfl
        have c2 := blk_all hku HC3.out 2 rfl
        have c3 := blk_all hku HC3.out 3 rfl
        have c4 := blk_all hku HC3.out 4 rfl
        have x0 := blk_all hku HX3.out 0 rfl
        have x1 := blk_all hku HX3.out 1 rfl
        have x2 := blk_all hku HX3.out 2 rfl
        have x3 := blk_all hku HX3.out 3 rfl
        have x4 := blk_all hku HX3.out 4 rfl
        have HKU := hide hku
        have WAk := cls_call hku hki (fun w _ => WA w)
        clear WA
        cases gT : unOk t with
        | false =>
          have UT0 : ∀ w, Glob w → Calls Tryz.prog 14 #[.string (bs t)] w fun e w' => e = .returned (.tuple #[.agg #[.string ⟨#[]⟩, .int .i64 0, .int .i64 0, .int .i64 0, .bool false], .int .i64 5]) ∧ Below w.heap.size w w' := fun w hg => by have := UT w hg; unfold unV unE at this; rw [gT] at this; exact this
          have UTk := cls_call hku hki (fun w hb => UT0 w (HG3.out.to hb))
          clear UT UT0 gT
          go_wp2_with (first | ((with_reducible refine (WAk _).mono ?_); rintro e' w' ⟨rfl, uz, rfl⟩) | ((with_reducible refine (UTk _).mono ?_); rintro e' w' ⟨rfl, uz, rfl⟩))
          go_ret
          exact ⟨rfl, below_alloc (below_to HB3.out (Nat.le_refl _) (HKU.out _)) (Nat.le_refl _) _⟩
        | true =>
          obtain ⟨_, g2', g3'⟩ := un_facts gT
          have UT0 : ∀ w, Glob w → Calls Tryz.prog 14 #[.string (bs t)] w fun e w' => e = .returned (.tuple #[lval (t.drop 11) (numV (sub t 1 3)) (numV (sub t 5 11) - 1) (numV (sub t 3 5)) (uB t), .int .i64 0]) ∧ Below w.heap.size w w' := fun w hg => by have := UT w hg; unfold unV unE at this; rw [gT] at this; exact this
          have PY := fun w hg => Pack_any (t.drop 11) (by simp; omega) (numV (sub t 1 3)) (numV (sub t 5 11) - 1) (numV (sub t 3 5)) (uB t) w hg
          unfold pkP pkE at PY
          rw [if_pos g2', if_pos g2', g3'] at PY
          clear UT gT g2' g3'
          unfold lval at UT0 PY
          generalize t.drop 11 = yd at *
          generalize numV (sub t 1 3) = yo at *
          generalize numV (sub t 5 11) - 1 = yz at *
          generalize numV (sub t 3 5) = yh at *
          generalize uB t = yb at *
          have UTk := cls_call hku hki (fun w hb => UT0 w (HG3.out.to hb))
          clear UT0
          go_wp2_with (first | ((with_reducible refine (WAk _).mono ?_); rintro e' w' ⟨rfl, uz, rfl⟩) | ((with_reducible refine (UTk _).mono ?_); rintro e' w' ⟨rfl, uz, rfl⟩))
          refine (PY _ ((HG3.out.to (HKU.out _)).alloc _)).mono ?_
          rintro e w3 ⟨rfl, hb3⟩
          have HB3 := hide (below_to (below_alloc (below_to HB3.out (Nat.le_refl _) (HKU.out _)) (Nat.le_refl _) _) (Nat.le_refl _) hb3)
          clear hb3
          go_wp2_with fail
          go_ret
          exact ⟨rfl, HB3.out⟩

end Go.Proofs.YtldicibhfmnjnaaGreatDoor
