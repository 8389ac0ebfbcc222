/- Several texts as one, in build order. -/
import Derived.Test.YtdcafoekbnacnaaGreatDoorME
import Derived.Test.YtdcafoekbnacnaaGreatDoorMD
import Derived.Test.YtdcafoekbnacnaaGreatDoorMA
import Derived.Test.YtdcafoekbnacnaaGreatDoorMB
import Derived.Deep.DeepCutAuto
import Derived.BigQuiet
import Derived.Test.YtdcafoekbnacnaaGreatDoorMC
import Derived.Lib.ItoaNum
/- The reference of layer 23: Parse. -/
set_option linter.unusedVariables false
set_option linter.unusedSimpArgs false
namespace Go.Proofs.YtdcafoekbnacnaaGreatDoor
open Go.RowKit Go.Shelf
attribute [local go_sem] Oper.semAt_some

theorem betw_text {en : Int} {w : List UInt8} {q : RQ} {n : Nat} (h : ∀ x ∈ q.r, x.s.length ≤ n) : (betwQ en w q).1.length ≤ n := by
  unfold betwQ
  split
  · exact take_text (fun x hx => h x (List.mem_of_mem_tail hx))
  · exact Nat.zero_le _
theorem fault_twice {e a : Int} {q : RQ} (he : e ≠ 0) : faultQ e a (faultQ e a q) = faultQ e a q := fault_kept (fault_ok he) e a
theorem PQS.app {w2 : World} {b2 bR b9 B N : Nat} {v : Value} {en : Int} {L : List Tk} {c : List UInt8} {acc : List Prt} {q : RQ} {W W1 W6 : World} (hl : Lie w2 b2 bR b9 B N) (h : PQS w2 b2 bR b9 B N v en L c acc q W) {vp : Value}
    (hB9 : Blk W b9 24 #[.string (bs c), vp]) (hOW : OwnP W B vp acc) (hb : Below W.heap.size W W1) (hg : W1.grownBy W6 vp.ownBlock) {v' : Value} {p : Prt}
    (ho : W6.ownsRow B 41 4 v' (acc.length + 1) ((acc.map ptV).flatten ++ ptV p)) : PQS w2 b2 bR b9 B W6.heap.size v en L c (acc ++ [p]) q (W6.setCell ⟨b9, 1, none⟩ v') := by
  have e1 := hl.e1
  have e2 := hl.e2
  have e3 := hl.e3
  have e4 := hl.e4
  have e5 := hl.e5
  have own := fun g e => (World.ownsRow.lt hOW g e)
  obtain ⟨hbel, i, hi, hr, hB⟩ := h.r
  have h1 : Below w2.heap.size w2 W1 := below_to hbel (Nat.le_refl _) hb
  have h6 : Below w2.heap.size w2 W6 := h1.grown hg h1.size (fun k e => by have := (own k e).1; omega)
  have hO : Only W6 (W6.setCell ⟨b9, 1, none⟩ v') b9 := (Only.refl W6 b9).set_ 1 _
  have nR : vp.ownBlock ≠ some bR := fun e => by have := (own bR e).1; omega
  have n2 : vp.ownBlock ≠ some b2 := fun e => by have := (own b2 e).1; omega
  have n9 : vp.ownBlock ≠ some b9 := fun e => by have := (own b9 e).1; omega
  have n9' : v'.ownBlock ≠ some b9 := fun e => by have := (World.ownsRow.lt ho b9 e).1; omega
  refine ⟨⟨h6.setCell (p := ⟨b9, 1, none⟩) (by show _ ≤ b9; omega) _, i, hi, hr, hO.blk (blk_grown hg (hB.to hb) (Ne.symm nR)) (by omega)⟩, hO.blk (blk_grown hg (h.z.to hb) (Ne.symm n2)) (by omega), by rw [World.size_setCell]; exact Nat.le_refl _, v', (blk_grown hg (hB9.to hb) (Ne.symm n9)).set_ 1 v', ?_, fun g e => (World.ownsRow.lt ho g e).2⟩
  unfold OwnP
  rw [List.length_append, List.length_singleton, List.map_append, List.flatten_append]
  have := ownsRow_set (i := 1) (u := v') ho n9'
  simpa using this
set_option maxRecDepth 100000 in
set_option maxHeartbeats 8000000 in
theorem rParse23_any (t : List UInt8) (ht : t.length ≤ 100000) (w : World) : Calls Tryz.prog 21 #[.string (bs t)] w (SParseR t w) := by
  have hsz : (bs t).size = t.length := bs_size t
  have HB1 := hide (below_one w (.cells #[.string ⟨#[]⟩, .slice none 0 0] 24))
  have HZ1 := hide (Blk.new w 24 #[.string ⟨#[]⟩, .slice none 0 0])
  have CL := fun w => rLex_any t (by omega) w
  have HPQ := hide (parse_rel isNm t)
  go_enter Tryz.func21, Tryz.ntmps21
  go_upto_region 1 with fail
  generalize w.alloc (.cells #[.string ⟨#[]⟩, .slice none 0 0] 24) = w1 at *
  go_upto_region 2 with (with_reducible refine (CL _).mono ?_; rintro e w2 ⟨v, rfl, hrow, hb⟩)
  have HT := hide (TksAt.of_row hrow)
  have HB2 := hide (below_to HB1.out (Nat.le_refl _) hb)
  have HZ2 := hide (HZ1.out.to hb)
  have z0 : w2.cell? ⟨w.heap.size, 0, none⟩ = some (.string ⟨#[]⟩) := HZ2.out.cell 0
  have z1 : w2.cell? ⟨w.heap.size, 1, none⟩ = some (.slice none 0 0) := HZ2.out.cell 1
  have fz : ∀ j, w2.frozen? ⟨w.heap.size, j, none⟩ = false := fun j => HZ2.out.frozen j
  clear hrow hb HB1 HZ1 CL
  by_cases hE : (lexP t).2.1 = 0
  · have e1 : ((lexP t).2.1 != 0) = false := by rw [hE]; rfl
    have HV : Hid (parseQ isNm t = schemeQ isNm t.length (lexP t).1) := by show _ = _; unfold parseQ; rw [if_neg (by rw [hE]; decide)]
    have htl := tok_len (t := t)
    have HLL : Hid ((lexP t).1.length ≤ 1000000) := by have := htl.1; show _ ≤ _; omega
    have HL1 : Hid ((lexP t).1.length ≤ 100000) := by have := htl.1; show _ ≤ _; omega
    have HLT : Hid (∀ x ∈ (lexP t).1, x.s.length ≤ 1000000) := fun x hx => by have := htl.2 x hx; omega
    obtain ⟨A, cp, rfl, hcp⟩ := HT.out.slice
    clear htl hE
    generalize (lexP t).1 = L at *
    have HP0 : Hid (PQS w2 w.heap.size w2.heap.size (w2.heap.size + 1) (w2.heap.size + 2) (w2.heap.size + 2) (.slice A L.length cp) t.length L [] [] ⟨L, 0, 0⟩ ((w2.alloc (.cells #[.slice A L.length cp, .int .i64 0, .int .i64 (t.length : Int), .int .i64 0, .int .i64 0] 77)).alloc (.cells #[.string ⟨#[]⟩, .slice none 0 0] 24))) := by
      obtain ⟨x1, x2, x3⟩ := box2 w2 77 #[.slice A L.length cp, .int .i64 0, .int .i64 (t.length : Int), .int .i64 0, .int .i64 0] 24 #[.string ⟨#[]⟩, .slice none 0 0]
      exact ⟨⟨x3, 0, Nat.zero_le _, rfl, x1⟩, HZ2.out.to x3, by simp, _, x2, World.ownsRow_nil _ _ _ _, fun g hg => by simp [Value.ownBlock] at hg⟩
    have hLie : Hid (Lie w2 w.heap.size w2.heap.size (w2.heap.size + 1) (w2.heap.size + 2) (w2.heap.size + 2)) := ⟨HZ2.out.lt, by omega, by omega, Nat.le_refl _, Nat.le_refl _⟩
    go_upto_region 6 with fail
    clear z0 z1 fz e1
    generalize ((w2.alloc (.cells #[.slice A L.length cp, .int .i64 0, .int .i64 (t.length : Int), .int .i64 0, .int .i64 0] 77)).alloc (.cells #[.string ⟨#[]⟩, .slice none 0 0] 24)) = w4 at *
    generalize w2.heap.size + 2 = B at *
    generalize w2.heap.size + 1 = b9 at *
    generalize w2.heap.size = bR at *
    generalize hb2 : w.heap.size = b2 at *
    have HBE := hide hb2
    clear hb2
    have HV2 := hide (HV.out)
    have CT1 : Calls Tryz.prog 46 #[.pointer (some ⟨bR, 0, none⟩), .int .i64 1, .string ⟨#[115, 99, 104, 101, 109, 101]⟩] w4 fun r w' => r = .returned (.agg #[.int .i64 (takeQ (t.length : Int) 1 wScheme ⟨L, 0, 0⟩).1.k, .int .i64 (takeQ (t.length : Int) 1 wScheme ⟨L, 0, 0⟩).1.a, .int .i64 (takeQ (t.length : Int) 1 wScheme ⟨L, 0, 0⟩).1.n, .string (bs (takeQ (t.length : Int) 1 wScheme ⟨L, 0, 0⟩).1.s)]) ∧ Only w4 w' bR ∧ Rdr w2 bR (.slice A L.length cp) (t.length : Int) L (takeQ (t.length : Int) 1 wScheme ⟨L, 0, 0⟩).2 w' := rtake_any hLie.out.e5 (.slice A L.length cp) (t.length : Int) L HLL.out HT.out ⟨L, 0, 0⟩ 1 wScheme w4 HP0.out.r
    obtain ⟨z1, hz1⟩ : ∃ z, takeQ (t.length : Int) 1 wScheme ⟨L, 0, 0⟩ = z := ⟨_, rfl⟩
    have HZ1 := hide hz1
    rw [hz1] at CT1
    clear hz1
    go_upto_region 7 with ((with_reducible refine CT1.mono ?_); rintro e w5 ⟨rfl, ho, hr⟩)
    have HP1 := hide (HP0.out.only hLie.out ho hr)
    clear ho hr CT1 HP0
    have CT2 : Calls Tryz.prog 46 #[.pointer (some ⟨bR, 0, none⟩), .int .i64 1, .string ⟨#[]⟩] w5 fun r w' => r = .returned (.agg #[.int .i64 (takeQ (t.length : Int) 1 [] z1.2).1.k, .int .i64 (takeQ (t.length : Int) 1 [] z1.2).1.a, .int .i64 (takeQ (t.length : Int) 1 [] z1.2).1.n, .string (bs (takeQ (t.length : Int) 1 [] z1.2).1.s)]) ∧ Only w5 w' bR ∧ Rdr w2 bR (.slice A L.length cp) (t.length : Int) L (takeQ (t.length : Int) 1 [] z1.2).2 w' := rtake_any hLie.out.e5 (.slice A L.length cp) (t.length : Int) L HLL.out HT.out z1.2 1 [] w5 HP1.out.r
    obtain ⟨z2, hz2⟩ : ∃ z, takeQ (t.length : Int) 1 [] z1.2 = z := ⟨_, rfl⟩
    have HZ2' := hide hz2
    rw [hz2] at CT2
    have HCL : Hid (z2.1.s.length ≤ 1000000) := by
      show _ ≤ _
      rw [← hz2]
      exact take_text (fun x hx => HLT.out x (by obtain ⟨_, i, _, e, _⟩ := HP1.out.r; rw [e] at hx; exact List.mem_of_mem_drop hx))
    clear hz2
    go_upto_region 8 with fail
    refine CT2.mono ?_
    rintro e w6 ⟨rfl, ho, hr⟩
    have hp2 := HP1.out.only hLie.out ho hr
    have c0 := hp2.c0
    have f0 := hp2.f9
    clear hp2
    have hfl : ∀ w, (Instr.field 50 (.agg #[.int .i64 z2.1.k, .int .i64 z2.1.a, .int .i64 z2.1.n, .string (bs z2.1.s)]) 3).run Tryz.prog w = .ok (.string (bs z2.1.s)) w := fun _ => by kernel_rfl
    go_upto_region 8 with fail
    clear hfl c0 f0
    have HP2 := hide (HP1.out.only hLie.out ho hr)
    have HP3 := hide (HP2.out.setC hLie.out z2.1.s)
    clear ho hr CT2 HP1 HP2
    generalize w6.setCell ⟨b9, 0, none⟩ (.string (bs z2.1.s)) = w7 at *
    have CT3 : Calls Tryz.prog 46 #[.pointer (some ⟨bR, 0, none⟩), .int .i64 4, .string ⟨#[123]⟩] w7 fun r w' => r = .returned (.agg #[.int .i64 (takeQ (t.length : Int) 4 [123] z2.2).1.k, .int .i64 (takeQ (t.length : Int) 4 [123] z2.2).1.a, .int .i64 (takeQ (t.length : Int) 4 [123] z2.2).1.n, .string (bs (takeQ (t.length : Int) 4 [123] z2.2).1.s)]) ∧ Only w7 w' bR ∧ Rdr w2 bR (.slice A L.length cp) (t.length : Int) L (takeQ (t.length : Int) 4 [123] z2.2).2 w' := rtake_any hLie.out.e5 (.slice A L.length cp) (t.length : Int) L HLL.out HT.out z2.2 4 [123] w7 HP3.out.r
    obtain ⟨z3, hz3⟩ : ∃ z, takeQ (t.length : Int) 4 [123] z2.2 = z := ⟨_, rfl⟩
    have HZ3 := hide hz3
    rw [hz3] at CT3
    clear hz3
    go_wp2_with fail
    refine CT3.mono ?_
    rintro e w8 ⟨rfl, ho, hr⟩
    go_wp2_with fail
    have HP4 := hide (HP3.out.only hLie.out ho hr)
    clear ho hr CT3 HP3
    have HVV : Hid (parseQ isNm t = finQ z2.1.s (partsQ (t.length : Int) (L.length + 1) [] z3.2).1 (endQ isNm z2.1.s (partsQ (t.length : Int) (L.length + 1) [] z3.2).1 (takeQ (t.length : Int) 4 [125] (partsQ (t.length : Int) (L.length + 1) [] z3.2).2))) := by
      show _ = _
      rw [HV.out, ← HZ3.out, ← HZ2'.out, ← HZ1.out]; rfl
    have hZ4 : B ≤ w8.heap.size ∧ (z3.2.e = 0 → z3.2.a = 0 ∧ z3.2.r.length < L.length + 1) := by
      refine ⟨HP4.out.sz, fun h => ?_⟩
      have h3 := take_ok (by rw [HZ3.out]; exact h)
      have h2 := take_ok (by rw [HZ2'.out]; exact h3.1)
      have h1 := take_ok (by rw [HZ1.out]; exact h2.1)
      rw [HZ3.out, HZ2'.out] at *
      have e1 := h3.2.1
      have e2 := h2.2.1
      have e3 := h1.2.1
      have l1 := h3.2.2
      have l2 := h2.2.2
      have l3 := h1.2.2
      rw [HZ2'.out] at e2 l2
      rw [HZ1.out] at e3 l3
      dsimp only at e3 l3
      exact ⟨by rw [e1, e2, e3], by omega⟩
    have HZ4 := hide hZ4
    clear HZ2' HZ1 HV HV2 HZ3 hZ4
    go_loopw [12] (fun _ wr => ∃ (f : Nat) (acc : List Prt) (q : RQ) (N : Nat), (B ≤ N ∧ N ≤ wr.heap.size ∧ acc.length + f = L.length + 1 ∧ (q.e = 0 → q.a = 0 ∧ q.r.length < f) ∧ partsQ (t.length : Int) f acc q = partsQ (t.length : Int) (L.length + 1) [] z3.2 ∧ ∀ p ∈ acc, p.b.length ≤ 1000000 ∧ p.a.length ≤ 1000000) ∧ PQS w2 b2 bR b9 B N (.slice A L.length cp) (t.length : Int) L z2.1.s acc q wr) (fun _ wr => match wr.cell? ⟨b9, 1, none⟩ with | some (.slice _ n _) => L.length + 1 - n | _ => 0)
    case atStart => exact ⟨L.length + 1, [], z3.2, B, ⟨Nat.le_refl _, HZ4.out.1, by simp, HZ4.out.2, rfl, fun p hp => by cases hp⟩, HP4.out⟩
    case round =>
      obtain ⟨f, acc, q, N, ⟨hBN, hNs, hfa, hq0, hps, hacc⟩, hP⟩ := hrel
      have HP := hide hP
      have HPS := hide hps
      have HQ0 := hide hq0
      have HACC := hide hacc
      have HLN : Hid (Lie w2 b2 bR b9 B N) := ⟨hLie.out.e1, hLie.out.e2, hLie.out.e3, hBN, hLie.out.e5⟩
      obtain ⟨hbel, i, hi, hr, hBR⟩ := hP.r
      obtain ⟨vp, hB9, hOW, hlim⟩ := hP.s
      obtain ⟨Ap, np, rfl⟩ := own_slice hOW
      have b3 : wr.cell? ⟨bR, 3, none⟩ = some (.int .i64 q.e) := hBR.cell 3
      have p1 : wr.cell? ⟨b9, 1, none⟩ = some (.slice Ap acc.length np) := hB9.cell 1
      have HM0 := hide p1
      clear hP hps hq0 hacc HP4 hbel hr hBR hB9 hOW hlim
      have HPf := hide HP.out
      go_upto_region 9 with fail
      go_cut [54] (fun s wx => ∃ b : Bool, s = .bool b ∧ (b = true → q.e = 0 ∧ (acc = [] ∨ seesQ 4 [125] q = false)) ∧ (b = false → partsQ (t.length : Int) f acc q = (acc, q)) ∧ PQS w2 b2 bR b9 B N (.slice A L.length cp) (t.length : Int) L z2.1.s acc q wx)
      case first =>
        by_cases h0 : q.e = 0
        · have e1 : (q.e == 0) = true := by rw [h0]; rfl
          have H0 := hide h0
          clear h0
          by_cases hac : acc.length = 0
          · have e2 : ((acc.length : Int) == 0) = true := by rw [hac]; rfl
            have HC : Hid (acc = []) := List.eq_nil_of_length_eq_zero hac
            clear hac
            go_wp2_with fail
            go_meet
            exact ⟨true, rfl, fun _ => ⟨H0.out, .inl HC.out⟩, fun h => (by cases h), HP.out⟩
          · have e2 : ((acc.length : Int) == 0) = false := by rw [beq_eq_false_iff_ne]; omega
            have HC : Hid (acc ≠ []) := fun h => hac (by rw [h]; rfl)
            have CS : Calls Tryz.prog 47 #[.pointer (some ⟨bR, 0, none⟩), .int .i64 4, .string ⟨#[125]⟩] wr fun r w' => r = .returned (.bool (seesQ 4 [125] q)) ∧ ∃ n, w' = wr.drewN n := rsees_any (.slice A L.length cp) (t.length : Int) L HLL.out HT.out q 4 [125] wr HP.out.r
            cases hs : seesQ 4 [125] q with
            | false =>
              have HS := hide hs
              rw [hs] at CS
              clear hs hac
              go_wp2_with fail
              refine CS.mono ?_
              rintro e w9 ⟨rfl, n, rfl⟩
              have HP9 := hide (HP.out.drewN n)
              clear CS HP
              generalize wr.drewN n = w9 at *
              go_wp2_with fail
              go_meet
              exact ⟨true, rfl, fun _ => ⟨H0.out, .inr HS.out⟩, fun h => (by cases h), HP9.out⟩
            | true =>
              have HS := hide hs
              rw [hs] at CS
              clear hs hac
              go_wp2_with fail
              refine CS.mono ?_
              rintro e w9 ⟨rfl, n, rfl⟩
              have HP9 := hide (HP.out.drewN n)
              clear CS HP
              generalize wr.drewN n = w9 at *
              have HXP : Hid (partsQ (t.length : Int) f acc q = (acc, q)) := by
                show _ = _
                cases f with
                | zero => rfl
                | succ f =>
                  rw [partsQ, if_neg]
                  rintro ⟨_, h | h⟩
                  · exact HC.out h
                  · rw [HS.out] at h; cases h
              go_wp2_with fail
              go_meet
              exact ⟨false, rfl, fun h => (by cases h), fun _ => HXP.out, HP9.out⟩
        · have e1 : (q.e == 0) = false := by rw [beq_eq_false_iff_ne]; exact h0
          have HXP : Hid (partsQ (t.length : Int) f acc q = (acc, q)) := parts_stop h0
          clear h0
          go_wp2_with fail
          go_meet
          exact ⟨false, rfl, fun h => (by cases h), fun _ => HXP.out, HP.out⟩
      case rest =>
        obtain ⟨b, rfl, hb1, hb2, hP⟩ := hcut
        have HP9 := hide hP
        clear hP HP HPf b3 p1
        generalize wc = w9 at *
        cases b with
        | true =>
          have H0 := hide (hb1 rfl).1
          have HCC := hide (hb1 rfl).2
          clear hb1 hb2
          go_wp2_with fail
          have HP20 := hide (HP9.out.to (below_one w9 (.cells #[.int .i64 0, .string ⟨#[]⟩, .string ⟨#[]⟩, .bool false] 41)))
          have HX20 := hide (Blk.new w9 41 #[.int .i64 0, .string ⟨#[]⟩, .string ⟨#[]⟩, .bool false])
          have HL10 : Hid (N ≤ w9.heap.size) := HP9.out.sz
          clear HP9
          go_upto_region 11 with fail
          generalize w9.alloc (.cells #[.int .i64 0, .string ⟨#[]⟩, .string ⟨#[]⟩, .bool false] 41) = w20 at *
          generalize w9.heap.size = b10 at *
          have CN : Calls Tryz.prog 47 #[.pointer (some ⟨bR, 0, none⟩), .int .i64 1, .string ⟨#[110, 101, 101, 100]⟩] w20 fun r w' => r = .returned (.bool (seesQ 1 wNeed q)) ∧ ∃ n, w' = w20.drewN n := rsees_any (.slice A L.length cp) (t.length : Int) L HLL.out HT.out q 1 wNeed w20 HP20.out.r
          obtain ⟨nd, hnd⟩ : ∃ b, seesQ 1 wNeed q = b := ⟨_, rfl⟩
          rw [hnd] at CN
          have HSN := hide hnd
          clear hnd
          go_wp2_with fail
          refine CN.mono ?_
          rintro e w21 ⟨rfl, n, rfl⟩
          have HP21 := hide (HP20.out.drewN n)
          have HX21 := hide (HX20.out.drewN n)
          clear CN HP20 HX20
          generalize w20.drewN n = w21 at *
          go_upto_if 57 with fail
          go_cut [10] (fun s wx => s = .pointer (some ⟨b10, 0, none⟩) ∧ PQS w2 b2 bR b9 B N (.slice A L.length cp) (t.length : Int) L z2.1.s acc (needQ q) wx ∧ Blk wx b10 41 #[.int .i64 0, .string ⟨#[]⟩, .string ⟨#[]⟩, .bool nd])
          case first =>
            cases nd with
            | false =>
              have HNQ : Hid (needQ q = q) := by show _ = _; unfold needQ; rw [HSN.out]; rfl
              go_wp2_with fail
              go_meet
              exact ⟨rfl, by rw [HNQ.out]; exact HP21.out, HX21.out⟩
            | true =>
              have HNQ : Hid (needQ q = ⟨q.r.tail, q.e, q.a⟩) := by show _ = _; unfold needQ; rw [HSN.out]; rfl
              obtain ⟨hbel, i9, hi9, hr9, hBR⟩ := HP21.out.r
              have hil : i9 < L.length := by
                rcases Nat.lt_or_ge i9 L.length with h | h
                · exact h
                · have h1 := sees_nil (k := 1) (s := wNeed) (hr9.trans (List.drop_eq_nil_of_le h))
                  rw [HSN.out] at h1; cases h1
              have HTLL : Hid (q.r.tail = L.drop (i9 + 1)) := by show _ = _; rw [hr9, List.tail_drop]
              have HBR := hide hBR
              have HBL := hide hbel
              have x3 : w21.cell? ⟨b10, 3, none⟩ = some (.bool false) := HX21.out.cell 3
              have fx : w21.frozen? ⟨b10, 3, none⟩ = false := HX21.out.frozen 3
              have nb : b10 ≠ bR := (by have := HL10.out; have := HLN.out.e2; have := HLN.out.e3; have := HLN.out.e4; omega)
              have b1 : (w21.setCell ⟨b10, 3, none⟩ (.bool true)).cell? ⟨bR, 1, none⟩ = some (.int .i64 (i9 : Int)) := (HBR.out.far (p := ⟨b10, 3, none⟩) (Ne.symm nb) (.bool true)).cell 1
              have fb : (w21.setCell ⟨b10, 3, none⟩ (.bool true)).frozen? ⟨bR, 1, none⟩ = false := (HBR.out.far (p := ⟨b10, 3, none⟩) (Ne.symm nb) (.bool true)).frozen 1
              have b1' : w21.cell? ⟨bR, 1, none⟩ = some (.int .i64 (i9 : Int)) := HBR.out.cell 1
              have fb' : w21.frozen? ⟨bR, 1, none⟩ = false := HBR.out.frozen 1
              have nb' : bR ≠ b10 := Ne.symm nb
              have hi8 : (i9 : Int) < 1000000 := by have := HLL.out; omega
              clear hr9 hBR hbel
              go_wp2_with fail
              have h10 : w2.heap.size ≤ b10 := by have := HL10.out; have := HLN.out.e2; have := HLN.out.e3; have := HLN.out.e4; have := HLN.out.e5; omega
              go_meet
              refine ⟨rfl, ?_, (HX21.out.set_ 3 (.bool true)).far (p := ⟨bR, 1, none⟩) nb (.int .i64 ((i9 : Int) + 1))⟩
              rw [HNQ.out]
              have hp3 := PQS.far (j := 3) HLN.out HP21.out HL10.out (.bool true)
              refine PQS.only HLN.out hp3 ((Only.refl _ _).set_ 1 _) ⟨(HBL.out.setCell (p := ⟨b10, 3, none⟩) h10 _).setCell (p := ⟨bR, 1, none⟩) HLN.out.e5 _, i9 + 1, by omega, HTLL.out, ?_⟩
              rw [show (((i9 + 1 : Nat)) : Int) = (i9 : Int) + 1 by omega]
              exact (HBR.out.far (p := ⟨b10, 3, none⟩) nb' (.bool true)).set_ 1 (.int .i64 ((i9 : Int) + 1))
          case rest =>
            obtain ⟨rfl, hP, hX⟩ := hcut
            have HP22 := hide hP
            have HX22 := hide hX
            clear hP hX HP21 HX21
            generalize wc = w22 at *
            have CT5 : Calls Tryz.prog 46 #[.pointer (some ⟨bR, 0, none⟩), .int .i64 1, .string ⟨#[]⟩] w22 fun r w' => r = .returned (.agg #[.int .i64 (takeQ (t.length : Int) 1 [] (needQ q)).1.k, .int .i64 (takeQ (t.length : Int) 1 [] (needQ q)).1.a, .int .i64 (takeQ (t.length : Int) 1 [] (needQ q)).1.n, .string (bs (takeQ (t.length : Int) 1 [] (needQ q)).1.s)]) ∧ Only w22 w' bR ∧ Rdr w2 bR (.slice A L.length cp) (t.length : Int) L (takeQ (t.length : Int) 1 [] (needQ q)).2 w' := rtake_any hLie.out.e5 (.slice A L.length cp) (t.length : Int) L HLL.out HT.out (needQ q) 1 [] w22 HP22.out.r
            obtain ⟨z5, hz5⟩ : ∃ z, takeQ (t.length : Int) 1 [] (needQ q) = z := ⟨_, rfl⟩
            have HZ5 := hide hz5
            rw [hz5] at CT5
            have HTX : Hid (z5.1.s.length ≤ 1000000) := by
              show _ ≤ _
              rw [← hz5]
              exact take_text (fun x hx => HLT.out x (by obtain ⟨_, i, _, e, _⟩ := HP22.out.r; rw [e] at hx; exact List.mem_of_mem_drop hx))
            clear hz5
            go_wp2_with fail
            refine CT5.mono ?_
            rintro e w23 ⟨rfl, ho, hr⟩
            have HP23 := hide (HP22.out.only HLN.out ho hr)
            have HX23 := hide (ho.blk HX22.out (by have := HL10.out; have := HLN.out.e2; have := HLN.out.e3; have := HLN.out.e4; omega))
            clear ho hr CT5 HP22 HX22
            go_upto_region 15 with fail
            have HP24 := hide (HP23.out.to (below_one w23 (.cells #[.int .i64 z5.1.k, .int .i64 z5.1.a, .int .i64 z5.1.n, .string (bs z5.1.s)] 50)))
            have HX24 := hide (HX23.out.to (below_one w23 (.cells #[.int .i64 z5.1.k, .int .i64 z5.1.a, .int .i64 z5.1.n, .string (bs z5.1.s)] 50)))
            have HY24 := hide (Blk.new w23 50 #[.int .i64 z5.1.k, .int .i64 z5.1.a, .int .i64 z5.1.n, .string (bs z5.1.s)])
            have HL11 : Hid (b10 < w23.heap.size) := HX23.out.lt
            clear HP23 HX23
            generalize w23.alloc (.cells #[.int .i64 z5.1.k, .int .i64 z5.1.a, .int .i64 z5.1.n, .string (bs z5.1.s)] 50) = w24 at *
            generalize w23.heap.size = b11 at *
            have CK := rkind_any z5.1.s w24
            have y3 : w24.cell? ⟨b11, 3, none⟩ = some (.string (bs z5.1.s)) := HY24.out.cell 3
            go_wp2_with fail
            refine CK.mono ?_
            rintro e w25 ⟨rfl, hb⟩
            have HP25 := hide (HP24.out.to hb)
            have HX25 := hide (HX24.out.to hb)
            have HY25 := hide (HY24.out.to hb)
            clear hb CK y3 HP24 HX24 HY24
            have x0 : w25.cell? ⟨b10, 0, none⟩ = some (.int .i64 0) := HX25.out.cell 0
            have fx0 : w25.frozen? ⟨b10, 0, none⟩ = false := HX25.out.frozen 0
            go_upto_region 16 with fail
            obtain ⟨kk, hkk⟩ : ∃ x, kindR z5.1.s = x := ⟨_, rfl⟩
            have HKK := hide hkk
            rw [hkk]
            clear hkk x0 fx0
            have nb1 : b11 ≠ b10 := by have := HL11.out; omega
            have HP26 := hide (PQS.far (j := 0) HLN.out HP25.out HL10.out (.int .i64 kk))
            have HX26 := hide (HX25.out.set_ 0 (.int .i64 kk))
            have HY26 := hide (HY25.out.far (p := ⟨b10, 0, none⟩) nb1 (.int .i64 kk))
            clear HP25 HX25 HY25
            generalize w25.setCell ⟨b10, 0, none⟩ (.int .i64 kk) = w26 at *
            have x0 : w26.cell? ⟨b10, 0, none⟩ = some (.int .i64 kk) := HX26.out.cell 0
            obtain ⟨q8, hq8⟩ : ∃ x, (if kk = 0 then faultQ 7 z5.1.a z5.2 else z5.2) = x := ⟨_, rfl⟩
            have HQ8 := hide hq8
            clear hq8
            go_upto_if 74 with fail
            go_cut [10, 11] (fun s t' wx => s = .pointer (some ⟨b10, 0, none⟩) ∧ t' = .pointer (some ⟨b11, 0, none⟩) ∧ PQS w2 b2 bR b9 B N (.slice A L.length cp) (t.length : Int) L z2.1.s acc q8 wx ∧ Blk wx b10 41 #[.int .i64 kk, .string ⟨#[]⟩, .string ⟨#[]⟩, .bool nd] ∧ Blk wx b11 50 #[.int .i64 z5.1.k, .int .i64 z5.1.a, .int .i64 z5.1.n, .string (bs z5.1.s)])
            case first =>
              have y1 : w26.cell? ⟨b11, 1, none⟩ = some (.int .i64 z5.1.a) := HY26.out.cell 1
              by_cases hk0 : kk = 0
              · have e5 : (kk == 0) = true := by rw [hk0]; rfl
                have HE8 : Hid (faultQ 7 z5.1.a z5.2 = q8) := by show _ = _; rw [← HQ8.out, if_pos hk0]
                clear hk0
                go_wp2_with fail
                refine (fault_any HLN.out.e5 (.slice A L.length cp) (t.length : Int) L z5.2 7 z5.1.a w26 HP26.out.r).mono ?_
                rintro e w27 ⟨rfl, ho, hr⟩
                have HP27 := hide (HP26.out.only HLN.out ho hr)
                rw [HE8.out] at HP27
                have HX27 := hide (ho.blk HX26.out (by have := HL10.out; have := HLN.out.e2; have := HLN.out.e3; have := HLN.out.e4; omega))
                have HY27 := hide (ho.blk HY26.out (by have := HL10.out; have := HL11.out; have := HLN.out.e2; have := HLN.out.e3; have := HLN.out.e4; omega))
                clear ho hr x0 y1 HP26 HX26 HY26
                go_wp2_with fail
                go_meet
                exact ⟨rfl, rfl, HP27.out, HX27.out, HY27.out⟩
              · have e5 : (kk == 0) = false := by rw [beq_eq_false_iff_ne]; exact hk0
                have HE8 : Hid (z5.2 = q8) := by show _ = _; rw [← HQ8.out, if_neg hk0]
                rw [HE8.out] at HP26
                clear hk0
                go_wp2_with fail
                go_meet
                exact ⟨rfl, rfl, HP26.out, HX26.out, HY26.out⟩
            case rest =>
              obtain ⟨rfl, rfl, hP, hX, hY⟩ := hcut
              have HP27 := hide hP
              have HX27 := hide hX
              have HY27 := hide hY
              clear hP hX hY x0 HP26 HX26 HY26
              go_wp2_with fail
              go_loopw [12] (fun i wr => ∃ (m : Nat) (q7 : RQ), i = .int .i64 (m : Int) ∧ (m ≤ acc.length ∧ q7 = if (acc.take m).any (fun y => decide (y.k = kk)) then faultQ 8 z5.1.a (q8) else (q8)) ∧ PQS w2 b2 bR b9 B N (.slice A L.length cp) (t.length : Int) L z2.1.s acc q7 wr ∧ Blk wr b10 41 #[.int .i64 kk, .string ⟨#[]⟩, .string ⟨#[]⟩, .bool nd] ∧ Blk wr b11 50 #[.int .i64 z5.1.k, .int .i64 z5.1.a, .int .i64 z5.1.n, .string (bs z5.1.s)]) (fun i _ => acc.length - (intOf i).toNat)
              case atStart => exact ⟨0, q8, rfl, ⟨Nat.zero_le _, by simp⟩, HP27.out, HX27.out, HY27.out⟩
              case round =>
                obtain ⟨m, q7, rfl, ⟨hm, hq7⟩, hP, hX, hY⟩ := hrel
                have HP7 := hide hP
                have HX7 := hide hX
                have HY7 := hide hY
                have HQ7 := hide hq7
                obtain ⟨vp, hB9, hOW, hlim⟩ := hP.s
                obtain ⟨Ap3, np3, rfl⟩ := own_slice hOW
                have HPA := hide hOW.parts
                have p1 : wr.cell? ⟨b9, 1, none⟩ = some (.slice Ap3 acc.length np3) := hB9.cell 1
                have hal9 : acc.length ≤ 1000001 := by have := HLL.out; omega
                clear hP hX hY hq7 hB9 hOW hlim HP27 HX27 HY27
                by_cases hml : m < acc.length
                · obtain ⟨y, hy⟩ : ∃ y, acc[m]? = some y := ⟨_, List.getElem?_eq_getElem hml⟩
                  obtain ⟨ady, cpy, ea, _, hab, c0, c1, c2, c3⟩ := HPA.out.at_ hy
                  injection ea with ea _ ec
                  subst ec
                  obtain rfl := ea
                  have HTK : Hid ((acc.take (m + 1)).any (fun y => decide (y.k = kk)) = ((acc.take m).any (fun y => decide (y.k = kk)) || decide (y.k = kk))) := by
                    show _ = _
                    rw [List.take_add_one, hy]; simp [List.any_append]
                  have x0 : wr.cell? ⟨b10, 0, none⟩ = some (.int .i64 kk) := HX7.out.cell 0
                  have k0 : (0 : Int) ≤ (m : Int) := by omega
                  have k1 : (m : Int) < (acc.length : Int) := by omega
                  have k2 : decide ((m : Int) < (acc.length : Int)) = true := decide_eq_true k1
                  have HM1 : Hid (m + 1 ≤ acc.length) := hml
                  clear hy hab
                  by_cases hyk : y.k = kk
                  · have e6 : (y.k == kk) = true := by rw [hyk]; simp
                    have HYK := hide hyk
                    have HR : Hid (faultQ 8 z5.1.a q7 = if (acc.take (m + 1)).any (fun y => decide (y.k = kk)) then faultQ 8 z5.1.a (q8) else (q8)) := by
                      show _ = _
                      rw [HTK.out, decide_eq_true hyk, Bool.or_true, if_pos rfl, HQ7.out]
                      split
                      · exact fault_twice (by decide)
                      · rfl
                    clear hyk
                    generalize y.k = yk at *
                    go_wp2_with fail
                    go_quiet (fail)
                    have y1 : (wr.drewN nq).cell? ⟨b11, 1, none⟩ = some (.int .i64 z5.1.a) := (HY7.out.drewN nq).cell 1
                    have HP8 := hide (HP7.out.drewN nq)
                    have HX8 := hide (HX7.out.drewN nq)
                    have HY8 := hide (HY7.out.drewN nq)
                    clear c0 c1 c2 c3 x0 p1 HP7 HX7 HY7 HPA
                    generalize wr.drewN nq = w8 at *
                    go_wp2_with fail
                    refine (fault_any HLN.out.e5 (.slice A L.length cp) (t.length : Int) L q7 8 z5.1.a w8 HP8.out.r).mono ?_
                    rintro e w9 ⟨rfl, ho, hr⟩
                    have HP9 := hide (HP8.out.only HLN.out ho hr)
                    have HX9 := hide (ho.blk HX8.out (by have := HL10.out; have := HLN.out.e2; have := HLN.out.e3; have := HLN.out.e4; omega))
                    have HY9 := hide (ho.blk HY8.out (by have := HL10.out; have := HL11.out; have := HLN.out.e2; have := HLN.out.e3; have := HLN.out.e4; omega))
                    clear ho hr y1 HP8 HX8 HY8
                    go_wp2_with fail
                    go_roundw
                    case rel => exact ⟨m + 1, faultQ 8 z5.1.a q7, by go_num, ⟨HM1.out, HR.out⟩, HP9.out, HX9.out, HY9.out⟩
                    case measure => have := HM1.out; simp [intOf]; omega
                  · have e6 : (y.k == kk) = false := by rw [beq_eq_false_iff_ne]; exact hyk
                    have HR : Hid (q7 = if (acc.take (m + 1)).any (fun y => decide (y.k = kk)) then faultQ 8 z5.1.a (q8) else (q8)) := by
                      show _ = _
                      rw [HTK.out, decide_eq_false hyk, Bool.or_false]; exact HQ7.out
                    clear hyk
                    generalize y.k = yk at *
                    go_wp2_with fail
                    go_quiet (fail)
                    go_wp2_with fail
                    go_roundw
                    case rel => exact ⟨m + 1, q7, by go_num, ⟨HM1.out, HR.out⟩, HP7.out.drewN _, HX7.out.drewN _, HY7.out.drewN _⟩
                    case measure => have := HM1.out; simp [intOf]; omega
                · obtain rfl : m = acc.length := by omega
                  have k2 : decide ((acc.length : Int) < (acc.length : Int)) = false := by simp
                  rw [List.take_length] at HQ7
                  have HNM : Hid (nameQ acc z5.1 z5.2 = q7) := by
                    show _ = _
                    unfold nameQ
                    rw [HKK.out, HQ8.out, HQ7.out]
                  clear HQ7 HQ8
                  have CB1 : Calls Tryz.prog 50 #[.pointer (some ⟨bR, 0, none⟩), .string ⟨#[98, 101, 102, 111, 114, 101]⟩] wr fun r w' => r = .returned (.string (bs (betwQ (t.length : Int) wBefore q7).1)) ∧ Only wr w' bR ∧ Rdr w2 bR (.slice A L.length cp) (t.length : Int) L (betwQ (t.length : Int) wBefore q7).2 w' := rbetween_any hLie.out.e5 (.slice A L.length cp) (t.length : Int) L HLL.out HLT.out HT.out q7 wBefore wr HP7.out.r
                  obtain ⟨zb, hz⟩ : ∃ z, betwQ (t.length : Int) wBefore q7 = z := ⟨_, rfl⟩
                  have HZzb := hide hz
                  rw [hz] at CB1
                  have HTzb : Hid (zb.1.length ≤ 1000000) := by
                    show _ ≤ _
                    rw [← hz]
                    exact betw_text (fun x hx => HLT.out x (by obtain ⟨_, i, _, e, _⟩ := HP7.out.r; rw [e] at hx; exact List.mem_of_mem_drop hx))
                  clear hz
                  go_wp2_with fail
                  refine CB1.mono ?_
                  rintro e w31 ⟨rfl, ho, hr⟩
                  have HPw31 := hide (HP7.out.only HLN.out ho hr)
                  have HXw31 := hide (ho.blk HX7.out (by have := HL10.out; have := HLN.out.e2; have := HLN.out.e3; have := HLN.out.e4; omega))
                  clear ho hr CB1 HP7 HX7 HY7 HPA p1
                  have fx1 : w31.frozen? ⟨b10, 1, none⟩ = false := HXw31.out.frozen 1
                  have cx1 : w31.cell? ⟨b10, 1, none⟩ = some (.string ⟨#[]⟩) := HXw31.out.cell 1
                  go_upto_region 24 with fail
                  have HPw32 := hide (PQS.far (j := 1) HLN.out HPw31.out HL10.out (.string (bs zb.1)))
                  have HXw32 := hide (HXw31.out.set_ 1 (.string (bs zb.1)))
                  clear fx1 cx1 HPw31 HXw31
                  generalize w31.setCell ⟨b10, 1, none⟩ (.string (bs zb.1)) = w32 at *
                  have CB2 : Calls Tryz.prog 50 #[.pointer (some ⟨bR, 0, none⟩), .string ⟨#[97, 102, 116, 101, 114]⟩] w32 fun r w' => r = .returned (.string (bs (betwQ (t.length : Int) wAfter zb.2).1)) ∧ Only w32 w' bR ∧ Rdr w2 bR (.slice A L.length cp) (t.length : Int) L (betwQ (t.length : Int) wAfter zb.2).2 w' := rbetween_any hLie.out.e5 (.slice A L.length cp) (t.length : Int) L HLL.out HLT.out HT.out zb.2 wAfter w32 HPw32.out.r
                  obtain ⟨za, hz⟩ : ∃ z, betwQ (t.length : Int) wAfter zb.2 = z := ⟨_, rfl⟩
                  have HZza := hide hz
                  rw [hz] at CB2
                  have HTza : Hid (za.1.length ≤ 1000000) := by
                    show _ ≤ _
                    rw [← hz]
                    exact betw_text (fun x hx => HLT.out x (by obtain ⟨_, i, _, e, _⟩ := HPw32.out.r; rw [e] at hx; exact List.mem_of_mem_drop hx))
                  clear hz
                  go_wp2_with fail
                  refine CB2.mono ?_
                  rintro e w33 ⟨rfl, ho, hr⟩
                  have HPw33 := hide (HPw32.out.only HLN.out ho hr)
                  have HXw33 := hide (ho.blk HXw32.out (by have := HL10.out; have := HLN.out.e2; have := HLN.out.e3; have := HLN.out.e4; omega))
                  clear ho hr CB2 HPw32 HXw32 
                  have fx2 : w33.frozen? ⟨b10, 2, none⟩ = false := HXw33.out.frozen 2
                  have cx2 : w33.cell? ⟨b10, 2, none⟩ = some (.string ⟨#[]⟩) := HXw33.out.cell 2
                  go_upto_region 25 with fail
                  have HPw34 := hide (PQS.far (j := 2) HLN.out HPw33.out HL10.out (.string (bs za.1)))
                  have HXw34 := hide (HXw33.out.set_ 2 (.string (bs za.1)))
                  clear fx2 cx2 HPw33 HXw33
                  generalize w33.setCell ⟨b10, 2, none⟩ (.string (bs za.1)) = w34 at *
                  have CT6 : Calls Tryz.prog 46 #[.pointer (some ⟨bR, 0, none⟩), .int .i64 4, .string ⟨#[59]⟩] w34 fun r w' => r = .returned (.agg #[.int .i64 (takeQ (t.length : Int) 4 [59] za.2).1.k, .int .i64 (takeQ (t.length : Int) 4 [59] za.2).1.a, .int .i64 (takeQ (t.length : Int) 4 [59] za.2).1.n, .string (bs (takeQ (t.length : Int) 4 [59] za.2).1.s)]) ∧ Only w34 w' bR ∧ Rdr w2 bR (.slice A L.length cp) (t.length : Int) L (takeQ (t.length : Int) 4 [59] za.2).2 w' := rtake_any hLie.out.e5 (.slice A L.length cp) (t.length : Int) L HLL.out HT.out za.2 4 [59] w34 HPw34.out.r
                  obtain ⟨z6, hz6⟩ : ∃ z, takeQ (t.length : Int) 4 [59] za.2 = z := ⟨_, rfl⟩
                  have HZ6 := hide hz6
                  rw [hz6] at CT6
                  clear hz6
                  go_wp2_with fail
                  refine CT6.mono ?_
                  rintro e w35 ⟨rfl, ho, hr⟩
                  have HP35 := hide (HPw34.out.only HLN.out ho hr)
                  have HX35 := hide (ho.blk HXw34.out (by have := HL10.out; have := HLN.out.e2; have := HLN.out.e3; have := HLN.out.e4; omega))
                  clear ho hr CT6 HPw34 HXw34
                  go_upto_region 26 with fail
                  have HPART : Hid (partQ (t.length : Int) acc q = (⟨kk, zb.1, za.1, nd⟩, z6.2)) := by
                    show _ = _
                    unfold partQ
                    dsimp only
                    rw [HZ5.out, HNM.out, HZzb.out, HZza.out, HZ6.out, HKK.out, HSN.out]
                  obtain ⟨f1, hf1⟩ : ∃ f1, f = f1 + 1 := ⟨f - 1, by have := (HQ0.out H0.out).2; omega⟩
                  have HPS1 : Hid (partsQ (t.length : Int) f1 (acc ++ [⟨kk, zb.1, za.1, nd⟩]) z6.2 = partsQ (t.length : Int) (L.length + 1) [] z3.2) := by
                    show _ = _
                    rw [← HPS.out, hf1, partsQ, if_pos ⟨H0.out, HCC.out⟩, HPART.out]
                  have HQ1 : Hid (z6.2.e = 0 → z6.2.a = 0 ∧ z6.2.r.length < f1) := by
                    intro h
                    have h2 := part_okQ (en := (t.length : Int)) (others := acc) (q := q)
                    rw [HPART.out] at h2
                    have h3 := h2 h
                    have h4 := HQ0.out h3.1
                    refine ⟨h3.2.1.trans h4.1, ?_⟩
                    have h5 := h3.2.2
                    have h6 := h4.2
                    dsimp only at h5
                    omega
                  have HACC1 : Hid (∀ p ∈ acc ++ [⟨kk, zb.1, za.1, nd⟩], p.b.length ≤ 1000000 ∧ p.a.length ≤ 1000000) := by
                    intro p hp
                    rcases List.mem_append.1 hp with h | h
                    · exact HACC.out p h
                    · rw [List.mem_singleton.1 h]; exact ⟨HTzb.out, HTza.out⟩
                  have HFA : Hid ((acc ++ [(⟨kk, zb.1, za.1, nd⟩ : Prt)]).length + f1 = L.length + 1) := by
                    show _ = _
                    rw [List.length_append, List.length_singleton]; omega
                  have HF0 := hide hf1
                  clear hf1 HZ5 HNM HZzb HZza HZ6 HKK HSN HPART
                  obtain ⟨vp9, hB9, hOW, hlim⟩ := HP35.out.s
                  obtain ⟨Ap9, np9, rfl⟩ := own_slice hOW
                  have HB9 := hide hB9
                  have HOW := hide hOW
                  have HLM := hide hlim
                  have p1 : w35.cell? ⟨b9, 1, none⟩ = some (.slice Ap9 acc.length np9) := hB9.cell 1
                  have x0 : w35.cell? ⟨b10, 0, none⟩ = some (.int .i64 kk) := HX35.out.cell 0
                  have x1 : w35.cell? ⟨b10, 1, none⟩ = some (.string (bs zb.1)) := HX35.out.cell 1
                  have x2 : w35.cell? ⟨b10, 2, none⟩ = some (.string (bs za.1)) := HX35.out.cell 2
                  have x3 : w35.cell? ⟨b10, 3, none⟩ = some (.bool nd) := HX35.out.cell 3
                  have HLB : Hid (B ≤ w35.heap.size) := by have := HP35.out.sz; have := HLN.out.e4; show _ ≤ _; omega
                  have HAL : Hid (acc.length ≤ 1000001) := by have := HLL.out; show _ ≤ _; omega
                  clear hB9 hOW hlim
                  obtain ⟨i0, hi0, hz0, hz1, hz2⟩ := info_parts info_part
                  go_wp2_with (at_builtin; refine wpList_append_own _ rfl (.tmp 108) (.tmp 110) _ rfl B 41 i0 (.agg #[.int .i64 0, .string ⟨#[]⟩, .string ⟨#[]⟩, .bool false]) 4 48 Tryz.underlying22 hi0 hz0 hz1 hz2 rfl (by omega) _ acc.length (acc.map ptV).flatten rfl ?c0 ⟨_, 0, none⟩ 1 1 [.int .i64 kk, .string (bs zb.1), .string (bs za.1), .bool nd] rfl rfl ?c1 ?c2 ?c4 ?c5 ?c3 ?_)
                  case c0 => exact own_to' HOW.out (below_one _ _)
                  case c1 => exact row_new rfl
                  case c2 =>
                    intro u hu
                    simp only [List.mem_cons, List.not_mem_nil, or_false] at hu
                    rcases hu with rfl | rfl | rfl | rfl <;> rfl
                  case c4 => have := HAL.out; simp only [maxLen]; omega
                  case c5 => omega
                  case c3 => have := HLB.out; simp; omega
                  intro v' w6 hown6 hgr6 _
                  obtain ⟨A6, c6, rfl⟩ := own_slice hown6
                  have HP6 := hide (PQS.app HLN.out HP35.out HB9.out HOW.out (below_one _ _) hgr6 (p := ⟨kk, zb.1, za.1, nd⟩) hown6)
                  have HB6 := hide (blk_grown hgr6 (HB9.out.to (below_one _ _)) (Ne.symm (own_ge HOW.out HLN.out.e3)))
                  have HN6 : Hid (B ≤ w6.heap.size) := by have h1 := hgr6.size; have := HLB.out; show _ ≤ _; simp at h1; omega
                  have HN1 : Hid ((w6.setCell ⟨b9, 1, none⟩ (.slice A6 (acc.length + 1) c6)).cell? ⟨b9, 1, none⟩ = some (.slice A6 (acc.length + 1) c6)) := ((HB6.out.set_ 1 (.slice A6 (acc.length + 1) c6)).cell 1).trans rfl
                  have fb9 := HB6.out.frozen 1
                  have cb9 : w6.cell? ⟨b9, 1, none⟩ = some (.slice Ap9 acc.length np9) := HB6.out.cell 1
                  clear hown6 hgr6 p1 x0 x1 x2 x3 HP35 HX35 HB9 HOW HLM
                  go_wp2_with fail
                  clear fb9 cb9
                  generalize w6.setCell ⟨b9, 1, none⟩ (.slice A6 (acc.length + 1) c6) = w9 at *
                  go_roundw
                  case rel => exact ⟨f1, acc ++ [⟨kk, zb.1, za.1, nd⟩], z6.2, w6.heap.size, ⟨HN6.out, HP6.out.sz, HFA.out, HQ1.out, HPS1.out, HACC1.out⟩, HP6.out⟩
                  case measure =>
                    have a1 := HN1.out
                    have a2 := HM0.out
                    have a3 := HF0.out
                    simp only [a1, a2]
                    omega
        | false =>
          have HXP : Hid (partsQ (t.length : Int) (L.length + 1) [] z3.2 = (acc, q)) := HPS.out.symm.trans (hb2 rfl)
          clear hb1 hb2
          go_wp2_with fail
          have CT4 : Calls Tryz.prog 46 #[.pointer (some ⟨bR, 0, none⟩), .int .i64 4, .string ⟨#[125]⟩] w9 fun r w' => r = .returned (.agg #[.int .i64 (takeQ (t.length : Int) 4 [125] q).1.k, .int .i64 (takeQ (t.length : Int) 4 [125] q).1.a, .int .i64 (takeQ (t.length : Int) 4 [125] q).1.n, .string (bs (takeQ (t.length : Int) 4 [125] q).1.s)]) ∧ Only w9 w' bR ∧ Rdr w2 bR (.slice A L.length cp) (t.length : Int) L (takeQ (t.length : Int) 4 [125] q).2 w' := rtake_any hLie.out.e5 (.slice A L.length cp) (t.length : Int) L HLL.out HT.out q 4 [125] w9 HP9.out.r
          obtain ⟨z4, hz4⟩ : ∃ z, takeQ (t.length : Int) 4 [125] q = z := ⟨_, rfl⟩
          have HZ4' := hide hz4
          rw [hz4] at CT4
          clear hz4
          refine CT4.mono ?_
          rintro e w10 ⟨rfl, ho, hr⟩
          have HP10 := hide (HP9.out.only HLN.out ho hr)
          clear ho hr CT4 HP9
          go_upto_region 28 with fail
          have HP11 := hide (HP10.out.to (below_one w10 (.cells #[.int .i64 z4.1.k, .int .i64 z4.1.a, .int .i64 z4.1.n, .string (bs z4.1.s)] 50)))
          have HY11 := hide (Blk.new w10 50 #[.int .i64 z4.1.k, .int .i64 z4.1.a, .int .i64 z4.1.n, .string (bs z4.1.s)])
          clear HP10
          generalize w10.alloc (.cells #[.int .i64 z4.1.k, .int .i64 z4.1.a, .int .i64 z4.1.n, .string (bs z4.1.s)] 50) = w11 at *
          generalize w10.heap.size = b13 at *
          obtain ⟨vp0, hB9, hOW, hlim⟩ := HP11.out.s
          have CV := rValid23_any z2.1.s acc (by have := HL1.out; omega) (by have := HCL.out; omega) HACC.out vp0 w11 hOW.parts
          have p0 : w11.cell? ⟨b9, 0, none⟩ = some (.string (bs z2.1.s)) := hB9.cell 0
          have p1 : w11.cell? ⟨b9, 1, none⟩ = some vp0 := hB9.cell 1
          clear hB9 hOW hlim
          go_wp2_with fail
          refine CV.mono ?_
          rintro e w12 ⟨rfl, hb⟩
          have HP12 := hide (HP11.out.to hb)
          have y1 : w12.cell? ⟨b13, 1, none⟩ = some (.int .i64 z4.1.a) := (HY11.out.to hb).cell 1
          clear hb CV p0 p1 HP11 HY11
          have HEE : Hid (parseQ isNm t = finQ z2.1.s acc (endQ isNm z2.1.s acc z4)) := by show _ = _; rw [HVV.out, HXP.out, ← HZ4'.out]
          cases hv : validB isNm ⟨z2.1.s, acc⟩ with
          | true =>
            have HEND : Hid (parseQ isNm t = finQ z2.1.s acc (match z4.2.r with | [] => z4.2 | t :: _ => faultQ 5 t.a z4.2)) := by
              show _ = _
              rw [HEE.out]; unfold endQ; rw [hv]; rfl
            clear hv
            go_upto_region 30 with fail
            clear y1 HEE
            obtain ⟨hbel, i5, hi5, hr5, hBR⟩ := HP12.out.r
            have HR5 := hide hr5
            have b1 : w12.cell? ⟨bR, 1, none⟩ = some (.int .i64 (i5 : Int)) := hBR.cell 1
            clear hr5 hBR
            by_cases hil : i5 < L.length
            · have e7 : decide ((i5 : Int) < (L.length : Int)) = true := decide_eq_true (by omega)
              obtain ⟨tk, htk⟩ : ∃ x, L[i5]? = some x := ⟨_, List.getElem?_eq_getElem hil⟩
              obtain ⟨ad, cp', ea, _, hab, c0, c1, c2, c3⟩ := (HT.out.to hbel).at9 htk
              injection ea with ea _ ec
              subst ec
              obtain rfl := ea
              have k0 : (0 : Int) ≤ (i5 : Int) := by omega
              have k1 : (i5 : Int) < (L.length : Int) := by omega
              have HFIN : Hid (parseQ isNm t = finQ z2.1.s acc (faultQ 5 tk.a (z4.2))) := by
                show _ = _
                rw [HEND.out, HR5.out, drop_hd htk]
              clear htk hab hbel
              go_wp2_with fail
              refine (fault_any HLN.out.e5 (.slice (some ad) L.length cp) (t.length : Int) L (z4.2) 5 tk.a w12 HP12.out.r).mono ?_
              rintro e w15 ⟨rfl, ho, hr⟩
              have HP15 := hide (HP12.out.only HLN.out ho hr)
              clear ho hr b1 c0 c1 c2 c3 k0 k1 e7 HEND HP12
              go_upto_region 32 with fail
              obtain ⟨vp, hB9, hOW, hlim⟩ := HP15.out.s
              obtain ⟨hbel, i6, hi6, hr6, hBR⟩ := HP15.out.r
              obtain ⟨Ap2, np2, rfl⟩ := own_slice hOW
              have HB9 := hide hB9
              have HOW := hide hOW
              have HBL := hide hbel
              have HZ9 := hide HP15.out.z
              have p0 : w15.cell? ⟨b9, 0, none⟩ = some (.string (bs z2.1.s)) := hB9.cell 0
              have p1 : w15.cell? ⟨b9, 1, none⟩ = some (.slice Ap2 acc.length np2) := hB9.cell 1
              have b3 : w15.cell? ⟨bR, 3, none⟩ = some (.int .i64 (faultQ 5 tk.a (z4.2)).e) := hBR.cell 3
              have b4 : w15.cell? ⟨bR, 4, none⟩ = some (.int .i64 (faultQ 5 tk.a (z4.2)).a) := hBR.cell 4
              have x0 : w15.cell? ⟨b2, 0, none⟩ = some (.string ⟨#[]⟩) := HP15.out.z.cell 0
              have x1 : w15.cell? ⟨b2, 1, none⟩ = some (.slice none 0 0) := HP15.out.z.cell 1
              have fx : ∀ j, w15.frozen? ⟨b2, j, none⟩ = false := fun j => HZ9.out.frozen j
              clear hB9 hOW hlim hbel hi6 hr6 hBR
              by_cases hqe : (faultQ 5 tk.a (z4.2)).e = 0
              · have e8 : ((faultQ 5 tk.a (z4.2)).e != 0) = false := by rw [hqe]; rfl
                have HFF : Hid (parseQ isNm t = (⟨z2.1.s, acc⟩, 0, 0)) := by show _ = _; rw [HFIN.out]; unfold finQ; rw [if_neg (fun h => h hqe)]
                clear hqe
                go_wp2_with fail
                have hbk := (HZ9.out.set_ 0 (.string (bs z2.1.s))).set_ 1 (.slice Ap2 acc.length np2)
                refine bodyPost_ret (results_c2 (p := 2) (u := 3) (v := 4) rfl _ _ b2 24 _ _ rfl hbk Tryz.underlying24 rfl (by kernel_rfl)) rfl ⟨.slice Ap2 acc.length np2, ?_, ?_, ?_⟩
                · rw [← HPQ.out, HFF.out]; rfl
                · rw [← HPQ.out, HFF.out]
                  have ho : Only w15 ((w15.setCell ⟨b2, 0, none⟩ (.string (bs z2.1.s))).setCell ⟨b2, 1, none⟩ (.slice Ap2 acc.length np2)) b2 := ((Only.refl w15 b2).set_ 0 _).set_ 1 _
                  have hk : OwnP ((w15.setCell ⟨b2, 0, none⟩ (.string (bs z2.1.s))).setCell ⟨b2, 1, none⟩ (.slice Ap2 acc.length np2)) B (.slice Ap2 acc.length np2) acc := HOW.out.kept ho (.inr (fun e => by
                    have h1 := (HOW.out.lt b2 e).1
                    have h2 := HLN.out.e1
                    have h3 := HLN.out.e2
                    have h4 := HLN.out.e3
                    omega))
                  exact hk.parts
                · rw [HBE.out]
                  exact ((below_to HB2.out (Nat.le_of_eq HBE.out.symm) HBL.out).setCell (p := ⟨b2, 0, none⟩) (Nat.le_refl _) _).setCell (p := ⟨b2, 1, none⟩) (Nat.le_refl _) _
              · have e8 : ((faultQ 5 tk.a (z4.2)).e != 0) = true := by rw [bne_iff_ne]; exact hqe
                have HFF : Hid (parseQ isNm t = (zSch, (faultQ 5 tk.a (z4.2)).e, (faultQ 5 tk.a (z4.2)).a)) := by show _ = _; rw [HFIN.out]; unfold finQ; rw [if_pos hqe]
                clear hqe
                go_wp2_with fail
                go_region
                all_goals go_wp2_with fail
                have hbk := ((HZ9.out.set_ 0 (.string ⟨#[]⟩)).set_ 1 (.slice none 0 0)).drew
                refine bodyPost_ret (results_c2 (p := 2) (u := 3) (v := 4) rfl _ _ b2 24 _ _ rfl hbk Tryz.underlying24 rfl (by kernel_rfl)) rfl ⟨.slice none 0 0, ?_, ?_, ?_⟩
                · rw [← HPQ.out, HFF.out]; rfl
                · rw [← HPQ.out, HFF.out]
                  exact RowsAt.nil _ _
                · rw [HBE.out]
                  exact (((below_to HB2.out (Nat.le_of_eq HBE.out.symm) HBL.out).setCell (p := ⟨b2, 0, none⟩) (Nat.le_refl _) _).setCell (p := ⟨b2, 1, none⟩) (Nat.le_refl _) _).drew
            · have e7 : decide ((i5 : Int) < (L.length : Int)) = false := decide_eq_false (by omega)
              have HFIN : Hid (parseQ isNm t = finQ z2.1.s acc (z4.2)) := by
                show _ = _
                rw [HEND.out, HR5.out, List.drop_eq_nil_of_le (by omega)]
              clear hbel
              go_upto_region 32 with fail
              clear e7 b1
              obtain ⟨vp, hB9, hOW, hlim⟩ := HP12.out.s
              obtain ⟨hbel, i6, hi6, hr6, hBR⟩ := HP12.out.r
              obtain ⟨Ap2, np2, rfl⟩ := own_slice hOW
              have HB9 := hide hB9
              have HOW := hide hOW
              have HBL := hide hbel
              have HZ9 := hide HP12.out.z
              have p0 : w12.cell? ⟨b9, 0, none⟩ = some (.string (bs z2.1.s)) := hB9.cell 0
              have p1 : w12.cell? ⟨b9, 1, none⟩ = some (.slice Ap2 acc.length np2) := hB9.cell 1
              have b3 : w12.cell? ⟨bR, 3, none⟩ = some (.int .i64 (z4.2).e) := hBR.cell 3
              have b4 : w12.cell? ⟨bR, 4, none⟩ = some (.int .i64 (z4.2).a) := hBR.cell 4
              have x0 : w12.cell? ⟨b2, 0, none⟩ = some (.string ⟨#[]⟩) := HP12.out.z.cell 0
              have x1 : w12.cell? ⟨b2, 1, none⟩ = some (.slice none 0 0) := HP12.out.z.cell 1
              have fx : ∀ j, w12.frozen? ⟨b2, j, none⟩ = false := fun j => HZ9.out.frozen j
              clear hB9 hOW hlim hbel hi6 hr6 hBR
              by_cases hqe : (z4.2).e = 0
              · have e8 : ((z4.2).e != 0) = false := by rw [hqe]; rfl
                have HFF : Hid (parseQ isNm t = (⟨z2.1.s, acc⟩, 0, 0)) := by show _ = _; rw [HFIN.out]; unfold finQ; rw [if_neg (fun h => h hqe)]
                clear hqe
                go_wp2_with fail
                have hbk := (HZ9.out.set_ 0 (.string (bs z2.1.s))).set_ 1 (.slice Ap2 acc.length np2)
                refine bodyPost_ret (results_c2 (p := 2) (u := 3) (v := 4) rfl _ _ b2 24 _ _ rfl hbk Tryz.underlying24 rfl (by kernel_rfl)) rfl ⟨.slice Ap2 acc.length np2, ?_, ?_, ?_⟩
                · rw [← HPQ.out, HFF.out]; rfl
                · rw [← HPQ.out, HFF.out]
                  have ho : Only w12 ((w12.setCell ⟨b2, 0, none⟩ (.string (bs z2.1.s))).setCell ⟨b2, 1, none⟩ (.slice Ap2 acc.length np2)) b2 := ((Only.refl w12 b2).set_ 0 _).set_ 1 _
                  have hk : OwnP ((w12.setCell ⟨b2, 0, none⟩ (.string (bs z2.1.s))).setCell ⟨b2, 1, none⟩ (.slice Ap2 acc.length np2)) B (.slice Ap2 acc.length np2) acc := HOW.out.kept ho (.inr (fun e => by
                    have h1 := (HOW.out.lt b2 e).1
                    have h2 := HLN.out.e1
                    have h3 := HLN.out.e2
                    have h4 := HLN.out.e3
                    omega))
                  exact hk.parts
                · rw [HBE.out]
                  exact ((below_to HB2.out (Nat.le_of_eq HBE.out.symm) HBL.out).setCell (p := ⟨b2, 0, none⟩) (Nat.le_refl _) _).setCell (p := ⟨b2, 1, none⟩) (Nat.le_refl _) _
              · have e8 : ((z4.2).e != 0) = true := by rw [bne_iff_ne]; exact hqe
                have HFF : Hid (parseQ isNm t = (zSch, (z4.2).e, (z4.2).a)) := by show _ = _; rw [HFIN.out]; unfold finQ; rw [if_pos hqe]
                clear hqe
                go_wp2_with fail
                go_region
                all_goals go_wp2_with fail
                have hbk := ((HZ9.out.set_ 0 (.string ⟨#[]⟩)).set_ 1 (.slice none 0 0)).drew
                refine bodyPost_ret (results_c2 (p := 2) (u := 3) (v := 4) rfl _ _ b2 24 _ _ rfl hbk Tryz.underlying24 rfl (by kernel_rfl)) rfl ⟨.slice none 0 0, ?_, ?_, ?_⟩
                · rw [← HPQ.out, HFF.out]; rfl
                · rw [← HPQ.out, HFF.out]
                  exact RowsAt.nil _ _
                · rw [HBE.out]
                  exact (((below_to HB2.out (Nat.le_of_eq HBE.out.symm) HBL.out).setCell (p := ⟨b2, 0, none⟩) (Nat.le_refl _) _).setCell (p := ⟨b2, 1, none⟩) (Nat.le_refl _) _).drew
          | false =>
            have HEND : Hid (parseQ isNm t = finQ z2.1.s acc (match (faultQ 1 z4.1.a z4.2).r with | [] => faultQ 1 z4.1.a z4.2 | t :: _ => faultQ 5 t.a (faultQ 1 z4.1.a z4.2))) := by
              show _ = _
              rw [HEE.out]; unfold endQ; rw [hv]; rfl
            clear hv
            go_wp2_with fail
            refine (fault_any HLN.out.e5 (.slice A L.length cp) (t.length : Int) L z4.2 1 z4.1.a w12 HP12.out.r).mono ?_
            rintro e w13 ⟨rfl, ho, hr⟩
            have HP13 := hide (HP12.out.only HLN.out ho hr)
            clear ho hr HP12 y1 HEE
            go_upto_region 30 with fail
            obtain ⟨hbel, i5, hi5, hr5, hBR⟩ := HP13.out.r
            have HR5 := hide hr5
            have b1 : w13.cell? ⟨bR, 1, none⟩ = some (.int .i64 (i5 : Int)) := hBR.cell 1
            clear hr5 hBR
            by_cases hil : i5 < L.length
            · have e7 : decide ((i5 : Int) < (L.length : Int)) = true := decide_eq_true (by omega)
              obtain ⟨tk, htk⟩ : ∃ x, L[i5]? = some x := ⟨_, List.getElem?_eq_getElem hil⟩
              obtain ⟨ad, cp', ea, _, hab, c0, c1, c2, c3⟩ := (HT.out.to hbel).at9 htk
              injection ea with ea _ ec
              subst ec
              obtain rfl := ea
              have k0 : (0 : Int) ≤ (i5 : Int) := by omega
              have k1 : (i5 : Int) < (L.length : Int) := by omega
              have HFIN : Hid (parseQ isNm t = finQ z2.1.s acc (faultQ 5 tk.a (faultQ 1 z4.1.a z4.2))) := by
                show _ = _
                rw [HEND.out, HR5.out, drop_hd htk]
              clear htk hab hbel
              go_wp2_with fail
              refine (fault_any HLN.out.e5 (.slice (some ad) L.length cp) (t.length : Int) L (faultQ 1 z4.1.a z4.2) 5 tk.a w13 HP13.out.r).mono ?_
              rintro e w15 ⟨rfl, ho, hr⟩
              have HP15 := hide (HP13.out.only HLN.out ho hr)
              clear ho hr b1 c0 c1 c2 c3 k0 k1 e7 HEND HP13
              go_upto_region 32 with fail
              obtain ⟨vp, hB9, hOW, hlim⟩ := HP15.out.s
              obtain ⟨hbel, i6, hi6, hr6, hBR⟩ := HP15.out.r
              obtain ⟨Ap2, np2, rfl⟩ := own_slice hOW
              have HB9 := hide hB9
              have HOW := hide hOW
              have HBL := hide hbel
              have HZ9 := hide HP15.out.z
              have p0 : w15.cell? ⟨b9, 0, none⟩ = some (.string (bs z2.1.s)) := hB9.cell 0
              have p1 : w15.cell? ⟨b9, 1, none⟩ = some (.slice Ap2 acc.length np2) := hB9.cell 1
              have b3 : w15.cell? ⟨bR, 3, none⟩ = some (.int .i64 (faultQ 5 tk.a (faultQ 1 z4.1.a z4.2)).e) := hBR.cell 3
              have b4 : w15.cell? ⟨bR, 4, none⟩ = some (.int .i64 (faultQ 5 tk.a (faultQ 1 z4.1.a z4.2)).a) := hBR.cell 4
              have x0 : w15.cell? ⟨b2, 0, none⟩ = some (.string ⟨#[]⟩) := HP15.out.z.cell 0
              have x1 : w15.cell? ⟨b2, 1, none⟩ = some (.slice none 0 0) := HP15.out.z.cell 1
              have fx : ∀ j, w15.frozen? ⟨b2, j, none⟩ = false := fun j => HZ9.out.frozen j
              clear hB9 hOW hlim hbel hi6 hr6 hBR
              by_cases hqe : (faultQ 5 tk.a (faultQ 1 z4.1.a z4.2)).e = 0
              · have e8 : ((faultQ 5 tk.a (faultQ 1 z4.1.a z4.2)).e != 0) = false := by rw [hqe]; rfl
                have HFF : Hid (parseQ isNm t = (⟨z2.1.s, acc⟩, 0, 0)) := by show _ = _; rw [HFIN.out]; unfold finQ; rw [if_neg (fun h => h hqe)]
                clear hqe
                go_wp2_with fail
                have hbk := (HZ9.out.set_ 0 (.string (bs z2.1.s))).set_ 1 (.slice Ap2 acc.length np2)
                refine bodyPost_ret (results_c2 (p := 2) (u := 3) (v := 4) rfl _ _ b2 24 _ _ rfl hbk Tryz.underlying24 rfl (by kernel_rfl)) rfl ⟨.slice Ap2 acc.length np2, ?_, ?_, ?_⟩
                · rw [← HPQ.out, HFF.out]; rfl
                · rw [← HPQ.out, HFF.out]
                  have ho : Only w15 ((w15.setCell ⟨b2, 0, none⟩ (.string (bs z2.1.s))).setCell ⟨b2, 1, none⟩ (.slice Ap2 acc.length np2)) b2 := ((Only.refl w15 b2).set_ 0 _).set_ 1 _
                  have hk : OwnP ((w15.setCell ⟨b2, 0, none⟩ (.string (bs z2.1.s))).setCell ⟨b2, 1, none⟩ (.slice Ap2 acc.length np2)) B (.slice Ap2 acc.length np2) acc := HOW.out.kept ho (.inr (fun e => by
                    have h1 := (HOW.out.lt b2 e).1
                    have h2 := HLN.out.e1
                    have h3 := HLN.out.e2
                    have h4 := HLN.out.e3
                    omega))
                  exact hk.parts
                · rw [HBE.out]
                  exact ((below_to HB2.out (Nat.le_of_eq HBE.out.symm) HBL.out).setCell (p := ⟨b2, 0, none⟩) (Nat.le_refl _) _).setCell (p := ⟨b2, 1, none⟩) (Nat.le_refl _) _
              · have e8 : ((faultQ 5 tk.a (faultQ 1 z4.1.a z4.2)).e != 0) = true := by rw [bne_iff_ne]; exact hqe
                have HFF : Hid (parseQ isNm t = (zSch, (faultQ 5 tk.a (faultQ 1 z4.1.a z4.2)).e, (faultQ 5 tk.a (faultQ 1 z4.1.a z4.2)).a)) := by show _ = _; rw [HFIN.out]; unfold finQ; rw [if_pos hqe]
                clear hqe
                go_wp2_with fail
                go_region
                all_goals go_wp2_with fail
                have hbk := ((HZ9.out.set_ 0 (.string ⟨#[]⟩)).set_ 1 (.slice none 0 0)).drew
                refine bodyPost_ret (results_c2 (p := 2) (u := 3) (v := 4) rfl _ _ b2 24 _ _ rfl hbk Tryz.underlying24 rfl (by kernel_rfl)) rfl ⟨.slice none 0 0, ?_, ?_, ?_⟩
                · rw [← HPQ.out, HFF.out]; rfl
                · rw [← HPQ.out, HFF.out]
                  exact RowsAt.nil _ _
                · rw [HBE.out]
                  exact (((below_to HB2.out (Nat.le_of_eq HBE.out.symm) HBL.out).setCell (p := ⟨b2, 0, none⟩) (Nat.le_refl _) _).setCell (p := ⟨b2, 1, none⟩) (Nat.le_refl _) _).drew
            · have e7 : decide ((i5 : Int) < (L.length : Int)) = false := decide_eq_false (by omega)
              have HFIN : Hid (parseQ isNm t = finQ z2.1.s acc (faultQ 1 z4.1.a z4.2)) := by
                show _ = _
                rw [HEND.out, HR5.out, List.drop_eq_nil_of_le (by omega)]
              clear hbel
              go_upto_region 32 with fail
              clear e7 b1
              obtain ⟨vp, hB9, hOW, hlim⟩ := HP13.out.s
              obtain ⟨hbel, i6, hi6, hr6, hBR⟩ := HP13.out.r
              obtain ⟨Ap2, np2, rfl⟩ := own_slice hOW
              have HB9 := hide hB9
              have HOW := hide hOW
              have HBL := hide hbel
              have HZ9 := hide HP13.out.z
              have p0 : w13.cell? ⟨b9, 0, none⟩ = some (.string (bs z2.1.s)) := hB9.cell 0
              have p1 : w13.cell? ⟨b9, 1, none⟩ = some (.slice Ap2 acc.length np2) := hB9.cell 1
              have b3 : w13.cell? ⟨bR, 3, none⟩ = some (.int .i64 (faultQ 1 z4.1.a z4.2).e) := hBR.cell 3
              have b4 : w13.cell? ⟨bR, 4, none⟩ = some (.int .i64 (faultQ 1 z4.1.a z4.2).a) := hBR.cell 4
              have x0 : w13.cell? ⟨b2, 0, none⟩ = some (.string ⟨#[]⟩) := HP13.out.z.cell 0
              have x1 : w13.cell? ⟨b2, 1, none⟩ = some (.slice none 0 0) := HP13.out.z.cell 1
              have fx : ∀ j, w13.frozen? ⟨b2, j, none⟩ = false := fun j => HZ9.out.frozen j
              clear hB9 hOW hlim hbel hi6 hr6 hBR
              by_cases hqe : (faultQ 1 z4.1.a z4.2).e = 0
              · have e8 : ((faultQ 1 z4.1.a z4.2).e != 0) = false := by rw [hqe]; rfl
                have HFF : Hid (parseQ isNm t = (⟨z2.1.s, acc⟩, 0, 0)) := by show _ = _; rw [HFIN.out]; unfold finQ; rw [if_neg (fun h => h hqe)]
                clear hqe
                go_wp2_with fail
                have hbk := (HZ9.out.set_ 0 (.string (bs z2.1.s))).set_ 1 (.slice Ap2 acc.length np2)
                refine bodyPost_ret (results_c2 (p := 2) (u := 3) (v := 4) rfl _ _ b2 24 _ _ rfl hbk Tryz.underlying24 rfl (by kernel_rfl)) rfl ⟨.slice Ap2 acc.length np2, ?_, ?_, ?_⟩
                · rw [← HPQ.out, HFF.out]; rfl
                · rw [← HPQ.out, HFF.out]
                  have ho : Only w13 ((w13.setCell ⟨b2, 0, none⟩ (.string (bs z2.1.s))).setCell ⟨b2, 1, none⟩ (.slice Ap2 acc.length np2)) b2 := ((Only.refl w13 b2).set_ 0 _).set_ 1 _
                  have hk : OwnP ((w13.setCell ⟨b2, 0, none⟩ (.string (bs z2.1.s))).setCell ⟨b2, 1, none⟩ (.slice Ap2 acc.length np2)) B (.slice Ap2 acc.length np2) acc := HOW.out.kept ho (.inr (fun e => by
                    have h1 := (HOW.out.lt b2 e).1
                    have h2 := HLN.out.e1
                    have h3 := HLN.out.e2
                    have h4 := HLN.out.e3
                    omega))
                  exact hk.parts
                · rw [HBE.out]
                  exact ((below_to HB2.out (Nat.le_of_eq HBE.out.symm) HBL.out).setCell (p := ⟨b2, 0, none⟩) (Nat.le_refl _) _).setCell (p := ⟨b2, 1, none⟩) (Nat.le_refl _) _
              · have e8 : ((faultQ 1 z4.1.a z4.2).e != 0) = true := by rw [bne_iff_ne]; exact hqe
                have HFF : Hid (parseQ isNm t = (zSch, (faultQ 1 z4.1.a z4.2).e, (faultQ 1 z4.1.a z4.2).a)) := by show _ = _; rw [HFIN.out]; unfold finQ; rw [if_pos hqe]
                clear hqe
                go_wp2_with fail
                go_region
                all_goals go_wp2_with fail
                have hbk := ((HZ9.out.set_ 0 (.string ⟨#[]⟩)).set_ 1 (.slice none 0 0)).drew
                refine bodyPost_ret (results_c2 (p := 2) (u := 3) (v := 4) rfl _ _ b2 24 _ _ rfl hbk Tryz.underlying24 rfl (by kernel_rfl)) rfl ⟨.slice none 0 0, ?_, ?_, ?_⟩
                · rw [← HPQ.out, HFF.out]; rfl
                · rw [← HPQ.out, HFF.out]
                  exact RowsAt.nil _ _
                · rw [HBE.out]
                  exact (((below_to HB2.out (Nat.le_of_eq HBE.out.symm) HBL.out).setCell (p := ⟨b2, 0, none⟩) (Nat.le_refl _) _).setCell (p := ⟨b2, 1, none⟩) (Nat.le_refl _) _).drew
  · have e1 : ((lexP t).2.1 != 0) = true := by rw [bne_iff_ne]; exact hE
    have HV : Hid (parseQ isNm t = (zSch, (lexP t).2.1, (lexP t).2.2)) := by show _ = _; unfold parseQ; rw [if_pos hE]
    clear hE
    generalize (lexP t).2.1 = E at *
    generalize (lexP t).2.2 = Ea at *
    go_wp2_with fail
    have hbk := (HZ2.out.set_ 0 (.string ⟨#[]⟩)).set_ 1 (.slice none 0 0)
    refine bodyPost_ret (results_c2 (p := 2) (u := 3) (v := 4) rfl _ _ w.heap.size 24 _ _ rfl hbk Tryz.underlying24 rfl (by kernel_rfl)) rfl ⟨.slice none 0 0, ?_, ?_, ?_⟩
    · rw [← HPQ.out, HV.out]; rfl
    · rw [← HPQ.out, HV.out]
      exact RowsAt.nil _ _
    · exact (HB2.out.setCell (p := ⟨w.heap.size, 0, none⟩) (Nat.le_refl _) _).setCell (p := ⟨w.heap.size, 1, none⟩) (Nat.le_refl _) _
end Go.Proofs.YtdcafoekbnacnaaGreatDoor

/- The plain side of the reference of layer 22. -/
set_option linter.unusedVariables false
set_option linter.unusedSimpArgs false
namespace Go.Proofs.YtdcafoekbnacnaaGreatDoor
open Go

/-! fractions -/
def comB (a b : Nat) (k : Nat) : Bool := (List.range k).any fun d => decide (2 ≤ d) && (decide (a % d = 0) && decide (b % d = 0))
def commonB (a b : Nat) : Bool := comB a b (a + 1)
theorem comB_succ (a b k : Nat) : comB a b (k + 1) = (comB a b k || (decide (2 ≤ k) && (decide (a % k = 0) && decide (b % k = 0)))) := by
  unfold comB
  rw [List.range_succ, List.any_append]
  simp
theorem comB_two (a b : Nat) : comB a b 2 = false := rfl
theorem comB_mono {a b k m : Nat} (h : comB a b k = true) (hk : k ≤ m) : comB a b m = true := by
  unfold comB at *
  rw [List.any_eq_true] at *
  obtain ⟨d, hd, h⟩ := h
  exact ⟨d, List.mem_range.2 (by have := List.mem_range.1 hd; omega), h⟩
def fracB (a b : Int) : Bool := (decide (a = 0) && decide (b = 0)) || (decide (1 ≤ a) && (decide (a < b) && (decide (b ≤ 9) && !commonB a.toNat b.toNat)))
theorem frac_fin : ∀ a : Nat, a < 10 → ∀ b : Nat, b < 10 → decide (0 ≤ place ((a : Int), (b : Int))) = fracB a b := by decide +kernel
theorem frac_place (a b : Int) : decide (0 ≤ place (a, b)) = fracB a b := by
  by_cases h : 0 ≤ a ∧ a ≤ 9 ∧ 0 ≤ b ∧ b ≤ 9
  · have := frac_fin a.toNat (by omega) b.toNat (by omega)
    rwa [show ((a.toNat : Nat) : Int) = a by omega, show ((b.toNat : Nat) : Int) = b by omega] at this
  · have h1 : decide (0 ≤ place (a, b)) = false := decide_eq_false fun hp => by
      have := place_den hp
      simp only at this
      omega
    have h2 : fracB a b = false := by
      rw [← Bool.not_eq_true]
      intro hf
      unfold fracB at hf
      simp only [Bool.or_eq_true, Bool.and_eq_true, decide_eq_true_eq] at hf
      omega
    rw [h1, h2]
def fracLtB (p q : Int × Int) : Bool := if p.2 = 0 ∨ q.2 = 0 then decide (p.2 = 0) && decide (0 < q.2) else decide (p.1 * q.2 < q.1 * p.2)
theorem fracLt_fin : ∀ i : Nat, i < 28 → ∀ j : Nat, j < 28 → fracLtB (partL.getD i (0, 0)) (partL.getD j (0, 0)) = decide (i < j) := by decide +kernel
theorem fracLt_place {p q : Int × Int} (hp : 0 ≤ place p) (hq : 0 ≤ place q) : fracLtB p q = decide (place p < place q) := by
  have h1 := place_lt p
  have h2 := place_lt q
  have h := fracLt_fin (place p).toNat (by omega) (place q).toNat (by omega)
  rw [List.getD_eq_getElem?_getD, List.getD_eq_getElem?_getD, place_some hp, place_some hq] at h
  simp only [Option.getD_some] at h
  rw [h]
  exact decide_eq_decide.2 (by omega)
/-! the order -/
def lessB (a b : HN) : Bool := if a.n ≠ b.n then decide (a.n < b.n) else if rank a.l ≠ rank b.l then decide (rank a.l < rank b.l) else fracLtB (a.num, a.den) (b.num, b.den)
theorem less_key {a b : HN} (ha : a.valid = true) (hb : b.valid = true) : lessB a b = a.lt b := by
  obtain ⟨a1, a2, a3, a4⟩ := (valid_iff a).1 ha
  obtain ⟨b1, b2, b3, b4⟩ := (valid_iff b).1 hb
  have ra := rank_rng a3
  have rb := rank_rng b3
  have pa := place_lt (a.num, a.den)
  have pb := place_lt (b.num, b.den)
  unfold lessB HN.lt
  rw [ha, hb, fracLt_place a4 b4]
  unfold HN.key
  generalize place (a.num, a.den) = x at *
  generalize place (b.num, b.den) = y at *
  generalize rank a.l = u at *
  generalize rank b.l = v at *
  simp only [Bool.true_and]
  by_cases h1 : a.n = b.n
  · rw [if_neg (by simpa using h1)]
    by_cases h2 : u = v
    · rw [if_neg (by simpa using h2)]
      exact decide_eq_decide.2 (by omega)
    · rw [if_pos h2]
      exact decide_eq_decide.2 (by omega)
  · rw [if_pos h1]
    exact decide_eq_decide.2 (by omega)
theorem lt_irr {a b : HN} (h : a.lt b = true) : b.lt a = false := by
  rw [lt_iff] at h
  rw [← Bool.not_eq_true, lt_iff]
  omega
/-! texts -/
def dgB (c : UInt8) : Bool := decide (48 ≤ c.toNat) && decide (c.toNat ≤ 57)
theorem dgB_iff (c : UInt8) : dgB c = true ↔ isDg c := by unfold dgB isDg; simp
def restR (r : List UInt8) : List UInt8 × List UInt8 := match r with
  | [] => ([], [])
  | c :: r => if c = 32 then ([], c :: r) else ([c], r)
def tailR (r : List UInt8) : Int × Int := match r with
  | [_, x, _, y] => ((x.toNat : Int) - 48, (y.toNat : Int) - 48)
  | _ => (0, 0)
def candR (t : List UInt8) : HN := ⟨val 0 (t.takeWhile dgB), (restR (t.dropWhile dgB)).1, (tailR (restR (t.dropWhile dgB)).2).1, (tailR (restR (t.dropWhile dgB)).2).2⟩
theorem takeW_app : ∀ {l r : List UInt8}, (∀ c ∈ l, dgB c = true) → (∀ c r', r = c :: r' → dgB c = false) → (l ++ r).takeWhile dgB = l ∧ (l ++ r).dropWhile dgB = r
  | [], r, _, h => by
    cases r with
    | nil => exact ⟨rfl, rfl⟩
    | cons c r => simp [h c r rfl]
  | c :: l, r, hl, h => by
    have ih := takeW_app (l := l) (r := r) (fun c hc => hl c (by simp [hc])) h
    simp [hl c (by simp), ih.1, ih.2]
theorem dec_len5 : ∀ (n u : Nat), u < 10 ^ (n + 1) → (Lib.decDigits u).length ≤ n + 1 := by
  intro n
  induction n with
  | zero => intro u hu; rw [Lib.decDigits, dif_pos (show u < 10 by omega)]; simp
  | succ n ih =>
    intro u hu
    rw [Lib.decDigits]
    split
    · simp
    · rw [List.length_append]
      have := ih (u / 10) (by rw [Nat.pow_succ] at hu; omega)
      simp; omega
theorem itoa_one {n : Int} (h : 0 ≤ n) (h' : n ≤ 9) : Lib.itoa n = [UInt8.ofNat (48 + n.toNat)] := by
  rw [itoa_dec h, Lib.decDigits, dif_pos (by omega)]
theorem candR_text {a : HN} (ha : a.valid = true) : candR (textP a) = a := by
  obtain ⟨h1, h2, h3, h4⟩ := (valid_iff a).1 ha
  obtain ⟨d1, d2, d3, d4, d5⟩ := place_den h4
  simp only at d1 d2 d3 d4 d5
  have hn := (itoa_dg (n := a.n) (by omega)).1
  have hv : (val 0 (Lib.itoa a.n) : Int) = a.n := by rw [itoa_dec (by omega), val_dec]; omega
  have hf : fracP a = [] ∧ a.num = 0 ∧ a.den = 0 ∨ fracP a = [32, UInt8.ofNat (48 + a.num.toNat), 47, UInt8.ofNat (48 + a.den.toNat)] := by
    unfold fracP
    by_cases hd : 0 < a.den
    · right
      rw [if_pos hd, itoa_one d4 d5, itoa_one d2 d3]
      rfl
    · left
      rw [if_neg hd]
      have e0 : a.den = 0 := by omega
      have hp := place_inj (p := (a.num, a.den)) (q := (0, 0)) h4 (by rw [p00]; exact d1.1 e0)
      simp only [Prod.mk.injEq] at hp
      exact ⟨rfl, hp.1, hp.2⟩
  have hsp : dgB 32 = false := by decide
  have fin : ∀ r, restR (a.l ++ fracP a) = (a.l, r) → tailR r = (a.num, a.den) → (∀ c r', a.l ++ fracP a = c :: r' → dgB c = false) → candR (textP a) = a := by
    intro r e1 e2 e3
    have hw := takeW_app (l := Lib.itoa a.n) (r := a.l ++ fracP a) (fun c hc => (dgB_iff c).2 (hn c hc)) e3
    unfold candR textP
    rw [List.append_assoc, hw.1, hw.2, hv, e1]
    simp only
    rw [e2]
  have ht : tailR [32, UInt8.ofNat (48 + a.num.toNat), 47, UInt8.ofNat (48 + a.den.toNat)] = (a.num, a.den) := by
    show (((UInt8.ofNat (48 + a.num.toNat)).toNat : Int) - 48, ((UInt8.ofNat (48 + a.den.toNat)).toNat : Int) - 48) = _
    rw [ofNat_dg (by omega), ofNat_dg (by omega), Prod.mk.injEq]
    omega
  rcases (letterB_iff a.l).1 h3 with e | ⟨c, e, c1, c2⟩
  · rcases hf with ⟨f, f1, f2⟩ | f
    · exact fin [] (by rw [e, f]; rfl) (by rw [f1, f2]; rfl) (fun c r' h => by rw [e, f] at h; cases h)
    · refine fin _ (by rw [e, f]; rfl) ht (fun c r' h => ?_)
      rw [e, f] at h
      injection h with h _
      rw [← h]; exact hsp
  · have hc : dgB c = false := by unfold dgB; simp; omega
    have hc32 : ¬ c = 32 := fun h => by rw [h] at c1; simp at c1
    have hr : ∀ r, restR (c :: r) = ([c], r) := fun r => by unfold restR; simp only; rw [if_neg hc32]
    have hx : ∀ c0 r', a.l ++ fracP a = c0 :: r' → dgB c0 = false := fun c0 r' h => by
      rw [e] at h
      injection h with h _
      rw [← h]; exact hc
    rcases hf with ⟨f, f1, f2⟩ | f
    · exact fin [] (by rw [e, f]; exact hr _) (by rw [f1, f2]; rfl) hx
    · exact fin _ (by rw [e, f]; exact hr _) ht hx
theorem text_len5 {a : HN} (ha : a.valid = true) : (textP a).length ≤ 9 := by
  obtain ⟨h1, h2, h3, h4⟩ := (valid_iff a).1 ha
  obtain ⟨d1, d2, d3, d4, d5⟩ := place_den h4
  simp only at d1 d2 d3 d4 d5
  have hn : (Lib.itoa a.n).length ≤ 4 := by rw [itoa_dec (by omega)]; exact dec_len5 3 _ (by omega)
  have hl : a.l.length ≤ 1 := by
    rcases (letterB_iff a.l).1 h3 with e | ⟨c, e, _, _⟩ <;> rw [e] <;> simp
  have hf : (fracP a).length ≤ 4 := by
    unfold fracP
    split
    · rw [itoa_one d4 d5, itoa_one d2 d3]; simp
    · simp
  unfold textP
  simp only [List.length_append]
  omega
theorem parse_long {t : List UInt8} (h : 9 < t.length) : parseP t = none := by
  cases hp : parseP t with
  | none => rfl
  | some a =>
    obtain ⟨h1, h2⟩ := parse_some hp
    have := text_len5 h1
    rw [h2] at this
    omega
theorem parse_R (t : List UInt8) : parseP t = if (candR t).valid && decide (textP (candR t) = t) then some (candR t) else none := by
  by_cases h : (candR t).valid = true ∧ textP (candR t) = t
  · rw [if_pos (by simp [h.1, h.2])]
    have := parse_text h.1
    rwa [h.2] at this
  · rw [if_neg (by simpa using h)]
    cases hp : parseP t with
    | none => rfl
    | some a =>
      obtain ⟨h1, h2⟩ := parse_some hp
      exfalso
      apply h
      rw [← h2, candR_text h1]
      exact ⟨h1, rfl⟩
end Go.Proofs.YtdcafoekbnacnaaGreatDoor

/- Walks of the reference of layer 1: decimal digits. -/
set_option linter.unusedVariables false
set_option linter.unusedSimpArgs false
namespace Go.Proofs.YtdcafoekbnacnaaGreatDoor
open Go.RowKit

def dgc (m : Nat) : UInt8 := UInt8.ofNat (48 + m)
def decS : List UInt8 := [48, 49, 50, 51, 52, 53, 54, 55, 56, 57]
theorem decS_cut : ∀ m, m < 10 → (decS.drop m).take (m + 1 - m) = [dgc m] := by decide
theorem decS_ext (m : Nat) (h : m < 10) : (⟨#[48, 49, 50, 51, 52, 53, 54, 55, 56, 57]⟩ : ByteArray).extract m (m + 1) = bs [dgc m] := by
  have := bs_cut decS m (m + 1)
  rw [decS_cut m h] at this
  exact this
def restD (u : Nat) : List UInt8 := if u = 0 then [] else Lib.decDigits u
theorem restD_step {u : Nat} (h : 0 < u) : restD u = restD (u / 10) ++ [dgc (u % 10)] := by
  unfold restD
  rw [if_neg (by omega), Lib.decDigits]
  split
  · rename_i h10
    rw [if_pos (by omega), show u % 10 = u by omega]; rfl
  · rw [if_neg (by omega)]; rfl
theorem dec_step (u : Nat) : Lib.decDigits u = restD (u / 10) ++ [dgc (u % 10)] := by
  unfold restD
  conv => lhs; rw [Lib.decDigits]
  split
  · rename_i h10
    rw [if_pos (by omega), show u % 10 = u by omega]; rfl
  · rw [if_neg (by omega)]; rfl
theorem dec_lenQ : ∀ (n u : Nat), u < 10 ^ (n + 1) → (Lib.decDigits u).length ≤ n + 1 := by
  intro n
  induction n with
  | zero => intro u hu; rw [Lib.decDigits, dif_pos (show u < 10 by omega)]; simp
  | succ n ih =>
    intro u hu
    rw [Lib.decDigits]
    split
    · simp
    · rw [List.length_append]
      have := ih (u / 10) (by rw [Nat.pow_succ] at hu; omega)
      simp; omega
def DgI (u : Nat) (w wr : World) (a s : Value) : Prop := ∃ (k : Nat) (S : List UInt8), a = .int .u64 (k : Int) ∧ s = .string (bs S) ∧ restD k ++ S = Lib.decDigits u ∧ k ≤ u ∧ wr = w
set_option maxRecDepth 100000 in
set_option maxHeartbeats 2000000 in
theorem rdigits_any (u : Nat) (hu : u < 18446744073709551616) (w : World) : Calls Tryz.prog 170 #[.int .u64 (u : Int)] w fun e w' => e = .returned (.string (bs (Lib.decDigits u))) ∧ w' = w := by
  have hlen := dec_lenQ 19 u (by omega)
  obtain ⟨m, hm, hm10⟩ : ∃ m, u % 10 = m ∧ m < 10 := ⟨_, rfl, by omega⟩
  have h1 : (u : Int).tmod 10 = (m : Int) := by rw [Int.tmod_eq_emod_of_nonneg (by omega), ← hm, Int.natCast_emod]; rfl
  have hx := decS_ext m hm10
  have HS := hide (dec_step u)
  rw [hm] at HS
  have H2 : Hid ((u : Int) / 10 = ((u / 10 : Nat) : Int)) := by show _ = _; rw [Int.natCast_ediv]; rfl
  go_enter Tryz.func170, Tryz.ntmps170
  go_wp2_with fail
  clear hm h1 hx hm10
  go_loopw [0, 3] (fun a s wr => DgI u w wr a s) (fun a _ _ => (intOf a).toNat)
  case atStart => exact ⟨u / 10, [dgc m], by rw [H2.out], rfl, HS.out.symm, by omega, rfl⟩
  case round =>
    obtain ⟨k, S, rfl, rfl, hS, hk, rfl⟩ := hrel
    have HE := hide hS
    clear hS HS H2
    have hSl : S.length ≤ 20 := by have := congrArg List.length HE.out; rw [List.length_append] at this; omega
    have hz : (bs S).size = S.length := bs_size S
    by_cases h0 : 0 < k
    · have e1 : decide ((0 : Int) < (k : Int)) = true := decide_eq_true (by omega)
      obtain ⟨m', hm, hm10⟩ : ∃ m, k % 10 = m ∧ m < 10 := ⟨_, rfl, by omega⟩
      have h1 : (k : Int).tmod 10 = (m' : Int) := by rw [Int.tmod_eq_emod_of_nonneg (by omega), ← hm, Int.natCast_emod]; rfl
      have hx := decS_ext m' hm10
      have hz1 : (bs [dgc m']).size = 1 := rfl
      have H2 : Hid ((k : Int) / 10 = ((k / 10 : Nat) : Int)) := by show _ = _; rw [Int.natCast_ediv]; rfl
      have HN := hide (restD_step h0)
      rw [hm] at HN
      clear hm
      go_wp2_with fail
      refine ⟨⟨k / 10, [dgc m'] ++ S, by rw [H2.out], by rw [← bs_app], by rw [← HE.out, HN.out]; simp, by omega, (by first | rfl | trivial)⟩, ?_⟩
      simp [intOf]; omega
    · obtain rfl : k = 0 := by omega
      have HF : Hid (S = Lib.decDigits u) := by show _ = _; rw [← HE.out]; rfl
      go_wp2_with fail
      go_ret
      exact ⟨ret_str' (by rw [HF.out]), rfl⟩
theorem rDecimal_any (u : Nat) (hu : u ≤ 9223372036854775807) (w : World) : Calls Tryz.prog 157 #[.int .i64 (u : Int)] w fun e w' => e = .returned (.string (bs (Lib.decDigits u))) ∧ w' = w := by
  have CD := fun w => rdigits_any u (by omega) w
  have e1 : decide ((u : Int) < 0) = false := decide_eq_false (by omega)
  have hw : IntKind.u64.wrap (u : Int) = (u : Int) := by
    have hm : (u : Int) % 18446744073709551616 = u := by omega
    simp [IntKind.wrap, IntKind.signed, IntKind.bits, hm]
  go_enter Tryz.func157, Tryz.ntmps157
  go_wp2_with ((with_reducible refine (CD _).mono ?_); rintro e w' ⟨rfl, rfl⟩)
  go_ret
  exact ⟨rfl, rfl⟩
end Go.Proofs.YtdcafoekbnacnaaGreatDoor

/- Walks of the reference of layer 22: common, Valid. -/
set_option linter.unusedVariables false
set_option linter.unusedSimpArgs false
namespace Go.Proofs.YtdcafoekbnacnaaGreatDoor
open Go.RowKit

theorem box_all {w1 : World} {b : Nat} {h : HN} {U : Type} {g : U → World} (hgu : ∀ u, Below w1.heap.size w1 (g u)) (H : HBox w1 b h) :
    (∀ u, (g u).cell? ⟨b, 0, none⟩ = some (.int .i64 h.n)) ∧ (∀ u, (g u).cell? ⟨b, 1, none⟩ = some (.string ⟨h.l.toArray⟩)) ∧ (∀ u, (g u).cell? ⟨b, 2, none⟩ = some (.int .i64 h.num)) ∧ (∀ u, (g u).cell? ⟨b, 3, none⟩ = some (.int .i64 h.den)) :=
  ⟨fun u => (H.below (hgu u) H.blk.lt).facts.1, fun u => (H.below (hgu u) H.blk.lt).facts.2.1, fun u => (H.below (hgu u) H.blk.lt).facts.2.2.1, fun u => (H.below (hgu u) H.blk.lt).facts.2.2.2⟩
theorem HBox.to {w1 w' : World} {b : Nat} {h : HN} (H : HBox w1 b h) (hb : Below w1.heap.size w1 w') : HBox w' b h := H.below hb H.blk.lt
theorem HBox.alloc {w1 : World} {b : Nat} {h : HN} (H : HBox w1 b h) (o : Obj) : HBox (w1.alloc o) b h := ⟨H.blk.alloc o⟩
def CoI (a b : Nat) (w wr : World) (d : Value) : Prop := ∃ k : Nat, d = .int .i64 (k : Int) ∧ 2 ≤ k ∧ k ≤ a + 2 ∧ Hid (comB a b k = false) ∧ w = wr
set_option maxHeartbeats 2000000 in
theorem rcommon_any (a b : Nat) (ha : 1 ≤ a) (h9 : a ≤ 9) (hb : b ≤ 9) (w : World) : Calls Tryz.prog 169 #[.int .i64 (a : Int), .int .i64 (b : Int)] w fun e w' => e = .returned (.bool (commonB a b)) ∧ w = w' := by
  go_enter Tryz.func169, Tryz.ntmps169
  go_wp2_with fail
  go_loopw [5] (fun d wr => CoI a b w wr d) (fun d _ => (a + 2 - intOf d).toNat)
  case atStart => exact ⟨2, rfl, by omega, by omega, comB_two a b, rfl⟩
  case round =>
    obtain ⟨k, rfl, h2, hk, HC, rfl⟩ := hrel
    by_cases h1 : k ≤ a
    · have e1 : decide ((k : Int) ≤ (a : Int)) = true := decide_eq_true (by omega)
      have HS := hide (comB_succ a b k)
      rw [HC.out, decide_eq_true h2, Bool.false_or, Bool.true_and] at HS
      obtain ⟨x, hx, hx'⟩ : ∃ x, a % k = x ∧ x ≤ 9 := ⟨_, rfl, by have := Nat.mod_le a k; omega⟩
      obtain ⟨y, hy, hy'⟩ : ∃ y, b % k = y ∧ y ≤ 9 := ⟨_, rfl, by have := Nat.mod_le b k; omega⟩
      have t1 : (a : Int).tmod (k : Int) = (x : Int) := by rw [Int.tmod_eq_emod_of_nonneg (by omega), ← hx, Int.natCast_emod]
      have t2 : (b : Int).tmod (k : Int) = (y : Int) := by rw [Int.tmod_eq_emod_of_nonneg (by omega), ← hy, Int.natCast_emod]
      have k0 : ((k : Int) == 0) = false := by rw [beq_eq_false_iff_ne]; omega
      rw [hx, hy] at HS
      clear hx hy HC
      by_cases hx0 : x = 0
      · have e2 : ((x : Int) == 0) = true := by rw [beq_iff_eq]; omega
        by_cases hy0 : y = 0
        · have e3 : ((y : Int) == 0) = true := by rw [beq_iff_eq]; omega
          have HV : Hid (commonB a b = true) := comB_mono (HS.out.trans (by rw [decide_eq_true hx0, decide_eq_true hy0]; rfl)) (by omega)
          clear hx0 hy0
          go_wp2_with fail
          go_ret
          exact ⟨ret_bool HV.out.symm, rfl⟩
        · have e3 : ((y : Int) == 0) = false := by rw [beq_eq_false_iff_ne]; omega
          have HV : Hid (comB a b (k + 1) = false) := HS.out.trans (by rw [decide_eq_false hy0, Bool.and_false])
          clear hx0 hy0
          go_wp2_with fail
          refine ⟨⟨k + 1, by go_num, by omega, by omega, HV.out, rfl⟩, ?_⟩
          simp [intOf]; omega
      · have e2 : ((x : Int) == 0) = false := by rw [beq_eq_false_iff_ne]; omega
        have HV : Hid (comB a b (k + 1) = false) := HS.out.trans (by rw [decide_eq_false hx0, Bool.false_and])
        clear hx0
        go_wp2_with fail
        refine ⟨⟨k + 1, by go_num, by omega, by omega, HV.out, rfl⟩, ?_⟩
        simp [intOf]; omega
    · have e1 : decide ((k : Int) ≤ (a : Int)) = false := decide_eq_false (by omega)
      have HV : Hid (commonB a b = false) := by
        show commonB a b = false
        rw [← Bool.not_eq_true]
        intro h
        have := comB_mono (m := k) h (by omega)
        rw [HC.out] at this; cases this
      clear HC
      go_wp2_with fail
      go_ret
      exact ⟨ret_bool HV.out.symm, rfl⟩
theorem less_one (c d : UInt8) : Op.bytesLess [c] [d] = decide (c.toNat < d.toNat) := by
  simp [Op.bytesLess, UInt8.lt_iff_toNat_lt]
  try (intro h h'; omega)
set_option maxHeartbeats 4000000 in
theorem rValid_any (h : HN) (w : World) (hl : h.fit) : Calls Tryz.prog 156 #[hval h] w fun e w' => e = .returned (.bool h.valid) ∧ Below w.heap.size w w' := by
  obtain ⟨n, l, num, den⟩ := h
  have HB0 := hide ((Below.refl w.heap.size w).alloc (Nat.le_refl _) (.cells #[.int .i64 n, .string ⟨l.toArray⟩, .int .i64 num, .int .i64 den] 93))
  have HL : Hid (l.length ≤ maxLen) := by have : (bs l).size ≤ maxLen := hl; show _ ≤ _; rwa [bs_size] at this
  clear hl
  by_cases h1 : n < 1
  · have e1 : decide (n < 1) = true := decide_eq_true h1
    have HV : Hid (HN.valid ⟨n, l, num, den⟩ = false) := valid_f1 (h := ⟨n, l, num, den⟩) (by show ¬ 1 ≤ n; omega)
    clear h1
    go_enter Tryz.func156, Tryz.ntmps156
    unfold hval
    go_wp2_with fail
    go_ret
    exact ⟨ret_bool HV.out.symm, HB0.out⟩
  have e1 : decide (n < 1) = false := decide_eq_false h1
  by_cases h2 : 9999 < n
  · have e2 : decide (9999 < n) = true := decide_eq_true h2
    have HV : Hid (HN.valid ⟨n, l, num, den⟩ = false) := valid_f2 (h := ⟨n, l, num, den⟩) (by show ¬ n ≤ 9999; omega)
    clear h1 h2
    go_enter Tryz.func156, Tryz.ntmps156
    unfold hval
    go_wp2_with fail
    go_ret
    exact ⟨ret_bool HV.out.symm, HB0.out⟩
  have e2 : decide (9999 < n) = false := decide_eq_false h2
  have HF0 : ∀ L, letterB L = true → HN.valid ⟨n, L, num, den⟩ = fracB num den := fun L hL => (valid_t (h := ⟨n, L, num, den⟩) (by show 1 ≤ n; omega) (by show n ≤ 9999; omega) hL).trans (frac_place num den)
  clear h1 h2
  match l with
  | [] =>
    have HF : Hid (HN.valid ⟨n, [], num, den⟩ = fracB num den) := HF0 [] rfl
    clear HF0
    by_cases hn0 : num = 0
    · subst hn0
      by_cases hd0 : den = 0
      · subst hd0
        have HV : Hid (HN.valid ⟨n, [], 0, 0⟩ = true) := HF.out.trans rfl
        clear HF
        go_enter Tryz.func156, Tryz.ntmps156
        unfold hval
        go_wp2_with fail
        go_ret
        exact ⟨ret_bool HV.out.symm, HB0.out⟩
      · have f1 : (den == 0) = false := by rw [beq_eq_false_iff_ne]; exact hd0
        have HV : Hid (HN.valid ⟨n, [], 0, den⟩ = false) := HF.out.trans (by unfold fracB; simp [hd0])
        clear HF hd0
        go_enter Tryz.func156, Tryz.ntmps156
        unfold hval
        go_wp2_with fail
        go_ret
        exact ⟨ret_bool HV.out.symm, HB0.out⟩
    · have f1 : (num == 0) = false := by rw [beq_eq_false_iff_ne]; exact hn0
      by_cases hn1 : 1 ≤ num
      · have f2 : decide (1 ≤ num) = true := decide_eq_true hn1
        by_cases hnd : num < den
        · have f3 : decide (num < den) = true := decide_eq_true hnd
          by_cases hd9 : den ≤ 9
          · have f4 : decide (den ≤ 9) = true := decide_eq_true hd9
            have HV : Hid (HN.valid ⟨n, [], num, den⟩ = !commonB num.toNat den.toNat) := HF.out.trans (by unfold fracB; rw [decide_eq_false hn0, f2, f3, f4]; simp)
            have CC := fun w => rcommon_any num.toNat den.toNat (by omega) (by omega) (by omega) w
            rw [show ((num.toNat : Nat) : Int) = num by omega, show ((den.toNat : Nat) : Int) = den by omega] at CC
            generalize commonB num.toNat den.toNat = cb at *
            clear HF hn0 hn1 hnd hd9
            go_enter Tryz.func156, Tryz.ntmps156
            unfold hval
            go_wp2_with fail
            refine (CC _).mono ?_
            rintro e w1 ⟨rfl, rfl⟩
            go_wp2_with fail
            go_ret
            exact ⟨ret_bool HV.out.symm, HB0.out⟩
          · have f4 : decide (den ≤ 9) = false := decide_eq_false hd9
            have HV : Hid (HN.valid ⟨n, [], num, den⟩ = false) := HF.out.trans (by unfold fracB; rw [decide_eq_false hn0, f4]; simp)
            clear HF hn0 hn1 hnd hd9
            go_enter Tryz.func156, Tryz.ntmps156
            unfold hval
            go_wp2_with fail
            go_ret
            exact ⟨ret_bool HV.out.symm, HB0.out⟩
        · have f3 : decide (num < den) = false := decide_eq_false hnd
          have HV : Hid (HN.valid ⟨n, [], num, den⟩ = false) := HF.out.trans (by unfold fracB; rw [decide_eq_false hn0, f3]; simp)
          clear HF hn0 hn1 hnd
          go_enter Tryz.func156, Tryz.ntmps156
          unfold hval
          go_wp2_with fail
          go_ret
          exact ⟨ret_bool HV.out.symm, HB0.out⟩
      · have f2 : decide (1 ≤ num) = false := decide_eq_false hn1
        have HV : Hid (HN.valid ⟨n, [], num, den⟩ = false) := HF.out.trans (by unfold fracB; rw [decide_eq_false hn0, f2]; simp)
        clear HF hn0 hn1
        go_enter Tryz.func156, Tryz.ntmps156
        unfold hval
        go_wp2_with fail
        go_ret
        exact ⟨ret_bool HV.out.symm, HB0.out⟩
  | [c] =>
    have b1 := less_one c 97
    have b2 := less_one c 122
    rw [show (97 : UInt8).toNat = 97 from rfl] at b1
    rw [show (122 : UInt8).toNat = 122 from rfl] at b2
    by_cases c1 : c.toNat < 97
    · have HV : Hid (HN.valid ⟨n, [c], num, den⟩ = false) := valid_f3 (h := ⟨n, [c], num, den⟩) (by rw [← Bool.not_eq_true]; intro h; rcases (letterB_iff _).1 h with h | ⟨d, h, g1, g2⟩; cases h; injection h with h _; subst h; omega)
      rw [decide_eq_true c1] at b1
      clear c1 HF0 b2
      go_enter Tryz.func156, Tryz.ntmps156
      unfold hval
      go_wp2_with fail
      go_ret
      exact ⟨ret_bool HV.out.symm, HB0.out⟩
    rw [decide_eq_false c1] at b1
    by_cases c2 : 122 < c.toNat
    · have HV : Hid (HN.valid ⟨n, [c], num, den⟩ = false) := valid_f3 (h := ⟨n, [c], num, den⟩) (by rw [← Bool.not_eq_true]; intro h; rcases (letterB_iff _).1 h with h | ⟨d, h, g1, g2⟩; cases h; injection h with h _; subst h; omega)
      rw [decide_eq_false (by omega)] at b2
      have b3 : (c == 122) = false := by rw [beq_eq_false_iff_ne]; intro h; rw [h] at c2; simp at c2
      clear c1 c2 HF0
      go_enter Tryz.func156, Tryz.ntmps156
      unfold hval
      go_wp2_with fail
      go_ret
      exact ⟨ret_bool HV.out.symm, HB0.out⟩
    have HF : Hid (HN.valid ⟨n, [c], num, den⟩ = fracB num den) := HF0 [c] ((letterB_iff _).2 (.inr ⟨c, rfl, by omega, by omega⟩))
    have b4 : (!Op.bytesLess [c] [122] && !c == 122) = false := by
      by_cases hc : c.toNat < 122
      · rw [b2, decide_eq_true hc]; rfl
      · have : c = 122 := UInt8.toNat_inj.1 (by simp; omega)
        rw [this]; rfl
    have b2' := b2
    clear b2 c1 c2 HF0
    by_cases hc : c = 122
    · subst hc
      clear b4 b2' b1
      by_cases hn0 : num = 0
      · subst hn0
        by_cases hd0 : den = 0
        · subst hd0
          have HV : Hid (HN.valid ⟨n, [122], 0, 0⟩ = true) := HF.out.trans rfl
          clear HF
          go_enter Tryz.func156, Tryz.ntmps156
          unfold hval
          go_wp2_with fail
          go_ret
          exact ⟨ret_bool HV.out.symm, HB0.out⟩
        · have f1 : (den == 0) = false := by rw [beq_eq_false_iff_ne]; exact hd0
          have HV : Hid (HN.valid ⟨n, [122], 0, den⟩ = false) := HF.out.trans (by unfold fracB; simp [hd0])
          clear HF hd0
          go_enter Tryz.func156, Tryz.ntmps156
          unfold hval
          go_wp2_with fail
          go_ret
          exact ⟨ret_bool HV.out.symm, HB0.out⟩
      · have f1 : (num == 0) = false := by rw [beq_eq_false_iff_ne]; exact hn0
        by_cases hn1 : 1 ≤ num
        · have f2 : decide (1 ≤ num) = true := decide_eq_true hn1
          by_cases hnd : num < den
          · have f3 : decide (num < den) = true := decide_eq_true hnd
            by_cases hd9 : den ≤ 9
            · have f4 : decide (den ≤ 9) = true := decide_eq_true hd9
              have HV : Hid (HN.valid ⟨n, [122], num, den⟩ = !commonB num.toNat den.toNat) := HF.out.trans (by unfold fracB; rw [decide_eq_false hn0, f2, f3, f4]; simp)
              have CC := fun w => rcommon_any num.toNat den.toNat (by omega) (by omega) (by omega) w
              rw [show ((num.toNat : Nat) : Int) = num by omega, show ((den.toNat : Nat) : Int) = den by omega] at CC
              generalize commonB num.toNat den.toNat = cb at *
              clear HF hn0 hn1 hnd hd9
              go_enter Tryz.func156, Tryz.ntmps156
              unfold hval
              go_wp2_with fail
              refine (CC _).mono ?_
              rintro e w1 ⟨rfl, rfl⟩
              go_wp2_with fail
              go_ret
              exact ⟨ret_bool HV.out.symm, HB0.out⟩
            · have f4 : decide (den ≤ 9) = false := decide_eq_false hd9
              have HV : Hid (HN.valid ⟨n, [122], num, den⟩ = false) := HF.out.trans (by unfold fracB; rw [decide_eq_false hn0, f4]; simp)
              clear HF hn0 hn1 hnd hd9
              go_enter Tryz.func156, Tryz.ntmps156
              unfold hval
              go_wp2_with fail
              go_ret
              exact ⟨ret_bool HV.out.symm, HB0.out⟩
          · have f3 : decide (num < den) = false := decide_eq_false hnd
            have HV : Hid (HN.valid ⟨n, [122], num, den⟩ = false) := HF.out.trans (by unfold fracB; rw [decide_eq_false hn0, f3]; simp)
            clear HF hn0 hn1 hnd
            go_enter Tryz.func156, Tryz.ntmps156
            unfold hval
            go_wp2_with fail
            go_ret
            exact ⟨ret_bool HV.out.symm, HB0.out⟩
        · have f2 : decide (1 ≤ num) = false := decide_eq_false hn1
          have HV : Hid (HN.valid ⟨n, [122], num, den⟩ = false) := HF.out.trans (by unfold fracB; rw [decide_eq_false hn0, f2]; simp)
          clear HF hn0 hn1
          go_enter Tryz.func156, Tryz.ntmps156
          unfold hval
          go_wp2_with fail
          go_ret
          exact ⟨ret_bool HV.out.symm, HB0.out⟩
    · have b2 : Op.bytesLess [c] [122] = true := by
        rw [b2']
        refine decide_eq_true ?_
        have : c.toNat ≠ 122 := fun h => hc (UInt8.toNat_inj.1 h)
        cases hb : decide (c.toNat < 122)
        · exfalso
          rw [b2', hb] at b4
          simp [hc] at b4
        · exact of_decide_eq_true hb
      clear b4 b2' hc
      by_cases hn0 : num = 0
      · subst hn0
        by_cases hd0 : den = 0
        · subst hd0
          have HV : Hid (HN.valid ⟨n, [c], 0, 0⟩ = true) := HF.out.trans rfl
          clear HF
          go_enter Tryz.func156, Tryz.ntmps156
          unfold hval
          go_wp2_with fail
          go_ret
          exact ⟨ret_bool HV.out.symm, HB0.out⟩
        · have f1 : (den == 0) = false := by rw [beq_eq_false_iff_ne]; exact hd0
          have HV : Hid (HN.valid ⟨n, [c], 0, den⟩ = false) := HF.out.trans (by unfold fracB; simp [hd0])
          clear HF hd0
          go_enter Tryz.func156, Tryz.ntmps156
          unfold hval
          go_wp2_with fail
          go_ret
          exact ⟨ret_bool HV.out.symm, HB0.out⟩
      · have f1 : (num == 0) = false := by rw [beq_eq_false_iff_ne]; exact hn0
        by_cases hn1 : 1 ≤ num
        · have f2 : decide (1 ≤ num) = true := decide_eq_true hn1
          by_cases hnd : num < den
          · have f3 : decide (num < den) = true := decide_eq_true hnd
            by_cases hd9 : den ≤ 9
            · have f4 : decide (den ≤ 9) = true := decide_eq_true hd9
              have HV : Hid (HN.valid ⟨n, [c], num, den⟩ = !commonB num.toNat den.toNat) := HF.out.trans (by unfold fracB; rw [decide_eq_false hn0, f2, f3, f4]; simp)
              have CC := fun w => rcommon_any num.toNat den.toNat (by omega) (by omega) (by omega) w
              rw [show ((num.toNat : Nat) : Int) = num by omega, show ((den.toNat : Nat) : Int) = den by omega] at CC
              generalize commonB num.toNat den.toNat = cb at *
              clear HF hn0 hn1 hnd hd9
              go_enter Tryz.func156, Tryz.ntmps156
              unfold hval
              go_wp2_with fail
              refine (CC _).mono ?_
              rintro e w1 ⟨rfl, rfl⟩
              go_wp2_with fail
              go_ret
              exact ⟨ret_bool HV.out.symm, HB0.out⟩
            · have f4 : decide (den ≤ 9) = false := decide_eq_false hd9
              have HV : Hid (HN.valid ⟨n, [c], num, den⟩ = false) := HF.out.trans (by unfold fracB; rw [decide_eq_false hn0, f4]; simp)
              clear HF hn0 hn1 hnd hd9
              go_enter Tryz.func156, Tryz.ntmps156
              unfold hval
              go_wp2_with fail
              go_ret
              exact ⟨ret_bool HV.out.symm, HB0.out⟩
          · have f3 : decide (num < den) = false := decide_eq_false hnd
            have HV : Hid (HN.valid ⟨n, [c], num, den⟩ = false) := HF.out.trans (by unfold fracB; rw [decide_eq_false hn0, f3]; simp)
            clear HF hn0 hn1 hnd
            go_enter Tryz.func156, Tryz.ntmps156
            unfold hval
            go_wp2_with fail
            go_ret
            exact ⟨ret_bool HV.out.symm, HB0.out⟩
        · have f2 : decide (1 ≤ num) = false := decide_eq_false hn1
          have HV : Hid (HN.valid ⟨n, [c], num, den⟩ = false) := HF.out.trans (by unfold fracB; rw [decide_eq_false hn0, f2]; simp)
          clear HF hn0 hn1
          go_enter Tryz.func156, Tryz.ntmps156
          unfold hval
          go_wp2_with fail
          go_ret
          exact ⟨ret_bool HV.out.symm, HB0.out⟩
  | c :: d :: r =>
    have hz : (ByteArray.mk (c :: d :: r).toArray).size = (c :: d :: r).length := bs_size _
    have e3 : decide ((1 : Int) < ((c :: d :: r).length : Int)) = true := decide_eq_true (by simp only [List.length_cons]; omega)
    have HV : Hid (HN.valid ⟨n, c :: d :: r, num, den⟩ = false) := valid_f3 (h := ⟨n, c :: d :: r, num, den⟩) rfl
    clear HF0
    generalize c :: d :: r = l at *
    go_enter Tryz.func156, Tryz.ntmps156
    unfold hval
    go_wp2_with fail
    go_ret
    exact ⟨ret_bool HV.out.symm, HB0.out⟩
end Go.Proofs.YtdcafoekbnacnaaGreatDoor

/- Walks of the reference of layer 22: Text, Parse (printed by genr3.py). -/
set_option linter.unusedVariables false
set_option linter.unusedSimpArgs false
namespace Go.Proofs.YtdcafoekbnacnaaGreatDoor
open Go.RowKit

theorem ret_si {a b : ByteArray} {x y : Int} (h : a = b) (h' : x = y) : Ending.returned (.tuple #[.string a, .int .i64 x]) = .returned (.tuple #[.string b, .int .i64 y]) := by rw [h, h']
theorem rItoa_any (n : Int) (h0 : 0 ≤ n) (h1 : n ≤ 9999) (w : World) : Calls Tryz.prog 157 #[.int .i64 n] w fun e w' => e = .returned (.string (bs (Lib.itoa n))) ∧ Below w.heap.size w w' := by
  have C := rDecimal_any n.toNat (by omega) w
  rw [show ((n.toNat : Nat) : Int) = n by omega] at C
  refine C.mono ?_
  rintro e w' ⟨rfl, rfl⟩
  exact ⟨by rw [itoa_dec h0], Below.refl _ _⟩
set_option maxHeartbeats 4000000 in
theorem rText_any (h : HN) (w : World) (hl : h.fit) : Calls Tryz.prog 135 #[hval h] w fun e w' => e = .returned (.tuple #[.string (if h.valid then bs (textP h) else bs []), .int .i64 (if h.valid then 0 else 1)]) ∧ Below w.heap.size w w' := by
  have HX := hide (HBox.new w h)
  have HB := hide ((Below.refl w.heap.size w).alloc (Nat.le_refl _) (.cells #[.int .i64 h.n, .string ⟨h.l.toArray⟩, .int .i64 h.num, .int .i64 h.den] 93))
  have CV := fun w => rValid_any h w hl
  clear hl
  obtain ⟨S, HS⟩ : ∃ S, Hid ((if h.valid then bs (textP h) else bs []) = S) := ⟨_, rfl⟩
  obtain ⟨E, HE⟩ : ∃ E : Int, Hid ((if h.valid then 0 else 1) = E) := ⟨_, rfl⟩
  rw [HS.out, HE.out]
  go_enter Tryz.func135, Tryz.ntmps135
  unfold hval
  go_wp2_with fail
  generalize w.alloc (.cells #[.int .i64 h.n, .string ⟨h.l.toArray⟩, .int .i64 h.num, .int .i64 h.den] 93) = w1 at *
  obtain ⟨U, hU, g, u0, rfl, hgu, hi⟩ := cls w1
  obtain ⟨x0, x1, x2, x3⟩ := box_all hgu HX.out
  have CA := cls_call hgu hi (fun w _ => CV w)
  unfold hval at CA
  cases h1 : h.valid
  · rw [h1] at CA HS HE
    clear h1
    go_wp2_with (first | ((with_reducible refine (CA _).mono ?_); rintro e w' ⟨rfl, u, rfl⟩))
    go_ret2
    exact ⟨ret_si HS.out HE.out, HB.out.trans ((hgu _).mono HB.out.size)⟩
  · obtain ⟨n1, n2, l1, p1⟩ := (valid_iff h).1 h1
    obtain ⟨d1, d2, d3, d4, d5⟩ := place_den p1
    simp only at d1 d2 d3 d4 d5
    have z1 : ¬ 9223372036854775807 < (bs (Lib.itoa h.n)).size + (ByteArray.mk h.l.toArray).size := by have := bs_fit n1 n2 l1; omega
    have z1' : (bs (Lib.itoa h.n)).size + h.l.length ≤ 10001 := bs_fit' n1 n2 l1
    have z2 := itoa_size d4 (by omega)
    have z3 := itoa_size d2 (by omega)
    have CN := cls_call hgu hi (fun w _ => rItoa_any h.n (by omega) (by omega) w)
    have CM := cls_call hgu hi (fun w _ => rItoa_any h.num (by omega) (by omega) w)
    have CD := cls_call hgu hi (fun w _ => rItoa_any h.den (by omega) (by omega) w)
    have HGU := hide hgu
    have HHI := hide hi
    rw [h1] at CA HS HE
    clear h1 hgu hi d1 l1 p1 CV
    by_cases hd : 0 < h.den
    · have HV : Hid (textP h = Lib.itoa h.n ++ h.l ++ ([32] ++ Lib.itoa h.num ++ [47] ++ Lib.itoa h.den)) := by show _ = _; unfold textP fracP; rw [if_pos hd]
      have e1 : decide (0 < h.den) = true := decide_eq_true hd
      clear hd
      go_wp2_with (first | ((with_reducible refine (CA _).mono ?_); rintro e w' ⟨rfl, u, rfl⟩))
      refine wp_region_class g (by kernel_rfl) (by kernel_rfl) (HHI.out _ (HGU.out _).drew) ?_
      repeat (go_big_quiet_step (first | with_reducible exact CN _))
      refine wpQuiet_nil ?_
      intro w2 hw2
      obtain ⟨u, rfl⟩ := hw2
      go_wp2_with fail
      refine wp_region_class g (by kernel_rfl) (by kernel_rfl) (HHI.out _ (HGU.out _).drew) ?_
      repeat (go_big_quiet_step (first | with_reducible exact CM _ | with_reducible exact CD _))
      refine wpQuiet_nil ?_
      intro w2 hw2
      obtain ⟨u, rfl⟩ := hw2
      go_wp2_with fail
      go_ret2
      refine ⟨ret_si (Eq.trans ?_ HS.out) HE.out, HB.out.trans ((HGU.out _).mono HB.out.size)⟩
      show _ = bs (textP h)
      rw [HV.out]
      simp only [← List.append_assoc, ← bs_app]
      rfl
    · have HV : Hid (textP h = Lib.itoa h.n ++ h.l) := by show _ = _; unfold textP fracP; rw [if_neg hd]; simp
      have e1 : decide (0 < h.den) = false := decide_eq_false hd
      clear hd
      go_wp2_with (first | ((with_reducible refine (CA _).mono ?_); rintro e w' ⟨rfl, u, rfl⟩))
      refine wp_region_class g (by kernel_rfl) (by kernel_rfl) (HHI.out _ (HGU.out _).drew) ?_
      repeat (go_big_quiet_step (first | with_reducible exact CN _))
      refine wpQuiet_nil ?_
      intro w2 hw2
      obtain ⟨u, rfl⟩ := hw2
      go_wp2_with fail
      go_ret2
      refine ⟨ret_si (Eq.trans ?_ HS.out) HE.out, HB.out.trans ((HGU.out _).mono HB.out.size)⟩
      show _ = bs (textP h)
      rw [HV.out]
      simp only [← List.append_assoc, ← bs_app]
      rfl
theorem drop_at5 {α : Type} {l : List α} {k : Nat} {x : α} (h : l[k]? = some x) : l.drop k = x :: l.drop (k + 1) := by
  obtain ⟨hlt, e⟩ := List.getElem?_eq_some_iff.1 h
  rw [List.drop_eq_getElem_cons hlt, e]
theorem candR_at {t : List UInt8} {k : Nat} {L T : List UInt8} (ha : (t.take k).all dgB = true) (hn : ∀ c r, t.drop k = c :: r → dgB c = false) (hr : restR (t.drop k) = (L, T)) :
    candR t = ⟨val 0 (t.take k), L, (tailR T).1, (tailR T).2⟩ := by
  have h := takeW_app (l := t.take k) (r := t.drop k) (fun c hc => List.all_eq_true.1 ha c hc) hn
  rw [List.take_append_drop] at h
  unfold candR
  rw [h.1, h.2, hr]
theorem tail_not {T : List UInt8} (h : T.length ≠ 4) : tailR T = (0, 0) := by
  unfold tailR
  split
  · simp at h
  · rfl
theorem val_pow : ∀ (l : List UInt8), l.all dgB = true → val 0 l < 10 ^ l.length := by
  have h : ∀ (l : List UInt8) (acc : Nat), l.all dgB = true → val acc l < (acc + 1) * 10 ^ l.length := by
    intro l
    induction l with
    | nil => intro acc _; simp [val]
    | cons c l ih =>
      intro acc ha
      rw [List.all_cons, Bool.and_eq_true] at ha
      have h1 := (dgB_iff c).1 ha.1
      unfold isDg at h1
      have h2 := ih (acc * 10 + (c.toNat - 48)) ha.2
      show val (acc * 10 + (c.toNat - 48)) l < _
      refine Nat.lt_of_lt_of_le h2 ?_
      rw [List.length_cons, Nat.pow_succ, Nat.mul_comm (10 ^ l.length) 10, ← Nat.mul_assoc]
      exact Nat.mul_le_mul_right _ (by omega)
  intro l ha
  have := h l 0 ha
  simpa using this
def PaI (t : List UInt8) (w wr : World) (i : Value) : Prop := ∃ (k : Nat) (v : Nat), i = .int .i64 (k : Int) ∧ k ≤ t.length ∧ v < 1000000000 ∧ Hid (val 0 (t.take k) = v) ∧ Hid (HBox wr (w.heap.size + 1) ⟨v, [], 0, 0⟩) ∧ Hid (HBox wr w.heap.size ⟨0, [], 0, 0⟩) ∧ Hid (Below w.heap.size w wr) ∧ Hid ((t.take k).all dgB = true)
theorem parseR_bad {t : List UInt8} {c : HN} (h : candR t = c) (hv : c.valid = false) : outP t = ⟨0, [], 0, 0⟩ ∧ errP t = 5 := by
  unfold outP errP
  rw [parse_R, h, hv]; exact ⟨rfl, rfl⟩
theorem parseR_ne {t : List UInt8} {c : HN} (h : candR t = c) (hv : c.valid = true) (he : ¬ textP c = t) : outP t = ⟨0, [], 0, 0⟩ ∧ errP t = 5 := by
  unfold outP errP
  rw [parse_R, h, hv]; simp [he]
theorem parseR_ok {t : List UInt8} {c : HN} (h : candR t = c) (hv : c.valid = true) (he : textP c = t) : outP t = c ∧ errP t = 0 := by
  unfold outP errP
  rw [parse_R, h, hv]; simp [he]
theorem parseR_long {t : List UInt8} (h : 9 < t.length) : outP t = ⟨0, [], 0, 0⟩ ∧ errP t = 5 := by
  unfold outP errP
  rw [parse_long h]; exact ⟨rfl, rfl⟩
set_option maxRecDepth 100000 in
set_option maxHeartbeats 8000000 in
theorem rParse_any (t : List UInt8) (w : World) (ht : t.length ≤ 100000) : Calls Tryz.prog 105 #[.string (bs t)] w fun e w' => e = .returned (.tuple #[hval (outP t), .int .i64 (errP t)]) ∧ Below w.heap.size w w' := by
  have hsz : (bs t).size = t.length := bs_size t
  by_cases hlong : 9 < t.length
  · have HV := hide (parseR_long hlong)
    have e1 : decide ((9 : Int) < (t.length : Int)) = true := decide_eq_true (by omega)
    have HX := hide (HBox.new w ⟨0, [], 0, 0⟩)
    have HB := hide ((Below.refl w.heap.size w).alloc (Nat.le_refl _) (.cells #[.int .i64 (⟨0, [], 0, 0⟩ : HN).n, .string ⟨(⟨0, [], 0, 0⟩ : HN).l.toArray⟩, .int .i64 (⟨0, [], 0, 0⟩ : HN).num, .int .i64 (⟨0, [], 0, 0⟩ : HN).den] 93))
    clear hlong
    go_enter Tryz.func105, Tryz.ntmps105
    go_wp2_with fail
    exact bodyPost_ret (results_cell_tmp (p := 2) (u := 3) rfl _ _ w.heap.size 93 _ _ rfl HX.out.blk Tryz.underlying93 rfl (by kernel_rfl)) rfl ⟨ret_hn HV.out.1.symm HV.out.2.symm, HB.out⟩
  have e1 : decide ((9 : Int) < (t.length : Int)) = false := decide_eq_false (by omega)
  have HA := hide (hNew2 w ⟨0, [], 0, 0⟩ ⟨0, [], 0, 0⟩).1
  have HB := hide (hNew2 w ⟨0, [], 0, 0⟩ ⟨0, [], 0, 0⟩).2
  have HB0 := hide (((Below.refl w.heap.size w).alloc (Nat.le_refl _) (.cells #[.int .i64 (⟨0, [], 0, 0⟩ : HN).n, .string ⟨(⟨0, [], 0, 0⟩ : HN).l.toArray⟩, .int .i64 (⟨0, [], 0, 0⟩ : HN).num, .int .i64 (⟨0, [], 0, 0⟩ : HN).den] 93)).alloc (by simp) (.cells #[.int .i64 (⟨0, [], 0, 0⟩ : HN).n, .string ⟨(⟨0, [], 0, 0⟩ : HN).l.toArray⟩, .int .i64 (⟨0, [], 0, 0⟩ : HN).num, .int .i64 (⟨0, [], 0, 0⟩ : HN).den] 93))
  go_enter Tryz.func105, Tryz.ntmps105
  go_wp2_with fail
  go_loopw [5] (fun i wr => PaI t w wr i) (fun i _ => t.length - (intOf i).toNat)
  case atStart => exact ⟨0, 0, rfl, by omega, by decide, rfl, HB.out, HA.out, HB0.out, rfl⟩
  case round =>
    obtain ⟨k, v, rfl, hk, hv9, HVv, HNb, HR, HBl, HAl⟩ := hrel
    by_cases hlt : k < t.length
    · have e2 : decide ((k : Int) < (t.length : Int)) = true := decide_eq_true (by omega)
      obtain ⟨c, hc⟩ : ∃ c, t[k]? = some c := ⟨_, List.getElem?_eq_getElem hlt⟩
      have ci := index_bs t k c hc
      have HD := hide (drop_at5 hc)
      cases hdg : dgB c
      · have hnd : ¬ (48 ≤ c.toNat ∧ c.toNat ≤ 57) := fun h => by rw [(dgB_iff c).2 h] at hdg; cases hdg
        have HND : Hid (∀ c' r, t.drop k = c' :: r → dgB c' = false) := fun c' r h => by rw [HD.out] at h; injection h with h _; rw [← h]; exact hdg
        obtain ⟨f0, f1, f2, f3⟩ := HNb.out.facts
        have z1 := HNb.out.blk.frozen 1
        have z2 := HNb.out.blk.frozen 2
        have z3 := HNb.out.blk.frozen 3
        clear HA HB HB0 hdg
        by_cases h32 : c = 32
        · subst h32
          have HRS : Hid (restR (t.drop k) = ([], 32 :: t.drop (k + 1))) := by show _ = _; rw [HD.out]; rfl
          have HC0 : Hid (candR t = ⟨v, [], (tailR (32 :: t.drop (k + 1))).1, (tailR (32 :: t.drop (k + 1))).2⟩) := by show _ = _; rw [candR_at HAl.out HND.out HRS.out, HVv.out]
          clear hnd
          by_cases h4 : t.length = k + 4
          · obtain ⟨x, hx⟩ : ∃ x, t[k + 1]? = some x := ⟨_, List.getElem?_eq_getElem (by omega)⟩
            obtain ⟨y, hy⟩ : ∃ y, t[k + 2]? = some y := ⟨_, List.getElem?_eq_getElem (by omega)⟩
            obtain ⟨z, hz⟩ : ∃ z, t[k + 3]? = some z := ⟨_, List.getElem?_eq_getElem (by omega)⟩
            have HC : Hid (candR t = ⟨v, [], (x.toNat : Int) - 48, (z.toNat : Int) - 48⟩) := by
              show _ = _
              rw [HC0.out, drop_at5 hx, drop_at5 hy, drop_at5 hz, List.drop_of_length_le (by omega)]; rfl
            have ix := index_bs t (k + 1) x hx
            have iz := index_bs t (k + 3) z hz
            rw [show ((k + 1 : Nat) : Int) = (k : Int) + 1 by omega] at ix
            rw [show ((k + 3 : Nat) : Int) = (k : Int) + 3 by omega] at iz
            have e4 : ((t.length : Int) - (k : Int) == 4) = true := by rw [beq_iff_eq]; omega
            have b1 := x.toNat_lt
            have b2 := z.toNat_lt
            clear hx hy hz hc h4 HC0
            generalize x.toNat = xn at *
            generalize z.toNat = zn at *
            have HN5 : Hid (HBox ((wr.setCell ⟨w.heap.size + 1, 2, none⟩ (.int .i64 ((xn : Int) - 48))).setCell ⟨w.heap.size + 1, 3, none⟩ (.int .i64 ((zn : Int) - 48))) (w.heap.size + 1) (⟨(v : Int), [], (xn : Int) - 48, (zn : Int) - 48⟩ : HN)) := ⟨((HNb.out.blk.set_ 2 (.int .i64 ((xn : Int) - 48))).set_ 3 (.int .i64 ((zn : Int) - 48)))⟩
            have HR5 : Hid (HBox ((wr.setCell ⟨w.heap.size + 1, 2, none⟩ (.int .i64 ((xn : Int) - 48))).setCell ⟨w.heap.size + 1, 3, none⟩ (.int .i64 ((zn : Int) - 48))) w.heap.size ⟨0, [], 0, 0⟩) := ⟨((HR.out.blk.far (p := ⟨w.heap.size + 1, 2, none⟩) (Nat.ne_of_lt (Nat.lt_succ_self _)) (.int .i64 ((xn : Int) - 48))).far (p := ⟨w.heap.size + 1, 3, none⟩) (Nat.ne_of_lt (Nat.lt_succ_self _)) (.int .i64 ((zn : Int) - 48)))⟩
            have HB5 : Hid (Below w.heap.size w ((wr.setCell ⟨w.heap.size + 1, 2, none⟩ (.int .i64 ((xn : Int) - 48))).setCell ⟨w.heap.size + 1, 3, none⟩ (.int .i64 ((zn : Int) - 48)))) := ((HBl.out.setCell (p := ⟨w.heap.size + 1, 2, none⟩) (Nat.le_succ _) (.int .i64 ((xn : Int) - 48))).setCell (p := ⟨w.heap.size + 1, 3, none⟩) (Nat.le_succ _) (.int .i64 ((zn : Int) - 48)))
            clear HNb HR HBl
            go_wp2_with fail
            generalize (wr.setCell ⟨w.heap.size + 1, 2, none⟩ (.int .i64 ((xn : Int) - 48))).setCell ⟨w.heap.size + 1, 3, none⟩ (.int .i64 ((zn : Int) - 48)) = w5 at *
            have HFI : Hid (HN.fit (⟨(v : Int), [], (xn : Int) - 48, (zn : Int) - 48⟩ : HN)) := by show (bs _).size ≤ maxLen; rw [bs_size]; unfold maxLen; first | decide | (simp)
            refine (rText_any (⟨(v : Int), [], (xn : Int) - 48, (zn : Int) - 48⟩ : HN) _ HFI.out).mono ?_
            rintro e w6 ⟨rfl, hb⟩
            have HB6 := hide (HB5.out.trans (hb.mono HB5.out.size))
            have HR6 := hide (HR5.out.to hb)
            have HN6 := hide (HN5.out.to hb)
            clear hb HB5 HR5 HN5
            obtain ⟨cc, hc⟩ : ∃ cx, (⟨(v : Int), [], (xn : Int) - 48, (zn : Int) - 48⟩ : HN) = cx := ⟨_, rfl⟩
            rw [hc] at HN6 HC ⊢
            clear hc
            obtain ⟨x0, x1, x2, x3⟩ := HN6.out.facts
            obtain ⟨r0, r1, r2, r3⟩ := HR6.out.facts
            have s0 := HR6.out.blk.frozen 0
            have s1 := HR6.out.blk.frozen 1
            have s2 := HR6.out.blk.frozen 2
            have s3 := HR6.out.blk.frozen 3
            cases hv : cc.valid
            · have HV := hide (parseR_bad HC.out hv)
              clear hv
              go_wp2_with fail
              have hbk : Blk ((((w6.setCell ⟨w.heap.size, 0, none⟩ (.int .i64 (⟨0, [], 0, 0⟩ : HN).n)).setCell ⟨w.heap.size, 1, none⟩ (.string ⟨(⟨0, [], 0, 0⟩ : HN).l.toArray⟩)).setCell ⟨w.heap.size, 2, none⟩ (.int .i64 (⟨0, [], 0, 0⟩ : HN).num)).setCell ⟨w.heap.size, 3, none⟩ (.int .i64 (⟨0, [], 0, 0⟩ : HN).den)) w.heap.size 93 (hCells (⟨0, [], 0, 0⟩ : HN)) := ((((HR6.out.blk.set_ 0 (.int .i64 (⟨0, [], 0, 0⟩ : HN).n)).set_ 1 (.string ⟨(⟨0, [], 0, 0⟩ : HN).l.toArray⟩)).set_ 2 (.int .i64 (⟨0, [], 0, 0⟩ : HN).num)).set_ 3 (.int .i64 (⟨0, [], 0, 0⟩ : HN).den))
              refine bodyPost_ret (results_cell_tmp (p := 2) (u := 3) rfl _ _ w.heap.size 93 _ _ rfl hbk Tryz.underlying93 rfl (by kernel_rfl)) rfl ⟨ret_hn HV.out.1.symm HV.out.2.symm, ?_⟩
              exact ((((HB6.out.setCell (p := ⟨w.heap.size, 0, none⟩) (Nat.le_refl _) _).setCell (p := ⟨w.heap.size, 1, none⟩) (Nat.le_refl _) _).setCell (p := ⟨w.heap.size, 2, none⟩) (Nat.le_refl _) _).setCell (p := ⟨w.heap.size, 3, none⟩) (Nat.le_refl _) _)
            · by_cases he : textP cc = t
              · have HV := hide (parseR_ok HC.out hv he)
                rw [he]
                clear hv he
                go_wp2_with fail
                have hbk : Blk ((((w6.setCell ⟨w.heap.size, 0, none⟩ (.int .i64 cc.n)).setCell ⟨w.heap.size, 1, none⟩ (.string ⟨cc.l.toArray⟩)).setCell ⟨w.heap.size, 2, none⟩ (.int .i64 cc.num)).setCell ⟨w.heap.size, 3, none⟩ (.int .i64 cc.den)) w.heap.size 93 (hCells cc) := ((((HR6.out.blk.set_ 0 (.int .i64 cc.n)).set_ 1 (.string ⟨cc.l.toArray⟩)).set_ 2 (.int .i64 cc.num)).set_ 3 (.int .i64 cc.den))
                refine bodyPost_ret (results_cell_tmp (p := 2) (u := 3) rfl _ _ w.heap.size 93 _ _ rfl hbk Tryz.underlying93 rfl (by kernel_rfl)) rfl ⟨ret_hn HV.out.1.symm HV.out.2.symm, ?_⟩
                exact ((((HB6.out.setCell (p := ⟨w.heap.size, 0, none⟩) (Nat.le_refl _) _).setCell (p := ⟨w.heap.size, 1, none⟩) (Nat.le_refl _) _).setCell (p := ⟨w.heap.size, 2, none⟩) (Nat.le_refl _) _).setCell (p := ⟨w.heap.size, 3, none⟩) (Nat.le_refl _) _)
              · have HV := hide (parseR_ne HC.out hv he)
                have hne : ((bs (textP cc)).toList == (bs t).toList) = false := by rw [bs_toList, bs_toList, beq_eq_false_iff_ne]; exact he
                clear hv he
                generalize bs (textP cc) = S at *
                go_wp2_with fail
                have hbk : Blk ((((w6.setCell ⟨w.heap.size, 0, none⟩ (.int .i64 (⟨0, [], 0, 0⟩ : HN).n)).setCell ⟨w.heap.size, 1, none⟩ (.string ⟨(⟨0, [], 0, 0⟩ : HN).l.toArray⟩)).setCell ⟨w.heap.size, 2, none⟩ (.int .i64 (⟨0, [], 0, 0⟩ : HN).num)).setCell ⟨w.heap.size, 3, none⟩ (.int .i64 (⟨0, [], 0, 0⟩ : HN).den)) w.heap.size 93 (hCells (⟨0, [], 0, 0⟩ : HN)) := ((((HR6.out.blk.set_ 0 (.int .i64 (⟨0, [], 0, 0⟩ : HN).n)).set_ 1 (.string ⟨(⟨0, [], 0, 0⟩ : HN).l.toArray⟩)).set_ 2 (.int .i64 (⟨0, [], 0, 0⟩ : HN).num)).set_ 3 (.int .i64 (⟨0, [], 0, 0⟩ : HN).den))
                refine bodyPost_ret (results_cell_tmp (p := 2) (u := 3) rfl _ _ w.heap.size 93 _ _ rfl hbk Tryz.underlying93 rfl (by kernel_rfl)) rfl ⟨ret_hn HV.out.1.symm HV.out.2.symm, ?_⟩
                exact ((((HB6.out.setCell (p := ⟨w.heap.size, 0, none⟩) (Nat.le_refl _) _).setCell (p := ⟨w.heap.size, 1, none⟩) (Nat.le_refl _) _).setCell (p := ⟨w.heap.size, 2, none⟩) (Nat.le_refl _) _).setCell (p := ⟨w.heap.size, 3, none⟩) (Nat.le_refl _) _)
          · have HC : Hid (candR t = ⟨v, [], 0, 0⟩) := by
              show _ = _
              rw [HC0.out, tail_not (by rw [List.length_cons, List.length_drop]; omega)]
            have e4 : ((t.length : Int) - (k : Int) == 4) = false := by rw [beq_eq_false_iff_ne]; omega
            have HN5 := HNb
            have HR5 := HR
            have HB5 := HBl
            clear HNb HR HBl HC0 hc h4 f0 f1 f2 f3 z1 z2 z3
            have HFI : Hid (HN.fit (⟨(v : Int), [], 0, 0⟩ : HN)) := by show (bs _).size ≤ maxLen; rw [bs_size]; unfold maxLen; first | decide | (simp)
            obtain ⟨x0, x1, x2, x3⟩ := HN5.out.facts
            go_wp2_with fail
            refine (rText_any (⟨(v : Int), [], 0, 0⟩ : HN) _ HFI.out).mono ?_
            rintro e w6 ⟨rfl, hb⟩
            have HB6 := hide (HB5.out.trans (hb.mono HB5.out.size))
            have HR6 := hide (HR5.out.to hb)
            have HN6 := hide (HN5.out.to hb)
            clear hb HB5 HR5 HN5 x0 x1 x2 x3
            obtain ⟨cc, hc⟩ : ∃ cx, (⟨(v : Int), [], 0, 0⟩ : HN) = cx := ⟨_, rfl⟩
            rw [hc] at HN6 HC ⊢
            clear hc
            obtain ⟨x0, x1, x2, x3⟩ := HN6.out.facts
            obtain ⟨r0, r1, r2, r3⟩ := HR6.out.facts
            have s0 := HR6.out.blk.frozen 0
            have s1 := HR6.out.blk.frozen 1
            have s2 := HR6.out.blk.frozen 2
            have s3 := HR6.out.blk.frozen 3
            cases hv : cc.valid
            · have HV := hide (parseR_bad HC.out hv)
              clear hv
              go_wp2_with fail
              have hbk : Blk ((((w6.setCell ⟨w.heap.size, 0, none⟩ (.int .i64 (⟨0, [], 0, 0⟩ : HN).n)).setCell ⟨w.heap.size, 1, none⟩ (.string ⟨(⟨0, [], 0, 0⟩ : HN).l.toArray⟩)).setCell ⟨w.heap.size, 2, none⟩ (.int .i64 (⟨0, [], 0, 0⟩ : HN).num)).setCell ⟨w.heap.size, 3, none⟩ (.int .i64 (⟨0, [], 0, 0⟩ : HN).den)) w.heap.size 93 (hCells (⟨0, [], 0, 0⟩ : HN)) := ((((HR6.out.blk.set_ 0 (.int .i64 (⟨0, [], 0, 0⟩ : HN).n)).set_ 1 (.string ⟨(⟨0, [], 0, 0⟩ : HN).l.toArray⟩)).set_ 2 (.int .i64 (⟨0, [], 0, 0⟩ : HN).num)).set_ 3 (.int .i64 (⟨0, [], 0, 0⟩ : HN).den))
              refine bodyPost_ret (results_cell_tmp (p := 2) (u := 3) rfl _ _ w.heap.size 93 _ _ rfl hbk Tryz.underlying93 rfl (by kernel_rfl)) rfl ⟨ret_hn HV.out.1.symm HV.out.2.symm, ?_⟩
              exact ((((HB6.out.setCell (p := ⟨w.heap.size, 0, none⟩) (Nat.le_refl _) _).setCell (p := ⟨w.heap.size, 1, none⟩) (Nat.le_refl _) _).setCell (p := ⟨w.heap.size, 2, none⟩) (Nat.le_refl _) _).setCell (p := ⟨w.heap.size, 3, none⟩) (Nat.le_refl _) _)
            · by_cases he : textP cc = t
              · have HV := hide (parseR_ok HC.out hv he)
                rw [he]
                clear hv he
                go_wp2_with fail
                have hbk : Blk ((((w6.setCell ⟨w.heap.size, 0, none⟩ (.int .i64 cc.n)).setCell ⟨w.heap.size, 1, none⟩ (.string ⟨cc.l.toArray⟩)).setCell ⟨w.heap.size, 2, none⟩ (.int .i64 cc.num)).setCell ⟨w.heap.size, 3, none⟩ (.int .i64 cc.den)) w.heap.size 93 (hCells cc) := ((((HR6.out.blk.set_ 0 (.int .i64 cc.n)).set_ 1 (.string ⟨cc.l.toArray⟩)).set_ 2 (.int .i64 cc.num)).set_ 3 (.int .i64 cc.den))
                refine bodyPost_ret (results_cell_tmp (p := 2) (u := 3) rfl _ _ w.heap.size 93 _ _ rfl hbk Tryz.underlying93 rfl (by kernel_rfl)) rfl ⟨ret_hn HV.out.1.symm HV.out.2.symm, ?_⟩
                exact ((((HB6.out.setCell (p := ⟨w.heap.size, 0, none⟩) (Nat.le_refl _) _).setCell (p := ⟨w.heap.size, 1, none⟩) (Nat.le_refl _) _).setCell (p := ⟨w.heap.size, 2, none⟩) (Nat.le_refl _) _).setCell (p := ⟨w.heap.size, 3, none⟩) (Nat.le_refl _) _)
              · have HV := hide (parseR_ne HC.out hv he)
                have hne : ((bs (textP cc)).toList == (bs t).toList) = false := by rw [bs_toList, bs_toList, beq_eq_false_iff_ne]; exact he
                clear hv he
                generalize bs (textP cc) = S at *
                go_wp2_with fail
                have hbk : Blk ((((w6.setCell ⟨w.heap.size, 0, none⟩ (.int .i64 (⟨0, [], 0, 0⟩ : HN).n)).setCell ⟨w.heap.size, 1, none⟩ (.string ⟨(⟨0, [], 0, 0⟩ : HN).l.toArray⟩)).setCell ⟨w.heap.size, 2, none⟩ (.int .i64 (⟨0, [], 0, 0⟩ : HN).num)).setCell ⟨w.heap.size, 3, none⟩ (.int .i64 (⟨0, [], 0, 0⟩ : HN).den)) w.heap.size 93 (hCells (⟨0, [], 0, 0⟩ : HN)) := ((((HR6.out.blk.set_ 0 (.int .i64 (⟨0, [], 0, 0⟩ : HN).n)).set_ 1 (.string ⟨(⟨0, [], 0, 0⟩ : HN).l.toArray⟩)).set_ 2 (.int .i64 (⟨0, [], 0, 0⟩ : HN).num)).set_ 3 (.int .i64 (⟨0, [], 0, 0⟩ : HN).den))
                refine bodyPost_ret (results_cell_tmp (p := 2) (u := 3) rfl _ _ w.heap.size 93 _ _ rfl hbk Tryz.underlying93 rfl (by kernel_rfl)) rfl ⟨ret_hn HV.out.1.symm HV.out.2.symm, ?_⟩
                exact ((((HB6.out.setCell (p := ⟨w.heap.size, 0, none⟩) (Nat.le_refl _) _).setCell (p := ⟨w.heap.size, 1, none⟩) (Nat.le_refl _) _).setCell (p := ⟨w.heap.size, 2, none⟩) (Nat.le_refl _) _).setCell (p := ⟨w.heap.size, 3, none⟩) (Nat.le_refl _) _)
        · have hne : ((c.toNat : Int) != 32) = true := by rw [bne_iff_ne]; intro h; exact h32 (UInt8.toNat_inj.1 (by simp; omega))
          have ex : (bs t).extract k (k + 1) = bs [c] := by rw [bs_cut, HD.out, show k + 1 - k = 1 by omega]; rfl
          have HRS : Hid (restR (t.drop k) = ([c], t.drop (k + 1))) := by show _ = _; rw [HD.out]; unfold restR; simp only; rw [if_neg h32]
          have HC0 : Hid (candR t = ⟨v, [c], (tailR (t.drop (k + 1))).1, (tailR (t.drop (k + 1))).2⟩) := by show _ = _; rw [candR_at HAl.out HND.out HRS.out, HVv.out]
          have b0 := c.toNat_lt
          have HTW : (48 ≤ c.toNat → ¬ c.toNat ≤ 57) := fun h h' => hnd ⟨h, h'⟩
          clear hnd h32
          by_cases h4 : t.length = k + 5
          · obtain ⟨x0, hx0⟩ : ∃ x, t[k + 1]? = some x := ⟨_, List.getElem?_eq_getElem (by omega)⟩
            obtain ⟨x, hx⟩ : ∃ x, t[k + 2]? = some x := ⟨_, List.getElem?_eq_getElem (by omega)⟩
            obtain ⟨y, hy⟩ : ∃ y, t[k + 3]? = some y := ⟨_, List.getElem?_eq_getElem (by omega)⟩
            obtain ⟨z, hz⟩ : ∃ z, t[k + 4]? = some z := ⟨_, List.getElem?_eq_getElem (by omega)⟩
            have HC : Hid (candR t = ⟨v, [c], (x.toNat : Int) - 48, (z.toNat : Int) - 48⟩) := by
              show _ = _
              rw [HC0.out, drop_at5 hx0, drop_at5 hx, drop_at5 hy, drop_at5 hz, List.drop_of_length_le (by omega)]; rfl
            have ix := index_bs t (k + 2) x hx
            have iz := index_bs t (k + 4) z hz
            rw [show ((k + 2 : Nat) : Int) = (k : Int) + 1 + 1 by omega] at ix
            rw [show ((k + 4 : Nat) : Int) = (k : Int) + 1 + 3 by omega] at iz
            have e4 : ((t.length : Int) - ((k : Int) + 1) == 4) = true := by rw [beq_iff_eq]; omega
            have b1 := x.toNat_lt
            have b2 := z.toNat_lt
            clear hx0 hx hy hz hc h4 HC0 HRS HD HND
            generalize x.toNat = xn at *
            generalize z.toNat = zn at *
            have HN5 : Hid (HBox (((wr.setCell ⟨w.heap.size + 1, 1, none⟩ (.string (bs [c]))).setCell ⟨w.heap.size + 1, 2, none⟩ (.int .i64 ((xn : Int) - 48))).setCell ⟨w.heap.size + 1, 3, none⟩ (.int .i64 ((zn : Int) - 48))) (w.heap.size + 1) (⟨(v : Int), [c], (xn : Int) - 48, (zn : Int) - 48⟩ : HN)) := ⟨(((HNb.out.blk.set_ 1 (.string (bs [c]))).set_ 2 (.int .i64 ((xn : Int) - 48))).set_ 3 (.int .i64 ((zn : Int) - 48)))⟩
            have HR5 : Hid (HBox (((wr.setCell ⟨w.heap.size + 1, 1, none⟩ (.string (bs [c]))).setCell ⟨w.heap.size + 1, 2, none⟩ (.int .i64 ((xn : Int) - 48))).setCell ⟨w.heap.size + 1, 3, none⟩ (.int .i64 ((zn : Int) - 48))) w.heap.size ⟨0, [], 0, 0⟩) := ⟨(((HR.out.blk.far (p := ⟨w.heap.size + 1, 1, none⟩) (Nat.ne_of_lt (Nat.lt_succ_self _)) (.string (bs [c]))).far (p := ⟨w.heap.size + 1, 2, none⟩) (Nat.ne_of_lt (Nat.lt_succ_self _)) (.int .i64 ((xn : Int) - 48))).far (p := ⟨w.heap.size + 1, 3, none⟩) (Nat.ne_of_lt (Nat.lt_succ_self _)) (.int .i64 ((zn : Int) - 48)))⟩
            have HB5 : Hid (Below w.heap.size w (((wr.setCell ⟨w.heap.size + 1, 1, none⟩ (.string (bs [c]))).setCell ⟨w.heap.size + 1, 2, none⟩ (.int .i64 ((xn : Int) - 48))).setCell ⟨w.heap.size + 1, 3, none⟩ (.int .i64 ((zn : Int) - 48)))) := (((HBl.out.setCell (p := ⟨w.heap.size + 1, 1, none⟩) (Nat.le_succ _) (.string (bs [c]))).setCell (p := ⟨w.heap.size + 1, 2, none⟩) (Nat.le_succ _) (.int .i64 ((xn : Int) - 48))).setCell (p := ⟨w.heap.size + 1, 3, none⟩) (Nat.le_succ _) (.int .i64 ((zn : Int) - 48)))
            clear HNb HR HBl
            by_cases h48 : 48 ≤ c.toNat
            · have g1 : decide (48 ≤ (c.toNat : Int)) = true := decide_eq_true (by omega)
              have g2 : decide ((c.toNat : Int) ≤ 57) = false := decide_eq_false (by have := HTW h48; omega)
              clear h48 HTW
              generalize c.toNat = cn at *
              go_wp2_with fail
              generalize ((wr.setCell ⟨w.heap.size + 1, 1, none⟩ (.string (bs [c]))).setCell ⟨w.heap.size + 1, 2, none⟩ (.int .i64 ((xn : Int) - 48))).setCell ⟨w.heap.size + 1, 3, none⟩ (.int .i64 ((zn : Int) - 48)) = w5 at *
              have HFI : Hid (HN.fit (⟨(v : Int), [c], (xn : Int) - 48, (zn : Int) - 48⟩ : HN)) := by show (bs _).size ≤ maxLen; rw [bs_size]; unfold maxLen; first | decide | (simp)
              refine (rText_any (⟨(v : Int), [c], (xn : Int) - 48, (zn : Int) - 48⟩ : HN) _ HFI.out).mono ?_
              rintro e w6 ⟨rfl, hb⟩
              have HB6 := hide (HB5.out.trans (hb.mono HB5.out.size))
              have HR6 := hide (HR5.out.to hb)
              have HN6 := hide (HN5.out.to hb)
              clear hb HB5 HR5 HN5
              obtain ⟨cc, hc⟩ : ∃ cx, (⟨(v : Int), [c], (xn : Int) - 48, (zn : Int) - 48⟩ : HN) = cx := ⟨_, rfl⟩
              rw [hc] at HN6 HC ⊢
              clear hc
              obtain ⟨x0, x1, x2, x3⟩ := HN6.out.facts
              obtain ⟨r0, r1, r2, r3⟩ := HR6.out.facts
              have s0 := HR6.out.blk.frozen 0
              have s1 := HR6.out.blk.frozen 1
              have s2 := HR6.out.blk.frozen 2
              have s3 := HR6.out.blk.frozen 3
              cases hv : cc.valid
              · have HV := hide (parseR_bad HC.out hv)
                clear hv
                go_wp2_with fail
                have hbk : Blk ((((w6.setCell ⟨w.heap.size, 0, none⟩ (.int .i64 (⟨0, [], 0, 0⟩ : HN).n)).setCell ⟨w.heap.size, 1, none⟩ (.string ⟨(⟨0, [], 0, 0⟩ : HN).l.toArray⟩)).setCell ⟨w.heap.size, 2, none⟩ (.int .i64 (⟨0, [], 0, 0⟩ : HN).num)).setCell ⟨w.heap.size, 3, none⟩ (.int .i64 (⟨0, [], 0, 0⟩ : HN).den)) w.heap.size 93 (hCells (⟨0, [], 0, 0⟩ : HN)) := ((((HR6.out.blk.set_ 0 (.int .i64 (⟨0, [], 0, 0⟩ : HN).n)).set_ 1 (.string ⟨(⟨0, [], 0, 0⟩ : HN).l.toArray⟩)).set_ 2 (.int .i64 (⟨0, [], 0, 0⟩ : HN).num)).set_ 3 (.int .i64 (⟨0, [], 0, 0⟩ : HN).den))
                refine bodyPost_ret (results_cell_tmp (p := 2) (u := 3) rfl _ _ w.heap.size 93 _ _ rfl hbk Tryz.underlying93 rfl (by kernel_rfl)) rfl ⟨ret_hn HV.out.1.symm HV.out.2.symm, ?_⟩
                exact ((((HB6.out.setCell (p := ⟨w.heap.size, 0, none⟩) (Nat.le_refl _) _).setCell (p := ⟨w.heap.size, 1, none⟩) (Nat.le_refl _) _).setCell (p := ⟨w.heap.size, 2, none⟩) (Nat.le_refl _) _).setCell (p := ⟨w.heap.size, 3, none⟩) (Nat.le_refl _) _)
              · by_cases he : textP cc = t
                · have HV := hide (parseR_ok HC.out hv he)
                  rw [he]
                  clear hv he
                  go_wp2_with fail
                  have hbk : Blk ((((w6.setCell ⟨w.heap.size, 0, none⟩ (.int .i64 cc.n)).setCell ⟨w.heap.size, 1, none⟩ (.string ⟨cc.l.toArray⟩)).setCell ⟨w.heap.size, 2, none⟩ (.int .i64 cc.num)).setCell ⟨w.heap.size, 3, none⟩ (.int .i64 cc.den)) w.heap.size 93 (hCells cc) := ((((HR6.out.blk.set_ 0 (.int .i64 cc.n)).set_ 1 (.string ⟨cc.l.toArray⟩)).set_ 2 (.int .i64 cc.num)).set_ 3 (.int .i64 cc.den))
                  refine bodyPost_ret (results_cell_tmp (p := 2) (u := 3) rfl _ _ w.heap.size 93 _ _ rfl hbk Tryz.underlying93 rfl (by kernel_rfl)) rfl ⟨ret_hn HV.out.1.symm HV.out.2.symm, ?_⟩
                  exact ((((HB6.out.setCell (p := ⟨w.heap.size, 0, none⟩) (Nat.le_refl _) _).setCell (p := ⟨w.heap.size, 1, none⟩) (Nat.le_refl _) _).setCell (p := ⟨w.heap.size, 2, none⟩) (Nat.le_refl _) _).setCell (p := ⟨w.heap.size, 3, none⟩) (Nat.le_refl _) _)
                · have HV := hide (parseR_ne HC.out hv he)
                  have hne : ((bs (textP cc)).toList == (bs t).toList) = false := by rw [bs_toList, bs_toList, beq_eq_false_iff_ne]; exact he
                  clear hv he
                  generalize bs (textP cc) = S at *
                  go_wp2_with fail
                  have hbk : Blk ((((w6.setCell ⟨w.heap.size, 0, none⟩ (.int .i64 (⟨0, [], 0, 0⟩ : HN).n)).setCell ⟨w.heap.size, 1, none⟩ (.string ⟨(⟨0, [], 0, 0⟩ : HN).l.toArray⟩)).setCell ⟨w.heap.size, 2, none⟩ (.int .i64 (⟨0, [], 0, 0⟩ : HN).num)).setCell ⟨w.heap.size, 3, none⟩ (.int .i64 (⟨0, [], 0, 0⟩ : HN).den)) w.heap.size 93 (hCells (⟨0, [], 0, 0⟩ : HN)) := ((((HR6.out.blk.set_ 0 (.int .i64 (⟨0, [], 0, 0⟩ : HN).n)).set_ 1 (.string ⟨(⟨0, [], 0, 0⟩ : HN).l.toArray⟩)).set_ 2 (.int .i64 (⟨0, [], 0, 0⟩ : HN).num)).set_ 3 (.int .i64 (⟨0, [], 0, 0⟩ : HN).den))
                  refine bodyPost_ret (results_cell_tmp (p := 2) (u := 3) rfl _ _ w.heap.size 93 _ _ rfl hbk Tryz.underlying93 rfl (by kernel_rfl)) rfl ⟨ret_hn HV.out.1.symm HV.out.2.symm, ?_⟩
                  exact ((((HB6.out.setCell (p := ⟨w.heap.size, 0, none⟩) (Nat.le_refl _) _).setCell (p := ⟨w.heap.size, 1, none⟩) (Nat.le_refl _) _).setCell (p := ⟨w.heap.size, 2, none⟩) (Nat.le_refl _) _).setCell (p := ⟨w.heap.size, 3, none⟩) (Nat.le_refl _) _)
            · have g1 : decide (48 ≤ (c.toNat : Int)) = false := decide_eq_false (by omega)
              clear h48 HTW
              generalize c.toNat = cn at *
              go_wp2_with fail
              generalize ((wr.setCell ⟨w.heap.size + 1, 1, none⟩ (.string (bs [c]))).setCell ⟨w.heap.size + 1, 2, none⟩ (.int .i64 ((xn : Int) - 48))).setCell ⟨w.heap.size + 1, 3, none⟩ (.int .i64 ((zn : Int) - 48)) = w5 at *
              have HFI : Hid (HN.fit (⟨(v : Int), [c], (xn : Int) - 48, (zn : Int) - 48⟩ : HN)) := by show (bs _).size ≤ maxLen; rw [bs_size]; unfold maxLen; first | decide | (simp)
              refine (rText_any (⟨(v : Int), [c], (xn : Int) - 48, (zn : Int) - 48⟩ : HN) _ HFI.out).mono ?_
              rintro e w6 ⟨rfl, hb⟩
              have HB6 := hide (HB5.out.trans (hb.mono HB5.out.size))
              have HR6 := hide (HR5.out.to hb)
              have HN6 := hide (HN5.out.to hb)
              clear hb HB5 HR5 HN5
              obtain ⟨cc, hc⟩ : ∃ cx, (⟨(v : Int), [c], (xn : Int) - 48, (zn : Int) - 48⟩ : HN) = cx := ⟨_, rfl⟩
              rw [hc] at HN6 HC ⊢
              clear hc
              obtain ⟨x0, x1, x2, x3⟩ := HN6.out.facts
              obtain ⟨r0, r1, r2, r3⟩ := HR6.out.facts
              have s0 := HR6.out.blk.frozen 0
              have s1 := HR6.out.blk.frozen 1
              have s2 := HR6.out.blk.frozen 2
              have s3 := HR6.out.blk.frozen 3
              cases hv : cc.valid
              · have HV := hide (parseR_bad HC.out hv)
                clear hv
                go_wp2_with fail
                have hbk : Blk ((((w6.setCell ⟨w.heap.size, 0, none⟩ (.int .i64 (⟨0, [], 0, 0⟩ : HN).n)).setCell ⟨w.heap.size, 1, none⟩ (.string ⟨(⟨0, [], 0, 0⟩ : HN).l.toArray⟩)).setCell ⟨w.heap.size, 2, none⟩ (.int .i64 (⟨0, [], 0, 0⟩ : HN).num)).setCell ⟨w.heap.size, 3, none⟩ (.int .i64 (⟨0, [], 0, 0⟩ : HN).den)) w.heap.size 93 (hCells (⟨0, [], 0, 0⟩ : HN)) := ((((HR6.out.blk.set_ 0 (.int .i64 (⟨0, [], 0, 0⟩ : HN).n)).set_ 1 (.string ⟨(⟨0, [], 0, 0⟩ : HN).l.toArray⟩)).set_ 2 (.int .i64 (⟨0, [], 0, 0⟩ : HN).num)).set_ 3 (.int .i64 (⟨0, [], 0, 0⟩ : HN).den))
                refine bodyPost_ret (results_cell_tmp (p := 2) (u := 3) rfl _ _ w.heap.size 93 _ _ rfl hbk Tryz.underlying93 rfl (by kernel_rfl)) rfl ⟨ret_hn HV.out.1.symm HV.out.2.symm, ?_⟩
                exact ((((HB6.out.setCell (p := ⟨w.heap.size, 0, none⟩) (Nat.le_refl _) _).setCell (p := ⟨w.heap.size, 1, none⟩) (Nat.le_refl _) _).setCell (p := ⟨w.heap.size, 2, none⟩) (Nat.le_refl _) _).setCell (p := ⟨w.heap.size, 3, none⟩) (Nat.le_refl _) _)
              · by_cases he : textP cc = t
                · have HV := hide (parseR_ok HC.out hv he)
                  rw [he]
                  clear hv he
                  go_wp2_with fail
                  have hbk : Blk ((((w6.setCell ⟨w.heap.size, 0, none⟩ (.int .i64 cc.n)).setCell ⟨w.heap.size, 1, none⟩ (.string ⟨cc.l.toArray⟩)).setCell ⟨w.heap.size, 2, none⟩ (.int .i64 cc.num)).setCell ⟨w.heap.size, 3, none⟩ (.int .i64 cc.den)) w.heap.size 93 (hCells cc) := ((((HR6.out.blk.set_ 0 (.int .i64 cc.n)).set_ 1 (.string ⟨cc.l.toArray⟩)).set_ 2 (.int .i64 cc.num)).set_ 3 (.int .i64 cc.den))
                  refine bodyPost_ret (results_cell_tmp (p := 2) (u := 3) rfl _ _ w.heap.size 93 _ _ rfl hbk Tryz.underlying93 rfl (by kernel_rfl)) rfl ⟨ret_hn HV.out.1.symm HV.out.2.symm, ?_⟩
                  exact ((((HB6.out.setCell (p := ⟨w.heap.size, 0, none⟩) (Nat.le_refl _) _).setCell (p := ⟨w.heap.size, 1, none⟩) (Nat.le_refl _) _).setCell (p := ⟨w.heap.size, 2, none⟩) (Nat.le_refl _) _).setCell (p := ⟨w.heap.size, 3, none⟩) (Nat.le_refl _) _)
                · have HV := hide (parseR_ne HC.out hv he)
                  have hne : ((bs (textP cc)).toList == (bs t).toList) = false := by rw [bs_toList, bs_toList, beq_eq_false_iff_ne]; exact he
                  clear hv he
                  generalize bs (textP cc) = S at *
                  go_wp2_with fail
                  have hbk : Blk ((((w6.setCell ⟨w.heap.size, 0, none⟩ (.int .i64 (⟨0, [], 0, 0⟩ : HN).n)).setCell ⟨w.heap.size, 1, none⟩ (.string ⟨(⟨0, [], 0, 0⟩ : HN).l.toArray⟩)).setCell ⟨w.heap.size, 2, none⟩ (.int .i64 (⟨0, [], 0, 0⟩ : HN).num)).setCell ⟨w.heap.size, 3, none⟩ (.int .i64 (⟨0, [], 0, 0⟩ : HN).den)) w.heap.size 93 (hCells (⟨0, [], 0, 0⟩ : HN)) := ((((HR6.out.blk.set_ 0 (.int .i64 (⟨0, [], 0, 0⟩ : HN).n)).set_ 1 (.string ⟨(⟨0, [], 0, 0⟩ : HN).l.toArray⟩)).set_ 2 (.int .i64 (⟨0, [], 0, 0⟩ : HN).num)).set_ 3 (.int .i64 (⟨0, [], 0, 0⟩ : HN).den))
                  refine bodyPost_ret (results_cell_tmp (p := 2) (u := 3) rfl _ _ w.heap.size 93 _ _ rfl hbk Tryz.underlying93 rfl (by kernel_rfl)) rfl ⟨ret_hn HV.out.1.symm HV.out.2.symm, ?_⟩
                  exact ((((HB6.out.setCell (p := ⟨w.heap.size, 0, none⟩) (Nat.le_refl _) _).setCell (p := ⟨w.heap.size, 1, none⟩) (Nat.le_refl _) _).setCell (p := ⟨w.heap.size, 2, none⟩) (Nat.le_refl _) _).setCell (p := ⟨w.heap.size, 3, none⟩) (Nat.le_refl _) _)
          · have HC : Hid (candR t = ⟨v, [c], 0, 0⟩) := by
              show _ = _
              rw [HC0.out, tail_not (by rw [List.length_drop]; omega)]
            have e4 : ((t.length : Int) - ((k : Int) + 1) == 4) = false := by rw [beq_eq_false_iff_ne]; omega
            have HN5 : Hid (HBox (wr.setCell ⟨w.heap.size + 1, 1, none⟩ (.string (bs [c]))) (w.heap.size + 1) (⟨(v : Int), [c], 0, 0⟩ : HN)) := ⟨(HNb.out.blk.set_ 1 (.string (bs [c])))⟩
            have HR5 : Hid (HBox (wr.setCell ⟨w.heap.size + 1, 1, none⟩ (.string (bs [c]))) w.heap.size ⟨0, [], 0, 0⟩) := ⟨(HR.out.blk.far (p := ⟨w.heap.size + 1, 1, none⟩) (Nat.ne_of_lt (Nat.lt_succ_self _)) (.string (bs [c])))⟩
            have HB5 : Hid (Below w.heap.size w (wr.setCell ⟨w.heap.size + 1, 1, none⟩ (.string (bs [c])))) := (HBl.out.setCell (p := ⟨w.heap.size + 1, 1, none⟩) (Nat.le_succ _) (.string (bs [c])))
            clear HNb HR HBl HC0 hc h4 z2 z3 HRS HD HND
            by_cases h48 : 48 ≤ c.toNat
            · have g1 : decide (48 ≤ (c.toNat : Int)) = true := decide_eq_true (by omega)
              have g2 : decide ((c.toNat : Int) ≤ 57) = false := decide_eq_false (by have := HTW h48; omega)
              clear h48 HTW
              generalize c.toNat = cn at *
              go_wp2_with fail
              generalize wr.setCell ⟨w.heap.size + 1, 1, none⟩ (.string (bs [c])) = w5 at *
              have HFI : Hid (HN.fit (⟨(v : Int), [c], 0, 0⟩ : HN)) := by show (bs _).size ≤ maxLen; rw [bs_size]; unfold maxLen; first | decide | (simp)
              refine (rText_any (⟨(v : Int), [c], 0, 0⟩ : HN) _ HFI.out).mono ?_
              rintro e w6 ⟨rfl, hb⟩
              have HB6 := hide (HB5.out.trans (hb.mono HB5.out.size))
              have HR6 := hide (HR5.out.to hb)
              have HN6 := hide (HN5.out.to hb)
              clear hb HB5 HR5 HN5
              obtain ⟨cc, hc⟩ : ∃ cx, (⟨(v : Int), [c], 0, 0⟩ : HN) = cx := ⟨_, rfl⟩
              rw [hc] at HN6 HC ⊢
              clear hc
              obtain ⟨x0, x1, x2, x3⟩ := HN6.out.facts
              obtain ⟨r0, r1, r2, r3⟩ := HR6.out.facts
              have s0 := HR6.out.blk.frozen 0
              have s1 := HR6.out.blk.frozen 1
              have s2 := HR6.out.blk.frozen 2
              have s3 := HR6.out.blk.frozen 3
              cases hv : cc.valid
              · have HV := hide (parseR_bad HC.out hv)
                clear hv
                go_wp2_with fail
                have hbk : Blk ((((w6.setCell ⟨w.heap.size, 0, none⟩ (.int .i64 (⟨0, [], 0, 0⟩ : HN).n)).setCell ⟨w.heap.size, 1, none⟩ (.string ⟨(⟨0, [], 0, 0⟩ : HN).l.toArray⟩)).setCell ⟨w.heap.size, 2, none⟩ (.int .i64 (⟨0, [], 0, 0⟩ : HN).num)).setCell ⟨w.heap.size, 3, none⟩ (.int .i64 (⟨0, [], 0, 0⟩ : HN).den)) w.heap.size 93 (hCells (⟨0, [], 0, 0⟩ : HN)) := ((((HR6.out.blk.set_ 0 (.int .i64 (⟨0, [], 0, 0⟩ : HN).n)).set_ 1 (.string ⟨(⟨0, [], 0, 0⟩ : HN).l.toArray⟩)).set_ 2 (.int .i64 (⟨0, [], 0, 0⟩ : HN).num)).set_ 3 (.int .i64 (⟨0, [], 0, 0⟩ : HN).den))
                refine bodyPost_ret (results_cell_tmp (p := 2) (u := 3) rfl _ _ w.heap.size 93 _ _ rfl hbk Tryz.underlying93 rfl (by kernel_rfl)) rfl ⟨ret_hn HV.out.1.symm HV.out.2.symm, ?_⟩
                exact ((((HB6.out.setCell (p := ⟨w.heap.size, 0, none⟩) (Nat.le_refl _) _).setCell (p := ⟨w.heap.size, 1, none⟩) (Nat.le_refl _) _).setCell (p := ⟨w.heap.size, 2, none⟩) (Nat.le_refl _) _).setCell (p := ⟨w.heap.size, 3, none⟩) (Nat.le_refl _) _)
              · by_cases he : textP cc = t
                · have HV := hide (parseR_ok HC.out hv he)
                  rw [he]
                  clear hv he
                  go_wp2_with fail
                  have hbk : Blk ((((w6.setCell ⟨w.heap.size, 0, none⟩ (.int .i64 cc.n)).setCell ⟨w.heap.size, 1, none⟩ (.string ⟨cc.l.toArray⟩)).setCell ⟨w.heap.size, 2, none⟩ (.int .i64 cc.num)).setCell ⟨w.heap.size, 3, none⟩ (.int .i64 cc.den)) w.heap.size 93 (hCells cc) := ((((HR6.out.blk.set_ 0 (.int .i64 cc.n)).set_ 1 (.string ⟨cc.l.toArray⟩)).set_ 2 (.int .i64 cc.num)).set_ 3 (.int .i64 cc.den))
                  refine bodyPost_ret (results_cell_tmp (p := 2) (u := 3) rfl _ _ w.heap.size 93 _ _ rfl hbk Tryz.underlying93 rfl (by kernel_rfl)) rfl ⟨ret_hn HV.out.1.symm HV.out.2.symm, ?_⟩
                  exact ((((HB6.out.setCell (p := ⟨w.heap.size, 0, none⟩) (Nat.le_refl _) _).setCell (p := ⟨w.heap.size, 1, none⟩) (Nat.le_refl _) _).setCell (p := ⟨w.heap.size, 2, none⟩) (Nat.le_refl _) _).setCell (p := ⟨w.heap.size, 3, none⟩) (Nat.le_refl _) _)
                · have HV := hide (parseR_ne HC.out hv he)
                  have hne : ((bs (textP cc)).toList == (bs t).toList) = false := by rw [bs_toList, bs_toList, beq_eq_false_iff_ne]; exact he
                  clear hv he
                  generalize bs (textP cc) = S at *
                  go_wp2_with fail
                  have hbk : Blk ((((w6.setCell ⟨w.heap.size, 0, none⟩ (.int .i64 (⟨0, [], 0, 0⟩ : HN).n)).setCell ⟨w.heap.size, 1, none⟩ (.string ⟨(⟨0, [], 0, 0⟩ : HN).l.toArray⟩)).setCell ⟨w.heap.size, 2, none⟩ (.int .i64 (⟨0, [], 0, 0⟩ : HN).num)).setCell ⟨w.heap.size, 3, none⟩ (.int .i64 (⟨0, [], 0, 0⟩ : HN).den)) w.heap.size 93 (hCells (⟨0, [], 0, 0⟩ : HN)) := ((((HR6.out.blk.set_ 0 (.int .i64 (⟨0, [], 0, 0⟩ : HN).n)).set_ 1 (.string ⟨(⟨0, [], 0, 0⟩ : HN).l.toArray⟩)).set_ 2 (.int .i64 (⟨0, [], 0, 0⟩ : HN).num)).set_ 3 (.int .i64 (⟨0, [], 0, 0⟩ : HN).den))
                  refine bodyPost_ret (results_cell_tmp (p := 2) (u := 3) rfl _ _ w.heap.size 93 _ _ rfl hbk Tryz.underlying93 rfl (by kernel_rfl)) rfl ⟨ret_hn HV.out.1.symm HV.out.2.symm, ?_⟩
                  exact ((((HB6.out.setCell (p := ⟨w.heap.size, 0, none⟩) (Nat.le_refl _) _).setCell (p := ⟨w.heap.size, 1, none⟩) (Nat.le_refl _) _).setCell (p := ⟨w.heap.size, 2, none⟩) (Nat.le_refl _) _).setCell (p := ⟨w.heap.size, 3, none⟩) (Nat.le_refl _) _)
            · have g1 : decide (48 ≤ (c.toNat : Int)) = false := decide_eq_false (by omega)
              clear h48 HTW
              generalize c.toNat = cn at *
              go_wp2_with fail
              generalize wr.setCell ⟨w.heap.size + 1, 1, none⟩ (.string (bs [c])) = w5 at *
              have HFI : Hid (HN.fit (⟨(v : Int), [c], 0, 0⟩ : HN)) := by show (bs _).size ≤ maxLen; rw [bs_size]; unfold maxLen; first | decide | (simp)
              refine (rText_any (⟨(v : Int), [c], 0, 0⟩ : HN) _ HFI.out).mono ?_
              rintro e w6 ⟨rfl, hb⟩
              have HB6 := hide (HB5.out.trans (hb.mono HB5.out.size))
              have HR6 := hide (HR5.out.to hb)
              have HN6 := hide (HN5.out.to hb)
              clear hb HB5 HR5 HN5
              obtain ⟨cc, hc⟩ : ∃ cx, (⟨(v : Int), [c], 0, 0⟩ : HN) = cx := ⟨_, rfl⟩
              rw [hc] at HN6 HC ⊢
              clear hc
              obtain ⟨x0, x1, x2, x3⟩ := HN6.out.facts
              obtain ⟨r0, r1, r2, r3⟩ := HR6.out.facts
              have s0 := HR6.out.blk.frozen 0
              have s1 := HR6.out.blk.frozen 1
              have s2 := HR6.out.blk.frozen 2
              have s3 := HR6.out.blk.frozen 3
              cases hv : cc.valid
              · have HV := hide (parseR_bad HC.out hv)
                clear hv
                go_wp2_with fail
                have hbk : Blk ((((w6.setCell ⟨w.heap.size, 0, none⟩ (.int .i64 (⟨0, [], 0, 0⟩ : HN).n)).setCell ⟨w.heap.size, 1, none⟩ (.string ⟨(⟨0, [], 0, 0⟩ : HN).l.toArray⟩)).setCell ⟨w.heap.size, 2, none⟩ (.int .i64 (⟨0, [], 0, 0⟩ : HN).num)).setCell ⟨w.heap.size, 3, none⟩ (.int .i64 (⟨0, [], 0, 0⟩ : HN).den)) w.heap.size 93 (hCells (⟨0, [], 0, 0⟩ : HN)) := ((((HR6.out.blk.set_ 0 (.int .i64 (⟨0, [], 0, 0⟩ : HN).n)).set_ 1 (.string ⟨(⟨0, [], 0, 0⟩ : HN).l.toArray⟩)).set_ 2 (.int .i64 (⟨0, [], 0, 0⟩ : HN).num)).set_ 3 (.int .i64 (⟨0, [], 0, 0⟩ : HN).den))
                refine bodyPost_ret (results_cell_tmp (p := 2) (u := 3) rfl _ _ w.heap.size 93 _ _ rfl hbk Tryz.underlying93 rfl (by kernel_rfl)) rfl ⟨ret_hn HV.out.1.symm HV.out.2.symm, ?_⟩
                exact ((((HB6.out.setCell (p := ⟨w.heap.size, 0, none⟩) (Nat.le_refl _) _).setCell (p := ⟨w.heap.size, 1, none⟩) (Nat.le_refl _) _).setCell (p := ⟨w.heap.size, 2, none⟩) (Nat.le_refl _) _).setCell (p := ⟨w.heap.size, 3, none⟩) (Nat.le_refl _) _)
              · by_cases he : textP cc = t
                · have HV := hide (parseR_ok HC.out hv he)
                  rw [he]
                  clear hv he
                  go_wp2_with fail
                  have hbk : Blk ((((w6.setCell ⟨w.heap.size, 0, none⟩ (.int .i64 cc.n)).setCell ⟨w.heap.size, 1, none⟩ (.string ⟨cc.l.toArray⟩)).setCell ⟨w.heap.size, 2, none⟩ (.int .i64 cc.num)).setCell ⟨w.heap.size, 3, none⟩ (.int .i64 cc.den)) w.heap.size 93 (hCells cc) := ((((HR6.out.blk.set_ 0 (.int .i64 cc.n)).set_ 1 (.string ⟨cc.l.toArray⟩)).set_ 2 (.int .i64 cc.num)).set_ 3 (.int .i64 cc.den))
                  refine bodyPost_ret (results_cell_tmp (p := 2) (u := 3) rfl _ _ w.heap.size 93 _ _ rfl hbk Tryz.underlying93 rfl (by kernel_rfl)) rfl ⟨ret_hn HV.out.1.symm HV.out.2.symm, ?_⟩
                  exact ((((HB6.out.setCell (p := ⟨w.heap.size, 0, none⟩) (Nat.le_refl _) _).setCell (p := ⟨w.heap.size, 1, none⟩) (Nat.le_refl _) _).setCell (p := ⟨w.heap.size, 2, none⟩) (Nat.le_refl _) _).setCell (p := ⟨w.heap.size, 3, none⟩) (Nat.le_refl _) _)
                · have HV := hide (parseR_ne HC.out hv he)
                  have hne : ((bs (textP cc)).toList == (bs t).toList) = false := by rw [bs_toList, bs_toList, beq_eq_false_iff_ne]; exact he
                  clear hv he
                  generalize bs (textP cc) = S at *
                  go_wp2_with fail
                  have hbk : Blk ((((w6.setCell ⟨w.heap.size, 0, none⟩ (.int .i64 (⟨0, [], 0, 0⟩ : HN).n)).setCell ⟨w.heap.size, 1, none⟩ (.string ⟨(⟨0, [], 0, 0⟩ : HN).l.toArray⟩)).setCell ⟨w.heap.size, 2, none⟩ (.int .i64 (⟨0, [], 0, 0⟩ : HN).num)).setCell ⟨w.heap.size, 3, none⟩ (.int .i64 (⟨0, [], 0, 0⟩ : HN).den)) w.heap.size 93 (hCells (⟨0, [], 0, 0⟩ : HN)) := ((((HR6.out.blk.set_ 0 (.int .i64 (⟨0, [], 0, 0⟩ : HN).n)).set_ 1 (.string ⟨(⟨0, [], 0, 0⟩ : HN).l.toArray⟩)).set_ 2 (.int .i64 (⟨0, [], 0, 0⟩ : HN).num)).set_ 3 (.int .i64 (⟨0, [], 0, 0⟩ : HN).den))
                  refine bodyPost_ret (results_cell_tmp (p := 2) (u := 3) rfl _ _ w.heap.size 93 _ _ rfl hbk Tryz.underlying93 rfl (by kernel_rfl)) rfl ⟨ret_hn HV.out.1.symm HV.out.2.symm, ?_⟩
                  exact ((((HB6.out.setCell (p := ⟨w.heap.size, 0, none⟩) (Nat.le_refl _) _).setCell (p := ⟨w.heap.size, 1, none⟩) (Nat.le_refl _) _).setCell (p := ⟨w.heap.size, 2, none⟩) (Nat.le_refl _) _).setCell (p := ⟨w.heap.size, 3, none⟩) (Nat.le_refl _) _)
      · obtain ⟨g1, g2⟩ := (dgB_iff c).1 hdg
        have HT : Hid (t.take (k + 1) = t.take k ++ [c]) := by show _ = _; rw [List.take_add_one, hc]; rfl
        have HN1 : Hid (val 0 (t.take (k + 1)) = v * 10 + (c.toNat - 48)) := by show _ = _; rw [HT.out, val_snoc, HVv.out]
        have HA1 : Hid ((t.take (k + 1)).all dgB = true) := by show _ = _; rw [HT.out, List.all_append, HAl.out]; simp [hdg]
        have hv1 : v * 10 + (c.toNat - 48) < 1000000000 := by
          have := val_pow _ HA1.out
          rw [HN1.out] at this
          refine Nat.lt_of_lt_of_le this (Nat.le_trans (Nat.pow_le_pow_right (by decide) (show (t.take (k + 1)).length ≤ 9 by rw [List.length_take]; omega)) (by decide))
        have f1 : decide (48 ≤ (c.toNat : Int)) = true := decide_eq_true (by omega)
        have f2 : decide ((c.toNat : Int) ≤ 57) = true := decide_eq_true (by omega)
        have t1 : IntKind.i64.wrap (10 * (v : Int)) = 10 * (v : Int) := IntWalk.i64_in _ (by omega)
        have t2 : IntKind.u8.wrap ((c.toNat : Int) - 48) = (c.toNat : Int) - 48 := by simp [IntKind.wrap, IntKind.signed, IntKind.bits]; omega
        have t3 : IntKind.i64.wrap ((c.toNat : Int) - 48) = (c.toNat : Int) - 48 := IntWalk.i64_in _ (by omega)
        have t4 : IntKind.i64.wrap (10 * (v : Int) + ((c.toNat : Int) - 48)) = 10 * (v : Int) + ((c.toNat : Int) - 48) := IntWalk.i64_in _ (by omega)
        have HVC : Hid (10 * (v : Int) + ((c.toNat : Int) - 48) = ((v * 10 + (c.toNat - 48) : Nat) : Int)) := by show _ = _; omega
        obtain ⟨U, hU, g, u0, rfl, hgu, hi⟩ := cls wr
        obtain ⟨x0, x1, x2, x3⟩ := box_all hgu HNb.out
        have s0 := fun u => ((HNb.out.to (hgu u)).blk).frozen 0
        have HGU := hide hgu
        have HHI := hide hi
        clear hgu hi hc hdg
        go_wp2_with fail
        refine wp_region_class_tail g 10 (by kernel_rfl) (by kernel_rfl) (HHI.out _ (HGU.out _).drew) ?_
        simp only [List.take_succ_cons, List.take_zero, List.drop_succ_cons, List.drop_zero]
        repeat (go_big_quiet_step (fail))
        refine wpQuiet_nil ?_
        intro w2 hw2
        obtain ⟨u, rfl⟩ := hw2
        go_wp2_with fail
        rw [HVC.out]
        have HN2 : Hid (HBox ((g u).setCell ⟨w.heap.size + 1, 0, none⟩ (.int .i64 ((v * 10 + (c.toNat - 48) : Nat) : Int))) (w.heap.size + 1) ⟨((v * 10 + (c.toNat - 48) : Nat) : Int), [], 0, 0⟩) := ⟨(HNb.out.to (HGU.out u)).blk.set_ 0 _⟩
        have HR2 : Hid (HBox ((g u).setCell ⟨w.heap.size + 1, 0, none⟩ (.int .i64 ((v * 10 + (c.toNat - 48) : Nat) : Int))) w.heap.size ⟨0, [], 0, 0⟩) := ⟨(HR.out.to (HGU.out u)).blk.far (p := ⟨w.heap.size + 1, 0, none⟩) (Nat.ne_of_lt (Nat.lt_succ_self _)) _⟩
        have HB2 : Hid (Below w.heap.size w ((g u).setCell ⟨w.heap.size + 1, 0, none⟩ (.int .i64 ((v * 10 + (c.toNat - 48) : Nat) : Int)))) := (HBl.out.trans ((HGU.out u).mono HBl.out.size)).setCell (p := ⟨w.heap.size + 1, 0, none⟩) (Nat.le_succ _) _
        refine ⟨⟨k + 1, v * 10 + (c.toNat - 48), by go_num, by omega, hv1, HN1.out, HN2.out, HR2.out, HB2.out, HA1.out⟩, ?_⟩
        simp [intOf]; omega
    · obtain rfl : k = t.length := by omega
      have e2 : decide ((t.length : Int) < (t.length : Int)) = false := by simp
      have HC : Hid (candR t = ⟨v, [], 0, 0⟩) := by
        show _ = _
        have h1 : t.drop t.length = [] := List.drop_of_length_le (Nat.le_refl _)
        have := candR_at (L := []) (T := []) HAl.out (fun c r h => by rw [h1] at h; cases h) (by rw [h1]; rfl)
        rw [this, HVv.out]; rfl
      have HN5 := HNb
      have HR5 := HR
      have HB5 := HBl
      clear HNb HR HBl HA HB HB0
      have HFI : Hid (HN.fit (⟨(v : Int), [], 0, 0⟩ : HN)) := by show (bs _).size ≤ maxLen; rw [bs_size]; unfold maxLen; first | decide | (simp)
      obtain ⟨x0, x1, x2, x3⟩ := HN5.out.facts
      go_wp2_with fail
      refine (rText_any (⟨(v : Int), [], 0, 0⟩ : HN) _ HFI.out).mono ?_
      rintro e w6 ⟨rfl, hb⟩
      have HB6 := hide (HB5.out.trans (hb.mono HB5.out.size))
      have HR6 := hide (HR5.out.to hb)
      have HN6 := hide (HN5.out.to hb)
      clear hb HB5 HR5 HN5 x0 x1 x2 x3
      obtain ⟨cc, hc⟩ : ∃ cx, (⟨(v : Int), [], 0, 0⟩ : HN) = cx := ⟨_, rfl⟩
      rw [hc] at HN6 HC ⊢
      clear hc
      obtain ⟨x0, x1, x2, x3⟩ := HN6.out.facts
      obtain ⟨r0, r1, r2, r3⟩ := HR6.out.facts
      have s0 := HR6.out.blk.frozen 0
      have s1 := HR6.out.blk.frozen 1
      have s2 := HR6.out.blk.frozen 2
      have s3 := HR6.out.blk.frozen 3
      cases hv : cc.valid
      · have HV := hide (parseR_bad HC.out hv)
        clear hv
        go_wp2_with fail
        have hbk : Blk ((((w6.setCell ⟨w.heap.size, 0, none⟩ (.int .i64 (⟨0, [], 0, 0⟩ : HN).n)).setCell ⟨w.heap.size, 1, none⟩ (.string ⟨(⟨0, [], 0, 0⟩ : HN).l.toArray⟩)).setCell ⟨w.heap.size, 2, none⟩ (.int .i64 (⟨0, [], 0, 0⟩ : HN).num)).setCell ⟨w.heap.size, 3, none⟩ (.int .i64 (⟨0, [], 0, 0⟩ : HN).den)) w.heap.size 93 (hCells (⟨0, [], 0, 0⟩ : HN)) := ((((HR6.out.blk.set_ 0 (.int .i64 (⟨0, [], 0, 0⟩ : HN).n)).set_ 1 (.string ⟨(⟨0, [], 0, 0⟩ : HN).l.toArray⟩)).set_ 2 (.int .i64 (⟨0, [], 0, 0⟩ : HN).num)).set_ 3 (.int .i64 (⟨0, [], 0, 0⟩ : HN).den))
        refine bodyPost_ret (results_cell_tmp (p := 2) (u := 3) rfl _ _ w.heap.size 93 _ _ rfl hbk Tryz.underlying93 rfl (by kernel_rfl)) rfl ⟨ret_hn HV.out.1.symm HV.out.2.symm, ?_⟩
        exact ((((HB6.out.setCell (p := ⟨w.heap.size, 0, none⟩) (Nat.le_refl _) _).setCell (p := ⟨w.heap.size, 1, none⟩) (Nat.le_refl _) _).setCell (p := ⟨w.heap.size, 2, none⟩) (Nat.le_refl _) _).setCell (p := ⟨w.heap.size, 3, none⟩) (Nat.le_refl _) _)
      · by_cases he : textP cc = t
        · have HV := hide (parseR_ok HC.out hv he)
          rw [he]
          clear hv he
          go_wp2_with fail
          have hbk : Blk ((((w6.setCell ⟨w.heap.size, 0, none⟩ (.int .i64 cc.n)).setCell ⟨w.heap.size, 1, none⟩ (.string ⟨cc.l.toArray⟩)).setCell ⟨w.heap.size, 2, none⟩ (.int .i64 cc.num)).setCell ⟨w.heap.size, 3, none⟩ (.int .i64 cc.den)) w.heap.size 93 (hCells cc) := ((((HR6.out.blk.set_ 0 (.int .i64 cc.n)).set_ 1 (.string ⟨cc.l.toArray⟩)).set_ 2 (.int .i64 cc.num)).set_ 3 (.int .i64 cc.den))
          refine bodyPost_ret (results_cell_tmp (p := 2) (u := 3) rfl _ _ w.heap.size 93 _ _ rfl hbk Tryz.underlying93 rfl (by kernel_rfl)) rfl ⟨ret_hn HV.out.1.symm HV.out.2.symm, ?_⟩
          exact ((((HB6.out.setCell (p := ⟨w.heap.size, 0, none⟩) (Nat.le_refl _) _).setCell (p := ⟨w.heap.size, 1, none⟩) (Nat.le_refl _) _).setCell (p := ⟨w.heap.size, 2, none⟩) (Nat.le_refl _) _).setCell (p := ⟨w.heap.size, 3, none⟩) (Nat.le_refl _) _)
        · have HV := hide (parseR_ne HC.out hv he)
          have hne : ((bs (textP cc)).toList == (bs t).toList) = false := by rw [bs_toList, bs_toList, beq_eq_false_iff_ne]; exact he
          clear hv he
          generalize bs (textP cc) = S at *
          go_wp2_with fail
          have hbk : Blk ((((w6.setCell ⟨w.heap.size, 0, none⟩ (.int .i64 (⟨0, [], 0, 0⟩ : HN).n)).setCell ⟨w.heap.size, 1, none⟩ (.string ⟨(⟨0, [], 0, 0⟩ : HN).l.toArray⟩)).setCell ⟨w.heap.size, 2, none⟩ (.int .i64 (⟨0, [], 0, 0⟩ : HN).num)).setCell ⟨w.heap.size, 3, none⟩ (.int .i64 (⟨0, [], 0, 0⟩ : HN).den)) w.heap.size 93 (hCells (⟨0, [], 0, 0⟩ : HN)) := ((((HR6.out.blk.set_ 0 (.int .i64 (⟨0, [], 0, 0⟩ : HN).n)).set_ 1 (.string ⟨(⟨0, [], 0, 0⟩ : HN).l.toArray⟩)).set_ 2 (.int .i64 (⟨0, [], 0, 0⟩ : HN).num)).set_ 3 (.int .i64 (⟨0, [], 0, 0⟩ : HN).den))
          refine bodyPost_ret (results_cell_tmp (p := 2) (u := 3) rfl _ _ w.heap.size 93 _ _ rfl hbk Tryz.underlying93 rfl (by kernel_rfl)) rfl ⟨ret_hn HV.out.1.symm HV.out.2.symm, ?_⟩
          exact ((((HB6.out.setCell (p := ⟨w.heap.size, 0, none⟩) (Nat.le_refl _) _).setCell (p := ⟨w.heap.size, 1, none⟩) (Nat.le_refl _) _).setCell (p := ⟨w.heap.size, 2, none⟩) (Nat.le_refl _) _).setCell (p := ⟨w.heap.size, 3, none⟩) (Nat.le_refl _) _)
end Go.Proofs.YtdcafoekbnacnaaGreatDoor

/- The reference of layer 23: value. -/
set_option linter.unusedVariables false
set_option linter.unusedSimpArgs false
namespace Go.Proofs.YtdcafoekbnacnaaGreatDoor
open Go.RowKit Go.Shelf
attribute [local go_sem] Oper.semAt_some

def okvB (ps : List Prt) (d : UInt8) : Bool := decide (32 ≤ d.toNat) && (decide (d.toNat ≤ 126) && !mrk ps d)
theorem okv_all (ps : List Prt) (x : List UInt8) : (prn x && !(x.any fun d => mrk ps d)) = x.all (okvB ps) := by
  unfold prn
  induction x with
  | nil => rfl
  | cons d r ih =>
    rw [List.all_cons, List.all_cons, List.any_cons, ← ih]
    unfold okvB
    cases decide (32 ≤ d.toNat) <;> cases decide (d.toNat ≤ 126) <;> cases mrk ps d <;> simp
theorem good_all (ps : List Prt) (k : Nat) (x : List UInt8) : goodB numB ps k x = (decide (x.length ≤ 60) && (trimd x && (x.all (okvB ps) && (!decide (k = 3) || numB x)))) := by
  unfold goodB
  rw [← okv_all]
  cases decide (x.length ≤ 60) <;> cases prn x <;> cases (x.any fun d => mrk ps d) <;> cases trimd x <;> simp
set_option maxRecDepth 100000 in
set_option maxHeartbeats 8000000 in
theorem rvalue_any (c : List UInt8) (ps : List Prt) (hl0 : ps.length ≤ 1000000) (v : Value) (k : Nat) (pb pa : List UInt8) (need : Bool) (x : List UInt8) (hx : x ≠ []) (hxl : x.length ≤ 100000) (w : World) (hP : PartsAt w v ps) :
    Calls Tryz.prog 65 #[.agg #[.string (bs c), v], .agg #[.int .i64 (k : Int), .string (bs pb), .string (bs pa), .bool need], .string (bs x)] w fun e w' => e = .returned (.bool (goodB numB ps k x)) ∧ Below w.heap.size w w' := by
  have HP0 := hide hP
  obtain ⟨A, cp, rfl, hcp⟩ := hP.slice
  have HL0 := hide hl0
  have HXL := hide hxl
  have HG := hide (good_all ps k x)
  clear hP
  have hsz := bs_size x
  obtain ⟨n, hn⟩ : ∃ n, x.length = n + 1 := ⟨x.length - 1, by have := List.length_pos_iff.2 hx; omega⟩
  obtain ⟨d0, hd0⟩ : ∃ d, x[0]? = some d := ⟨_, List.getElem?_eq_getElem (by omega)⟩
  obtain ⟨dn, hdn⟩ : ∃ d, x[n]? = some d := ⟨_, List.getElem?_eq_getElem (by omega)⟩
  have i0 : ∀ w, (Instr.index 9 (.string (bs x)) (.int .i64 0)).run Tryz.prog w = .ok (.int .u8 (d0.toNat : Int)) w := index_bs x 0 d0 hd0
  have i1 := index_bs x n dn hdn
  have HT : Hid (trimd x = (!(d0 == 32) && !(dn == 32))) := by
    show _ = _
    unfold trimd
    rw [List.head?_eq_getElem?, List.getLast?_eq_getElem?, hd0, show x.length - 1 = n by omega, hdn]
    rfl
  have en : (n : Int) = (x.length : Int) - 1 := by omega
  rw [en] at i1
  have HN := hide hn
  have b0 : (0 : Int) ≤ (x.length : Int) - 1 := by omega
  have b1 : (x.length : Int) - 1 < (x.length : Int) := by omega
  clear hd0 hdn hx hn hxl hl0 en
  obtain ⟨L, hL⟩ : ∃ L, x.length = L := ⟨_, rfl⟩
  have HLL := hide hL
  rw [hL] at hsz b0 b1 i1 HG HN HXL
  clear hL
  go_enter Tryz.func65, Tryz.ntmps65
  go_upto_region 1 with fail
  obtain ⟨Xs, Xp, B0⟩ := box2 w 24 #[.string (bs c), .slice A ps.length cp] 41 #[.int .i64 (k : Int), .string (bs pb), .string (bs pa), .bool need]
  have HXs := hide Xs
  have HXp := hide Xp
  have HB := hide B0
  have HP := hide (HP0.out.to B0)
  clear Xs Xp B0 HP0
  generalize (w.alloc (.cells #[.string (bs c), .slice A ps.length cp] 24)).alloc (.cells #[.int .i64 (k : Int), .string (bs pb), .string (bs pa), .bool need] 41) = w1 at *
  by_cases h60 : 60 < L
  · have HF : Hid (goodB numB ps k x = false) := by show _ = _; rw [HG.out, decide_eq_false (by omega : ¬ L ≤ 60)]; rfl
    have e1 : decide ((60 : Int) < (L : Int)) = true := decide_eq_true (by omega)
    clear h60
    go_wp2_with fail
    go_ret
    exact ⟨ret_bool (by rw [HF.out]), HB.out⟩
  have e1 : decide ((60 : Int) < (L : Int)) = false := decide_eq_false (by omega)
  by_cases h0 : d0 = 32
  · have HF : Hid (goodB numB ps k x = false) := by show _ = _; rw [HG.out, HT.out, h0]; simp
    have e2 : ((d0.toNat : Int) == 32) = true := by rw [h0]; rfl
    clear h60 h0
    go_wp2_with fail
    go_ret
    exact ⟨ret_bool (by rw [HF.out]), HB.out⟩
  have e2 : ((d0.toNat : Int) == 32) = false := by rw [beq_eq_false_iff_ne]; intro h; exact h0 (UInt8.toNat_inj.1 (by simp; omega))
  by_cases h1 : dn = 32
  · have HF : Hid (goodB numB ps k x = false) := by show _ = _; rw [HG.out, HT.out, h1]; simp
    have e3 : ((dn.toNat : Int) == 32) = true := by rw [h1]; rfl
    clear h0 h1
    go_wp2_with fail
    go_ret
    exact ⟨ret_bool (by rw [HF.out]), HB.out⟩
  have e3 : ((dn.toNat : Int) == 32) = false := by rw [beq_eq_false_iff_ne]; intro h; exact h1 (UInt8.toNat_inj.1 (by simp; omega))
  have HG2 : Hid (goodB numB ps k x = (x.all (okvB ps) && (!decide (k = 3) || numB x))) := by
    show _ = _
    rw [HG.out, HT.out, decide_eq_true (by omega : L ≤ 60)]
    simp [h0, h1]
  clear h0 h1
  go_wp2_with fail
  clear e1 e2 e3 i0 i1
  go_loopw [7] (fun i wr => ∃ m : Nat, i = .int .i64 (m : Int) ∧ (m ≤ L ∧ x.all (okvB ps) = (x.drop m).all (okvB ps)) ∧ Below w1.heap.size w1 wr) (fun i _ => L - (intOf i).toNat)
  case atStart => exact ⟨0, rfl, ⟨by omega, rfl⟩, Below.refl _ _⟩
  case round =>
    obtain ⟨m, rfl, ⟨hm, hall⟩, hB⟩ := hrel
    have HBw := hide hB
    have HA := hide hall
    clear hB hall
    by_cases hlt : m < L
    · have e1 : decide ((m : Int) < (L : Int)) = true := decide_eq_true (by omega)
      obtain ⟨d, hd⟩ : ∃ d, x[m]? = some d := ⟨_, List.getElem?_eq_getElem (by rw [HLL.out]; omega)⟩
      have ci := index_bs x m d hd
      have HD := hide (drop_at hd)
      have k0 : (0 : Int) ≤ (m : Int) := by omega
      have k1 : (m : Int) < (L : Int) := by omega
      clear hd
      have HF : Hid (okvB ps d = false → goodB numB ps k x = false) := fun h => by rw [HG2.out, HA.out, HD.out, List.all_cons, h]; rfl
      have HTT : Hid (okvB ps d = true → x.all (okvB ps) = (x.drop (m + 1)).all (okvB ps)) := fun h => by rw [HA.out, HD.out, List.all_cons, h]; rfl
      by_cases h1 : d.toNat < 32
      · have e2 : decide ((d.toNat : Int) < 32) = true := decide_eq_true (by omega)
        have HR := hide (HF.out (by unfold okvB; rw [decide_eq_false (by omega)]; rfl))
        clear h1
        go_wp2_with fail
        go_quiet (fail)
        go_wp2_with fail
        go_ret
        exact ⟨ret_bool (by rw [HR.out]), below_drewN (HB.out.trans (HBw.out.mono HB.out.size)) _⟩
      have e2 : decide ((d.toNat : Int) < 32) = false := decide_eq_false (by omega)
      by_cases h2 : 126 < d.toNat
      · have e3 : decide ((126 : Int) < (d.toNat : Int)) = true := decide_eq_true (by omega)
        have HR := hide (HF.out (by unfold okvB; rw [decide_eq_false (show ¬ d.toNat ≤ 126 by omega)]; simp))
        clear h1 h2
        go_wp2_with fail
        go_quiet (fail)
        go_wp2_with fail
        go_ret
        exact ⟨ret_bool (by rw [HR.out]), below_drewN (HB.out.trans (HBw.out.mono HB.out.size)) _⟩
      have e3 : decide ((126 : Int) < (d.toNat : Int)) = false := decide_eq_false (by omega)
      have HOK : Hid (okvB ps d = !mrk ps d) := by show _ = _; unfold okvB; rw [decide_eq_true (by omega), decide_eq_true (by omega)]; rfl
      clear h1 h2
      obtain ⟨U, hU, g, u0, rfl, hgu, hgi⟩ := cls wr
      have xs_0 := fun u => (((HXs.out.to (below_to HBw.out (Nat.le_refl _) (hgu u))).cell 0).trans (show _ = some (Value.string (bs c)) from rfl))
      have xs_1 := fun u => (((HXs.out.to (below_to HBw.out (Nat.le_refl _) (hgu u))).cell 1).trans (show _ = some (Value.slice A ps.length cp) from rfl))
      have CM : ∀ u, Calls Tryz.prog 78 #[.agg #[.string (bs c), .slice A ps.length cp], .int .u8 (d.toNat : Int)] (g u) fun e w' => e = .returned (.bool (mrk ps d)) ∧ ∃ u', w' = g u' := fun u => cls_call hgu hgi (fun W hb => rMark_any c ps (by have := HL0.out; omega) (.slice A ps.length cp) d W (HP.out.to (below_to HBw.out (Nat.le_refl _) hb))) u
      cases hmk : mrk ps d with
      | true =>
        have HR := hide (HF.out (by rw [HOK.out, hmk]; rfl))
        rw [hmk] at CM
        clear hmk
        go_wp2_with fail
        refine wp_region_class g (by kernel_rfl) (by kernel_rfl) (hgi _ (hgu _).drew) ?_
        repeat (go_big_quiet_step (with_reducible exact CM _))
        refine wpQuiet_nil ?_
        intro w3 hw3
        obtain ⟨u, rfl⟩ := hw3
        go_wp2_with fail
        go_ret
        exact ⟨ret_bool (by rw [HR.out]), HB.out.trans ((below_to HBw.out (Nat.le_refl _) (hgu _)).mono HB.out.size)⟩
      | false =>
        have HR := hide (HTT.out (by rw [HOK.out, hmk]; rfl))
        rw [hmk] at CM
        clear hmk
        go_wp2_with fail
        refine wp_region_class g (by kernel_rfl) (by kernel_rfl) (hgi _ (hgu _).drew) ?_
        repeat (go_big_quiet_step (with_reducible exact CM _))
        refine wpQuiet_nil ?_
        intro w3 hw3
        obtain ⟨u, rfl⟩ := hw3
        go_wp2_with fail
        go_roundw
        case rel => exact ⟨m + 1, by go_num, ⟨by omega, HR.out⟩, below_to HBw.out (Nat.le_refl _) (hgu _)⟩
        case measure => simp [intOf]; omega
    · obtain rfl : m = L := by omega
      have e1 : decide ((m : Int) < (m : Int)) = false := by simp
      have HR : Hid (goodB numB ps k x = (!decide (k = 3) || numB x)) := by show _ = _; rw [HG2.out, HA.out, ← HLL.out, List.drop_length]; rfl
      go_wp2_with fail
      refine (rParse_any x _ (by rw [HLL.out]; exact HXL.out)).mono ?_
      rintro e w5 ⟨rfl, hb⟩
      have HB5 := hide (below_to HBw.out (Nat.le_refl _) hb)
      have HX5 := hide ((HXp.out.to HB5.out))
      clear hb HBw e1
      have cK : (w5.alloc (.cells #[.int .i64 (outP x).n, .string ⟨(outP x).l.toArray⟩, .int .i64 (outP x).num, .int .i64 (outP x).den] 93)).cell? ⟨w.heap.size + 1, 0, none⟩ = some (.int .i64 (k : Int)) := (HX5.out.alloc _).cell 0
      have HB6 := hide (below_alloc HB5.out (Nat.le_refl _) (.cells #[.int .i64 (outP x).n, .string ⟨(outP x).l.toArray⟩, .int .i64 (outP x).num, .int .i64 (outP x).den] 93))
      unfold hval
      have hnum : numB x = decide (errP x = 0) := rfl
      by_cases hk3 : k = 3
      · have e6 : ((k : Int) != 3) = false := by rw [hk3]; rfl
        have HQ : Hid (goodB numB ps k x = (errP x == 0)) := by
          show _ = _
          rw [HR.out, hnum, decide_eq_true hk3, Bool.eq_iff_iff]; simp
        clear hk3 hnum
        go_wp2_with fail
        go_ret
        exact ⟨ret_bool (by rw [HQ.out]), HB.out.trans (HB6.out.mono HB.out.size)⟩
      · have e6 : ((k : Int) != 3) = true := by rw [bne_iff_ne]; omega
        have HQ : Hid (goodB numB ps k x = true) := by show _ = _; rw [HR.out, decide_eq_false hk3]; rfl
        clear hk3 hnum
        go_wp2_with fail
        go_ret
        exact ⟨ret_bool (by rw [HQ.out]), HB.out.trans (HB6.out.mono HB.out.size)⟩
end Go.Proofs.YtdcafoekbnacnaaGreatDoor

/- The reference of layer 23: Fits. -/
set_option linter.unusedVariables false
set_option linter.unusedSimpArgs false
namespace Go.Proofs.YtdcafoekbnacnaaGreatDoor
open Go.RowKit Go.Shelf
attribute [local go_sem] Oper.semAt_some

/-- the part of a kind that a search from the front ends with -/
def LastK (ps : List Prt) (k m : Nat) (i : Int) : Prop := (∃ j q, i = ((j : Nat) : Int) ∧ j < m ∧ ps[j]? = some q ∧ q.k = (k : Int)) ∨ (i = -1 ∧ ∀ j q, j < m → ps[j]? = some q → q.k ≠ (k : Int))
theorem lastK_yes {ps : List Prt} {k m : Nat} {q : Prt} (hq : ps[m]? = some q) (h : q.k = (k : Int)) : LastK ps k (m + 1) (m : Int) := .inl ⟨m, q, rfl, by omega, hq, h⟩
theorem lastK_no {ps : List Prt} {k m : Nat} {i : Int} {q : Prt} (hl : LastK ps k m i) (hq : ps[m]? = some q) (h : q.k ≠ (k : Int)) : LastK ps k (m + 1) i := by
  rcases hl with ⟨j, x, e, hj, hx, hk⟩ | ⟨e, hn⟩
  · exact .inl ⟨j, x, e, by omega, hx, hk⟩
  · refine .inr ⟨e, fun j x hj hx => ?_⟩
    rcases Nat.lt_or_ge j m with h1 | h1
    · exact hn j x h1 hx
    · obtain rfl : j = m := by omega
      rw [hq] at hx; cases hx; exact h
theorem partAt_some {ps : List Prt} (hd : ps.Pairwise fun x y => x.k ≠ y.k) {k j : Nat} {q : Prt} (hq : ps[j]? = some q) (h : q.k = (k : Int)) : partAt ps k = some q := by
  unfold partAt
  induction ps generalizing j with
  | nil => cases hq
  | cons p r ih =>
    rw [List.pairwise_cons] at hd
    cases j with
    | zero =>
      obtain rfl : p = q := by simpa using hq
      rw [List.find?_cons, show (p.k == (k : Int)) = true by rw [h]; simp]
    | succ j =>
      rw [List.getElem?_cons_succ] at hq
      have := hd.1 q (List.mem_of_getElem? hq)
      rw [List.find?_cons, show (p.k == (k : Int)) = false by rw [beq_eq_false_iff_ne, ← h]; exact this]
      exact ih hd.2 hq
theorem partAt_none {ps : List Prt} {k : Nat} (h : ∀ (j : Nat) (q : Prt), j < ps.length → ps[j]? = some q → q.k ≠ (k : Int)) : partAt ps k = none := by
  unfold partAt
  rw [List.find?_eq_none]
  intro q hq
  obtain ⟨n, hn, rfl⟩ := List.getElem_of_mem hq
  have := h n _ hn (List.getElem?_eq_getElem hn)
  simpa using this
set_option maxRecDepth 100000 in
set_option maxHeartbeats 8000000 in
theorem rFits_any (c : List UInt8) (ps : List Prt) (hl0 : ps.length ≤ 1000000) (hc0 : c.length ≤ 140737488355328) (hb0 : ∀ p ∈ ps, p.b.length ≤ 1000000 ∧ p.a.length ≤ 1000000) (v : Value) (f0 f1 f2 f3 f4 f5 f6 f7 f8 : List UInt8) (hf : ∀ k, ([f0, f1, f2, f3, f4, f5, f6, f7, f8].getD k []).length ≤ 100000) (w : World) (hP : PartsAt w v ps) :
    Calls Tryz.prog 25 #[.agg #[.string (bs c), v], .agg #[.string (bs f0), .string (bs f1), .string (bs f2), .string (bs f3), .string (bs f4), .string (bs f5), .string (bs f6), .string (bs f7), .string (bs f8)]] w fun e w' => e = .returned (.bool (fitsB isNm numB ⟨c, ps⟩ [f0, f1, f2, f3, f4, f5, f6, f7, f8])) ∧ Below w.heap.size w w' := by
  have HP0 := hide hP
  obtain ⟨A, cp, rfl, hcp⟩ := hP.slice
  have HL0 := hide hl0
  have HFF := hide hf
  have HA := hide (fields_at f0 f1 f2 f3 f4 f5 f6 f7 f8)
  clear hP hf
  go_enter Tryz.func25, Tryz.ntmps25
  go_upto_region 1 with fail
  obtain ⟨Xs, Xf, B0⟩ := box2 w 24 #[.string (bs c), .slice A ps.length cp] 26 #[.string (bs f0), .string (bs f1), .string (bs f2), .string (bs f3), .string (bs f4), .string (bs f5), .string (bs f6), .string (bs f7), .string (bs f8)]
  have HXs := hide Xs
  have HXf := hide Xf
  have HB := hide B0
  have HP := hide (HP0.out.to B0)
  clear Xs Xf B0 HP0
  generalize (w.alloc (.cells #[.string (bs c), .slice A ps.length cp] 24)).alloc (.cells #[.string (bs f0), .string (bs f1), .string (bs f2), .string (bs f3), .string (bs f4), .string (bs f5), .string (bs f6), .string (bs f7), .string (bs f8)] 26) = w1 at *
  have CV := rValid23_any c ps hl0 hc0 hb0 (.slice A ps.length cp) w1 HP.out
  have xs_0 : w1.cell? ⟨w.heap.size, 0, none⟩ = some (.string (bs c)) := HXs.out.cell 0
  have xs_1 : w1.cell? ⟨w.heap.size, 1, none⟩ = some (.slice A ps.length cp) := HXs.out.cell 1
  have HFC : Hid (∀ W, Below w1.heap.size w1 W → ∀ k, k < 9 → W.cell? ⟨w.heap.size + 1, k, none⟩ = some (.string (bs ([f0, f1, f2, f3, f4, f5, f6, f7, f8].getD k [])))) := fun W hW k hk => ((HXf.out.to hW).cell k).trans (HA.out k hk)
  obtain ⟨fl, hfl⟩ : ∃ fl, [f0, f1, f2, f3, f4, f5, f6, f7, f8] = fl := ⟨_, rfl⟩
  have HFL : Hid (fitsB isNm numB ⟨c, ps⟩ [f0, f1, f2, f3, f4, f5, f6, f7, f8] = fitsB isNm numB ⟨c, ps⟩ fl) := by show _ = _; rw [hfl]
  rw [hfl] at HFC HFF
  have hg1 : w.heap.size + 1 < w1.heap.size := HXf.out.lt
  clear HA HXf hfl
  cases hv : validB isNm ⟨c, ps⟩ with
  | false =>
    have HF : Hid (fitsB isNm numB ⟨c, ps⟩ fl = false) := by show _ = _; unfold fitsB; rw [hv]; rfl
    rw [hv] at CV
    clear hv
    go_wp2_with fail
    refine CV.mono ?_
    rintro e w2 ⟨rfl, BW⟩
    go_wp2_with fail
    go_ret
    exact ⟨ret_bool (by rw [HFL.out, HF.out]), HB.out.trans (BW.mono HB.out.size)⟩
    
  | true =>
    have HD : Hid (ps.Pairwise fun x y => x.k ≠ y.k) := ((validB_iff _ _).1 hv).nodup
    have HFG : Hid (∀ k, k < 9 → fit1 numB ps k (fl.getD k []) = false → fitsB isNm numB ⟨c, ps⟩ fl = false) := fun k hk h => fitsB_no hk h
    have HTG : Hid ((∀ k, k < 9 → fit1 numB ps k (fl.getD k []) = true) → fitsB isNm numB ⟨c, ps⟩ fl = true) := fun h => by
      unfold fitsB
      rw [hv, Bool.true_and, List.all_eq_true]
      exact fun k hk => h k (List.mem_range.1 hk)
    rw [hv] at CV
    clear hv
    go_wp2_with fail
    refine CV.mono ?_
    rintro e w2 ⟨rfl, hB2⟩
    have HB2 := hide hB2
    clear hB2 CV xs_0 xs_1 hc0 hb0
    go_wp2_with fail
    go_loopw [5] (fun t wr => ∃ k : Nat, t = .int .i64 (k : Int) ∧ (k ≤ 9 ∧ ∀ j, j < k → fit1 numB ps j (fl.getD j []) = true) ∧ Below w1.heap.size w1 wr) (fun t _ => 9 - (intOf t).toNat)
    case atStart => exact ⟨0, rfl, ⟨by omega, fun j h => absurd h (by omega)⟩, HB2.out⟩
    case round =>
      obtain ⟨k, rfl, ⟨hk, hT⟩, hB⟩ := hrel
      have HBk := hide hB
      have HT := hide hT
      clear hT hB HB2
      by_cases hk9 : k < 9
      · have e1 : decide ((k : Int) ≤ 8) = true := decide_eq_true (by omega)
        have HFK : Hid (fit1 numB ps k (fl.getD k []) = false → fitsB isNm numB ⟨c, ps⟩ fl = false) := HFG.out k hk9
        have HTK : Hid (fit1 numB ps k (fl.getD k []) = true → ∀ j, j < k + 1 → fit1 numB ps j (fl.getD j []) = true) := fun h j hj => by
          rcases Nat.lt_or_ge j k with h' | h'
          · exact HT.out j h'
          · obtain rfl : j = k := by omega
            exact h
        obtain ⟨x, hx⟩ : ∃ x, fl.getD k [] = x := ⟨_, rfl⟩
        have HX := hide hx
        have HXL : Hid (x.length ≤ 100000) := by show _ ≤ _; rw [← hx]; exact HFF.out k
        rw [hx] at HFK
        rw [hx] at HTK
        clear hx
        go_wp2_with fail
        clear e1
        go_loopw [6, 7] (fun p t wr => ∃ (m : Nat) (i : Int), p = .int .i64 i ∧ t = .int .i64 (m : Int) ∧ (m ≤ ps.length ∧ LastK ps k m i) ∧ Below w1.heap.size w1 wr) (fun _ t _ => ps.length - (intOf t).toNat)
        case atStart => exact ⟨0, -1, rfl, rfl, ⟨by omega, .inr ⟨rfl, fun j q h => absurd h (by omega)⟩⟩, HBk.out⟩
        case round =>
          obtain ⟨m, i, rfl, rfl, ⟨hm, hlk⟩, hB⟩ := hrel
          have HBw := hide hB
          have HLK := hide hlk
          have xs_1 : wr.cell? ⟨w.heap.size, 1, none⟩ = some (.slice A ps.length cp) := (HXs.out.to hB).cell 1
          clear hB hlk HBk
          by_cases hml : m < ps.length
          · obtain ⟨q, hq⟩ : ∃ q, ps[m]? = some q := ⟨_, List.getElem?_eq_getElem hml⟩
            obtain ⟨a, cp', ea, _, hab, c0, c1, c2, c3⟩ := (HP.out.to HBw.out).at_ hq
            injection ea with ea _ ec
            subst ec
            obtain rfl := ea
            by_cases hqk : q.k = (k : Int)
            · have HLK2 := hide (lastK_yes hq hqk)
              have e2 : (q.k == (k : Int)) = true := by rw [hqk]; simp
              clear hqk hq
              generalize q.k = qk at *
              go_wp2_with fail
              go_roundw
              case rel => exact ⟨m + 1, (m : Int), rfl, by go_num, ⟨by omega, HLK2.out⟩, HBw.out⟩
              case measure => simp [intOf]; omega
            · have HLK2 := hide (lastK_no HLK.out hq hqk)
              have e2 : (q.k == (k : Int)) = false := by rw [beq_eq_false_iff_ne]; exact hqk
              clear hqk hq
              generalize q.k = qk at *
              go_wp2_with fail
              go_roundw
              case rel => exact ⟨m + 1, i, rfl, by go_num, ⟨by omega, HLK2.out⟩, HBw.out⟩
              case measure => simp [intOf]; omega
          · obtain rfl : m = ps.length := by omega
            have e1 : decide ((ps.length : Int) < (ps.length : Int)) = false := by simp
            have k0 : (0 : Int) ≤ (k : Int) := by omega
            have k1 : (k : Int) < 9 := by omega
            go_wp2_with fail
            clear e1
            rcases HLK.out with ⟨j, q, rfl, hj, hq, hqk⟩ | ⟨rfl, hno⟩
            · have HPA := hide (partAt_some HD.out hq hqk)
              have HQ := hide hq
              have HQK := hide hqk
              obtain ⟨ad, cp', ea, _, hab, c0, c1, c2, c3⟩ := (HP.out.to HBw.out).at_ hq
              injection ea with ea _ ec
              subst ec
              obtain rfl := ea
              rw [hqk] at c0
              have k2 : (0 : Int) ≤ (j : Int) := by omega
              have k3 : (j : Int) < (ps.length : Int) := by omega
              have e3 : decide ((j : Int) < 0) = false := decide_eq_false (by omega)
              have e4 : decide ((0 : Int) ≤ (j : Int)) = true := decide_eq_true (by omega)
              clear hq hqk
              by_cases hxe : x = []
              · have ck := HFC.out wr HBw.out k hk9
                rw [HX.out] at ck
                have e5 : (bs x).toList.isEmpty = true := by rw [bs_toList, hxe]; rfl
                have HFI : Hid (fit1 numB ps k x = !q.need) := by show _ = _; unfold fit1; rw [HPA.out, hxe]; rfl
                clear hxe
                cases hnd : q.need with
                | true =>
                  rw [hnd] at c3
                  have HF := hide (HFK.out (by rw [HFI.out, hnd]; rfl))
                  clear hnd
                  go_wp2_with fail
                  go_quiet (fail)
                  go_wp2_with fail
                  have BW := below_drewN HBw.out nq
                  go_ret
                  exact ⟨ret_bool (by rw [HFL.out, HF.out]), HB.out.trans (BW.mono HB.out.size)⟩
                  
                | false =>
                  rw [hnd] at c3
                  have HR := hide (HTK.out (by rw [HFI.out, hnd]; rfl))
                  clear hnd
                  go_wp2_with fail
                  go_quiet (fail)
                  go_wp2_with fail
                  go_roundw
                  case rel => exact ⟨k + 1, by go_num, ⟨by omega, HR.out⟩, below_drewN HBw.out _⟩
                  case measure => simp [intOf]; omega
              · have HXE := hide hxe
                have e5 : (bs x).toList.isEmpty = false := by rw [bs_toList]; cases x with | nil => exact absurd rfl hxe | cons a l => rfl
                have HFI : Hid (fit1 numB ps k x = goodB numB ps k x) := by
                  show _ = _
                  unfold fit1
                  rw [HPA.out]
                  cases x with
                  | nil => exact absurd rfl hxe
                  | cons a l => rfl
                clear hxe c0 c1 c2 c3 xs_1 hab
                obtain ⟨U, hU, g, u0, rfl, hgu, hgi⟩ := cls wr
                have xs_0 := fun u => (((HXs.out.to (below_to HBw.out (Nat.le_refl _) (hgu u))).cell 0).trans (show _ = some (Value.string (bs c)) from rfl))
                have xs_1 := fun u => (((HXs.out.to (below_to HBw.out (Nat.le_refl _) (hgu u))).cell 1).trans (show _ = some (Value.slice (some ad) ps.length cp) from rfl))
                have ck := fun u => HFC.out (g u) (below_to HBw.out (Nat.le_refl _) (hgu u)) k hk9
                rw [HX.out] at ck
                have c0 : ∀ u, (g u).cell? (ad.add (j * 4)) = some (.int .i64 (k : Int)) := fun u => by
                  obtain ⟨ad2, cp2, ea, _, _, d0, _, _, _⟩ := (HP.out.to (below_to HBw.out (Nat.le_refl _) (hgu u))).at_ HQ.out
                  injection ea with ea _ ec
                  injection ea with ea
                  rw [ea, d0, HQK.out]
                have c1 : ∀ u, (g u).cell? ⟨(ad.add (j * 4)).block, (ad.add (j * 4)).off + 1, none⟩ = some (.string (bs q.b)) := fun u => by
                  obtain ⟨ad2, cp2, ea, _, _, d0, d1, d2, d3⟩ := (HP.out.to (below_to HBw.out (Nat.le_refl _) (hgu u))).at_ HQ.out
                  injection ea with ea _ ec
                  injection ea with ea
                  rw [ea, d1]
                have c2 : ∀ u, (g u).cell? ⟨(ad.add (j * 4)).block, (ad.add (j * 4)).off + 2, none⟩ = some (.string (bs q.a)) := fun u => by
                  obtain ⟨ad2, cp2, ea, _, _, d0, d1, d2, d3⟩ := (HP.out.to (below_to HBw.out (Nat.le_refl _) (hgu u))).at_ HQ.out
                  injection ea with ea _ ec
                  injection ea with ea
                  rw [ea, d2]
                have c3 : ∀ u, (g u).cell? ⟨(ad.add (j * 4)).block, (ad.add (j * 4)).off + 3, none⟩ = some (.bool q.need) := fun u => by
                  obtain ⟨ad2, cp2, ea, _, _, d0, d1, d2, d3⟩ := (HP.out.to (below_to HBw.out (Nat.le_refl _) (hgu u))).at_ HQ.out
                  injection ea with ea _ ec
                  injection ea with ea
                  rw [ea, d3]
                have CG : ∀ u, Calls Tryz.prog 65 #[.agg #[.string (bs c), .slice (some ad) ps.length cp], .agg #[.int .i64 (k : Int), .string (bs q.b), .string (bs q.a), .bool q.need], .string (bs x)] (g u) fun e w' => e = .returned (.bool (goodB numB ps k x)) ∧ ∃ u', w' = g u' := fun u => cls_call hgu hgi (fun W hb => rvalue_any c ps HL0.out (.slice (some ad) ps.length cp) k q.b q.a q.need x HXE.out HXL.out W (HP.out.to (below_to HBw.out (Nat.le_refl _) hb))) u
                cases hgd : goodB numB ps k x with
                | true =>
                  rw [hgd] at CG
                  have HR := hide (HTK.out (by rw [HFI.out, hgd]))
                  clear hgd
                  go_wp2_with fail
                  refine wp_region_class g (by kernel_rfl) (by kernel_rfl) (hgi _ (hgu _).drew) ?_
                  repeat (go_big_quiet_step (with_reducible exact CG _))
                  refine wpQuiet_nil ?_
                  intro w3 hw3
                  obtain ⟨u, rfl⟩ := hw3
                  go_wp2_with fail
                  go_roundw
                  case rel => exact ⟨k + 1, by go_num, ⟨by omega, HR.out⟩, below_to HBw.out (Nat.le_refl _) (hgu _)⟩
                  case measure => simp [intOf]; omega
                | false =>
                  rw [hgd] at CG
                  have HF := hide (HFK.out (by rw [HFI.out, hgd]))
                  clear hgd
                  go_wp2_with fail
                  refine wp_region_class g (by kernel_rfl) (by kernel_rfl) (hgi _ (hgu _).drew) ?_
                  repeat (go_big_quiet_step (with_reducible exact CG _))
                  refine wpQuiet_nil ?_
                  intro w3 hw3
                  obtain ⟨u, rfl⟩ := hw3
                  go_wp2_with fail
                  have BW := below_to HBw.out (Nat.le_refl _) (hgu u)
                  go_ret
                  exact ⟨ret_bool (by rw [HFL.out, HF.out]), HB.out.trans (BW.mono HB.out.size)⟩
                  
            · have HPA := hide (partAt_none hno)
              have ck := HFC.out wr HBw.out k hk9
              rw [HX.out] at ck
              clear hno
              have HFI : Hid (fit1 numB ps k x = x.isEmpty) := by show _ = _; unfold fit1; rw [HPA.out]
              cases hxe : x.isEmpty with
              | true =>
                have e5 : (bs x).toList.isEmpty = true := by rw [bs_toList]; exact hxe
                have HR := hide (HTK.out (by rw [HFI.out, hxe]))
                clear hxe
                go_wp2_with fail
                go_quiet (fail)
                go_wp2_with fail
                go_roundw
                case rel => exact ⟨k + 1, by go_num, ⟨by omega, HR.out⟩, below_drewN HBw.out _⟩
                case measure => simp [intOf]; omega
              | false =>
                have e5 : (bs x).toList.isEmpty = false := by rw [bs_toList]; exact hxe
                have HF := hide (HFK.out (by rw [HFI.out, hxe]))
                clear hxe
                go_wp2_with fail
                go_quiet (fail)
                go_wp2_with fail
                have BW := below_drewN HBw.out nq
                go_ret
                exact ⟨ret_bool (by rw [HFL.out, HF.out]), HB.out.trans (BW.mono HB.out.size)⟩
                
      · obtain rfl : k = 9 := by omega
        have HF := hide (HTG.out HT.out)
        have BW := HBk.out
        go_wp2_with fail
        go_ret
        exact ⟨ret_bool (by rw [HFL.out, HF.out]), HB.out.trans (BW.mono HB.out.size)⟩
        
end Go.Proofs.YtdcafoekbnacnaaGreatDoor

/- The reference of layer 23: Text. -/
set_option linter.unusedVariables false
set_option linter.unusedSimpArgs false
namespace Go.Proofs.YtdcafoekbnacnaaGreatDoor
open Go.RowKit Go.Shelf
attribute [local go_sem] Oper.semAt_some

set_option maxRecDepth 100000 in
set_option maxHeartbeats 8000000 in
theorem rText23_any (c : List UInt8) (ps : List Prt) (hl0 : ps.length ≤ 1000000) (hc0 : c.length ≤ 140737488355328) (hb0 : ∀ p ∈ ps, p.b.length ≤ 1000000 ∧ p.a.length ≤ 1000000) (v : Value) (w : World) (hP : PartsAt w v ps) :
    Calls Tryz.prog 19 #[.agg #[.string (bs c), v]] w fun e w' => e = .returned (.tuple #[.string (bs (textV ⟨c, ps⟩)), .int .i64 (textE ⟨c, ps⟩)]) ∧ Below w.heap.size w w' := by
  have HP0 := hide hP
  obtain ⟨A, cp, rfl, hcp⟩ := hP.slice
  have HL0 := hide hl0
  clear hP
  go_enter Tryz.func19, Tryz.ntmps19
  go_upto_region 1 with fail
  obtain ⟨Xs, B0⟩ := box1 w 24 #[.string (bs c), .slice A ps.length cp]
  have HXs := hide Xs
  have HB := hide B0
  have HP := hide (HP0.out.to B0)
  clear Xs B0 HP0
  generalize w.alloc (.cells #[.string (bs c), .slice A ps.length cp] 24) = w1 at *
  have CV := rValid23_any c ps hl0 hc0 hb0 (.slice A ps.length cp) w1 HP.out
  have xs_0 : w1.cell? ⟨w.heap.size, 0, none⟩ = some (.string (bs c)) := HXs.out.cell 0
  have xs_1 : w1.cell? ⟨w.heap.size, 1, none⟩ = some (.slice A ps.length cp) := HXs.out.cell 1
  go_wp2_with fail
  refine CV.mono ?_
  rintro e w2 ⟨rfl, hB2⟩
  have HB2 := hide hB2
  clear hB2 CV xs_0 xs_1 hb0
  cases hv : validB isNm ⟨c, ps⟩ with
  | false =>
    have HF : Hid (textV ⟨c, ps⟩ = [] ∧ textE ⟨c, ps⟩ = 1) := by show _ ∧ _; unfold textV textE; rw [hv]; exact ⟨rfl, rfl⟩
    clear hv
    go_wp2_with fail
    go_ret2
    exact ⟨by rw [HF.out.1, HF.out.2]; rfl, HB.out.trans (HB2.out.mono HB.out.size)⟩
  | true =>
    have HF : Hid (textV ⟨c, ps⟩ = textS ⟨c, ps⟩ ∧ textE ⟨c, ps⟩ = 0) := by show _ ∧ _; unfold textV textE; rw [hv]; exact ⟨rfl, rfl⟩
    have hval := (validB_iff _ _).1 hv
    have HTL : Hid ((textS ⟨c, ps⟩).length ≤ 600) := text_len hval
    have HPT : Hid (∀ p ∈ ps, (1 ≤ p.k ∧ p.k ≤ 8) ∧ smallB p.b = true ∧ smallB p.a = true) := hval.part
    have hcl : c.length ≤ 600 := by have := HTL.out; rw [textS_eq] at this; unfold schT at this; simp only [List.length_append] at this; omega
    clear hv hval hc0
    have xs_0 : w2.cell? ⟨w.heap.size, 0, none⟩ = some (.string (bs c)) := (HXs.out.to HB2.out).cell 0
    have hsc : (bs c).size ≤ 600 := by rw [bs_size]; exact hcl
    have hz1 : ((⟨#[115, 99, 104, 101, 109, 101, 32]⟩ : ByteArray)).size ≤ 2000 := by
      show (bs [115, 99, 104, 101, 109, 101, 32]).size ≤ 2000
      simp only [bs_app, bs_size, List.length_append, List.length_cons, List.length_nil]
      omega
    have hz2 : ((⟨#[115, 99, 104, 101, 109, 101, 32]⟩ : ByteArray) ++ bs c).size ≤ 2000 := by
      show (bs [115, 99, 104, 101, 109, 101, 32] ++ bs c).size ≤ 2000
      simp only [bs_app, bs_size, List.length_append, List.length_cons, List.length_nil]
      omega
    go_wp2_with fail
    clear xs_0 hz1 hz2
    go_loopw [4, 5] (fun o t wr => ∃ k : Nat, t = .int .i64 (k : Int) ∧ k ≤ ps.length ∧ o = .string (bs (schT c (ps.take k))) ∧ Below w1.heap.size w1 wr) (fun _ t _ => ps.length - (intOf t).toNat)
    case atStart => exact ⟨0, rfl, by omega, by unfold schT; rw [List.take_zero, List.flatMap_nil, List.append_nil, ← bs_app, ← bs_app]; rfl, HB2.out⟩
    case round =>
      obtain ⟨k, rfl, hk, rfl, hB⟩ := hrel
      have HBw := hide hB
      have s1 : wr.cell? ⟨w.heap.size, 1, none⟩ = some (.slice A ps.length cp) := (HXs.out.to hB).cell 1
      clear hB HB2
      by_cases hlt : k < ps.length
      · obtain ⟨p, hp⟩ : ∃ p, ps[k]? = some p := ⟨_, List.getElem?_eq_getElem hlt⟩
        obtain ⟨a, cp', ea, _, hab, c0, c1, c2, c3⟩ := (HP.out.to HBw.out).at_ hp
        injection ea with ea _ ec
        subst ec
        obtain rfl := ea
        obtain ⟨hpk, hpb, hpa⟩ := HPT.out p (List.mem_of_getElem? hp)
        have hLb := (small_facts hpb).1
        have hLa := (small_facts hpa).1
        have hLw := word_len hpk
        have hLk : (schT c (ps.take k)).length ≤ 600 := by have := schT_len c ps k; have := HTL.out; omega
        have HSUC : Hid (schT c (ps.take (k + 1)) = schT c (ps.take k) ++ partT p) := schT_succ hp
        obtain ⟨L0, hL0⟩ : ∃ L, schT c (ps.take k) = L := ⟨_, rfl⟩
        rw [hL0] at hLk HSUC ⊢
        obtain ⟨j, hj, hj9⟩ : ∃ j : Nat, p.k = (j : Int) ∧ j < 9 := ⟨p.k.toNat, by omega, by omega⟩
        have HPT2 : Hid (partT p = (if p.need then wNeed ++ [32] else []) ++ wordK (j : Int) ++ betwT wBefore p.b ++ betwT wAfter p.a ++ [59, 10]) := by show _ = _; rw [← hj]; rfl
        rw [hj] at c0 hLw
        clear hL0 hp hpk hpb hpa hj
        have HBX := hide (below_alloc HBw.out (Nat.le_refl _) (.cells #[.int .i64 (j : Int), .string (bs p.b), .string (bs p.a), .bool p.need] 41))
        have HBP := hide (Blk.new wr 41 #[.int .i64 (j : Int), .string (bs p.b), .string (bs p.a), .bool p.need])
        go_upto_region 8 with fail
        clear c0 c1 c2 c3 s1 hab
        generalize wr.alloc (.cells #[.int .i64 (j : Int), .string (bs p.b), .string (bs p.a), .bool p.need] 41) = w5 at *
        generalize wr.heap.size = bx at *
        have CW := rWord_any j hj9 w5
        have p0 : w5.cell? ⟨bx, 0, none⟩ = some (.int .i64 (j : Int)) := HBP.out.cell 0
        have p3 : w5.cell? ⟨bx, 3, none⟩ = some (.bool p.need) := HBP.out.cell 3
        have hq0 : (bs L0).size ≤ 600 := by rw [bs_size]; exact hLk
        have hq1 : (bs p.b).size ≤ 4 := by rw [bs_size]; exact hLb
        have hq2 : (bs p.a).size ≤ 4 := by rw [bs_size]; exact hLa
        have hq3 : (bs (wordK (j : Int))).size ≤ 8 := by rw [bs_size]; exact hLw
        cases hn : p.need with
        | false =>
          rw [hn] at p3 HPT2 HBP
          clear hn
          go_wp2_with fail
          refine CW.mono ?_
          rintro e w6 ⟨rfl, hb⟩
          have HB6 := hide (below_to HBX.out (Nat.le_refl _) hb)
          have p1 : w6.cell? ⟨bx, 1, none⟩ = some (.string (bs p.b)) := (HBP.out.to hb).cell 1
          have p2 : w6.cell? ⟨bx, 2, none⟩ = some (.string (bs p.a)) := (HBP.out.to hb).cell 2
          clear hb p0 p3 CW HBP HBX
          cases hB : p.b.isEmpty with
          | true =>
            have eB : (bs p.b).toList.isEmpty = true := by rw [bs_toList]; exact hB
            have HB_ : Hid (betwT wBefore p.b = []) := by show _ = _; unfold betwT; rw [if_pos (List.isEmpty_iff.1 hB)]
            cases hA : p.a.isEmpty with
            | true =>
              have eA : (bs p.a).toList.isEmpty = true := by rw [bs_toList]; exact hA
              have HA : Hid (betwT wAfter p.a = []) := by show _ = _; unfold betwT; rw [if_pos (List.isEmpty_iff.1 hA)]
              have HE : Hid (L0 ++ partT p = L0 ++ wordK (j : Int) ++ [59, 10]) := by
                show _ = _
                rw [HPT2.out, HB_.out, HA.out]
                simp [wNeed]
              clear hA
              have hs1 : (bs L0).size ≤ 2000 := by
                show (bs L0).size ≤ 2000
                simp only [bs_app, bs_size, List.length_append, List.length_cons, List.length_nil]
                omega
              have hs2 : (bs L0 ++ bs (wordK (j : Int))).size ≤ 2000 := by
                show (bs L0 ++ bs (wordK (j : Int))).size ≤ 2000
                simp only [bs_app, bs_size, List.length_append, List.length_cons, List.length_nil]
                omega
              go_wp2_with fail
              go_roundw
              case rel => exact ⟨k + 1, by go_num, by omega, by rw [HSUC.out, HE.out]; exact congrArg Value.string (show bs L0 ++ bs (wordK (j : Int)) ++ bs [59, 10] = _ by simp only [bs_app, List.append_assoc]), HB6.out⟩
              case measure => simp [intOf]; omega
            | false =>
              have eA : (bs p.a).toList.isEmpty = false := by rw [bs_toList]; exact hA
              have HA : Hid (betwT wAfter p.a = [32, 97, 102, 116, 101, 114, 32, 34] ++ p.a ++ [34]) := by
                show _ = _
                unfold betwT
                rw [if_neg (fun e => by rw [e] at hA; cases hA)]
                simp [wAfter]
              have HE : Hid (L0 ++ partT p = L0 ++ wordK (j : Int) ++ [32, 97, 102, 116, 101, 114, 32, 34] ++ p.a ++ [34] ++ [59, 10]) := by
                show _ = _
                rw [HPT2.out, HB_.out, HA.out]
                simp [wNeed]
              clear hA
              have hs1 : (bs L0).size ≤ 2000 := by
                show (bs L0).size ≤ 2000
                simp only [bs_app, bs_size, List.length_append, List.length_cons, List.length_nil]
                omega
              have hs2 : (bs L0 ++ bs (wordK (j : Int))).size ≤ 2000 := by
                show (bs L0 ++ bs (wordK (j : Int))).size ≤ 2000
                simp only [bs_app, bs_size, List.length_append, List.length_cons, List.length_nil]
                omega
              have hs3 : (bs L0 ++ bs (wordK (j : Int)) ++ (⟨#[32, 97, 102, 116, 101, 114, 32, 34]⟩ : ByteArray)).size ≤ 2000 := by
                show (bs L0 ++ bs (wordK (j : Int)) ++ bs [32, 97, 102, 116, 101, 114, 32, 34]).size ≤ 2000
                simp only [bs_app, bs_size, List.length_append, List.length_cons, List.length_nil]
                omega
              have hs4 : (bs L0 ++ bs (wordK (j : Int)) ++ (⟨#[32, 97, 102, 116, 101, 114, 32, 34]⟩ : ByteArray) ++ bs p.a).size ≤ 2000 := by
                show (bs L0 ++ bs (wordK (j : Int)) ++ bs [32, 97, 102, 116, 101, 114, 32, 34] ++ bs p.a).size ≤ 2000
                simp only [bs_app, bs_size, List.length_append, List.length_cons, List.length_nil]
                omega
              have hs5 : (bs L0 ++ bs (wordK (j : Int)) ++ (⟨#[32, 97, 102, 116, 101, 114, 32, 34]⟩ : ByteArray) ++ bs p.a ++ (⟨#[34]⟩ : ByteArray)).size ≤ 2000 := by
                show (bs L0 ++ bs (wordK (j : Int)) ++ bs [32, 97, 102, 116, 101, 114, 32, 34] ++ bs p.a ++ bs [34]).size ≤ 2000
                simp only [bs_app, bs_size, List.length_append, List.length_cons, List.length_nil]
                omega
              go_wp2_with fail
              go_roundw
              case rel => exact ⟨k + 1, by go_num, by omega, by rw [HSUC.out, HE.out]; exact congrArg Value.string (show bs L0 ++ bs (wordK (j : Int)) ++ bs [32, 97, 102, 116, 101, 114, 32, 34] ++ bs p.a ++ bs [34] ++ bs [59, 10] = _ by simp only [bs_app, List.append_assoc]), HB6.out⟩
              case measure => simp [intOf]; omega
          | false =>
            have eB : (bs p.b).toList.isEmpty = false := by rw [bs_toList]; exact hB
            have HB_ : Hid (betwT wBefore p.b = [32, 98, 101, 102, 111, 114, 101, 32, 34] ++ p.b ++ [34]) := by
              show _ = _
              unfold betwT
              rw [if_neg (fun e => by rw [e] at hB; cases hB)]
              simp [wBefore]
            cases hA : p.a.isEmpty with
            | true =>
              have eA : (bs p.a).toList.isEmpty = true := by rw [bs_toList]; exact hA
              have HA : Hid (betwT wAfter p.a = []) := by show _ = _; unfold betwT; rw [if_pos (List.isEmpty_iff.1 hA)]
              have HE : Hid (L0 ++ partT p = L0 ++ wordK (j : Int) ++ [32, 98, 101, 102, 111, 114, 101, 32, 34] ++ p.b ++ [34] ++ [59, 10]) := by
                show _ = _
                rw [HPT2.out, HB_.out, HA.out]
                simp [wNeed]
              clear hA
              have hs1 : (bs L0).size ≤ 2000 := by
                show (bs L0).size ≤ 2000
                simp only [bs_app, bs_size, List.length_append, List.length_cons, List.length_nil]
                omega
              have hs2 : (bs L0 ++ bs (wordK (j : Int))).size ≤ 2000 := by
                show (bs L0 ++ bs (wordK (j : Int))).size ≤ 2000
                simp only [bs_app, bs_size, List.length_append, List.length_cons, List.length_nil]
                omega
              have hs3 : (bs L0 ++ bs (wordK (j : Int)) ++ (⟨#[32, 98, 101, 102, 111, 114, 101, 32, 34]⟩ : ByteArray)).size ≤ 2000 := by
                show (bs L0 ++ bs (wordK (j : Int)) ++ bs [32, 98, 101, 102, 111, 114, 101, 32, 34]).size ≤ 2000
                simp only [bs_app, bs_size, List.length_append, List.length_cons, List.length_nil]
                omega
              have hs4 : (bs L0 ++ bs (wordK (j : Int)) ++ (⟨#[32, 98, 101, 102, 111, 114, 101, 32, 34]⟩ : ByteArray) ++ bs p.b).size ≤ 2000 := by
                show (bs L0 ++ bs (wordK (j : Int)) ++ bs [32, 98, 101, 102, 111, 114, 101, 32, 34] ++ bs p.b).size ≤ 2000
                simp only [bs_app, bs_size, List.length_append, List.length_cons, List.length_nil]
                omega
              have hs5 : (bs L0 ++ bs (wordK (j : Int)) ++ (⟨#[32, 98, 101, 102, 111, 114, 101, 32, 34]⟩ : ByteArray) ++ bs p.b ++ (⟨#[34]⟩ : ByteArray)).size ≤ 2000 := by
                show (bs L0 ++ bs (wordK (j : Int)) ++ bs [32, 98, 101, 102, 111, 114, 101, 32, 34] ++ bs p.b ++ bs [34]).size ≤ 2000
                simp only [bs_app, bs_size, List.length_append, List.length_cons, List.length_nil]
                omega
              go_wp2_with fail
              go_roundw
              case rel => exact ⟨k + 1, by go_num, by omega, by rw [HSUC.out, HE.out]; exact congrArg Value.string (show bs L0 ++ bs (wordK (j : Int)) ++ bs [32, 98, 101, 102, 111, 114, 101, 32, 34] ++ bs p.b ++ bs [34] ++ bs [59, 10] = _ by simp only [bs_app, List.append_assoc]), HB6.out⟩
              case measure => simp [intOf]; omega
            | false =>
              have eA : (bs p.a).toList.isEmpty = false := by rw [bs_toList]; exact hA
              have HA : Hid (betwT wAfter p.a = [32, 97, 102, 116, 101, 114, 32, 34] ++ p.a ++ [34]) := by
                show _ = _
                unfold betwT
                rw [if_neg (fun e => by rw [e] at hA; cases hA)]
                simp [wAfter]
              have HE : Hid (L0 ++ partT p = L0 ++ wordK (j : Int) ++ [32, 98, 101, 102, 111, 114, 101, 32, 34] ++ p.b ++ [34] ++ [32, 97, 102, 116, 101, 114, 32, 34] ++ p.a ++ [34] ++ [59, 10]) := by
                show _ = _
                rw [HPT2.out, HB_.out, HA.out]
                simp [wNeed]
              clear hA
              have hs1 : (bs L0).size ≤ 2000 := by
                show (bs L0).size ≤ 2000
                simp only [bs_app, bs_size, List.length_append, List.length_cons, List.length_nil]
                omega
              have hs2 : (bs L0 ++ bs (wordK (j : Int))).size ≤ 2000 := by
                show (bs L0 ++ bs (wordK (j : Int))).size ≤ 2000
                simp only [bs_app, bs_size, List.length_append, List.length_cons, List.length_nil]
                omega
              have hs3 : (bs L0 ++ bs (wordK (j : Int)) ++ (⟨#[32, 98, 101, 102, 111, 114, 101, 32, 34]⟩ : ByteArray)).size ≤ 2000 := by
                show (bs L0 ++ bs (wordK (j : Int)) ++ bs [32, 98, 101, 102, 111, 114, 101, 32, 34]).size ≤ 2000
                simp only [bs_app, bs_size, List.length_append, List.length_cons, List.length_nil]
                omega
              have hs4 : (bs L0 ++ bs (wordK (j : Int)) ++ (⟨#[32, 98, 101, 102, 111, 114, 101, 32, 34]⟩ : ByteArray) ++ bs p.b).size ≤ 2000 := by
                show (bs L0 ++ bs (wordK (j : Int)) ++ bs [32, 98, 101, 102, 111, 114, 101, 32, 34] ++ bs p.b).size ≤ 2000
                simp only [bs_app, bs_size, List.length_append, List.length_cons, List.length_nil]
                omega
              have hs5 : (bs L0 ++ bs (wordK (j : Int)) ++ (⟨#[32, 98, 101, 102, 111, 114, 101, 32, 34]⟩ : ByteArray) ++ bs p.b ++ (⟨#[34]⟩ : ByteArray)).size ≤ 2000 := by
                show (bs L0 ++ bs (wordK (j : Int)) ++ bs [32, 98, 101, 102, 111, 114, 101, 32, 34] ++ bs p.b ++ bs [34]).size ≤ 2000
                simp only [bs_app, bs_size, List.length_append, List.length_cons, List.length_nil]
                omega
              have hs6 : (bs L0 ++ bs (wordK (j : Int)) ++ (⟨#[32, 98, 101, 102, 111, 114, 101, 32, 34]⟩ : ByteArray) ++ bs p.b ++ (⟨#[34]⟩ : ByteArray) ++ (⟨#[32, 97, 102, 116, 101, 114, 32, 34]⟩ : ByteArray)).size ≤ 2000 := by
                show (bs L0 ++ bs (wordK (j : Int)) ++ bs [32, 98, 101, 102, 111, 114, 101, 32, 34] ++ bs p.b ++ bs [34] ++ bs [32, 97, 102, 116, 101, 114, 32, 34]).size ≤ 2000
                simp only [bs_app, bs_size, List.length_append, List.length_cons, List.length_nil]
                omega
              have hs7 : (bs L0 ++ bs (wordK (j : Int)) ++ (⟨#[32, 98, 101, 102, 111, 114, 101, 32, 34]⟩ : ByteArray) ++ bs p.b ++ (⟨#[34]⟩ : ByteArray) ++ (⟨#[32, 97, 102, 116, 101, 114, 32, 34]⟩ : ByteArray) ++ bs p.a).size ≤ 2000 := by
                show (bs L0 ++ bs (wordK (j : Int)) ++ bs [32, 98, 101, 102, 111, 114, 101, 32, 34] ++ bs p.b ++ bs [34] ++ bs [32, 97, 102, 116, 101, 114, 32, 34] ++ bs p.a).size ≤ 2000
                simp only [bs_app, bs_size, List.length_append, List.length_cons, List.length_nil]
                omega
              have hs8 : (bs L0 ++ bs (wordK (j : Int)) ++ (⟨#[32, 98, 101, 102, 111, 114, 101, 32, 34]⟩ : ByteArray) ++ bs p.b ++ (⟨#[34]⟩ : ByteArray) ++ (⟨#[32, 97, 102, 116, 101, 114, 32, 34]⟩ : ByteArray) ++ bs p.a ++ (⟨#[34]⟩ : ByteArray)).size ≤ 2000 := by
                show (bs L0 ++ bs (wordK (j : Int)) ++ bs [32, 98, 101, 102, 111, 114, 101, 32, 34] ++ bs p.b ++ bs [34] ++ bs [32, 97, 102, 116, 101, 114, 32, 34] ++ bs p.a ++ bs [34]).size ≤ 2000
                simp only [bs_app, bs_size, List.length_append, List.length_cons, List.length_nil]
                omega
              go_wp2_with fail
              go_roundw
              case rel => exact ⟨k + 1, by go_num, by omega, by rw [HSUC.out, HE.out]; exact congrArg Value.string (show bs L0 ++ bs (wordK (j : Int)) ++ bs [32, 98, 101, 102, 111, 114, 101, 32, 34] ++ bs p.b ++ bs [34] ++ bs [32, 97, 102, 116, 101, 114, 32, 34] ++ bs p.a ++ bs [34] ++ bs [59, 10] = _ by simp only [bs_app, List.append_assoc]), HB6.out⟩
              case measure => simp [intOf]; omega
        | true =>
          rw [hn] at p3 HPT2 HBP
          clear hn
          have hr1 : (bs L0).size ≤ 2000 := by
            show (bs L0).size ≤ 2000
            simp only [bs_app, bs_size, List.length_append, List.length_cons, List.length_nil]
            omega
          have hr2 : (bs L0 ++ (⟨#[110, 101, 101, 100, 32]⟩ : ByteArray)).size ≤ 2000 := by
            show (bs L0 ++ bs [110, 101, 101, 100, 32]).size ≤ 2000
            simp only [bs_app, bs_size, List.length_append, List.length_cons, List.length_nil]
            omega
          go_wp2_with fail
          refine CW.mono ?_
          rintro e w6 ⟨rfl, hb⟩
          have HB6 := hide (below_to HBX.out (Nat.le_refl _) hb)
          have p1 : w6.cell? ⟨bx, 1, none⟩ = some (.string (bs p.b)) := (HBP.out.to hb).cell 1
          have p2 : w6.cell? ⟨bx, 2, none⟩ = some (.string (bs p.a)) := (HBP.out.to hb).cell 2
          clear hb p0 p3 CW HBP HBX
          clear hr1 hr2
          cases hB : p.b.isEmpty with
          | true =>
            have eB : (bs p.b).toList.isEmpty = true := by rw [bs_toList]; exact hB
            have HB_ : Hid (betwT wBefore p.b = []) := by show _ = _; unfold betwT; rw [if_pos (List.isEmpty_iff.1 hB)]
            cases hA : p.a.isEmpty with
            | true =>
              have eA : (bs p.a).toList.isEmpty = true := by rw [bs_toList]; exact hA
              have HA : Hid (betwT wAfter p.a = []) := by show _ = _; unfold betwT; rw [if_pos (List.isEmpty_iff.1 hA)]
              have HE : Hid (L0 ++ partT p = L0 ++ [110, 101, 101, 100, 32] ++ wordK (j : Int) ++ [59, 10]) := by
                show _ = _
                rw [HPT2.out, HB_.out, HA.out]
                simp [wNeed]
              clear hA
              have hs1 : (bs L0).size ≤ 2000 := by
                show (bs L0).size ≤ 2000
                simp only [bs_app, bs_size, List.length_append, List.length_cons, List.length_nil]
                omega
              have hs2 : (bs L0 ++ (⟨#[110, 101, 101, 100, 32]⟩ : ByteArray)).size ≤ 2000 := by
                show (bs L0 ++ bs [110, 101, 101, 100, 32]).size ≤ 2000
                simp only [bs_app, bs_size, List.length_append, List.length_cons, List.length_nil]
                omega
              have hs3 : (bs L0 ++ (⟨#[110, 101, 101, 100, 32]⟩ : ByteArray) ++ bs (wordK (j : Int))).size ≤ 2000 := by
                show (bs L0 ++ bs [110, 101, 101, 100, 32] ++ bs (wordK (j : Int))).size ≤ 2000
                simp only [bs_app, bs_size, List.length_append, List.length_cons, List.length_nil]
                omega
              go_wp2_with fail
              go_roundw
              case rel => exact ⟨k + 1, by go_num, by omega, by rw [HSUC.out, HE.out]; exact congrArg Value.string (show bs L0 ++ bs [110, 101, 101, 100, 32] ++ bs (wordK (j : Int)) ++ bs [59, 10] = _ by simp only [bs_app, List.append_assoc]), HB6.out⟩
              case measure => simp [intOf]; omega
            | false =>
              have eA : (bs p.a).toList.isEmpty = false := by rw [bs_toList]; exact hA
              have HA : Hid (betwT wAfter p.a = [32, 97, 102, 116, 101, 114, 32, 34] ++ p.a ++ [34]) := by
                show _ = _
                unfold betwT
                rw [if_neg (fun e => by rw [e] at hA; cases hA)]
                simp [wAfter]
              have HE : Hid (L0 ++ partT p = L0 ++ [110, 101, 101, 100, 32] ++ wordK (j : Int) ++ [32, 97, 102, 116, 101, 114, 32, 34] ++ p.a ++ [34] ++ [59, 10]) := by
                show _ = _
                rw [HPT2.out, HB_.out, HA.out]
                simp [wNeed]
              clear hA
              have hs1 : (bs L0).size ≤ 2000 := by
                show (bs L0).size ≤ 2000
                simp only [bs_app, bs_size, List.length_append, List.length_cons, List.length_nil]
                omega
              have hs2 : (bs L0 ++ (⟨#[110, 101, 101, 100, 32]⟩ : ByteArray)).size ≤ 2000 := by
                show (bs L0 ++ bs [110, 101, 101, 100, 32]).size ≤ 2000
                simp only [bs_app, bs_size, List.length_append, List.length_cons, List.length_nil]
                omega
              have hs3 : (bs L0 ++ (⟨#[110, 101, 101, 100, 32]⟩ : ByteArray) ++ bs (wordK (j : Int))).size ≤ 2000 := by
                show (bs L0 ++ bs [110, 101, 101, 100, 32] ++ bs (wordK (j : Int))).size ≤ 2000
                simp only [bs_app, bs_size, List.length_append, List.length_cons, List.length_nil]
                omega
              have hs4 : (bs L0 ++ (⟨#[110, 101, 101, 100, 32]⟩ : ByteArray) ++ bs (wordK (j : Int)) ++ (⟨#[32, 97, 102, 116, 101, 114, 32, 34]⟩ : ByteArray)).size ≤ 2000 := by
                show (bs L0 ++ bs [110, 101, 101, 100, 32] ++ bs (wordK (j : Int)) ++ bs [32, 97, 102, 116, 101, 114, 32, 34]).size ≤ 2000
                simp only [bs_app, bs_size, List.length_append, List.length_cons, List.length_nil]
                omega
              have hs5 : (bs L0 ++ (⟨#[110, 101, 101, 100, 32]⟩ : ByteArray) ++ bs (wordK (j : Int)) ++ (⟨#[32, 97, 102, 116, 101, 114, 32, 34]⟩ : ByteArray) ++ bs p.a).size ≤ 2000 := by
                show (bs L0 ++ bs [110, 101, 101, 100, 32] ++ bs (wordK (j : Int)) ++ bs [32, 97, 102, 116, 101, 114, 32, 34] ++ bs p.a).size ≤ 2000
                simp only [bs_app, bs_size, List.length_append, List.length_cons, List.length_nil]
                omega
              have hs6 : (bs L0 ++ (⟨#[110, 101, 101, 100, 32]⟩ : ByteArray) ++ bs (wordK (j : Int)) ++ (⟨#[32, 97, 102, 116, 101, 114, 32, 34]⟩ : ByteArray) ++ bs p.a ++ (⟨#[34]⟩ : ByteArray)).size ≤ 2000 := by
                show (bs L0 ++ bs [110, 101, 101, 100, 32] ++ bs (wordK (j : Int)) ++ bs [32, 97, 102, 116, 101, 114, 32, 34] ++ bs p.a ++ bs [34]).size ≤ 2000
                simp only [bs_app, bs_size, List.length_append, List.length_cons, List.length_nil]
                omega
              go_wp2_with fail
              go_roundw
              case rel => exact ⟨k + 1, by go_num, by omega, by rw [HSUC.out, HE.out]; exact congrArg Value.string (show bs L0 ++ bs [110, 101, 101, 100, 32] ++ bs (wordK (j : Int)) ++ bs [32, 97, 102, 116, 101, 114, 32, 34] ++ bs p.a ++ bs [34] ++ bs [59, 10] = _ by simp only [bs_app, List.append_assoc]), HB6.out⟩
              case measure => simp [intOf]; omega
          | false =>
            have eB : (bs p.b).toList.isEmpty = false := by rw [bs_toList]; exact hB
            have HB_ : Hid (betwT wBefore p.b = [32, 98, 101, 102, 111, 114, 101, 32, 34] ++ p.b ++ [34]) := by
              show _ = _
              unfold betwT
              rw [if_neg (fun e => by rw [e] at hB; cases hB)]
              simp [wBefore]
            cases hA : p.a.isEmpty with
            | true =>
              have eA : (bs p.a).toList.isEmpty = true := by rw [bs_toList]; exact hA
              have HA : Hid (betwT wAfter p.a = []) := by show _ = _; unfold betwT; rw [if_pos (List.isEmpty_iff.1 hA)]
              have HE : Hid (L0 ++ partT p = L0 ++ [110, 101, 101, 100, 32] ++ wordK (j : Int) ++ [32, 98, 101, 102, 111, 114, 101, 32, 34] ++ p.b ++ [34] ++ [59, 10]) := by
                show _ = _
                rw [HPT2.out, HB_.out, HA.out]
                simp [wNeed]
              clear hA
              have hs1 : (bs L0).size ≤ 2000 := by
                show (bs L0).size ≤ 2000
                simp only [bs_app, bs_size, List.length_append, List.length_cons, List.length_nil]
                omega
              have hs2 : (bs L0 ++ (⟨#[110, 101, 101, 100, 32]⟩ : ByteArray)).size ≤ 2000 := by
                show (bs L0 ++ bs [110, 101, 101, 100, 32]).size ≤ 2000
                simp only [bs_app, bs_size, List.length_append, List.length_cons, List.length_nil]
                omega
              have hs3 : (bs L0 ++ (⟨#[110, 101, 101, 100, 32]⟩ : ByteArray) ++ bs (wordK (j : Int))).size ≤ 2000 := by
                show (bs L0 ++ bs [110, 101, 101, 100, 32] ++ bs (wordK (j : Int))).size ≤ 2000
                simp only [bs_app, bs_size, List.length_append, List.length_cons, List.length_nil]
                omega
              have hs4 : (bs L0 ++ (⟨#[110, 101, 101, 100, 32]⟩ : ByteArray) ++ bs (wordK (j : Int)) ++ (⟨#[32, 98, 101, 102, 111, 114, 101, 32, 34]⟩ : ByteArray)).size ≤ 2000 := by
                show (bs L0 ++ bs [110, 101, 101, 100, 32] ++ bs (wordK (j : Int)) ++ bs [32, 98, 101, 102, 111, 114, 101, 32, 34]).size ≤ 2000
                simp only [bs_app, bs_size, List.length_append, List.length_cons, List.length_nil]
                omega
              have hs5 : (bs L0 ++ (⟨#[110, 101, 101, 100, 32]⟩ : ByteArray) ++ bs (wordK (j : Int)) ++ (⟨#[32, 98, 101, 102, 111, 114, 101, 32, 34]⟩ : ByteArray) ++ bs p.b).size ≤ 2000 := by
                show (bs L0 ++ bs [110, 101, 101, 100, 32] ++ bs (wordK (j : Int)) ++ bs [32, 98, 101, 102, 111, 114, 101, 32, 34] ++ bs p.b).size ≤ 2000
                simp only [bs_app, bs_size, List.length_append, List.length_cons, List.length_nil]
                omega
              have hs6 : (bs L0 ++ (⟨#[110, 101, 101, 100, 32]⟩ : ByteArray) ++ bs (wordK (j : Int)) ++ (⟨#[32, 98, 101, 102, 111, 114, 101, 32, 34]⟩ : ByteArray) ++ bs p.b ++ (⟨#[34]⟩ : ByteArray)).size ≤ 2000 := by
                show (bs L0 ++ bs [110, 101, 101, 100, 32] ++ bs (wordK (j : Int)) ++ bs [32, 98, 101, 102, 111, 114, 101, 32, 34] ++ bs p.b ++ bs [34]).size ≤ 2000
                simp only [bs_app, bs_size, List.length_append, List.length_cons, List.length_nil]
                omega
              go_wp2_with fail
              go_roundw
              case rel => exact ⟨k + 1, by go_num, by omega, by rw [HSUC.out, HE.out]; exact congrArg Value.string (show bs L0 ++ bs [110, 101, 101, 100, 32] ++ bs (wordK (j : Int)) ++ bs [32, 98, 101, 102, 111, 114, 101, 32, 34] ++ bs p.b ++ bs [34] ++ bs [59, 10] = _ by simp only [bs_app, List.append_assoc]), HB6.out⟩
              case measure => simp [intOf]; omega
            | false =>
              have eA : (bs p.a).toList.isEmpty = false := by rw [bs_toList]; exact hA
              have HA : Hid (betwT wAfter p.a = [32, 97, 102, 116, 101, 114, 32, 34] ++ p.a ++ [34]) := by
                show _ = _
                unfold betwT
                rw [if_neg (fun e => by rw [e] at hA; cases hA)]
                simp [wAfter]
              have HE : Hid (L0 ++ partT p = L0 ++ [110, 101, 101, 100, 32] ++ wordK (j : Int) ++ [32, 98, 101, 102, 111, 114, 101, 32, 34] ++ p.b ++ [34] ++ [32, 97, 102, 116, 101, 114, 32, 34] ++ p.a ++ [34] ++ [59, 10]) := by
                show _ = _
                rw [HPT2.out, HB_.out, HA.out]
                simp [wNeed]
              clear hA
              have hs1 : (bs L0).size ≤ 2000 := by
                show (bs L0).size ≤ 2000
                simp only [bs_app, bs_size, List.length_append, List.length_cons, List.length_nil]
                omega
              have hs2 : (bs L0 ++ (⟨#[110, 101, 101, 100, 32]⟩ : ByteArray)).size ≤ 2000 := by
                show (bs L0 ++ bs [110, 101, 101, 100, 32]).size ≤ 2000
                simp only [bs_app, bs_size, List.length_append, List.length_cons, List.length_nil]
                omega
              have hs3 : (bs L0 ++ (⟨#[110, 101, 101, 100, 32]⟩ : ByteArray) ++ bs (wordK (j : Int))).size ≤ 2000 := by
                show (bs L0 ++ bs [110, 101, 101, 100, 32] ++ bs (wordK (j : Int))).size ≤ 2000
                simp only [bs_app, bs_size, List.length_append, List.length_cons, List.length_nil]
                omega
              have hs4 : (bs L0 ++ (⟨#[110, 101, 101, 100, 32]⟩ : ByteArray) ++ bs (wordK (j : Int)) ++ (⟨#[32, 98, 101, 102, 111, 114, 101, 32, 34]⟩ : ByteArray)).size ≤ 2000 := by
                show (bs L0 ++ bs [110, 101, 101, 100, 32] ++ bs (wordK (j : Int)) ++ bs [32, 98, 101, 102, 111, 114, 101, 32, 34]).size ≤ 2000
                simp only [bs_app, bs_size, List.length_append, List.length_cons, List.length_nil]
                omega
              have hs5 : (bs L0 ++ (⟨#[110, 101, 101, 100, 32]⟩ : ByteArray) ++ bs (wordK (j : Int)) ++ (⟨#[32, 98, 101, 102, 111, 114, 101, 32, 34]⟩ : ByteArray) ++ bs p.b).size ≤ 2000 := by
                show (bs L0 ++ bs [110, 101, 101, 100, 32] ++ bs (wordK (j : Int)) ++ bs [32, 98, 101, 102, 111, 114, 101, 32, 34] ++ bs p.b).size ≤ 2000
                simp only [bs_app, bs_size, List.length_append, List.length_cons, List.length_nil]
                omega
              have hs6 : (bs L0 ++ (⟨#[110, 101, 101, 100, 32]⟩ : ByteArray) ++ bs (wordK (j : Int)) ++ (⟨#[32, 98, 101, 102, 111, 114, 101, 32, 34]⟩ : ByteArray) ++ bs p.b ++ (⟨#[34]⟩ : ByteArray)).size ≤ 2000 := by
                show (bs L0 ++ bs [110, 101, 101, 100, 32] ++ bs (wordK (j : Int)) ++ bs [32, 98, 101, 102, 111, 114, 101, 32, 34] ++ bs p.b ++ bs [34]).size ≤ 2000
                simp only [bs_app, bs_size, List.length_append, List.length_cons, List.length_nil]
                omega
              have hs7 : (bs L0 ++ (⟨#[110, 101, 101, 100, 32]⟩ : ByteArray) ++ bs (wordK (j : Int)) ++ (⟨#[32, 98, 101, 102, 111, 114, 101, 32, 34]⟩ : ByteArray) ++ bs p.b ++ (⟨#[34]⟩ : ByteArray) ++ (⟨#[32, 97, 102, 116, 101, 114, 32, 34]⟩ : ByteArray)).size ≤ 2000 := by
                show (bs L0 ++ bs [110, 101, 101, 100, 32] ++ bs (wordK (j : Int)) ++ bs [32, 98, 101, 102, 111, 114, 101, 32, 34] ++ bs p.b ++ bs [34] ++ bs [32, 97, 102, 116, 101, 114, 32, 34]).size ≤ 2000
                simp only [bs_app, bs_size, List.length_append, List.length_cons, List.length_nil]
                omega
              have hs8 : (bs L0 ++ (⟨#[110, 101, 101, 100, 32]⟩ : ByteArray) ++ bs (wordK (j : Int)) ++ (⟨#[32, 98, 101, 102, 111, 114, 101, 32, 34]⟩ : ByteArray) ++ bs p.b ++ (⟨#[34]⟩ : ByteArray) ++ (⟨#[32, 97, 102, 116, 101, 114, 32, 34]⟩ : ByteArray) ++ bs p.a).size ≤ 2000 := by
                show (bs L0 ++ bs [110, 101, 101, 100, 32] ++ bs (wordK (j : Int)) ++ bs [32, 98, 101, 102, 111, 114, 101, 32, 34] ++ bs p.b ++ bs [34] ++ bs [32, 97, 102, 116, 101, 114, 32, 34] ++ bs p.a).size ≤ 2000
                simp only [bs_app, bs_size, List.length_append, List.length_cons, List.length_nil]
                omega
              have hs9 : (bs L0 ++ (⟨#[110, 101, 101, 100, 32]⟩ : ByteArray) ++ bs (wordK (j : Int)) ++ (⟨#[32, 98, 101, 102, 111, 114, 101, 32, 34]⟩ : ByteArray) ++ bs p.b ++ (⟨#[34]⟩ : ByteArray) ++ (⟨#[32, 97, 102, 116, 101, 114, 32, 34]⟩ : ByteArray) ++ bs p.a ++ (⟨#[34]⟩ : ByteArray)).size ≤ 2000 := by
                show (bs L0 ++ bs [110, 101, 101, 100, 32] ++ bs (wordK (j : Int)) ++ bs [32, 98, 101, 102, 111, 114, 101, 32, 34] ++ bs p.b ++ bs [34] ++ bs [32, 97, 102, 116, 101, 114, 32, 34] ++ bs p.a ++ bs [34]).size ≤ 2000
                simp only [bs_app, bs_size, List.length_append, List.length_cons, List.length_nil]
                omega
              go_wp2_with fail
              go_roundw
              case rel => exact ⟨k + 1, by go_num, by omega, by rw [HSUC.out, HE.out]; exact congrArg Value.string (show bs L0 ++ bs [110, 101, 101, 100, 32] ++ bs (wordK (j : Int)) ++ bs [32, 98, 101, 102, 111, 114, 101, 32, 34] ++ bs p.b ++ bs [34] ++ bs [32, 97, 102, 116, 101, 114, 32, 34] ++ bs p.a ++ bs [34] ++ bs [59, 10] = _ by simp only [bs_app, List.append_assoc]), HB6.out⟩
              case measure => simp [intOf]; omega
      · obtain rfl : k = ps.length := by omega
        have e1 : decide ((ps.length : Int) < (ps.length : Int)) = false := by simp
        have hLk : (schT c (ps.take ps.length)).length ≤ 600 := by have := schT_len c ps ps.length; have := HTL.out; omega
        have HE : Hid (bs (textV ⟨c, ps⟩) = bs (schT c (ps.take ps.length)) ++ bs [125, 10]) := by
          show _ = _
          rw [HF.out.1, textS_eq, List.take_length, bs_app]
        obtain ⟨L0, hL0⟩ : ∃ L, schT c (ps.take ps.length) = L := ⟨_, rfl⟩
        rw [hL0] at hLk HE ⊢
        clear hL0
        have hq0 : (bs L0).size ≤ 600 := by rw [bs_size]; exact hLk
        go_wp2_with fail
        go_ret2
        exact ⟨by rw [HE.out, HF.out.2]; rfl, HB.out.trans (HBw.out.mono HB.out.size)⟩
end Go.Proofs.YtdcafoekbnacnaaGreatDoor

/- Chapter 23: the walk of SchemeMatchesReference. -/
set_option linter.unusedVariables false
set_option linter.unusedSimpArgs false
namespace Go.Proofs.YtdcafoekbnacnaaGreatDoor
open Go.RowKit Go.Shelf
attribute [local go_sem] Oper.semAt_some

theorem parse_small (t : List UInt8) : (parseS isNm t).1.ps.length ≤ 8 ∧ (parseS isNm t).1.c.length ≤ 24 := by
  by_cases h : (parseS isNm t).2.1 = 0
  · have hv := (schParse_ok h).1
    refine ⟨hv.n8, ?_⟩
    have := hv.nm
    unfold isNm at this
    simp only [Bool.and_eq_true, decide_eq_true_eq] at this
    exact this.2
  · rw [(parse_err h).1]; decide
set_option maxRecDepth 100000 in
set_option maxHeartbeats 8000000 in
theorem match_law (s : Sch) (hl0 : s.ps.length ≤ 8796093022208) (hc0 : s.c.length ≤ 140737488355328) (v : Value) (f0 f1 f2 f3 f4 f5 f6 f7 f8 : List UInt8) (t : List UInt8) (ht0 : t.length ≤ 140737488355328) (w : World) (hP : PartsAt w v s.ps) (hg : Glob w) :
    Calls Tryz.prog 3 #[.agg #[.string (bs s.c), v], .agg #[.string (bs f0), .string (bs f1), .string (bs f2), .string (bs f3), .string (bs f4), .string (bs f5), .string (bs f6), .string (bs f7), .string (bs f8)], .string (bs t)] w fun e w' => e = .returned (.bool true) ∧ Below w.heap.size w w' := by
  have HP0 := hide hP
  have HG0 := hide hg
  obtain ⟨A, c, rfl, hc⟩ := hP.slice
  clear hP hg
  have hsz := bs_size t
  go_enter Tryz.func3, Tryz.ntmps3
  go_wp2_with fail
  obtain ⟨Xs, Xf, B0⟩ := box2 w 24 #[.string (bs s.c), .slice A s.ps.length c] 26 #[.string (bs f0), .string (bs f1), .string (bs f2), .string (bs f3), .string (bs f4), .string (bs f5), .string (bs f6), .string (bs f7), .string (bs f8)]
  have HXs := hide Xs
  have HXf := hide Xf
  have HB := hide B0
  have HP := hide (HP0.out.to B0)
  have HG := hide (HG0.out.to B0)
  clear Xs Xf B0 HP0 HG0
  generalize (w.alloc (.cells #[.string (bs s.c), .slice A s.ps.length c] 24)).alloc (.cells #[.string (bs f0), .string (bs f1), .string (bs f2), .string (bs f3), .string (bs f4), .string (bs f5), .string (bs f6), .string (bs f7), .string (bs f8)] 26) = w1 at *
  refine (head_any w1 HG.out).mono ?_
  rintro e w2 ⟨rfl, hb⟩
  have zHXs := hide (HXs.out.to hb)
  have zHXf := hide (HXf.out.to hb)
  have zHP := hide (HP.out.to hb)
  have zHG := hide (HG.out.to hb)
  have zHB := hide (below_to HB.out (Nat.le_refl _) hb)
  clear hb HB HXs HXf HP HG
  have HXs := zHXs
  have HXf := zHXf
  have HP := zHP
  have HG := zHG
  have HB := zHB
  clear zHXs zHXf zHP zHG zHB
  obtain ⟨U, hU, g, u0, rfl, hgu, hgi⟩ := cls w2
  have xs_0 := fun u => (((HXs.out.to (hgu u)).cell 0).trans (show _ = some (Value.string (bs s.c)) from rfl))
  have xs_1 := fun u => (((HXs.out.to (hgu u)).cell 1).trans (show _ = some (Value.slice A s.ps.length c) from rfl))
  have xf_0 := fun u => (((HXf.out.to (hgu u)).cell 0).trans (show _ = some (Value.string (bs f0)) from rfl))
  have xf_1 := fun u => (((HXf.out.to (hgu u)).cell 1).trans (show _ = some (Value.string (bs f1)) from rfl))
  have xf_2 := fun u => (((HXf.out.to (hgu u)).cell 2).trans (show _ = some (Value.string (bs f2)) from rfl))
  have xf_3 := fun u => (((HXf.out.to (hgu u)).cell 3).trans (show _ = some (Value.string (bs f3)) from rfl))
  have xf_4 := fun u => (((HXf.out.to (hgu u)).cell 4).trans (show _ = some (Value.string (bs f4)) from rfl))
  have xf_5 := fun u => (((HXf.out.to (hgu u)).cell 5).trans (show _ = some (Value.string (bs f5)) from rfl))
  have xf_6 := fun u => (((HXf.out.to (hgu u)).cell 6).trans (show _ = some (Value.string (bs f6)) from rfl))
  have xf_7 := fun u => (((HXf.out.to (hgu u)).cell 7).trans (show _ = some (Value.string (bs f7)) from rfl))
  have xf_8 := fun u => (((HXf.out.to (hgu u)).cell 8).trans (show _ = some (Value.string (bs f8)) from rfl))
  have CF : ∀ u, Calls Tryz.prog 16 #[.agg #[.string (bs s.c), .slice A s.ps.length c]] (g u) fun e w' => e = .returned (.bool (fewB s)) ∧ ∃ u', w' = g u' := fun u => cls_call hgu hgi (fun W hb => Few_any s hl0 (.slice A s.ps.length c) W (HP.out.to hb)) u
  have CS : ∀ u, Calls Tryz.prog 17 #[.agg #[.string (bs f0), .string (bs f1), .string (bs f2), .string (bs f3), .string (bs f4), .string (bs f5), .string (bs f6), .string (bs f7), .string (bs f8)]] (g u) fun e w' => e = .returned (.bool (shortF [f0, f1, f2, f3, f4, f5, f6, f7, f8])) ∧ ∃ u', w' = g u' := fun u => cls_call hgu hgi (fun W hb => Short_any f0 f1 f2 f3 f4 f5 f6 f7 f8 W) u
  cases hCF : fewB s with
  | false =>
    rw [hCF] at CF
    clear hCF
    go_wp2_with (first | ((with_reducible refine (CF _).mono ?_); rintro e w' ⟨rfl, u, rfl⟩) | ((with_reducible refine (CS _).mono ?_); rintro e w' ⟨rfl, u, rfl⟩))
    all_goals go_ret
    all_goals exact ⟨rfl, below_to HB.out (Nat.le_refl _) (hgu _)⟩
  | true =>
    rw [hCF] at CF
    have kCF := hide hCF
    clear hCF
    cases hCS : shortF [f0, f1, f2, f3, f4, f5, f6, f7, f8] with
    | false =>
      rw [hCS] at CS
      clear hCS kCF
      go_wp2_with (first | ((with_reducible refine (CF _).mono ?_); rintro e w' ⟨rfl, u, rfl⟩) | ((with_reducible refine (CS _).mono ?_); rintro e w' ⟨rfl, u, rfl⟩))
      all_goals go_ret
      all_goals exact ⟨rfl, below_to HB.out (Nat.le_refl _) (hgu _)⟩
    | true =>
      rw [hCS] at CS
      have kCS := hide hCS
      clear hCS
      obtain ⟨b1, b2, b3⟩ := few_facts kCF.out
      have HL := hide (short_facts (f := [f0, f1, f2, f3, f4, f5, f6, f7, f8]) rfl kCS.out)
      by_cases ht1 : 1000 < t.length
      · have e1 : decide ((1000 : Int) < (t.length : Int)) = true := decide_eq_true (by omega)
        clear ht1
        go_wp2_with (first | ((with_reducible refine (CF _).mono ?_); rintro e w' ⟨rfl, u, rfl⟩) | ((with_reducible refine (CS _).mono ?_); rintro e w' ⟨rfl, u, rfl⟩))
        all_goals go_ret
        all_goals exact ⟨rfl, below_to HB.out (Nat.le_refl _) (hgu _)⟩
      · have e1 : decide ((1000 : Int) < (t.length : Int)) = false := decide_eq_false (by omega)
        have HB2 : Hid (∀ p ∈ s.ps, p.b.length ≤ 1000000 ∧ p.a.length ≤ 1000000) := fun p hp => ⟨Nat.le_trans (b2 p hp).1 (by decide), Nat.le_trans (b2 p hp).2 (by decide)⟩
        have HF2 : Hid (∀ k, ([f0, f1, f2, f3, f4, f5, f6, f7, f8].getD k []).length ≤ 100000) := fun k => Nat.le_trans (HL.out k) (by decide)
        have CT : ∀ u, Calls Tryz.prog 18 #[.agg #[.string (bs s.c), .slice A s.ps.length c]] (g u) fun e w' => e = .returned (.tuple #[.string (bs (textV s)), .int .i64 (textE s)]) ∧ ∃ u', w' = g u' := fun u => cls_call hgu hgi (fun W hb => SText_any s hl0 hc0 (.slice A s.ps.length c) W (HP.out.to hb)) u
        have CR : ∀ u, Calls Tryz.prog 19 #[.agg #[.string (bs s.c), .slice A s.ps.length c]] (g u) fun e w' => e = .returned (.tuple #[.string (bs (textV s)), .int .i64 (textE s)]) ∧ ∃ u', w' = g u' := fun u => cls_call hgu hgi (fun W hb => rText23_any s.c s.ps (Nat.le_trans b1 (by decide)) hc0 HB2.out (.slice A s.ps.length c) W (HP.out.to hb)) u
        have CP := fun W => SParse_any t (by omega) W
        have CQ := fun W => rParse23_any t (by omega) W
        unfold SParseR at CP CQ
        have HSM := hide (parse_small t)
        generalize (parseS isNm t).2.1 = E at *
        generalize (parseS isNm t).2.2 = ea at *
        generalize (parseS isNm t).1 = X at *
        generalize bs (textV s) = tv at *
        generalize textE s = te at *
        clear b2 ht1
        go_wp2_with (first | ((with_reducible refine (CF _).mono ?_); rintro e w' ⟨rfl, u, rfl⟩) | ((with_reducible refine (CS _).mono ?_); rintro e w' ⟨rfl, u, rfl⟩) | ((with_reducible refine (CT _).mono ?_); rintro e w' ⟨rfl, u, rfl⟩) | ((with_reducible refine (CR _).mono ?_); rintro e w' ⟨rfl, u, rfl⟩))
        refine (CP (g u)).mono ?_
        rintro e w7 ⟨vx, rfl, hX, hb⟩
        obtain ⟨A8, c8, rfl, _⟩ := hX.slice
        have hbb : Below (g u).heap.size (g u) (w7.alloc (.cells #[.string (bs X.c), .slice A8 X.ps.length c8] 24)) := below_alloc hb (Nat.le_refl _) _
        have HX := hide (hX.to (below_one w7 (.cells #[.string (bs X.c), .slice A8 X.ps.length c8] 24)))
        have HY := hide (Blk.new w7 24 #[.string (bs X.c), .slice A8 X.ps.length c8])
        have HP7 := hide ((HP.out.to (hgu u)).to hbb)
        have HG7 := hide ((HG.out.to (hgu u)).to hbb)
        have HXs7 := hide ((HXs.out.to (hgu u)).to hbb)
        have HXf7 := hide ((HXf.out.to (hgu u)).to hbb)
        have HB7 := hide (below_to (below_to HB.out (Nat.le_refl _) (hgu u)) (Nat.le_refl _) hbb)
        clear hX hb hbb CF CS CT CR CP HP HG HXs HXf HB xs_0 xs_1 xf_0 xf_1 xf_2 xf_3 xf_4 xf_5 xf_6 xf_7 xf_8
        go_wp2_with fail
        generalize w7.alloc (.cells #[.string (bs X.c), .slice A8 X.ps.length c8] 24) = w8 at *
        generalize hn7 : w7.heap.size = n7 at *
        clear hn7 hgu hgi
        refine (CQ w8).mono ?_
        rintro e w9 ⟨vy, rfl, hX9, hb⟩
        obtain ⟨A9, c9, rfl, _⟩ := hX9.slice
        have hbb : Below w8.heap.size w8 (w9.alloc (.cells #[.string (bs X.c), .slice A9 X.ps.length c9] 24)) := below_alloc hb (Nat.le_refl _) _
        have HZ := hide (hX9.to (below_one w9 (.cells #[.string (bs X.c), .slice A9 X.ps.length c9] 24)))
        have HV := hide (Blk.new w9 24 #[.string (bs X.c), .slice A9 X.ps.length c9])
        have HX8 := hide (HX.out.to hbb)
        have HY8 := hide (HY.out.to hbb)
        have HP8 := hide (HP7.out.to hbb)
        have HG8 := hide (HG7.out.to hbb)
        have HXs8 := hide (HXs7.out.to hbb)
        have HXf8 := hide (HXf7.out.to hbb)
        have HB8 := hide (below_to HB7.out (Nat.le_refl _) hbb)
        clear hX9 hb hbb CQ HX HY HP7 HG7 HXs7 HXf7 HB7
        go_upto_region 8 with fail
        generalize w9.alloc (.cells #[.string (bs X.c), .slice A9 X.ps.length c9] 24) = w10 at *
        generalize hn9 : w9.heap.size = n9 at *
        clear hn9
        obtain ⟨V2, hV2, k, v2, rfl, hku, hki⟩ := cls w10
        have xs_0 := fun u => (((HXs8.out.to (hku u)).cell 0).trans (show _ = some (Value.string (bs s.c)) from rfl))
        have xs_1 := fun u => (((HXs8.out.to (hku u)).cell 1).trans (show _ = some (Value.slice A s.ps.length c) from rfl))
        have xf_0 := fun u => (((HXf8.out.to (hku u)).cell 0).trans (show _ = some (Value.string (bs f0)) from rfl))
        have xf_1 := fun u => (((HXf8.out.to (hku u)).cell 1).trans (show _ = some (Value.string (bs f1)) from rfl))
        have xf_2 := fun u => (((HXf8.out.to (hku u)).cell 2).trans (show _ = some (Value.string (bs f2)) from rfl))
        have xf_3 := fun u => (((HXf8.out.to (hku u)).cell 3).trans (show _ = some (Value.string (bs f3)) from rfl))
        have xf_4 := fun u => (((HXf8.out.to (hku u)).cell 4).trans (show _ = some (Value.string (bs f4)) from rfl))
        have xf_5 := fun u => (((HXf8.out.to (hku u)).cell 5).trans (show _ = some (Value.string (bs f5)) from rfl))
        have xf_6 := fun u => (((HXf8.out.to (hku u)).cell 6).trans (show _ = some (Value.string (bs f6)) from rfl))
        have xf_7 := fun u => (((HXf8.out.to (hku u)).cell 7).trans (show _ = some (Value.string (bs f7)) from rfl))
        have xf_8 := fun u => (((HXf8.out.to (hku u)).cell 8).trans (show _ = some (Value.string (bs f8)) from rfl))
        have xx_0 := fun u => (((HY8.out.to (hku u)).cell 0).trans (show _ = some (Value.string (bs X.c)) from rfl))
        have xx_1 := fun u => (((HY8.out.to (hku u)).cell 1).trans (show _ = some (Value.slice A8 X.ps.length c8) from rfl))
        have xy_0 := fun u => (((HV.out.to (hku u)).cell 0).trans (show _ = some (Value.string (bs X.c)) from rfl))
        have xy_1 := fun u => (((HV.out.to (hku u)).cell 1).trans (show _ = some (Value.slice A9 X.ps.length c9) from rfl))
        have D1 : ∀ u, Calls Tryz.prog 22 #[.agg #[.string (bs s.c), .slice A s.ps.length c]] (k u) fun e w' => e = .returned (.bool (validB isNm s)) ∧ ∃ u', w' = k u' := fun u => cls_call hku hki (fun W hb => SValid_any s hl0 hc0 (.slice A s.ps.length c) W (HP8.out.to hb)) u
        have D2 : ∀ u, Calls Tryz.prog 23 #[.agg #[.string (bs s.c), .slice A s.ps.length c]] (k u) fun e w' => e = .returned (.bool (validB isNm s)) ∧ ∃ u', w' = k u' := fun u => cls_call hku hki (fun W hb => rValid23_any s.c s.ps (Nat.le_trans b1 (by decide)) hc0 HB2.out (.slice A s.ps.length c) W (HP8.out.to hb)) u
        have D3 : ∀ u, Calls Tryz.prog 24 #[.agg #[.string (bs s.c), .slice A s.ps.length c], .agg #[.string (bs f0), .string (bs f1), .string (bs f2), .string (bs f3), .string (bs f4), .string (bs f5), .string (bs f6), .string (bs f7), .string (bs f8)]] (k u) fun e w' => e = .returned (.bool (fitsB isNm numB s [f0, f1, f2, f3, f4, f5, f6, f7, f8])) ∧ ∃ u', w' = k u' := fun u => cls_call hku hki (fun W hb => Fits_any s hl0 hc0 (.slice A s.ps.length c) f0 f1 f2 f3 f4 f5 f6 f7 f8 W (HP8.out.to hb) (HG8.out.to hb)) u
        have D4 : ∀ u, Calls Tryz.prog 25 #[.agg #[.string (bs s.c), .slice A s.ps.length c], .agg #[.string (bs f0), .string (bs f1), .string (bs f2), .string (bs f3), .string (bs f4), .string (bs f5), .string (bs f6), .string (bs f7), .string (bs f8)]] (k u) fun e w' => e = .returned (.bool (fitsB isNm numB s [f0, f1, f2, f3, f4, f5, f6, f7, f8])) ∧ ∃ u', w' = k u' := fun u => cls_call hku hki (fun W hb => rFits_any s.c s.ps (Nat.le_trans b1 (by decide)) hc0 HB2.out (.slice A s.ps.length c) f0 f1 f2 f3 f4 f5 f6 f7 f8 HF2.out W (HP8.out.to hb)) u
        have D5 : ∀ u, Calls Tryz.prog 26 #[.agg #[.string (bs X.c), .slice A8 X.ps.length c8], .agg #[.string (bs X.c), .slice A9 X.ps.length c9]] (k u) fun e w' => e = .returned (.bool true) ∧ ∃ u', w' = k u' := fun u => by
          have := cls_call hku hki (fun W hb => Same_any X X (Nat.le_trans HSM.out.1 (by decide)) (Nat.le_trans HSM.out.1 (by decide)) (.slice A8 X.ps.length c8) (.slice A9 X.ps.length c9) W (HX8.out.to hb) (HZ.out.to hb)) u
          rw [(sameB_iff X X).2 rfl] at this
          exact this
        generalize validB isNm s = vb at *
        generalize fitsB isNm numB s [f0, f1, f2, f3, f4, f5, f6, f7, f8] = fb at *
        have q1 : (vb == vb) = true := by simp
        have q2 : (fb == fb) = true := by simp
        have q3 : (tv.toList == tv.toList) = true := by simp
        have q4 : (te == te) = true := by simp
        have q5 : (E == E) = true := by simp
        have q6 : (ea == ea) = true := by simp
        refine wp_region_class k (by kernel_rfl) (by kernel_rfl) (hki _ (hku _).drew) ?_
        repeat (go_big_quiet_step (first | with_reducible exact D1 _ | with_reducible exact D2 _ | with_reducible exact D3 _ | with_reducible exact D4 _))
        refine wpQuiet_nil ?_
        intro w11 hw11
        obtain ⟨u, rfl⟩ := hw11
        go_wp2_with (first | ((with_reducible refine (D5 _).mono ?_); rintro e w' ⟨rfl, u, rfl⟩))
        all_goals go_ret
        all_goals exact ⟨rfl, below_to HB8.out (Nat.le_refl _) (hku _)⟩
end Go.Proofs.YtdcafoekbnacnaaGreatDoor
