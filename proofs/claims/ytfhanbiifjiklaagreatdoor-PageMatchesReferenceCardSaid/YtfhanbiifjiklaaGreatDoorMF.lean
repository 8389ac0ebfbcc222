/- Several texts as one, in build order. -/
import Derived.Test.YtfhanbiifjiklaaGreatDoorME
import Derived.Test.YtfhanbiifjiklaaGreatDoorMC
import Derived.Test.YtfhanbiifjiklaaGreatDoorMD
/- The reference's Parse: the walk. -/
set_option linter.unusedVariables false
set_option linter.unusedSimpArgs false
namespace Go.Proofs.YtfhanbiifjiklaaGreatDoor
open Go.RowKit Go.Shelf
attribute [local go_sem] Oper.semAt_some

structure Wk (T : List UInt8) (I : List (List UInt8)) (Q : List (List (List UInt8))) (a : Nat) (z : Bool) (k : Nat) : Prop where
  il : I.length = k
  ql : Q.length = k
  ka : z = false → k ≤ a
  k1 : k ≤ a + 1
  ix : ∀ x ∈ I, x.length ≤ T.length
  qx : ∀ q ∈ Q, q.length ≤ T.length ∧ ∀ y ∈ q, y.length ≤ 16
structure WkQ (T : List UInt8) (qa : List (List UInt8)) (a1 : Nat) (z1 : Bool) (a : Nat) (z : Bool) : Prop where
  ql : qa.length + a1 ≤ a
  zz : z = false → z1 = false
  qx : ∀ y ∈ qa, y.length ≤ 16
theorem pg_fit {T : List UInt8} (hT : T.length ≤ 100000) {n1 n2 : Nat} (h1 : n1 < 1000000000000000000) (h2 : n2 < 1000000000000000000) {R : List UInt8} (hR : R.length ≤ 16) {I : List (List UInt8)} {Q : List (List (List UInt8))} {a k : Nat} {z : Bool} (h : Wk T I Q a z k) (hl : I.length ≤ 50) : Pg.fit ⟨n1, n2, R, I, Q⟩ :=
  ⟨by show I.length ≤ 1000; omega, fun x hx => by have := h.ix x hx; omega, by show Q.length ≤ 1000; have := h.il; have := h.ql; omega, fun q hq => by have := (h.qx q hq).1; omega, fun q hq x hx => by have := (h.qx q hq).2 x hx; omega, by show R.length ≤ _; omega, by show _ ≤ (n1 : Int) ∧ (n1 : Int) ≤ _; omega, by show _ ≤ (n2 : Int) ∧ (n2 : Int) ≤ _; omega⟩
set_option maxRecDepth 100000 in
set_option maxHeartbeats 8000000 in
theorem rParse_any (T : List UInt8) (hT : T.length ≤ 100000) (w : World) : Calls Tryz.prog 19 #[.string (bs T)] w (ParseR T w) := by
  have HB2 := hide (((Below.refl w.heap.size w).alloc (Nat.le_refl _) (.cells #[.int .i64 0, .int .i64 0, .string ⟨#[]⟩, .slice none 0 0, .slice none 0 0] 25)).alloc (by simp) (.cells #[.string (bs T), .int .i64 0, .bool false] 89))
  have HR2 : Hid (Blk ((w.alloc (.cells #[.int .i64 0, .int .i64 0, .string ⟨#[]⟩, .slice none 0 0, .slice none 0 0] 25)).alloc (.cells #[.string (bs T), .int .i64 0, .bool false] 89)) w.heap.size 25 noCs) := (Blk.new w 25 noCs).alloc _
  have HD2 : Hid (RdAt (w.heap.size + 1) T 0 false ((w.alloc (.cells #[.int .i64 0, .int .i64 0, .string ⟨#[]⟩, .slice none 0 0, .slice none 0 0] 25)).alloc (.cells #[.string (bs T), .int .i64 0, .bool false] 89))) := ⟨by have := Blk.new (w.alloc (.cells #[.int .i64 0, .int .i64 0, .string ⟨#[]⟩, .slice none 0 0, .slice none 0 0] 25)) 89 #[.string (bs T), .int .i64 0, .bool false]; rw [World.size_alloc] at this; exact this, Nat.zero_le _⟩
  go_enter Tryz.func19, Tryz.ntmps19
  go_wp2_with fail
  generalize ((w.alloc (.cells #[.int .i64 0, .int .i64 0, .string ⟨#[]⟩, .slice none 0 0, .slice none 0 0] 25)).alloc (.cells #[.string (bs T), .int .i64 0, .bool false] 89)) = w2 at *
  obtain ⟨S1, a1, z1, e1⟩ : ∃ S a' z', S = byS T 5 0 ∧ a' = byA T 5 0 ∧ z' = byZ T 5 0 false := ⟨_, _, _, rfl, rfl, rfl⟩
  have C1 : Calls Tryz.prog 63 #[.pointer (some ⟨w.heap.size + 1, 0, none⟩), Value.int IntKind.i64 5] w2 fun e w' => e = .returned (.string (bs S1)) ∧ RdAt (w.heap.size + 1) T a1 z1 w' ∧ Two (w.heap.size + 1) (w.heap.size + 1) w2 w' := by
    rw [e1.1, e1.2.1, e1.2.2]; exact rdBytes_any (w.heap.size + 1) T (by omega) 0 false 5 (by omega) w2 HD2.out
  have hs1 : S1.length ≤ T.length := by rw [e1.1]; exact (byS_len T 5 0).2

  have hg1 : 0 ≤ a1 := by rw [e1.2.1]; exact byA_ge T 5 0
  have E1 := hide e1
  clear e1
  with_reducible refine C1.mono ?_
  rintro e w3 ⟨rfl, hr, ht⟩
  have HB3 : Hid (Below w.heap.size w w3) := HB2.out.trans (ht.below HB2.out.size (by omega) (by omega))
  have HR3 : Hid (Blk w3 w.heap.size 25 noCs) := ht.blk HR2.out (by omega) (by omega)
  have HD3 := hide hr
  clear hr ht C1 HB2 HR2 HD2
  by_cases hS1 : S1 = [112, 97, 103, 101, 32]
  · have q5 : ((bs S1).toList == [112, 97, 103, 101, 32]) = true := by rw [beq_iff_eq, bs_toList]; exact hS1
    clear hS1
    go_wp2_with fail
    have hrb3 := HD3.out.blk.lt
    obtain ⟨bp, hbp⟩ : ∃ bp, w3.heap.size = bp := ⟨_, rfl⟩
    have H4 : Hid (PI w (w.heap.size + 1) bp T 0 0 [] [] [] (.slice none 0 0) (.slice none 0 0) [] a1 z1 (w3.alloc (.cells #[.int .i64 0, .int .i64 0, .string ⟨#[]⟩, .slice none 0 0, .slice none 0 0] 25))) := ⟨below_alloc HB3.out (Nat.le_refl _) _, HR3.out.alloc _, HD3.out.to (below_one _ _), ⟨by rw [← hbp]; exact Blk.new _ _ _, World.ownsRow_nil _ _ _ _, World.ownsRow_nil _ _ _ _, fun j q h => by simp at h⟩, by omega⟩
    rw [hbp]
    clear hbp hrb3 HB3 HR3 HD3
    generalize w3.alloc (.cells #[.int .i64 0, .int .i64 0, .string ⟨#[]⟩, .slice none 0 0, .slice none 0 0] 25) = w4 at *
    obtain ⟨n2, a2, z2, e2⟩ : ∃ n a' z', n = nuV T a1 ∧ a' = a1 + dgN T a1 ∧ z' = nuZ T a1 z1 := ⟨_, _, _, rfl, rfl, rfl⟩
    have C2 : Calls Tryz.prog 64 #[.pointer (some ⟨w.heap.size + 1, 0, none⟩)] w4 fun e w' => e = .returned (.int .i64 (n2 : Int)) ∧ RdAt (w.heap.size + 1) T a2 z2 w' ∧ Two (w.heap.size + 1) (w.heap.size + 1) w4 w' := by
      rw [e2.1, e2.2.1, e2.2.2]; exact rdNumber_any (w.heap.size + 1) T (by omega) a1 z1 w4 H4.out.rd
    have hn2 : n2 < 1000000000000000000 := by rw [e2.1]; exact nuV_lt T a1
    have hg2 : a1 ≤ a2 := by rw [e2.2.1]; omega
    have E2 := hide e2
    clear e2
    with_reducible refine C2.mono ?_
    rintro e w4c ⟨rfl, hr, ht⟩
    have H4c := hide (H4.out.step ht hr)
    have x := (H4c.out.pg.p.cell 0).trans (show _ = some (Value.int .i64 0) from rfl)
    have xf := H4c.out.pg.p.frozen 0
    clear hr ht C2 H4
    go_wp2_with fail
    have H5 := hide (H4c.out.set_ 0 (.int .i64 (n2 : Int)) rfl)
    clear x xf H4c
    generalize w4c.setCell ⟨bp, 0, none⟩ (.int .i64 (n2 : Int)) = w5 at *
    obtain ⟨a3, z3, e3⟩ : ∃ a' z', a' = tkA T 32 a2 ∧ z' = tkZ T 32 a2 z2 := ⟨_, _, rfl, rfl⟩
    have C3 : Calls Tryz.prog 65 #[.pointer (some ⟨w.heap.size + 1, 0, none⟩), Value.int IntKind.u8 32] w5 fun e w' => e = .returned (.tuple #[]) ∧ RdAt (w.heap.size + 1) T a3 z3 w' ∧ Two (w.heap.size + 1) (w.heap.size + 1) w5 w' := by
      rw [e3.1, e3.2]; exact rdTake_any (w.heap.size + 1) T (by omega) a2 z2 32 (by decide) w5 H5.out.rd
    have hg3 : a2 ≤ a3 := by rw [e3.1]; exact (tkA_le (H5.out.rd).le).1
    have E3 := hide e3
    clear e3
    with_reducible refine C3.mono ?_
    rintro e w6 ⟨rfl, hr, ht⟩
    have H6 := hide (H5.out.step ht hr)
    clear hr ht C3 H5
    go_wp2_with fail
    obtain ⟨n4, a4, z4, e4⟩ : ∃ n a' z', n = nuV T a3 ∧ a' = a3 + dgN T a3 ∧ z' = nuZ T a3 z3 := ⟨_, _, _, rfl, rfl, rfl⟩
    have C4 : Calls Tryz.prog 64 #[.pointer (some ⟨w.heap.size + 1, 0, none⟩)] w6 fun e w' => e = .returned (.int .i64 (n4 : Int)) ∧ RdAt (w.heap.size + 1) T a4 z4 w' ∧ Two (w.heap.size + 1) (w.heap.size + 1) w6 w' := by
      rw [e4.1, e4.2.1, e4.2.2]; exact rdNumber_any (w.heap.size + 1) T (by omega) a3 z3 w6 H6.out.rd
    have hn4 : n4 < 1000000000000000000 := by rw [e4.1]; exact nuV_lt T a3
    have hg4 : a3 ≤ a4 := by rw [e4.2.1]; omega
    have E4 := hide e4
    clear e4
    with_reducible refine C4.mono ?_
    rintro e w6c ⟨rfl, hr, ht⟩
    have H6c := hide (H6.out.step ht hr)
    have x := (H6c.out.pg.p.cell 1).trans (show _ = some (Value.int .i64 0) from rfl)
    have xf := H6c.out.pg.p.frozen 1
    clear hr ht C4 H6
    go_wp2_with fail
    have H7 := hide (H6c.out.set_ 1 (.int .i64 (n4 : Int)) rfl)
    clear x xf H6c
    generalize w6c.setCell ⟨bp, 1, none⟩ (.int .i64 (n4 : Int)) = w7 at *
    obtain ⟨a5, z5, e5⟩ : ∃ a' z', a' = tkA T 32 a4 ∧ z' = tkZ T 32 a4 z4 := ⟨_, _, rfl, rfl⟩
    have C5 : Calls Tryz.prog 65 #[.pointer (some ⟨w.heap.size + 1, 0, none⟩), Value.int IntKind.u8 32] w7 fun e w' => e = .returned (.tuple #[]) ∧ RdAt (w.heap.size + 1) T a5 z5 w' ∧ Two (w.heap.size + 1) (w.heap.size + 1) w7 w' := by
      rw [e5.1, e5.2]; exact rdTake_any (w.heap.size + 1) T (by omega) a4 z4 32 (by decide) w7 H7.out.rd
    have hg5 : a4 ≤ a5 := by rw [e5.1]; exact (tkA_le (H7.out.rd).le).1
    have E5 := hide e5
    clear e5
    with_reducible refine C5.mono ?_
    rintro e w8 ⟨rfl, hr, ht⟩
    have H8 := hide (H7.out.step ht hr)
    clear hr ht C5 H7
    go_wp2_with fail
    obtain ⟨R, a6, z6, e6⟩ : ∃ S a' z', S = byS T 16 a5 ∧ a' = byA T 16 a5 ∧ z' = byZ T 16 a5 z5 := ⟨_, _, _, rfl, rfl, rfl⟩
    have C6 : Calls Tryz.prog 63 #[.pointer (some ⟨w.heap.size + 1, 0, none⟩), Value.int IntKind.i64 16] w8 fun e w' => e = .returned (.string (bs R)) ∧ RdAt (w.heap.size + 1) T a6 z6 w' ∧ Two (w.heap.size + 1) (w.heap.size + 1) w8 w' := by
      rw [e6.1, e6.2.1, e6.2.2]; exact rdBytes_any (w.heap.size + 1) T (by omega) a5 z5 16 (by omega) w8 H8.out.rd
    have hs6 : R.length ≤ T.length := by rw [e6.1]; exact (byS_len T 16 a5).2
    have hs166 : R.length ≤ 16 := by rw [e6.1]; exact (byS_len T 16 a5).1
    have hg6 : a5 ≤ a6 := by rw [e6.2.1]; exact byA_ge T 16 a5
    have E6 := hide e6
    clear e6
    with_reducible refine C6.mono ?_
    rintro e w8c ⟨rfl, hr, ht⟩
    have H8c := hide (H8.out.step ht hr)
    have x := (H8c.out.pg.p.cell 2).trans (show _ = some (Value.string ⟨#[]⟩) from rfl)
    have xf := H8c.out.pg.p.frozen 2
    clear hr ht C6 H8
    go_wp2_with fail
    have H9 := hide (H8c.out.set_ 2 (.string (bs R)) rfl)
    clear x xf H8c
    generalize w8c.setCell ⟨bp, 2, none⟩ (.string (bs R)) = w9 at *
    obtain ⟨a7, z7, e7⟩ : ∃ a' z', a' = tkA T 32 a6 ∧ z' = tkZ T 32 a6 z6 := ⟨_, _, rfl, rfl⟩
    have C7 : Calls Tryz.prog 65 #[.pointer (some ⟨w.heap.size + 1, 0, none⟩), Value.int IntKind.u8 32] w9 fun e w' => e = .returned (.tuple #[]) ∧ RdAt (w.heap.size + 1) T a7 z7 w' ∧ Two (w.heap.size + 1) (w.heap.size + 1) w9 w' := by
      rw [e7.1, e7.2]; exact rdTake_any (w.heap.size + 1) T (by omega) a6 z6 32 (by decide) w9 H9.out.rd
    have hg7 : a6 ≤ a7 := by rw [e7.1]; exact (tkA_le (H9.out.rd).le).1
    have E7 := hide e7
    clear e7
    with_reducible refine C7.mono ?_
    rintro e w10 ⟨rfl, hr, ht⟩
    have H10 := hide (H9.out.step ht hr)
    clear hr ht C7 H9
    go_wp2_with fail
    obtain ⟨n8, a8, z8, e8⟩ : ∃ n a' z', n = nuV T a7 ∧ a' = a7 + dgN T a7 ∧ z' = nuZ T a7 z7 := ⟨_, _, _, rfl, rfl, rfl⟩
    have C8 : Calls Tryz.prog 64 #[.pointer (some ⟨w.heap.size + 1, 0, none⟩)] w10 fun e w' => e = .returned (.int .i64 (n8 : Int)) ∧ RdAt (w.heap.size + 1) T a8 z8 w' ∧ Two (w.heap.size + 1) (w.heap.size + 1) w10 w' := by
      rw [e8.1, e8.2.1, e8.2.2]; exact rdNumber_any (w.heap.size + 1) T (by omega) a7 z7 w10 H10.out.rd
    have hn8 : n8 < 1000000000000000000 := by rw [e8.1]; exact nuV_lt T a7
    have hg8 : a7 ≤ a8 := by rw [e8.2.1]; omega
    have E8 := hide e8
    clear e8
    with_reducible refine C8.mono ?_
    rintro e w11 ⟨rfl, hr, ht⟩
    have H11 := hide (H10.out.step ht hr)
    clear hr ht C8 H10
    go_wp2_with fail
    obtain ⟨a9, z9, e9⟩ : ∃ a' z', a' = tkA T 10 a8 ∧ z' = tkZ T 10 a8 z8 := ⟨_, _, rfl, rfl⟩
    have C9 : Calls Tryz.prog 65 #[.pointer (some ⟨w.heap.size + 1, 0, none⟩), Value.int IntKind.u8 10] w11 fun e w' => e = .returned (.tuple #[]) ∧ RdAt (w.heap.size + 1) T a9 z9 w' ∧ Two (w.heap.size + 1) (w.heap.size + 1) w11 w' := by
      rw [e9.1, e9.2]; exact rdTake_any (w.heap.size + 1) T (by omega) a8 z8 10 (by decide) w11 H11.out.rd
    have hg9 : a8 ≤ a9 := by rw [e9.1]; exact (tkA_le (H11.out.rd).le).1
    have E9 := hide e9
    clear e9
    with_reducible refine C9.mono ?_
    rintro e w12 ⟨rfl, hr, ht⟩
    have H12 := hide (H11.out.step ht hr)
    clear hr ht C9 H11
    go_wp2_with fail
    have HST := hide (head_str E1.out E2.out E3.out E4.out E5.out E6.out E7.out E8.out E9.out).1
    clear E1 E2 E3 E4 E5 E6 E7 E8 E9
    go_loopw [7] (fun i wr => ∃ (k a : Nat) (z : Bool) (I : List (List UInt8)) (Q : List (List (List UInt8))) (vi vp : Value) (pvs : List Value), i = .int .i64 (k : Int) ∧ Aside (PI w (w.heap.size + 1) bp T (n2 : Int) (n4 : Int) R I Q vi vp pvs a z wr) ∧ Aside (Str T (n2 : Int) (n4 : Int) R n8 I Q a z k) ∧ Aside (Wk T I Q a z k)) (fun i _ => n8 - (intOf i).toNat)
    case atStart => exact ⟨0, a9, z9, [], [], _, _, [], rfl, H12.out, HST.out, ⟨rfl, rfl, fun _ => Nat.zero_le _, Nat.zero_le _, (fun x hx => by cases hx), (fun x hx => by cases hx)⟩⟩
    case round =>
      clear HST H12
      obtain ⟨k, pa, z, I, Q, vi, vp, pvs, rfl, hPI, hS, hW⟩ := hrel
      have HI : Hid (PI w (w.heap.size + 1) bp T (n2 : Int) (n4 : Int) R I Q vi vp pvs pa z wr) := hPI
      have HS : Hid (Str T (n2 : Int) (n4 : Int) R n8 I Q pa z k) := hS
      have HW : Hid (Wk T I Q pa z k) := hW
      clear hPI hS hW
      have zc := (HI.out.rd.blk.cell 2).trans (show _ = some (Value.bool z) from rfl)
      by_cases hkN : k < n8
      · have t1 : decide ((k : Int) < (n8 : Int)) = true := decide_eq_true (by omega)
        have t1' : decide (k < n8) = true := decide_eq_true hkN
        cases z with
        | true =>
          obtain ⟨Ai, ci, hvi⟩ := own_sl4 HI.out.pg.oi
          obtain ⟨Ap, cp, hvp⟩ := own_sl4 HI.out.pg.op
          subst hvi hvp
          have CT := rText_any2 ⟨(n2 : Int), (n4 : Int), R, I, Q⟩ (by show R.length ≤ _; omega) (pg_fit hT hn2 hn4 hs166 HW.out) (.slice Ai I.length ci) (.slice Ap Q.length cp) wr (TextsAt.of_own HI.out.pg.oi) HI.out.pg.paths
          have x0 := (HI.out.pg.p.cell 0).trans (show _ = some (Value.int .i64 (n2 : Int)) from rfl)
          have x1 := (HI.out.pg.p.cell 1).trans (show _ = some (Value.int .i64 (n4 : Int)) from rfl)
          have x2 := (HI.out.pg.p.cell 2).trans (show _ = some (Value.string (bs R)) from rfl)
          have x3 := (HI.out.pg.p.cell 3).trans (show _ = some (Value.slice Ai I.length ci) from rfl)
          have x4 := (HI.out.pg.p.cell 4).trans (show _ = some (Value.slice Ap Q.length cp) from rfl)
          unfold Pg.cs at CT
          obtain ⟨OW, hOW⟩ : ∃ o, textV ⟨(n2 : Int), (n4 : Int), R, I, Q⟩ = o := ⟨_, rfl⟩
          obtain ⟨TE, hTE⟩ : ∃ o, textE ⟨(n2 : Int), (n4 : Int), R, I, Q⟩ = o := ⟨_, rfl⟩
          have HOW := hide hOW
          have HTE := hide hTE
          rw [hOW, hTE] at CT
          clear hOW hTE
          go_wp2_with fail
          with_reducible refine CT.mono ?_
          rintro e w20 ⟨rfl, hb⟩
          have H20 := hide (HI.out.to hb)
          clear hb CT x0 x1 x2 x3 x4
          have zc := (H20.out.rd.blk.cell 2).trans (show _ = some (Value.bool true) from rfl)
          cases hp : parseP T with
          | none =>
            have HNP := hide hp
            clear hp
            have y0 := (H20.out.res.cell 0).trans (show _ = some (Value.int .i64 0) from rfl)
            have y1 := (H20.out.res.cell 1).trans (show _ = some (Value.int .i64 0) from rfl)
            have y2 := (H20.out.res.cell 2).trans (show _ = some (Value.string ⟨#[]⟩) from rfl)
            have y3 := (H20.out.res.cell 3).trans (show _ = some (Value.slice none 0 0) from rfl)
            have y4 := (H20.out.res.cell 4).trans (show _ = some (Value.slice none 0 0) from rfl)
            have f0 := H20.out.res.frozen 0
            have f1 := H20.out.res.frozen 1
            have f2 := H20.out.res.frozen 2
            have f3 := H20.out.res.frozen 3
            have f4 := H20.out.res.frozen 4
            go_wp2_with fail
            exact fin_no HNP.out w _ H20.out.bel H20.out.res _ rfl rfl
          | some p =>
            exact absurd (HS.out p (text_of_parse hp).1 (text_of_parse hp).2).1 (by simp)
        | false =>
          go_wp2_with fail
          have HRa : Hid (pa ≤ T.length) := HI.out.rd.le
          obtain ⟨X, a10, z10, e10⟩ : ∃ n a' z', n = nuV T pa ∧ a' = pa + dgN T pa ∧ z' = nuZ T pa false := ⟨_, _, _, rfl, rfl, rfl⟩
          have C10 : Calls Tryz.prog 64 #[.pointer (some ⟨w.heap.size + 1, 0, none⟩)] wr fun e w' => e = .returned (.int .i64 (X : Int)) ∧ RdAt (w.heap.size + 1) T a10 z10 w' ∧ Two (w.heap.size + 1) (w.heap.size + 1) wr w' := by
            rw [e10.1, e10.2.1, e10.2.2]; exact rdNumber_any (w.heap.size + 1) T (by omega) pa false wr HI.out.rd
          have hn10 : X < 1000000000000000000 := by rw [e10.1]; exact nuV_lt T pa
          have hg10 : pa ≤ a10 := by rw [e10.2.1]; omega
          have E10 := hide e10
          clear e10
          with_reducible refine C10.mono ?_
          rintro e wk ⟨rfl, hr, ht⟩
          have H10 := hide (HI.out.step ht hr)
          have HVL : Hid (∀ g, (vi.ownBlock = some g ∨ vp.ownBlock = some g) → g < wk.heap.size) := fun g e => by
            rcases e with e | e
            · exact (World.ownsRow.lt H10.out.pg.oi g e).2
            · exact (World.ownsRow.lt H10.out.pg.op g e).2
          have HWKR : Hid (bp < wk.heap.size ∧ w.heap.size + 1 < bp) := ⟨H10.out.pg.p.lt, H10.out.ord.2⟩
          clear hr ht C10 zc HI
          go_wp2_with fail
          go_loopw [9] (fun v9 wr2 => ∃ (qa : List (List UInt8)) (a2 : Nat) (z2 : Bool), Aside (Two (w.heap.size + 1) (w.heap.size + 1) wk wr2) ∧ Aside (RdAt (w.heap.size + 1) T a2 z2 wr2) ∧ Aside (OwnT wr2 wk.heap.size v9 qa) ∧ Aside (StrQ T X qa a2 z2 k) ∧ Aside (WkQ T qa a10 z10 a2 z2)) (fun _ wr2 => T.length - rdPos (w.heap.size + 1) wr2)
          case atStart => exact ⟨[], a10, z10, Two.refl _ _ _, H10.out.rd, World.ownsRow_nil _ _ _ _, str_number HS.out E10.out, ⟨by simp, fun h => h, fun y hy => by cases hy⟩⟩
          case round =>
            obtain ⟨qa, a9, z9, hT9, hR9, hO9, hS9, hW9⟩ := hrel
            have HT9 : Hid (Two (w.heap.size + 1) (w.heap.size + 1) wk wr) := hT9
            have HR9 : Hid (RdAt (w.heap.size + 1) T a9 z9 wr) := hR9
            have HO9 : Hid (OwnT wr wk.heap.size _ qa) := hO9
            have HSQ : Hid (StrQ T X qa a9 z9 k) := hS9
            have HWQ : Hid (WkQ T qa a10 z10 a9 z9) := hW9
            clear hT9 hR9 hO9 hS9 hW9
            have HPOS := hide HR9.out.pos
            obtain ⟨hh, ehh⟩ : ∃ h, hitB T 32 a9 = h := ⟨_, rfl⟩
            have HHH := hide ehh
            have CS : Calls Tryz.prog 66 #[.pointer (some ⟨w.heap.size + 1, 0, none⟩), Value.int IntKind.u8 32] wr fun e w' => e = .returned (.bool hh) ∧ Below wr.heap.size wr w' := by
              rw [← ehh]; exact rdSees_any (w.heap.size + 1) T (by omega) a9 z9 32 (by decide) wr HR9.out
            clear ehh
            go_wp2_with fail
            with_reducible refine CS.mono ?_
            rintro e w12 ⟨rfl, hb⟩
            have HT12 := hide (HT9.out.to hb)
            have HD12 := hide (HR9.out.to hb)
            have HO12 := hide (own_to4 HO9.out hb)
            clear hb CS HT9 HR9 HO9
            cases hh with
            | false =>
              go_wp2_with fail
              obtain ⟨a13, z13, e13⟩ : ∃ a' z', a' = tkA T 10 a9 ∧ z' = tkZ T 10 a9 z9 := ⟨_, _, rfl, rfl⟩
              have C13 : Calls Tryz.prog 65 #[.pointer (some ⟨w.heap.size + 1, 0, none⟩), Value.int IntKind.u8 10] w12 fun e w' => e = .returned (.tuple #[]) ∧ RdAt (w.heap.size + 1) T a13 z13 w' ∧ Two (w.heap.size + 1) (w.heap.size + 1) w12 w' := by
                rw [e13.1, e13.2]; exact rdTake_any (w.heap.size + 1) T (by omega) a9 z9 10 (by decide) w12 HD12.out
              have hg13 : a9 ≤ a13 := by rw [e13.1]; exact (tkA_le (HD12.out).le).1
              have E13 := hide e13
              clear e13
              have HRL : Hid (a9 ≤ T.length) := HD12.out.le
              have HP12 := hide (H10.out.step HT12.out HD12.out)
              with_reducible refine C13.mono ?_
              rintro e w14 ⟨rfl, hr, ht⟩
              have HP14 := hide (HP12.out.step ht hr)
              have HO9 : Hid (OwnT w14 wk.heap.size u9 qa) := ownsRow_two HO12.out ht (fun e => by have := (own_blk_lt HO12.out _ e).1; have := HWKR.out; omega) (fun e => by have := (own_blk_lt HO12.out _ e).1; have := HWKR.out; omega)
              have hk14 : k ≤ pa + 1 := HW.out.k1
              have hkT : k ≤ 200000 := by have := HRa.out; omega
              have HO14 : Hid (World.ownsRow w14 (bp + 1) 9 1 vi k (flatS I)) := by
                have := HP14.out.pg.oi
                rwa [HW.out.il] at this
              have hlt : ∀ g, vi.ownBlock = some g → bp + 1 ≤ g ∧ g < w14.heap.size := World.ownsRow.lt HO14.out
              have hbW : bp < w14.heap.size := HP14.out.pg.p.lt
              have hrbp : w.heap.size + 1 < bp := HP14.out.ord.2
              have hwkb := HWKR.out
              have hwk14 : wk.heap.size ≤ w14.heap.size := Nat.le_trans HT12.out.size ht.size
              clear hr ht C13 HP12 HO12 HD12
              obtain ⟨xs, a15, z15, e15⟩ : ∃ S a' z', S = byS T X a13 ∧ a' = byA T X a13 ∧ z' = byZ T X a13 z13 := ⟨_, _, _, rfl, rfl, rfl⟩
              have HBY : Hid (∀ W, RdAt (w.heap.size + 1) T a13 z13 W → Calls Tryz.prog 63 #[.pointer (some ⟨w.heap.size + 1, 0, none⟩), Value.int IntKind.i64 (X : Int)] W fun e w' => e = .returned (.string (bs xs)) ∧ RdAt (w.heap.size + 1) T a15 z15 w' ∧ Two (w.heap.size + 1) (w.heap.size + 1) W w') := fun W h => by
                rw [e15.1, e15.2.1, e15.2.2]; exact rdBytes_any (w.heap.size + 1) T (by omega) a13 z13 X (by omega) W h
              have hs15 : xs.length ≤ T.length := by rw [e15.1]; exact (byS_len T X a13).2
              have hg15 : a13 ≤ a15 := by rw [e15.2.1]; exact byA_ge T X a13
              have E15 := hide e15
              clear e15
              go_wp2_with fail
              apply wp_region_lo3 (C := fun W => Thr bp (rowOr vi bp) (w.heap.size + 1) w14 W) (V := [some _, some _, some _, some _, none, none, none, some _, none]) (Fs := [(4, fun a W => a.tmps[75]? = some (.string (bs xs)) ∧ RdAt (w.heap.size + 1) T a15 z15 W), (5, fun a W => ∃ g, a.tmps[76]? = some (.slice (some ⟨g, 0, none⟩) 1 1) ∧ Blk W g 9 #[.string (bs xs)] ∧ w14.heap.size ≤ g), (6, fun a W => ∃ v2, a.tmps[77]? = some v2 ∧ World.ownsRow W (bp + 1) 9 1 v2 (k + 1) (flatS I ++ [.string (bs xs)]) ∧ (v2.ownBlock = vi.ownBlock ∨ ∃ g, v2.ownBlock = some g ∧ w14.heap.size ≤ g)), (8, fun a W => ∃ v2, a.tmps[77]? = some v2 ∧ Blk W bp 25 #[.int .i64 (n2 : Int), .int .i64 (n4 : Int), .string (bs R), v2, vp])]) (Ns := [(1, fun (_ : Act) W => Blk W bp 25 #[.int .i64 (n2 : Int), .int .i64 (n4 : Int), .string (bs R), vi, vp]), (4, fun (_ : Act) W => RdAt (w.heap.size + 1) T a13 z13 W), (6, fun (_ : Act) W => World.ownsRow W (bp + 1) 9 1 vi k (flatS I) ∧ w14.heap.size ≤ W.heap.size), (8, fun (_ : Act) W => Blk W bp 25 #[.int .i64 (n2 : Int), .int .i64 (n4 : Int), .string (bs R), vi, vp])]) (Rel := fun i a0_ a1_ x x' => if i = 4 then (fun b0 b1 x x' => Two (w.heap.size + 1) (w.heap.size + 1) x x') a0_ a1_ x x' else if i = 6 then (fun b0 b1 x x' => World.grownBy x x' vi.ownBlock) a0_ a1_ x x' else if i = 8 then (fun b0 b1 x x' => ∃ u, x' = World.setCell x ⟨bp, 3, none⟩ u) a0_ a1_ x x' else Below x.heap.size x x')
              case hm => kernel_rfl
              case hB => kernel_rfl
              case hCw => exact ((Thr.refl bp (rowOr vi bp) (w.heap.size + 1) w14).trans (Thr.of (below_drewN (Below.refl _ _) 1)))
              case hC =>
                intro i a a' w_ w' hw hr
                by_cases e4 : i = 4
                · subst e4
                  have hr' : (fun b0 b1 x x' => Two (w.heap.size + 1) (w.heap.size + 1) x x') a a' w_ w' := hr
                  exact hw.trans (Thr.of3 hr')
                by_cases e6 : i = 6
                · subst e6
                  have hr' : (fun b0 b1 x x' => World.grownBy x x' vi.ownBlock) a a' w_ w' := hr
                  exact hw.trans (Thr.of12 (Two.grown hr'))
                by_cases e8 : i = 8
                · subst e8
                  have hr' : (fun b0 b1 x x' => ∃ u, x' = World.setCell x ⟨bp, 3, none⟩ u) a a' w_ w' := hr
                  obtain ⟨u, rfl⟩ := hr'
                  exact hw.trans (Thr.of12 ((Two.refl _ _ _).set1 3 u))
                have hr' : Below w_.heap.size w_ w' := by simpa [e4, e6, e8] using hr
                exact hw.trans (Thr.of hr')
              case hst =>
                refine keeps3_cons (fun i a a' w_ w' hne hwt hs hput hr h => by
                  by_cases e4 : i = 4
                  · exact absurd e4 hne
                  by_cases e6 : i = 6
                  · subst e6
                    have hr' : (fun b0 b1 x x' => World.grownBy x x' vi.ownBlock) a a' w_ w' := hr
                    exact ⟨(hs 75 (by kernel_rfl)).trans h.1, (hr'.block _ h.2.blk.lt (fun e => by have := (hlt _ e.symm).1; omega)).trans h.2.blk, h.2.le⟩
                  by_cases e8 : i = 8
                  · subst e8
                    have hr' : (fun b0 b1 x x' => ∃ u, x' = World.setCell x ⟨bp, 3, none⟩ u) a a' w_ w' := hr
                    obtain ⟨u, rfl⟩ := hr'
                    exact ⟨(hs 75 (by kernel_rfl)).trans h.1, h.2.blk.far (p := ⟨bp, 3, none⟩) (by show w.heap.size + 1 ≠ bp; omega) u, h.2.le⟩
                  have hr' : Below w_.heap.size w_ w' := by simpa [e4, e6, e8] using hr
                  exact ⟨(hs 75 (by kernel_rfl)).trans h.1, h.2.to hr'⟩) ?_
                refine keeps3_cons (fun i a a' w_ w' hne hwt hs hput hr h => by
                  by_cases e4 : i = 4
                  · subst e4
                    exact absurd (hwt.symm.trans (show Region.waitsFor .any _ 5 4 = true by kernel_rfl)) (by decide)
                  by_cases e6 : i = 6
                  · subst e6
                    have hr' : (fun b0 b1 x x' => World.grownBy x x' vi.ownBlock) a a' w_ w' := hr
                    obtain ⟨g, h1, h2, h3⟩ := h
                    exact ⟨g, (hs 76 (by kernel_rfl)).trans h1, (hr'.block g h2.lt (fun e => by have := (hlt g e.symm).2; omega)).trans h2, h3⟩
                  by_cases e8 : i = 8
                  · subst e8
                    have hr' : (fun b0 b1 x x' => ∃ u, x' = World.setCell x ⟨bp, 3, none⟩ u) a a' w_ w' := hr
                    obtain ⟨g, h1, h2, h3⟩ := h
                    obtain ⟨u, rfl⟩ := hr'
                    exact ⟨g, (hs 76 (by kernel_rfl)).trans h1, h2.far (p := ⟨bp, 3, none⟩) (by show g ≠ bp; omega) u, h3⟩
                  have hr' : Below w_.heap.size w_ w' := by simpa [e4, e6, e8] using hr
                  obtain ⟨g, h1, h2, h3⟩ := h
                  exact ⟨g, (hs 76 (by kernel_rfl)).trans h1, h2.to hr', h3⟩) ?_
                refine keeps3_cons (fun i a a' w_ w' hne hwt hs hput hr h => by
                  by_cases e4 : i = 4
                  · subst e4
                    exact absurd (hwt.symm.trans (show Region.waitsFor .any _ 6 4 = true by kernel_rfl)) (by decide)
                  by_cases e6 : i = 6
                  · exact absurd e6 hne
                  by_cases e8 : i = 8
                  · subst e8
                    have hr' : (fun b0 b1 x x' => ∃ u, x' = World.setCell x ⟨bp, 3, none⟩ u) a a' w_ w' := hr
                    obtain ⟨g, h1, h2, h3⟩ := h
                    obtain ⟨u, rfl⟩ := hr'
                    exact ⟨g, (hs 77 (by kernel_rfl)).trans h1, ownsRow_set h2 (fun e => by have := (World.ownsRow.lt h2 _ e).1; omega), h3⟩
                  have hr' : Below w_.heap.size w_ w' := by simpa [e4, e6, e8] using hr
                  obtain ⟨g, h1, h2, h3⟩ := h
                  exact ⟨g, (hs 77 (by kernel_rfl)).trans h1, ownsRow_to h2 hr', h3⟩) ?_
                refine keeps3_cons (fun i a a' w_ w' hne hwt hs hput hr h => by
                  by_cases e4 : i = 4
                  · subst e4
                    exact absurd (hwt.symm.trans (show Region.waitsFor .any _ 8 4 = true by kernel_rfl)) (by decide)
                  by_cases e6 : i = 6
                  · subst e6
                    exact absurd (hwt.symm.trans (show Region.waitsFor .any _ 8 6 = true by kernel_rfl)) (by decide)
                  by_cases e8 : i = 8
                  · exact absurd e8 hne
                  have hr' : Below w_.heap.size w_ w' := by simpa [e4, e6, e8] using hr
                  obtain ⟨g, h1, h2⟩ := h
                  exact ⟨g, (hs 77 (by kernel_rfl)).trans h1, h2.to hr'⟩) ?_
                exact keeps3_nil
              case hN0 => exact pre0_cons (HP14.out.pg.p) (pre0_cons (⟨HP14.out.rd.blk, HP14.out.rd.le⟩) (pre0_cons (⟨HO14.out, Nat.le_refl _⟩) (pre0_cons (HP14.out.pg.p) (pre0_nil))))
              case hNst =>
                refine prek_cons3 (fun i a a' w_ w' hne hwt hr h hput => by
                  by_cases e4 : i = 4
                  · subst e4
                    have hr' : (fun b0 b1 x x' => Two (w.heap.size + 1) (w.heap.size + 1) x x') a a' w_ w' := hr
                    exact hr'.blk h (by omega) (by omega)
                  by_cases e6 : i = 6
                  · subst e6
                    exact absurd (hwt.symm.trans (show waitsT .any _ _ 6 1 = true by kernel_rfl)) (by decide)
                  by_cases e8 : i = 8
                  · subst e8
                    exact absurd (hwt.symm.trans (show waitsT .any _ _ 8 1 = true by kernel_rfl)) (by decide)
                  have hr' : Below w_.heap.size w_ w' := by simpa [e4, e6, e8] using hr
                  exact h.to hr') ?_
                refine prek_cons3 (fun i a a' w_ w' hne hwt hr h hput => by
                  by_cases e4 : i = 4
                  · exact absurd e4 hne
                  by_cases e6 : i = 6
                  · subst e6
                    exact absurd (hwt.symm.trans (show waitsT .any _ _ 6 4 = true by kernel_rfl)) (by decide)
                  by_cases e8 : i = 8
                  · subst e8
                    exact absurd (hwt.symm.trans (show waitsT .any _ _ 8 4 = true by kernel_rfl)) (by decide)
                  have hr' : Below w_.heap.size w_ w' := by simpa [e4, e6, e8] using hr
                  exact h.to hr') ?_
                refine prek_cons3 (fun i a a' w_ w' hne hwt hr h hput => by
                  by_cases e4 : i = 4
                  · subst e4
                    have hr' : (fun b0 b1 x x' => Two (w.heap.size + 1) (w.heap.size + 1) x x') a a' w_ w' := hr
                    exact ⟨ownsRow_two h.1 hr' (fun e => by have := (hlt _ e).1; omega) (fun e => by have := (hlt _ e).1; omega), Nat.le_trans h.2 hr'.size⟩
                  by_cases e6 : i = 6
                  · exact absurd e6 hne
                  by_cases e8 : i = 8
                  · subst e8
                    exact absurd (hwt.symm.trans (show waitsT .any _ _ 8 6 = true by kernel_rfl)) (by decide)
                  have hr' : Below w_.heap.size w_ w' := by simpa [e4, e6, e8] using hr
                  exact ⟨ownsRow_to h.1 hr', Nat.le_trans h.2 hr'.size⟩) ?_
                refine prek_cons3 (fun i a a' w_ w' hne hwt hr h hput => by
                  by_cases e4 : i = 4
                  · subst e4
                    have hr' : (fun b0 b1 x x' => Two (w.heap.size + 1) (w.heap.size + 1) x x') a a' w_ w' := hr
                    exact hr'.blk h (by omega) (by omega)
                  by_cases e6 : i = 6
                  · subst e6
                    have hr' : (fun b0 b1 x x' => World.grownBy x x' vi.ownBlock) a a' w_ w' := hr
                    exact (hr'.block bp h.lt (fun e => by have := (hlt _ e.symm).1; omega)).trans h
                  by_cases e8 : i = 8
                  · exact absurd e8 hne
                  have hr' : Below w_.heap.size w_ w' := by simpa [e4, e6, e8] using hr
                  exact h.to hr') ?_
                exact prek_nil3
              case hop =>
                refine ⟨?_, ?_, ?_, ?_, ?_, ?_, ?_, ?_, ?_, trivial⟩
                · intro a w_ K hw hS hd hN hK
                  have s5 := hS.at 5 (by kernel_rfl) rfl
                  rw [if_pos (want_free rfl)]
                  go_simp
                  exact hK _ _ (Below.refl _ _) (vok rfl) (facts_cons (fun h => absurd h (by decide)) (facts_cons (fun h => absurd h (by decide)) (facts_cons (fun h => absurd h (by decide)) (facts_cons (fun h => absurd h (by decide)) facts_nil))))
                · intro a w_ K hw hS hd hN hK
                  have s71 := (waits_on hd 0 (by kernel_rfl)).at (d := 71) rfl rfl rfl
                  have hBc := hN _ (List.mem_cons_self ..) rfl
                  rw [if_pos (want_free rfl)]
                  have c0 := (hBc.cell 3).trans (show _ = some vi from rfl)
                  go_simp
                  exact hK _ _ (Below.refl _ _) (vok rfl) (facts_cons (fun h => absurd h (by decide)) (facts_cons (fun h => absurd h (by decide)) (facts_cons (fun h => absurd h (by decide)) (facts_cons (fun h => absurd h (by decide)) facts_nil))))
                · intro a w_ K hw hS hd hN hK
                  have s4 := hS.at 4 (by kernel_rfl) rfl
                  rw [if_pos (want_free rfl)]
                  go_simp
                  exact hK _ _ (Below.refl _ _) (vok rfl) (facts_cons (fun h => absurd h (by decide)) (facts_cons (fun h => absurd h (by decide)) (facts_cons (fun h => absurd h (by decide)) (facts_cons (fun h => absurd h (by decide)) facts_nil))))
                · intro a w_ K hw hS hd hN hK
                  have s8 := hS.at 8 (by kernel_rfl) rfl
                  rw [if_pos (want_free rfl)]
                  go_simp
                  exact hK _ _ (Below.refl _ _) (vok rfl) (facts_cons (fun h => absurd h (by decide)) (facts_cons (fun h => absurd h (by decide)) (facts_cons (fun h => absurd h (by decide)) (facts_cons (fun h => absurd h (by decide)) facts_nil))))
                · intro a w_ K hw hS hd hN hK
                  have s73 := (waits_on hd 2 (by kernel_rfl)).at (d := 73) rfl rfl rfl
                  have s74 := (waits_on hd 3 (by kernel_rfl)).at (d := 74) rfl rfl rfl
                  have hRd := hN _ (List.mem_cons_of_mem _ (List.mem_cons_self ..)) rfl
                  rw [if_pos (want_free rfl)]
                  go_simp
                  refine (HBY.out w_ hRd).mono ?_
                  rintro e w' ⟨rfl, hr, ht⟩
                  exact hK _ _ ht (vfree rfl) (facts_cons (fun _ => ⟨hS.put_at (by kernel_rfl) _, hr⟩) (facts_cons (fun h => absurd h (by decide)) (facts_cons (fun h => absurd h (by decide)) (facts_cons (fun h => absurd h (by decide)) facts_nil))))
                · intro a w_ K hw hS hd hN hK
                  obtain ⟨s75, rd75⟩ := (waits_on hd 4 (by kernel_rfl)).2 _ (List.mem_cons_self ..) rfl
                  rw [if_pos (want_free rfl)]
                  go_simp
                  exact hK _ _ (below_one _ _) (vfree rfl) (facts_cons (fun h => absurd h (by decide)) (facts_cons (fun _ => ⟨_, hS.put_at (by kernel_rfl) _, Blk.new _ _ _, hw.size⟩) (facts_cons (fun h => absurd h (by decide)) (facts_cons (fun h => absurd h (by decide)) facts_nil))))
                · intro a w_ K hw hS hd hN hK
                  have s72 := (waits_on hd 1 (by kernel_rfl)).at (d := 72) rfl rfl rfl
                  obtain ⟨b76, s76, r76, l76⟩ := (waits_on hd 5 (by kernel_rfl)).2 _ (List.mem_cons_of_mem _ (List.mem_cons_self ..)) rfl
                  obtain ⟨hOwn, hSz⟩ := hN _ (List.mem_cons_of_mem _ (List.mem_cons_of_mem _ (List.mem_cons_self ..))) rfl
                  rw [if_pos (want_free rfl)]
                  obtain ⟨i0, hi0, hz0, hz1, hz2⟩ := info_parts info_str
                  refine wp_append_keep w_ (.tmp 72) (.tmp 76) 22 rfl (bp + 1) 9 i0 _ 1 16 Tryz.underlying22 hi0 hz0 hz1 hz2 rfl (by decide) vi k _ (eval_at s72) hOwn ⟨b76, 0, none⟩ 1 1 [.string (bs xs)] (eval_at s76) rfl (fun j u hj => by
                    cases j with
                    | zero => simp at hj; subst hj; exact r76.cell 0
                    | succ j => simp at hj) (by intro u hu; simp at hu; subst hu; rfl) (by unfold maxLen; omega) (by omega) (by omega) ?_
                  intro v2 w' h2 h3 h4 h5
                  exact hK v2 w' h3 (vfree rfl) (facts_cons (fun h => absurd h (by decide)) (facts_cons (fun h => absurd h (by decide)) (facts_cons (fun _ => ⟨v2, hS.put_at (by kernel_rfl) _, h2, h5.imp id fun ⟨g, e, hg⟩ => ⟨g, e, Nat.le_trans hSz hg⟩⟩) (facts_cons (fun h => absurd h (by decide)) facts_nil))))
                · intro a w_ K hw hS hd hN hK
                  have s5 := hS.at 5 (by kernel_rfl) rfl
                  rw [if_pos (want_free rfl)]
                  go_simp
                  exact hK _ _ (Below.refl _ _) (vok rfl) (facts_cons (fun h => absurd h (by decide)) (facts_cons (fun h => absurd h (by decide)) (facts_cons (fun h => absurd h (by decide)) (facts_cons (fun h => absurd h (by decide)) facts_nil))))
                · intro a w_ K hw hS hd hN hK
                  have s78 := (waits_on hd 7 (by kernel_rfl)).at (d := 78) rfl rfl rfl
                  obtain ⟨v77, s77, o77, k77⟩ := (waits_on hd 6 (by kernel_rfl)).2 _ (List.mem_cons_of_mem _ (List.mem_cons_of_mem _ (List.mem_cons_self ..))) rfl
                  have hBs := hN _ (List.mem_cons_of_mem _ (List.mem_cons_of_mem _ (List.mem_cons_of_mem _ (List.mem_cons_self ..)))) rfl
                  rw [if_pos (want_free rfl)]
                  have c0 := (hBs.cell 3).trans (show _ = some vi from rfl)
                  have f0 := hBs.frozen 3
                  obtain ⟨A1, c1', rfl⟩ := own_sl4 o77
                  obtain ⟨A0, c0', hv0⟩ := own_sl4 HO14.out
                  try subst hv0
                  go_simp
                  exact hK undef _ ⟨_, rfl⟩ (vfree rfl) (facts_cons (fun h => absurd h (by decide)) (facts_cons (fun h => absurd h (by decide)) (facts_cons (fun h => absurd h (by decide)) (facts_cons (fun _ => ⟨_, s77, hBs.set_ 3 _⟩) facts_nil))))
              case hfin =>
                intro a w15 hw hS hk
                have s71 := (hk 0 (by decide)).at (d := 71) rfl rfl rfl
                have s72 := (hk 1 (by decide)).at (d := 72) rfl rfl rfl
                have s73 := (hk 2 (by decide)).at (d := 73) rfl rfl rfl
                have s74 := (hk 3 (by decide)).at (d := 74) rfl rfl rfl
                obtain ⟨s75, rd75⟩ := (hk 4 (by decide)).2 _ (List.mem_cons_self ..) rfl
                obtain ⟨b76, s76, r76, l76⟩ := (hk 5 (by decide)).2 _ (List.mem_cons_of_mem _ (List.mem_cons_self ..)) rfl
                obtain ⟨v77, s77, o77, k77⟩ := (hk 6 (by decide)).2 _ (List.mem_cons_of_mem _ (List.mem_cons_of_mem _ (List.mem_cons_self ..))) rfl
                have s78 := (hk 7 (by decide)).at (d := 78) rfl rfl rfl
                obtain ⟨z77, zs77, zP⟩ := (hk 8 (by decide)).2 _ (List.mem_cons_of_mem _ (List.mem_cons_of_mem _ (List.mem_cons_of_mem _ (List.mem_cons_self ..)))) rfl
                have hlit := hS.lit _ (by kernel_rfl) (lits_cons s71 (lits_cons s72 (lits_cons s73 (lits_cons s74 (lits_cons s75 (lits_cons s76 (lits_cons s77 (lits_cons s78 lits_nil))))))))
                rw [hlit]
                obtain rfl : v77 = z77 := Option.some.inj (s77.symm.trans zs77)
                have HO7 := hide o77
                have HK7 := hide k77
                have HZ7 := hide zP
                have HD7 := hide rd75
                have HW7 := hide hw
                clear hlit hk hS s71 s72 s73 s74 s75 s76 s77 s78 zs77 r76 l76 o77 k77 zP rd75 hw
                simp only [litT, List.setIfInBounds_toArray, List.set_cons_succ, List.set_cons_zero]
                obtain ⟨W1, hT1, hT2, hsz1⟩ := HW7.out.split (r := (w.heap.size + 1)) (by have := HP14.out.rd.blk.lt; omega)
                have hord := HP14.out.ord
                have hpg := (HP14.out.pg.far hT1 (by omega) (by omega) (by omega) (by omega)).addI (by omega) hT2 HZ7.out (by rw [HW.out.il]; exact HO7.out) (HK7.out.imp id fun ⟨g, e, hg⟩ => ⟨g, e, by rw [hsz1]; exact hg⟩)
                have hrow : bp ≤ rowOr vi bp := rowOr_le (fun g e => by have := (hlt g e).1; omega) (Nat.le_refl _)
                have HP15 : Hid (PI w (w.heap.size + 1) bp T (n2 : Int) (n4 : Int) R (I ++ [xs]) Q v77 vp pvs a15 z15 w15) := ⟨(HP14.out.bel.trans (hT1.below HP14.out.bel.size (by omega) (by omega))).trans (hT2.below (Nat.le_trans HP14.out.bel.size hT1.size) (by omega) (by omega)), hT2.blk (hT1.blk HP14.out.res (by omega) (by omega)) (by omega) (by omega), HD7.out, hpg, HP14.out.ord⟩
                obtain ⟨A9, c9, hv9⟩ := own_sl4 HO9.out
                subst hv9
                have hq9 : ∀ g, (Value.slice A9 qa.length c9).ownBlock = some g → wk.heap.size ≤ g ∧ g < w14.heap.size := own_blk_lt HO9.out
                have HQ15 : Hid (TextsAt w15 (.slice A9 qa.length c9) qa) := ((TextsAt.of_own HO9.out).two hT1 (fun e => by have := (hq9 _ e).1; omega) (fun e => by have := (hq9 _ e).1; omega)).two hT2 (fun e => by have := (hq9 _ e).1; omega) (fun e => by
                  have h1 := (hq9 _ e).1
                  rcases rowOr_cases vi bp with h | h
                  · omega
                  · have := HVL.out _ (.inl h); omega)
                have HRA : Hid (RApt (bp + 1) w15.heap.size (.slice A9 qa.length c9) v77 vp) := fun g e => by
                  have h1 := hq9 g e
                  have h2 := HW7.out.size
                  refine ⟨by omega, by omega, fun e2 => ?_, fun e2 => ?_⟩
                  · rcases HK7.out with h | ⟨g', h, hg⟩
                    · have := HVL.out g (.inl (by rw [← h]; exact e2)); omega
                    · have h3 : g' = g := Option.some.inj (h.symm.trans e2)
                      omega
                  · have := HVL.out g (.inr e2); omega
                have hsz15 := HW7.out.size
                clear hpg hT1 hT2 hsz1 hrow HW7 HZ7 HK7 HD7 HP14 HO14
                have x4 := (HP15.out.pg.p.cell 4).trans (show _ = some vp from rfl)
                obtain ⟨i0, hi0, hz0, hz1, hz2⟩ := info_parts info_sl
                have HP8 := hide (HP15.out.to (below_one w15 (.cells #[.slice A9 qa.length c9] 22)))
                have hc1 := cells_new4 (W := w15) (xs := [Value.slice A9 qa.length c9]) (ty := 22) (b := w15.heap.size) rfl
                have hc2 : ∀ u ∈ [Value.slice A9 qa.length c9], u.oneCell' = true := by intro u hu; simp only [List.mem_cons, List.not_mem_nil, or_false] at hu; rcases hu with rfl; rfl
                have hc4 : k + 1 ≤ maxLen := by simp only [maxLen]; omega
                have hc5 : (k + 1) * 24 ≤ 140737488355328 := by omega
                have hc3 : bp + 1 ≤ (w15.alloc (.cells #[.slice A9 qa.length c9] 22)).heap.size := by have := HP15.out.pg.p.lt; simp; omega
                have HC1 := hide hc1
                have HOP : Hid (World.ownsRow (w15.alloc (.cells #[.slice A9 qa.length c9] 22)) (bp + 1) 22 1 vp k pvs) := by
                  have := HP8.out.pg.op
                  rwa [HW.out.ql] at this
                clear hc1 hq9
                go_wp2_with (at_builtin; refine wpList_append_keep _ rfl (.tmp 80) (.tmp 82) _ rfl (bp + 1) 22 i0 (.slice none 0 0) 1 24 Tryz.underlying23 hi0 hz0 hz1 hz2 rfl (by omega) _ k pvs rfl HOP.out ⟨_, 0, none⟩ 1 1 [.slice A9 qa.length c9] rfl rfl HC1.out hc2 hc4 hc5 hc3 ?_)
                intro v' w16 ho8 hg8 hk8 hv8
                have hlo : some bp ≠ vp.ownBlock := fun e => by have := (World.ownsRow.lt HOP.out _ e.symm).1; omega
                have hb8 := (hg8.block bp HP8.out.pg.p.lt hlo).trans HP8.out.pg.p
                have y4 := (show Blk w16 bp _ _ from hb8).cell 4 |>.trans (show _ = some vp from rfl)
                have yf := (show Blk w16 bp _ _ from hb8).frozen 4
                have hT9 : Two bp (rowOr vp bp) (w15.alloc (.cells #[.slice A9 qa.length c9] 22)) (w16.setCell ⟨bp, 4, none⟩ v') := (Two.grown hg8).set1 4 v'
                have hQ9 := RPg.addP (by omega) HP8.out.pg hT9 (pv := .slice A9 qa.length c9) (show Blk _ bp _ _ from Blk.set_ hb8 4 v') (by rw [HW.out.ql]; exact ownsRow_set ho8 (fun e => by have := (World.ownsRow.lt ho8 _ e).1; omega)) (hv8.imp id fun ⟨g, e, h⟩ => ⟨g, e, by rw [World.size_alloc]; exact h⟩) (HQ15.out.to (below_one w15 (.cells #[.slice A9 qa.length c9] 22))) (fun g e => by
                  have h1 := HRA.out g e
                  exact ⟨h1.1, by rw [World.size_alloc]; omega, h1.2.2⟩)
                have hrow2 : bp ≤ rowOr vp bp := rowOr_le (fun g e => by have := (World.ownsRow.lt HOP.out g e).1; omega) (Nat.le_refl _)
                have hrn : ∀ g, g ≤ bp → g ≠ bp → g ≠ rowOr vp bp := fun g h1 h2 => by omega
                have HP17 : Hid (PI w (w.heap.size + 1) bp T (n2 : Int) (n4 : Int) R (I ++ [xs]) (Q ++ [qa]) v77 v' (pvs ++ [.slice A9 qa.length c9]) a15 z15 (w16.setCell ⟨bp, 4, none⟩ v')) := ⟨(HP15.out.bel.trans ((below_one w15 (.cells #[.slice A9 qa.length c9] 22)).mono HP15.out.bel.size)).trans (hT9.below (by rw [World.size_alloc]; have := HP15.out.bel.size; omega) (by omega) (by omega)), hT9.blk HP8.out.res (by omega) (by omega), ⟨hT9.blk HP8.out.rd.blk (by omega) (by omega), HP8.out.rd.le⟩, hQ9, HP15.out.ord⟩
                obtain ⟨A8, c8, hv8'⟩ := own_sl4 ho8
                subst hv8'
                clear ho8 hg8 hk8 hv8 hlo hb8 hT9 HP8 HOP HC1 x4 hQ9 HQ15 HRA hrow2 hrn HP15
                go_wp2_with fail
                generalize w16.setCell ⟨bp, 4, none⟩ (.slice A8 (k + 1) c8) = w17 at *
                obtain ⟨a17, z17, e17⟩ : ∃ a' z', a' = tkA T 10 a15 ∧ z' = tkZ T 10 a15 z15 := ⟨_, _, rfl, rfl⟩
                have C17 : Calls Tryz.prog 65 #[.pointer (some ⟨w.heap.size + 1, 0, none⟩), Value.int IntKind.u8 10] w17 fun e w' => e = .returned (.tuple #[]) ∧ RdAt (w.heap.size + 1) T a17 z17 w' ∧ Two (w.heap.size + 1) (w.heap.size + 1) w17 w' := by
                  rw [e17.1, e17.2]; exact rdTake_any (w.heap.size + 1) T (by omega) a15 z15 10 (by decide) w17 HP17.out.rd
                have hg17 : a15 ≤ a17 := by rw [e17.1]; exact (tkA_le (HP17.out.rd).le).1
                have E17 := hide e17
                clear e17
                with_reducible refine C17.mono ?_
                rintro e w18 ⟨rfl, hr, ht⟩
                have HP18 := hide (HP17.out.step ht hr)
                clear hr ht C17 HP17
                go_wp2_with fail
                refine ⟨⟨k + 1, a17, z17, _, _, _, _, _, by go_num, HP18.out, strQ_end HS.out hkN HSQ.out (.inl HHH.out) E13.out E15.out E17.out, ⟨?_, ?_, ?_, ?_, ?_, ?_⟩⟩, ?_⟩
                · rw [List.length_append, HW.out.il]; rfl
                · rw [List.length_append, HW.out.ql]; rfl
                · intro hz
                  have q1 : z15 = false := by
                    cases z15 with
                    | false => rfl
                    | true => have := E17.out.2; rw [tkZ_true] at this; rw [this] at hz; cases hz
                  have q2 : z13 = false := by
                    cases z13 with
                    | false => rfl
                    | true => have := E15.out.2.2; rw [byZ_true] at this; rw [this] at q1; cases q1
                  have q3 : z9 = false := by
                    cases z9 with
                    | false => rfl
                    | true => have := E13.out.2; rw [tkZ_true] at this; rw [this] at q2; cases q2
                  have q4 := HWQ.out.zz q3
                  have q5 := E10.out.2.2
                  rw [q4] at q5
                  have q6 : dgN T pa ≠ 0 := by
                    unfold nuZ at q5
                    intro h0
                    rw [h0] at q5; simp at q5
                  have q7 := E10.out.2.1
                  have q8 := HWQ.out.ql
                  have q9 := HW.out.ka rfl
                  omega
                · have q8 := HWQ.out.ql
                  have q9 := HW.out.ka rfl
                  omega
                · intro x hx
                  rcases List.mem_append.1 hx with hx | hx
                  · exact HW.out.ix x hx
                  · rw [List.mem_singleton.1 hx]; exact hs15
                · intro q hq
                  rcases List.mem_append.1 hq with hq | hq
                  · exact HW.out.qx q hq
                  · rw [List.mem_singleton.1 hq]
                    refine ⟨?_, HWQ.out.qx⟩
                    have q8 := HWQ.out.ql
                    have q9 := HRL.out
                    omega
                · simp [intOf]; omega
            | true =>
              have zc := (HD12.out.blk.cell 2).trans (show _ = some (Value.bool z9) from rfl)
              cases z9 with
              | true =>
                go_wp2_with fail
                obtain ⟨a13, z13, e13⟩ : ∃ a' z', a' = tkA T 10 a9 ∧ z' = tkZ T 10 a9 true := ⟨_, _, rfl, rfl⟩
                have C13 : Calls Tryz.prog 65 #[.pointer (some ⟨w.heap.size + 1, 0, none⟩), Value.int IntKind.u8 10] w12 fun e w' => e = .returned (.tuple #[]) ∧ RdAt (w.heap.size + 1) T a13 z13 w' ∧ Two (w.heap.size + 1) (w.heap.size + 1) w12 w' := by
                  rw [e13.1, e13.2]; exact rdTake_any (w.heap.size + 1) T (by omega) a9 true 10 (by decide) w12 HD12.out
                have hg13 : a9 ≤ a13 := by rw [e13.1]; exact (tkA_le (HD12.out).le).1
                have E13 := hide e13
                clear e13
                have HRL : Hid (a9 ≤ T.length) := HD12.out.le
                have HP12 := hide (H10.out.step HT12.out HD12.out)
                with_reducible refine C13.mono ?_
                rintro e w14 ⟨rfl, hr, ht⟩
                have HP14 := hide (HP12.out.step ht hr)
                have HO9 : Hid (OwnT w14 wk.heap.size u9 qa) := ownsRow_two HO12.out ht (fun e => by have := (own_blk_lt HO12.out _ e).1; have := HWKR.out; omega) (fun e => by have := (own_blk_lt HO12.out _ e).1; have := HWKR.out; omega)
                have hk14 : k ≤ pa + 1 := HW.out.k1
                have hkT : k ≤ 200000 := by have := HRa.out; omega
                have HO14 : Hid (World.ownsRow w14 (bp + 1) 9 1 vi k (flatS I)) := by
                  have := HP14.out.pg.oi
                  rwa [HW.out.il] at this
                have hlt : ∀ g, vi.ownBlock = some g → bp + 1 ≤ g ∧ g < w14.heap.size := World.ownsRow.lt HO14.out
                have hbW : bp < w14.heap.size := HP14.out.pg.p.lt
                have hrbp : w.heap.size + 1 < bp := HP14.out.ord.2
                have hwkb := HWKR.out
                have hwk14 : wk.heap.size ≤ w14.heap.size := Nat.le_trans HT12.out.size ht.size
                clear hr ht C13 HP12 HO12 HD12
                obtain ⟨xs, a15, z15, e15⟩ : ∃ S a' z', S = byS T X a13 ∧ a' = byA T X a13 ∧ z' = byZ T X a13 z13 := ⟨_, _, _, rfl, rfl, rfl⟩
                have HBY : Hid (∀ W, RdAt (w.heap.size + 1) T a13 z13 W → Calls Tryz.prog 63 #[.pointer (some ⟨w.heap.size + 1, 0, none⟩), Value.int IntKind.i64 (X : Int)] W fun e w' => e = .returned (.string (bs xs)) ∧ RdAt (w.heap.size + 1) T a15 z15 w' ∧ Two (w.heap.size + 1) (w.heap.size + 1) W w') := fun W h => by
                  rw [e15.1, e15.2.1, e15.2.2]; exact rdBytes_any (w.heap.size + 1) T (by omega) a13 z13 X (by omega) W h
                have hs15 : xs.length ≤ T.length := by rw [e15.1]; exact (byS_len T X a13).2
                have hg15 : a13 ≤ a15 := by rw [e15.2.1]; exact byA_ge T X a13
                have E15 := hide e15
                clear e15
                go_wp2_with fail
                apply wp_region_lo3 (C := fun W => Thr bp (rowOr vi bp) (w.heap.size + 1) w14 W) (V := [some _, some _, some _, some _, none, none, none, some _, none]) (Fs := [(4, fun a W => a.tmps[75]? = some (.string (bs xs)) ∧ RdAt (w.heap.size + 1) T a15 z15 W), (5, fun a W => ∃ g, a.tmps[76]? = some (.slice (some ⟨g, 0, none⟩) 1 1) ∧ Blk W g 9 #[.string (bs xs)] ∧ w14.heap.size ≤ g), (6, fun a W => ∃ v2, a.tmps[77]? = some v2 ∧ World.ownsRow W (bp + 1) 9 1 v2 (k + 1) (flatS I ++ [.string (bs xs)]) ∧ (v2.ownBlock = vi.ownBlock ∨ ∃ g, v2.ownBlock = some g ∧ w14.heap.size ≤ g)), (8, fun a W => ∃ v2, a.tmps[77]? = some v2 ∧ Blk W bp 25 #[.int .i64 (n2 : Int), .int .i64 (n4 : Int), .string (bs R), v2, vp])]) (Ns := [(1, fun (_ : Act) W => Blk W bp 25 #[.int .i64 (n2 : Int), .int .i64 (n4 : Int), .string (bs R), vi, vp]), (4, fun (_ : Act) W => RdAt (w.heap.size + 1) T a13 z13 W), (6, fun (_ : Act) W => World.ownsRow W (bp + 1) 9 1 vi k (flatS I) ∧ w14.heap.size ≤ W.heap.size), (8, fun (_ : Act) W => Blk W bp 25 #[.int .i64 (n2 : Int), .int .i64 (n4 : Int), .string (bs R), vi, vp])]) (Rel := fun i a0_ a1_ x x' => if i = 4 then (fun b0 b1 x x' => Two (w.heap.size + 1) (w.heap.size + 1) x x') a0_ a1_ x x' else if i = 6 then (fun b0 b1 x x' => World.grownBy x x' vi.ownBlock) a0_ a1_ x x' else if i = 8 then (fun b0 b1 x x' => ∃ u, x' = World.setCell x ⟨bp, 3, none⟩ u) a0_ a1_ x x' else Below x.heap.size x x')
                case hm => kernel_rfl
                case hB => kernel_rfl
                case hCw => exact ((Thr.refl bp (rowOr vi bp) (w.heap.size + 1) w14).trans (Thr.of (below_drewN (Below.refl _ _) 1)))
                case hC =>
                  intro i a a' w_ w' hw hr
                  by_cases e4 : i = 4
                  · subst e4
                    have hr' : (fun b0 b1 x x' => Two (w.heap.size + 1) (w.heap.size + 1) x x') a a' w_ w' := hr
                    exact hw.trans (Thr.of3 hr')
                  by_cases e6 : i = 6
                  · subst e6
                    have hr' : (fun b0 b1 x x' => World.grownBy x x' vi.ownBlock) a a' w_ w' := hr
                    exact hw.trans (Thr.of12 (Two.grown hr'))
                  by_cases e8 : i = 8
                  · subst e8
                    have hr' : (fun b0 b1 x x' => ∃ u, x' = World.setCell x ⟨bp, 3, none⟩ u) a a' w_ w' := hr
                    obtain ⟨u, rfl⟩ := hr'
                    exact hw.trans (Thr.of12 ((Two.refl _ _ _).set1 3 u))
                  have hr' : Below w_.heap.size w_ w' := by simpa [e4, e6, e8] using hr
                  exact hw.trans (Thr.of hr')
                case hst =>
                  refine keeps3_cons (fun i a a' w_ w' hne hwt hs hput hr h => by
                    by_cases e4 : i = 4
                    · exact absurd e4 hne
                    by_cases e6 : i = 6
                    · subst e6
                      have hr' : (fun b0 b1 x x' => World.grownBy x x' vi.ownBlock) a a' w_ w' := hr
                      exact ⟨(hs 75 (by kernel_rfl)).trans h.1, (hr'.block _ h.2.blk.lt (fun e => by have := (hlt _ e.symm).1; omega)).trans h.2.blk, h.2.le⟩
                    by_cases e8 : i = 8
                    · subst e8
                      have hr' : (fun b0 b1 x x' => ∃ u, x' = World.setCell x ⟨bp, 3, none⟩ u) a a' w_ w' := hr
                      obtain ⟨u, rfl⟩ := hr'
                      exact ⟨(hs 75 (by kernel_rfl)).trans h.1, h.2.blk.far (p := ⟨bp, 3, none⟩) (by show w.heap.size + 1 ≠ bp; omega) u, h.2.le⟩
                    have hr' : Below w_.heap.size w_ w' := by simpa [e4, e6, e8] using hr
                    exact ⟨(hs 75 (by kernel_rfl)).trans h.1, h.2.to hr'⟩) ?_
                  refine keeps3_cons (fun i a a' w_ w' hne hwt hs hput hr h => by
                    by_cases e4 : i = 4
                    · subst e4
                      exact absurd (hwt.symm.trans (show Region.waitsFor .any _ 5 4 = true by kernel_rfl)) (by decide)
                    by_cases e6 : i = 6
                    · subst e6
                      have hr' : (fun b0 b1 x x' => World.grownBy x x' vi.ownBlock) a a' w_ w' := hr
                      obtain ⟨g, h1, h2, h3⟩ := h
                      exact ⟨g, (hs 76 (by kernel_rfl)).trans h1, (hr'.block g h2.lt (fun e => by have := (hlt g e.symm).2; omega)).trans h2, h3⟩
                    by_cases e8 : i = 8
                    · subst e8
                      have hr' : (fun b0 b1 x x' => ∃ u, x' = World.setCell x ⟨bp, 3, none⟩ u) a a' w_ w' := hr
                      obtain ⟨g, h1, h2, h3⟩ := h
                      obtain ⟨u, rfl⟩ := hr'
                      exact ⟨g, (hs 76 (by kernel_rfl)).trans h1, h2.far (p := ⟨bp, 3, none⟩) (by show g ≠ bp; omega) u, h3⟩
                    have hr' : Below w_.heap.size w_ w' := by simpa [e4, e6, e8] using hr
                    obtain ⟨g, h1, h2, h3⟩ := h
                    exact ⟨g, (hs 76 (by kernel_rfl)).trans h1, h2.to hr', h3⟩) ?_
                  refine keeps3_cons (fun i a a' w_ w' hne hwt hs hput hr h => by
                    by_cases e4 : i = 4
                    · subst e4
                      exact absurd (hwt.symm.trans (show Region.waitsFor .any _ 6 4 = true by kernel_rfl)) (by decide)
                    by_cases e6 : i = 6
                    · exact absurd e6 hne
                    by_cases e8 : i = 8
                    · subst e8
                      have hr' : (fun b0 b1 x x' => ∃ u, x' = World.setCell x ⟨bp, 3, none⟩ u) a a' w_ w' := hr
                      obtain ⟨g, h1, h2, h3⟩ := h
                      obtain ⟨u, rfl⟩ := hr'
                      exact ⟨g, (hs 77 (by kernel_rfl)).trans h1, ownsRow_set h2 (fun e => by have := (World.ownsRow.lt h2 _ e).1; omega), h3⟩
                    have hr' : Below w_.heap.size w_ w' := by simpa [e4, e6, e8] using hr
                    obtain ⟨g, h1, h2, h3⟩ := h
                    exact ⟨g, (hs 77 (by kernel_rfl)).trans h1, ownsRow_to h2 hr', h3⟩) ?_
                  refine keeps3_cons (fun i a a' w_ w' hne hwt hs hput hr h => by
                    by_cases e4 : i = 4
                    · subst e4
                      exact absurd (hwt.symm.trans (show Region.waitsFor .any _ 8 4 = true by kernel_rfl)) (by decide)
                    by_cases e6 : i = 6
                    · subst e6
                      exact absurd (hwt.symm.trans (show Region.waitsFor .any _ 8 6 = true by kernel_rfl)) (by decide)
                    by_cases e8 : i = 8
                    · exact absurd e8 hne
                    have hr' : Below w_.heap.size w_ w' := by simpa [e4, e6, e8] using hr
                    obtain ⟨g, h1, h2⟩ := h
                    exact ⟨g, (hs 77 (by kernel_rfl)).trans h1, h2.to hr'⟩) ?_
                  exact keeps3_nil
                case hN0 => exact pre0_cons (HP14.out.pg.p) (pre0_cons (⟨HP14.out.rd.blk, HP14.out.rd.le⟩) (pre0_cons (⟨HO14.out, Nat.le_refl _⟩) (pre0_cons (HP14.out.pg.p) (pre0_nil))))
                case hNst =>
                  refine prek_cons3 (fun i a a' w_ w' hne hwt hr h hput => by
                    by_cases e4 : i = 4
                    · subst e4
                      have hr' : (fun b0 b1 x x' => Two (w.heap.size + 1) (w.heap.size + 1) x x') a a' w_ w' := hr
                      exact hr'.blk h (by omega) (by omega)
                    by_cases e6 : i = 6
                    · subst e6
                      exact absurd (hwt.symm.trans (show waitsT .any _ _ 6 1 = true by kernel_rfl)) (by decide)
                    by_cases e8 : i = 8
                    · subst e8
                      exact absurd (hwt.symm.trans (show waitsT .any _ _ 8 1 = true by kernel_rfl)) (by decide)
                    have hr' : Below w_.heap.size w_ w' := by simpa [e4, e6, e8] using hr
                    exact h.to hr') ?_
                  refine prek_cons3 (fun i a a' w_ w' hne hwt hr h hput => by
                    by_cases e4 : i = 4
                    · exact absurd e4 hne
                    by_cases e6 : i = 6
                    · subst e6
                      exact absurd (hwt.symm.trans (show waitsT .any _ _ 6 4 = true by kernel_rfl)) (by decide)
                    by_cases e8 : i = 8
                    · subst e8
                      exact absurd (hwt.symm.trans (show waitsT .any _ _ 8 4 = true by kernel_rfl)) (by decide)
                    have hr' : Below w_.heap.size w_ w' := by simpa [e4, e6, e8] using hr
                    exact h.to hr') ?_
                  refine prek_cons3 (fun i a a' w_ w' hne hwt hr h hput => by
                    by_cases e4 : i = 4
                    · subst e4
                      have hr' : (fun b0 b1 x x' => Two (w.heap.size + 1) (w.heap.size + 1) x x') a a' w_ w' := hr
                      exact ⟨ownsRow_two h.1 hr' (fun e => by have := (hlt _ e).1; omega) (fun e => by have := (hlt _ e).1; omega), Nat.le_trans h.2 hr'.size⟩
                    by_cases e6 : i = 6
                    · exact absurd e6 hne
                    by_cases e8 : i = 8
                    · subst e8
                      exact absurd (hwt.symm.trans (show waitsT .any _ _ 8 6 = true by kernel_rfl)) (by decide)
                    have hr' : Below w_.heap.size w_ w' := by simpa [e4, e6, e8] using hr
                    exact ⟨ownsRow_to h.1 hr', Nat.le_trans h.2 hr'.size⟩) ?_
                  refine prek_cons3 (fun i a a' w_ w' hne hwt hr h hput => by
                    by_cases e4 : i = 4
                    · subst e4
                      have hr' : (fun b0 b1 x x' => Two (w.heap.size + 1) (w.heap.size + 1) x x') a a' w_ w' := hr
                      exact hr'.blk h (by omega) (by omega)
                    by_cases e6 : i = 6
                    · subst e6
                      have hr' : (fun b0 b1 x x' => World.grownBy x x' vi.ownBlock) a a' w_ w' := hr
                      exact (hr'.block bp h.lt (fun e => by have := (hlt _ e.symm).1; omega)).trans h
                    by_cases e8 : i = 8
                    · exact absurd e8 hne
                    have hr' : Below w_.heap.size w_ w' := by simpa [e4, e6, e8] using hr
                    exact h.to hr') ?_
                  exact prek_nil3
                case hop =>
                  refine ⟨?_, ?_, ?_, ?_, ?_, ?_, ?_, ?_, ?_, trivial⟩
                  · intro a w_ K hw hS hd hN hK
                    have s5 := hS.at 5 (by kernel_rfl) rfl
                    rw [if_pos (want_free rfl)]
                    go_simp
                    exact hK _ _ (Below.refl _ _) (vok rfl) (facts_cons (fun h => absurd h (by decide)) (facts_cons (fun h => absurd h (by decide)) (facts_cons (fun h => absurd h (by decide)) (facts_cons (fun h => absurd h (by decide)) facts_nil))))
                  · intro a w_ K hw hS hd hN hK
                    have s71 := (waits_on hd 0 (by kernel_rfl)).at (d := 71) rfl rfl rfl
                    have hBc := hN _ (List.mem_cons_self ..) rfl
                    rw [if_pos (want_free rfl)]
                    have c0 := (hBc.cell 3).trans (show _ = some vi from rfl)
                    go_simp
                    exact hK _ _ (Below.refl _ _) (vok rfl) (facts_cons (fun h => absurd h (by decide)) (facts_cons (fun h => absurd h (by decide)) (facts_cons (fun h => absurd h (by decide)) (facts_cons (fun h => absurd h (by decide)) facts_nil))))
                  · intro a w_ K hw hS hd hN hK
                    have s4 := hS.at 4 (by kernel_rfl) rfl
                    rw [if_pos (want_free rfl)]
                    go_simp
                    exact hK _ _ (Below.refl _ _) (vok rfl) (facts_cons (fun h => absurd h (by decide)) (facts_cons (fun h => absurd h (by decide)) (facts_cons (fun h => absurd h (by decide)) (facts_cons (fun h => absurd h (by decide)) facts_nil))))
                  · intro a w_ K hw hS hd hN hK
                    have s8 := hS.at 8 (by kernel_rfl) rfl
                    rw [if_pos (want_free rfl)]
                    go_simp
                    exact hK _ _ (Below.refl _ _) (vok rfl) (facts_cons (fun h => absurd h (by decide)) (facts_cons (fun h => absurd h (by decide)) (facts_cons (fun h => absurd h (by decide)) (facts_cons (fun h => absurd h (by decide)) facts_nil))))
                  · intro a w_ K hw hS hd hN hK
                    have s73 := (waits_on hd 2 (by kernel_rfl)).at (d := 73) rfl rfl rfl
                    have s74 := (waits_on hd 3 (by kernel_rfl)).at (d := 74) rfl rfl rfl
                    have hRd := hN _ (List.mem_cons_of_mem _ (List.mem_cons_self ..)) rfl
                    rw [if_pos (want_free rfl)]
                    go_simp
                    refine (HBY.out w_ hRd).mono ?_
                    rintro e w' ⟨rfl, hr, ht⟩
                    exact hK _ _ ht (vfree rfl) (facts_cons (fun _ => ⟨hS.put_at (by kernel_rfl) _, hr⟩) (facts_cons (fun h => absurd h (by decide)) (facts_cons (fun h => absurd h (by decide)) (facts_cons (fun h => absurd h (by decide)) facts_nil))))
                  · intro a w_ K hw hS hd hN hK
                    obtain ⟨s75, rd75⟩ := (waits_on hd 4 (by kernel_rfl)).2 _ (List.mem_cons_self ..) rfl
                    rw [if_pos (want_free rfl)]
                    go_simp
                    exact hK _ _ (below_one _ _) (vfree rfl) (facts_cons (fun h => absurd h (by decide)) (facts_cons (fun _ => ⟨_, hS.put_at (by kernel_rfl) _, Blk.new _ _ _, hw.size⟩) (facts_cons (fun h => absurd h (by decide)) (facts_cons (fun h => absurd h (by decide)) facts_nil))))
                  · intro a w_ K hw hS hd hN hK
                    have s72 := (waits_on hd 1 (by kernel_rfl)).at (d := 72) rfl rfl rfl
                    obtain ⟨b76, s76, r76, l76⟩ := (waits_on hd 5 (by kernel_rfl)).2 _ (List.mem_cons_of_mem _ (List.mem_cons_self ..)) rfl
                    obtain ⟨hOwn, hSz⟩ := hN _ (List.mem_cons_of_mem _ (List.mem_cons_of_mem _ (List.mem_cons_self ..))) rfl
                    rw [if_pos (want_free rfl)]
                    obtain ⟨i0, hi0, hz0, hz1, hz2⟩ := info_parts info_str
                    refine wp_append_keep w_ (.tmp 72) (.tmp 76) 22 rfl (bp + 1) 9 i0 _ 1 16 Tryz.underlying22 hi0 hz0 hz1 hz2 rfl (by decide) vi k _ (eval_at s72) hOwn ⟨b76, 0, none⟩ 1 1 [.string (bs xs)] (eval_at s76) rfl (fun j u hj => by
                      cases j with
                      | zero => simp at hj; subst hj; exact r76.cell 0
                      | succ j => simp at hj) (by intro u hu; simp at hu; subst hu; rfl) (by unfold maxLen; omega) (by omega) (by omega) ?_
                    intro v2 w' h2 h3 h4 h5
                    exact hK v2 w' h3 (vfree rfl) (facts_cons (fun h => absurd h (by decide)) (facts_cons (fun h => absurd h (by decide)) (facts_cons (fun _ => ⟨v2, hS.put_at (by kernel_rfl) _, h2, h5.imp id fun ⟨g, e, hg⟩ => ⟨g, e, Nat.le_trans hSz hg⟩⟩) (facts_cons (fun h => absurd h (by decide)) facts_nil))))
                  · intro a w_ K hw hS hd hN hK
                    have s5 := hS.at 5 (by kernel_rfl) rfl
                    rw [if_pos (want_free rfl)]
                    go_simp
                    exact hK _ _ (Below.refl _ _) (vok rfl) (facts_cons (fun h => absurd h (by decide)) (facts_cons (fun h => absurd h (by decide)) (facts_cons (fun h => absurd h (by decide)) (facts_cons (fun h => absurd h (by decide)) facts_nil))))
                  · intro a w_ K hw hS hd hN hK
                    have s78 := (waits_on hd 7 (by kernel_rfl)).at (d := 78) rfl rfl rfl
                    obtain ⟨v77, s77, o77, k77⟩ := (waits_on hd 6 (by kernel_rfl)).2 _ (List.mem_cons_of_mem _ (List.mem_cons_of_mem _ (List.mem_cons_self ..))) rfl
                    have hBs := hN _ (List.mem_cons_of_mem _ (List.mem_cons_of_mem _ (List.mem_cons_of_mem _ (List.mem_cons_self ..)))) rfl
                    rw [if_pos (want_free rfl)]
                    have c0 := (hBs.cell 3).trans (show _ = some vi from rfl)
                    have f0 := hBs.frozen 3
                    obtain ⟨A1, c1', rfl⟩ := own_sl4 o77
                    obtain ⟨A0, c0', hv0⟩ := own_sl4 HO14.out
                    try subst hv0
                    go_simp
                    exact hK undef _ ⟨_, rfl⟩ (vfree rfl) (facts_cons (fun h => absurd h (by decide)) (facts_cons (fun h => absurd h (by decide)) (facts_cons (fun h => absurd h (by decide)) (facts_cons (fun _ => ⟨_, s77, hBs.set_ 3 _⟩) facts_nil))))
                case hfin =>
                  intro a w15 hw hS hk
                  have s71 := (hk 0 (by decide)).at (d := 71) rfl rfl rfl
                  have s72 := (hk 1 (by decide)).at (d := 72) rfl rfl rfl
                  have s73 := (hk 2 (by decide)).at (d := 73) rfl rfl rfl
                  have s74 := (hk 3 (by decide)).at (d := 74) rfl rfl rfl
                  obtain ⟨s75, rd75⟩ := (hk 4 (by decide)).2 _ (List.mem_cons_self ..) rfl
                  obtain ⟨b76, s76, r76, l76⟩ := (hk 5 (by decide)).2 _ (List.mem_cons_of_mem _ (List.mem_cons_self ..)) rfl
                  obtain ⟨v77, s77, o77, k77⟩ := (hk 6 (by decide)).2 _ (List.mem_cons_of_mem _ (List.mem_cons_of_mem _ (List.mem_cons_self ..))) rfl
                  have s78 := (hk 7 (by decide)).at (d := 78) rfl rfl rfl
                  obtain ⟨z77, zs77, zP⟩ := (hk 8 (by decide)).2 _ (List.mem_cons_of_mem _ (List.mem_cons_of_mem _ (List.mem_cons_of_mem _ (List.mem_cons_self ..)))) rfl
                  have hlit := hS.lit _ (by kernel_rfl) (lits_cons s71 (lits_cons s72 (lits_cons s73 (lits_cons s74 (lits_cons s75 (lits_cons s76 (lits_cons s77 (lits_cons s78 lits_nil))))))))
                  rw [hlit]
                  obtain rfl : v77 = z77 := Option.some.inj (s77.symm.trans zs77)
                  have HO7 := hide o77
                  have HK7 := hide k77
                  have HZ7 := hide zP
                  have HD7 := hide rd75
                  have HW7 := hide hw
                  clear hlit hk hS s71 s72 s73 s74 s75 s76 s77 s78 zs77 r76 l76 o77 k77 zP rd75 hw
                  simp only [litT, List.setIfInBounds_toArray, List.set_cons_succ, List.set_cons_zero]
                  obtain ⟨W1, hT1, hT2, hsz1⟩ := HW7.out.split (r := (w.heap.size + 1)) (by have := HP14.out.rd.blk.lt; omega)
                  have hord := HP14.out.ord
                  have hpg := (HP14.out.pg.far hT1 (by omega) (by omega) (by omega) (by omega)).addI (by omega) hT2 HZ7.out (by rw [HW.out.il]; exact HO7.out) (HK7.out.imp id fun ⟨g, e, hg⟩ => ⟨g, e, by rw [hsz1]; exact hg⟩)
                  have hrow : bp ≤ rowOr vi bp := rowOr_le (fun g e => by have := (hlt g e).1; omega) (Nat.le_refl _)
                  have HP15 : Hid (PI w (w.heap.size + 1) bp T (n2 : Int) (n4 : Int) R (I ++ [xs]) Q v77 vp pvs a15 z15 w15) := ⟨(HP14.out.bel.trans (hT1.below HP14.out.bel.size (by omega) (by omega))).trans (hT2.below (Nat.le_trans HP14.out.bel.size hT1.size) (by omega) (by omega)), hT2.blk (hT1.blk HP14.out.res (by omega) (by omega)) (by omega) (by omega), HD7.out, hpg, HP14.out.ord⟩
                  obtain ⟨A9, c9, hv9⟩ := own_sl4 HO9.out
                  subst hv9
                  have hq9 : ∀ g, (Value.slice A9 qa.length c9).ownBlock = some g → wk.heap.size ≤ g ∧ g < w14.heap.size := own_blk_lt HO9.out
                  have HQ15 : Hid (TextsAt w15 (.slice A9 qa.length c9) qa) := ((TextsAt.of_own HO9.out).two hT1 (fun e => by have := (hq9 _ e).1; omega) (fun e => by have := (hq9 _ e).1; omega)).two hT2 (fun e => by have := (hq9 _ e).1; omega) (fun e => by
                    have h1 := (hq9 _ e).1
                    rcases rowOr_cases vi bp with h | h
                    · omega
                    · have := HVL.out _ (.inl h); omega)
                  have HRA : Hid (RApt (bp + 1) w15.heap.size (.slice A9 qa.length c9) v77 vp) := fun g e => by
                    have h1 := hq9 g e
                    have h2 := HW7.out.size
                    refine ⟨by omega, by omega, fun e2 => ?_, fun e2 => ?_⟩
                    · rcases HK7.out with h | ⟨g', h, hg⟩
                      · have := HVL.out g (.inl (by rw [← h]; exact e2)); omega
                      · have h3 : g' = g := Option.some.inj (h.symm.trans e2)
                        omega
                    · have := HVL.out g (.inr e2); omega
                  have hsz15 := HW7.out.size
                  clear hpg hT1 hT2 hsz1 hrow HW7 HZ7 HK7 HD7 HP14 HO14
                  have x4 := (HP15.out.pg.p.cell 4).trans (show _ = some vp from rfl)
                  obtain ⟨i0, hi0, hz0, hz1, hz2⟩ := info_parts info_sl
                  have HP8 := hide (HP15.out.to (below_one w15 (.cells #[.slice A9 qa.length c9] 22)))
                  have hc1 := cells_new4 (W := w15) (xs := [Value.slice A9 qa.length c9]) (ty := 22) (b := w15.heap.size) rfl
                  have hc2 : ∀ u ∈ [Value.slice A9 qa.length c9], u.oneCell' = true := by intro u hu; simp only [List.mem_cons, List.not_mem_nil, or_false] at hu; rcases hu with rfl; rfl
                  have hc4 : k + 1 ≤ maxLen := by simp only [maxLen]; omega
                  have hc5 : (k + 1) * 24 ≤ 140737488355328 := by omega
                  have hc3 : bp + 1 ≤ (w15.alloc (.cells #[.slice A9 qa.length c9] 22)).heap.size := by have := HP15.out.pg.p.lt; simp; omega
                  have HC1 := hide hc1
                  have HOP : Hid (World.ownsRow (w15.alloc (.cells #[.slice A9 qa.length c9] 22)) (bp + 1) 22 1 vp k pvs) := by
                    have := HP8.out.pg.op
                    rwa [HW.out.ql] at this
                  clear hc1 hq9
                  go_wp2_with (at_builtin; refine wpList_append_keep _ rfl (.tmp 80) (.tmp 82) _ rfl (bp + 1) 22 i0 (.slice none 0 0) 1 24 Tryz.underlying23 hi0 hz0 hz1 hz2 rfl (by omega) _ k pvs rfl HOP.out ⟨_, 0, none⟩ 1 1 [.slice A9 qa.length c9] rfl rfl HC1.out hc2 hc4 hc5 hc3 ?_)
                  intro v' w16 ho8 hg8 hk8 hv8
                  have hlo : some bp ≠ vp.ownBlock := fun e => by have := (World.ownsRow.lt HOP.out _ e.symm).1; omega
                  have hb8 := (hg8.block bp HP8.out.pg.p.lt hlo).trans HP8.out.pg.p
                  have y4 := (show Blk w16 bp _ _ from hb8).cell 4 |>.trans (show _ = some vp from rfl)
                  have yf := (show Blk w16 bp _ _ from hb8).frozen 4
                  have hT9 : Two bp (rowOr vp bp) (w15.alloc (.cells #[.slice A9 qa.length c9] 22)) (w16.setCell ⟨bp, 4, none⟩ v') := (Two.grown hg8).set1 4 v'
                  have hQ9 := RPg.addP (by omega) HP8.out.pg hT9 (pv := .slice A9 qa.length c9) (show Blk _ bp _ _ from Blk.set_ hb8 4 v') (by rw [HW.out.ql]; exact ownsRow_set ho8 (fun e => by have := (World.ownsRow.lt ho8 _ e).1; omega)) (hv8.imp id fun ⟨g, e, h⟩ => ⟨g, e, by rw [World.size_alloc]; exact h⟩) (HQ15.out.to (below_one w15 (.cells #[.slice A9 qa.length c9] 22))) (fun g e => by
                    have h1 := HRA.out g e
                    exact ⟨h1.1, by rw [World.size_alloc]; omega, h1.2.2⟩)
                  have hrow2 : bp ≤ rowOr vp bp := rowOr_le (fun g e => by have := (World.ownsRow.lt HOP.out g e).1; omega) (Nat.le_refl _)
                  have hrn : ∀ g, g ≤ bp → g ≠ bp → g ≠ rowOr vp bp := fun g h1 h2 => by omega
                  have HP17 : Hid (PI w (w.heap.size + 1) bp T (n2 : Int) (n4 : Int) R (I ++ [xs]) (Q ++ [qa]) v77 v' (pvs ++ [.slice A9 qa.length c9]) a15 z15 (w16.setCell ⟨bp, 4, none⟩ v')) := ⟨(HP15.out.bel.trans ((below_one w15 (.cells #[.slice A9 qa.length c9] 22)).mono HP15.out.bel.size)).trans (hT9.below (by rw [World.size_alloc]; have := HP15.out.bel.size; omega) (by omega) (by omega)), hT9.blk HP8.out.res (by omega) (by omega), ⟨hT9.blk HP8.out.rd.blk (by omega) (by omega), HP8.out.rd.le⟩, hQ9, HP15.out.ord⟩
                  obtain ⟨A8, c8, hv8'⟩ := own_sl4 ho8
                  subst hv8'
                  clear ho8 hg8 hk8 hv8 hlo hb8 hT9 HP8 HOP HC1 x4 hQ9 HQ15 HRA hrow2 hrn HP15
                  go_wp2_with fail
                  generalize w16.setCell ⟨bp, 4, none⟩ (.slice A8 (k + 1) c8) = w17 at *
                  obtain ⟨a17, z17, e17⟩ : ∃ a' z', a' = tkA T 10 a15 ∧ z' = tkZ T 10 a15 z15 := ⟨_, _, rfl, rfl⟩
                  have C17 : Calls Tryz.prog 65 #[.pointer (some ⟨w.heap.size + 1, 0, none⟩), Value.int IntKind.u8 10] w17 fun e w' => e = .returned (.tuple #[]) ∧ RdAt (w.heap.size + 1) T a17 z17 w' ∧ Two (w.heap.size + 1) (w.heap.size + 1) w17 w' := by
                    rw [e17.1, e17.2]; exact rdTake_any (w.heap.size + 1) T (by omega) a15 z15 10 (by decide) w17 HP17.out.rd
                  have hg17 : a15 ≤ a17 := by rw [e17.1]; exact (tkA_le (HP17.out.rd).le).1
                  have E17 := hide e17
                  clear e17
                  with_reducible refine C17.mono ?_
                  rintro e w18 ⟨rfl, hr, ht⟩
                  have HP18 := hide (HP17.out.step ht hr)
                  clear hr ht C17 HP17
                  go_wp2_with fail
                  refine ⟨⟨k + 1, a17, z17, _, _, _, _, _, by go_num, HP18.out, strQ_end HS.out hkN HSQ.out (.inr rfl) E13.out E15.out E17.out, ⟨?_, ?_, ?_, ?_, ?_, ?_⟩⟩, ?_⟩
                  · rw [List.length_append, HW.out.il]; rfl
                  · rw [List.length_append, HW.out.ql]; rfl
                  · intro hz
                    have q1 : z15 = false := by
                      cases z15 with
                      | false => rfl
                      | true => have := E17.out.2; rw [tkZ_true] at this; rw [this] at hz; cases hz
                    have q2 : z13 = false := by
                      cases z13 with
                      | false => rfl
                      | true => have := E15.out.2.2; rw [byZ_true] at this; rw [this] at q1; cases q1
                    have q3 : true = false := by
                      cases true with
                      | false => rfl
                      | true => have := E13.out.2; rw [tkZ_true] at this; rw [this] at q2; cases q2
                    have q4 := HWQ.out.zz q3
                    have q5 := E10.out.2.2
                    rw [q4] at q5
                    have q6 : dgN T pa ≠ 0 := by
                      unfold nuZ at q5
                      intro h0
                      rw [h0] at q5; simp at q5
                    have q7 := E10.out.2.1
                    have q8 := HWQ.out.ql
                    have q9 := HW.out.ka rfl
                    omega
                  · have q8 := HWQ.out.ql
                    have q9 := HW.out.ka rfl
                    omega
                  · intro x hx
                    rcases List.mem_append.1 hx with hx | hx
                    · exact HW.out.ix x hx
                    · rw [List.mem_singleton.1 hx]; exact hs15
                  · intro q hq
                    rcases List.mem_append.1 hq with hq | hq
                    · exact HW.out.qx q hq
                    · rw [List.mem_singleton.1 hq]
                      refine ⟨?_, HWQ.out.qx⟩
                      have q8 := HWQ.out.ql
                      have q9 := HRL.out
                      omega
                  · simp [intOf]; omega
              | false =>
                go_wp2_with fail
                obtain ⟨a11, z11, e11⟩ : ∃ a' z', a' = tkA T 32 a9 ∧ z' = tkZ T 32 a9 false := ⟨_, _, rfl, rfl⟩
                have C11 : Calls Tryz.prog 65 #[.pointer (some ⟨w.heap.size + 1, 0, none⟩), Value.int IntKind.u8 32] w12 fun e w' => e = .returned (.tuple #[]) ∧ RdAt (w.heap.size + 1) T a11 z11 w' ∧ Two (w.heap.size + 1) (w.heap.size + 1) w12 w' := by
                  rw [e11.1, e11.2]; exact rdTake_any (w.heap.size + 1) T (by omega) a9 false 32 (by decide) w12 HD12.out
                have hg11 : a9 ≤ a11 := by rw [e11.1]; exact (tkA_le (HD12.out).le).1
                have E11 := hide e11
                clear e11
                with_reducible refine C11.mono ?_
                rintro e w13 ⟨rfl, hr, ht⟩
                have HT13 := hide (HT12.out.trans ht)
                have HD13 := hide hr
                have HO13 : Hid (OwnT w13 wk.heap.size u9 qa) := ownsRow_two HO12.out ht (fun e => by have := (own_blk_lt HO12.out _ e).1; have := HWKR.out; omega) (fun e => by have := (own_blk_lt HO12.out _ e).1; have := HWKR.out; omega)
                clear hr ht C11 HT12 HO12 HD12 zc
                go_wp2_with fail
                obtain ⟨S9, a12, z12, e12⟩ : ∃ S a' z', S = byS T 16 a11 ∧ a' = byA T 16 a11 ∧ z' = byZ T 16 a11 z11 := ⟨_, _, _, rfl, rfl, rfl⟩
                have C12 : Calls Tryz.prog 63 #[.pointer (some ⟨w.heap.size + 1, 0, none⟩), Value.int IntKind.i64 16] w13 fun e w' => e = .returned (.string (bs S9)) ∧ RdAt (w.heap.size + 1) T a12 z12 w' ∧ Two (w.heap.size + 1) (w.heap.size + 1) w13 w' := by
                  rw [e12.1, e12.2.1, e12.2.2]; exact rdBytes_any (w.heap.size + 1) T (by omega) a11 z11 16 (by omega) w13 HD13.out
                have hs12 : S9.length ≤ T.length := by rw [e12.1]; exact (byS_len T 16 a11).2
                have hs1612 : S9.length ≤ 16 := by rw [e12.1]; exact (byS_len T 16 a11).1
                have hg12 : a11 ≤ a12 := by rw [e12.2.1]; exact byA_ge T 16 a11
                have E12 := hide e12
                clear e12
                with_reducible refine C12.mono ?_
                rintro e w14 ⟨rfl, hr, ht⟩
                have HT14 := hide (HT13.out.trans ht)
                have HD14 := hide hr
                have HO14 : Hid (OwnT w14 wk.heap.size u9 qa) := ownsRow_two HO13.out ht (fun e => by have := (own_blk_lt HO13.out _ e).1; have := HWKR.out; omega) (fun e => by have := (own_blk_lt HO13.out _ e).1; have := HWKR.out; omega)
                have hqal : qa.length ≤ 200000 := by have h1 := HWQ.out.ql; have h2 := HD13.out.le; omega
                have hwk := HT14.out.size
                clear hr ht C12 HT13 HO13 HD13
                go_wp2_with (at_builtin; refine wpList_append_texts rfl (.tmp 64) (.tmp 67) rfl wk.heap.size u9 qa rfl (own_to4 HO14.out (below_one w14 (.cells #[.string (bs S9)] 9))) (.slice (some ⟨w14.heap.size, 0, none⟩) 1 1) [S9] rfl (TextsAt.of_blk (ls := [S9]) (Blk.new w14 9 #[.string (bs S9)]) rfl) (by simp; omega) (by simp; omega) ?_)
                intro v10 w15 ho hg _
                have hbl : Below wk.heap.size (w14.alloc (.cells #[.string (bs S9)] 9)) w15 := below_grown hg (by simp; omega) (fun g e => (own_blk_lt HO14.out g e).1)
                have HT15 : Hid (Two (w.heap.size + 1) (w.heap.size + 1) wk w15) := (HT14.out.to (below_one _ _)).further hbl
                have HD15 : Hid (RdAt (w.heap.size + 1) T a12 z12 w15) := ⟨(hbl.block _ (by have := HWKR.out; omega)).trans (HD14.out.to (below_one _ _)).blk, HD14.out.le⟩
                have HO15 := hide ho
                clear ho hg hbl HT14 HD14 HO14
                have hhit : a11 = a9 + 1 := by have := E11.out.1; unfold tkA at this; rw [HHH.out] at this; exact this
                have HA := hide hhit
                clear hhit
                go_wp2_with fail
                refine ⟨⟨qa ++ [S9], a12, z12, HT15.out, HD15.out, HO15.out, strQ_step HSQ.out HHH.out E11.out E12.out, ⟨?_, ?_, ?_⟩⟩, ?_⟩
                · have h1 := HWQ.out.ql
                  have h2 := HA.out
                  rw [List.length_append]; simp; omega
                · intro hz
                  exact HWQ.out.zz rfl
                · intro y hy
                  rcases List.mem_append.1 hy with hy | hy
                  · exact HWQ.out.qx y hy
                  · rw [List.mem_singleton.1 hy]; exact hs1612
                · rw [HD15.out.pos, HPOS.out]
                  have h2 := HA.out
                  have h3 := HD15.out.le
                  omega
      · have t1 : decide ((k : Int) < (n8 : Int)) = false := decide_eq_false (by omega)
        have t1' : decide (k < n8) = false := decide_eq_false hkN
        cases z with
        | true =>
          obtain ⟨Ai, ci, hvi⟩ := own_sl4 HI.out.pg.oi
          obtain ⟨Ap, cp, hvp⟩ := own_sl4 HI.out.pg.op
          subst hvi hvp
          have CT := rText_any2 ⟨(n2 : Int), (n4 : Int), R, I, Q⟩ (by show R.length ≤ _; omega) (pg_fit hT hn2 hn4 hs166 HW.out) (.slice Ai I.length ci) (.slice Ap Q.length cp) wr (TextsAt.of_own HI.out.pg.oi) HI.out.pg.paths
          have x0 := (HI.out.pg.p.cell 0).trans (show _ = some (Value.int .i64 (n2 : Int)) from rfl)
          have x1 := (HI.out.pg.p.cell 1).trans (show _ = some (Value.int .i64 (n4 : Int)) from rfl)
          have x2 := (HI.out.pg.p.cell 2).trans (show _ = some (Value.string (bs R)) from rfl)
          have x3 := (HI.out.pg.p.cell 3).trans (show _ = some (Value.slice Ai I.length ci) from rfl)
          have x4 := (HI.out.pg.p.cell 4).trans (show _ = some (Value.slice Ap Q.length cp) from rfl)
          unfold Pg.cs at CT
          obtain ⟨OW, hOW⟩ : ∃ o, textV ⟨(n2 : Int), (n4 : Int), R, I, Q⟩ = o := ⟨_, rfl⟩
          obtain ⟨TE, hTE⟩ : ∃ o, textE ⟨(n2 : Int), (n4 : Int), R, I, Q⟩ = o := ⟨_, rfl⟩
          have HOW := hide hOW
          have HTE := hide hTE
          rw [hOW, hTE] at CT
          clear hOW hTE
          go_wp2_with fail
          with_reducible refine CT.mono ?_
          rintro e w20 ⟨rfl, hb⟩
          have H20 := hide (HI.out.to hb)
          clear hb CT x0 x1 x2 x3 x4
          have zc := (H20.out.rd.blk.cell 2).trans (show _ = some (Value.bool true) from rfl)
          cases hp : parseP T with
          | none =>
            have HNP := hide hp
            clear hp
            have y0 := (H20.out.res.cell 0).trans (show _ = some (Value.int .i64 0) from rfl)
            have y1 := (H20.out.res.cell 1).trans (show _ = some (Value.int .i64 0) from rfl)
            have y2 := (H20.out.res.cell 2).trans (show _ = some (Value.string ⟨#[]⟩) from rfl)
            have y3 := (H20.out.res.cell 3).trans (show _ = some (Value.slice none 0 0) from rfl)
            have y4 := (H20.out.res.cell 4).trans (show _ = some (Value.slice none 0 0) from rfl)
            have f0 := H20.out.res.frozen 0
            have f1 := H20.out.res.frozen 1
            have f2 := H20.out.res.frozen 2
            have f3 := H20.out.res.frozen 3
            have f4 := H20.out.res.frozen 4
            go_wp2_with fail
            exact fin_no HNP.out w _ H20.out.bel H20.out.res _ rfl rfl
          | some p =>
            exact absurd (HS.out p (text_of_parse hp).1 (text_of_parse hp).2).1 (by simp)
        | false =>
          obtain ⟨Ai, ci, hvi⟩ := own_sl4 HI.out.pg.oi
          obtain ⟨Ap, cp, hvp⟩ := own_sl4 HI.out.pg.op
          subst hvi hvp
          have CT := rText_any2 ⟨(n2 : Int), (n4 : Int), R, I, Q⟩ (by show R.length ≤ _; omega) (pg_fit hT hn2 hn4 hs166 HW.out) (.slice Ai I.length ci) (.slice Ap Q.length cp) wr (TextsAt.of_own HI.out.pg.oi) HI.out.pg.paths
          have x0 := (HI.out.pg.p.cell 0).trans (show _ = some (Value.int .i64 (n2 : Int)) from rfl)
          have x1 := (HI.out.pg.p.cell 1).trans (show _ = some (Value.int .i64 (n4 : Int)) from rfl)
          have x2 := (HI.out.pg.p.cell 2).trans (show _ = some (Value.string (bs R)) from rfl)
          have x3 := (HI.out.pg.p.cell 3).trans (show _ = some (Value.slice Ai I.length ci) from rfl)
          have x4 := (HI.out.pg.p.cell 4).trans (show _ = some (Value.slice Ap Q.length cp) from rfl)
          unfold Pg.cs at CT
          obtain ⟨OW, hOW⟩ : ∃ o, textV ⟨(n2 : Int), (n4 : Int), R, I, Q⟩ = o := ⟨_, rfl⟩
          obtain ⟨TE, hTE⟩ : ∃ o, textE ⟨(n2 : Int), (n4 : Int), R, I, Q⟩ = o := ⟨_, rfl⟩
          have HOW := hide hOW
          have HTE := hide hTE
          rw [hOW, hTE] at CT
          clear hOW hTE
          go_wp2_with fail
          with_reducible refine CT.mono ?_
          rintro e w20 ⟨rfl, hb⟩
          have H20 := hide (HI.out.to hb)
          clear hb CT x0 x1 x2 x3 x4
          have zc := (H20.out.rd.blk.cell 2).trans (show _ = some (Value.bool false) from rfl)
          cases hp : parseP T with
          | none =>
            have HNP := hide hp
            clear hp
            have y0 := (H20.out.res.cell 0).trans (show _ = some (Value.int .i64 0) from rfl)
            have y1 := (H20.out.res.cell 1).trans (show _ = some (Value.int .i64 0) from rfl)
            have y2 := (H20.out.res.cell 2).trans (show _ = some (Value.string ⟨#[]⟩) from rfl)
            have y3 := (H20.out.res.cell 3).trans (show _ = some (Value.slice none 0 0) from rfl)
            have y4 := (H20.out.res.cell 4).trans (show _ = some (Value.slice none 0 0) from rfl)
            have f0 := H20.out.res.frozen 0
            have f1 := H20.out.res.frozen 1
            have f2 := H20.out.res.frozen 2
            have f3 := H20.out.res.frozen 3
            have f4 := H20.out.res.frozen 4
            cases hf : formedB ⟨(n2 : Int), (n4 : Int), R, I, Q⟩ with
            | false =>
              have g1 : (TE != 0) = true := by rw [← HTE.out]; unfold textE; rw [hf]; rfl
              clear hf
              go_wp2_with fail
              exact fin_no HNP.out w _ H20.out.bel H20.out.res _ rfl rfl
            | true =>
              have g1 : (TE != 0) = false := by rw [← HTE.out]; unfold textE; rw [hf]; rfl
              have g2 : ((bs OW).toList == (bs T).toList) = false := by
                rw [beq_eq_false_iff_ne, bs_toList, bs_toList, ← HOW.out]
                unfold textV
                rw [hf, if_pos rfl]
                exact parse_no' HNP.out hf
              clear hf
              go_wp2_with fail
              exact fin_no HNP.out w _ H20.out.bel H20.out.res _ rfl rfl
          | some p =>
            obtain ⟨hf, htx⟩ := text_of_parse hp
            obtain ⟨_, _, s3, s4, s5, s6, s7, s8, s9⟩ := HS.out p hf htx
            have hpl := (formed_spec hf).1.2.2.2.2
            have hPe : p = ⟨(n2 : Int), (n4 : Int), R, I, Q⟩ := by
              have hk : k = p.items.length := by omega
              have h7 : I = p.items := by rw [s7, hk, List.take_length]
              have h8 : Q = p.paths := by rw [s8, hk, ← hpl, List.take_length]
              cases p
              simp only at s4 s5 s6 h7 h8
              rw [s4, s5, s6, h7, h8]
            subst hPe
            have g1 : (TE != 0) = false := by rw [← HTE.out]; unfold textE; rw [hf]; rfl
            have g2 : ((bs OW).toList == (bs T).toList) = true := by
              rw [beq_iff_eq, bs_toList, bs_toList, ← HOW.out]
              unfold textV
              rw [hf, if_pos rfl, htx]
            have HYP := hide hp
            have x0 := (H20.out.pg.p.cell 0).trans (show _ = some (Value.int .i64 (n2 : Int)) from rfl)
            have x1 := (H20.out.pg.p.cell 1).trans (show _ = some (Value.int .i64 (n4 : Int)) from rfl)
            have x2 := (H20.out.pg.p.cell 2).trans (show _ = some (Value.string (bs R)) from rfl)
            have x3 := (H20.out.pg.p.cell 3).trans (show _ = some (Value.slice Ai I.length ci) from rfl)
            have x4 := (H20.out.pg.p.cell 4).trans (show _ = some (Value.slice Ap Q.length cp) from rfl)
            have y0 := (H20.out.res.cell 0).trans (show _ = some (Value.int .i64 0) from rfl)
            have y1 := (H20.out.res.cell 1).trans (show _ = some (Value.int .i64 0) from rfl)
            have y2 := (H20.out.res.cell 2).trans (show _ = some (Value.string ⟨#[]⟩) from rfl)
            have y3 := (H20.out.res.cell 3).trans (show _ = some (Value.slice none 0 0) from rfl)
            have y4 := (H20.out.res.cell 4).trans (show _ = some (Value.slice none 0 0) from rfl)
            have f0 := H20.out.res.frozen 0
            have f1 := H20.out.res.frozen 1
            have f2 := H20.out.res.frozen 2
            have f3 := H20.out.res.frozen 3
            have f4 := H20.out.res.frozen 4
            clear hp hf htx s3 s4 s5 s6 s7 s8 s9 hpl
            go_wp2_with fail
            exact fin_yes HYP.out H20.out _ rfl rfl
  · have HNP : Hid (parseP T = none) := by
      show _ = _
      cases hp : parseP T with
      | none => rfl
      | some p =>
        obtain ⟨hf, htx⟩ := text_of_parse hp
        exact absurd ((head_str E1.out ⟨rfl, rfl, rfl⟩ ⟨rfl, rfl⟩ ⟨rfl, rfl, rfl⟩ ⟨rfl, rfl⟩ ⟨rfl, rfl, rfl⟩ ⟨rfl, rfl⟩ ⟨rfl, rfl, rfl⟩ ⟨rfl, rfl⟩).2 p hf htx) hS1
    have q5 : ((bs S1).toList == [112, 97, 103, 101, 32]) = false := by
      rw [beq_eq_false_iff_ne, bs_toList]; exact hS1
    clear hS1
    have y0 := (HR3.out.cell 0).trans (show _ = some (Value.int .i64 0) from rfl)
    have y1 := (HR3.out.cell 1).trans (show _ = some (Value.int .i64 0) from rfl)
    have y2 := (HR3.out.cell 2).trans (show _ = some (Value.string ⟨#[]⟩) from rfl)
    have y3 := (HR3.out.cell 3).trans (show _ = some (Value.slice none 0 0) from rfl)
    have y4 := (HR3.out.cell 4).trans (show _ = some (Value.slice none 0 0) from rfl)
    have f0 := HR3.out.frozen 0
    have f1 := HR3.out.frozen 1
    have f2 := HR3.out.frozen 2
    have f3 := HR3.out.frozen 3
    have f4 := HR3.out.frozen 4
    go_wp2_with fail
    exact fin_no HNP.out w _ HB3.out HR3.out _ rfl rfl
end Go.Proofs.YtfhanbiifjiklaaGreatDoor

/- The plain laws of pages that are accepted: their items are those of the log, or two texts have one digest. -/
set_option linter.unusedVariables false
set_option linter.unusedSimpArgs false
namespace Go.Proofs.YtfhanbiifjiklaaGreatDoor
open Go.RowKit

theorem join3_len {a b c : List UInt8} (ha : a.length ≤ 1000) (hb : b.length ≤ 1000) (hc : c.length ≤ 1000) : (joinD [a, b, c]).length ≤ 4000 := by
  have := join_len [a, b, c] (by intro l hl; simp only [List.mem_cons, List.not_mem_nil, or_false] at hl; rcases hl with rfl | rfl | rfl <;> omega)
  simp at this; omega
theorem join2_len {a b : List UInt8} (ha : a.length ≤ 1000) (hb : b.length ≤ 1000) : (joinD [a, b]).length ≤ 4000 := by
  have := join_len [a, b] (by intro l hl; simp only [List.mem_cons, List.not_mem_nil, or_false] at hl; rcases hl with rfl | rfl <;> omega)
  simp at this; omega
theorem total_1000 {l : List (List UInt8)} (h : ∀ x ∈ l, x.length ≤ 1000) : (totalT l).length ≤ 1000 := by
  match l, h with
  | [], _ => exact Nat.le_of_lt (Nat.lt_of_le_of_lt (Nat.le_of_eq (isD_len (listD_isD _))) (by decide))
  | [x], h => rw [total_one]; exact h x (by simp)
  | x :: y :: l, _ => rw [total_two (by simp), nodeD_len]; decide
theorem texts_small : ∀ (f : Nat) (l : List (List UInt8)), (∀ x ∈ l, x.length ≤ 1000) → ∀ s ∈ textsF f l, s.length ≤ 4000
  | 0, l, h, s, hs => by cases hs
  | f + 1, l, h, s, hs => by
    unfold textsF at hs
    split at hs
    · rw [List.mem_singleton.1 hs]; decide +kernel
    · split at hs
      · cases hs
      · simp only [List.mem_append, List.mem_singleton] at hs
        rcases hs with (hs | hs) | hs
        · exact texts_small f _ (fun x hx => h x (List.mem_of_mem_take hx)) s hs
        · exact texts_small f _ (fun x hx => h x (List.mem_of_mem_drop hx)) s hs
        · rw [hs]; exact join3_len (by decide) (total_1000 fun x hx => h x (List.mem_of_mem_take hx)) (total_1000 fun x hx => h x (List.mem_of_mem_drop hx))
theorem up_1000 {leaf : List UInt8} (hl : leaf.length ≤ 1000) : ∀ (f n i : Nat) (st : List (List UInt8)) (sh : Bool), (upG leaf f n i st sh).1.length ≤ 1000
  | 0, n, i, st, sh => hl
  | f + 1, n, i, st, sh => by
    unfold upG
    split
    · exact hl
    · split <;> exact Nat.le_trans (Nat.le_of_eq (nodeD_len _ _)) (by decide)
theorem head_1000 {st : List (List UInt8)} (h : ∀ x ∈ st, x.length ≤ 1000) : (st.headD []).length ≤ 1000 := by
  cases st with
  | nil => simp
  | cons x l => exact h x (by simp)
theorem ptx_small {leaf : List UInt8} (hl : leaf.length ≤ 1000) : ∀ (f n i : Nat) (st : List (List UInt8)), (∀ x ∈ st, x.length ≤ 1000) → ∀ s ∈ ptxF leaf f n i st, s.length ≤ 4000
  | 0, n, i, st, h, s, hs => by cases hs
  | f + 1, n, i, st, h, s, hs => by
    unfold ptxF at hs
    have ht : ∀ x ∈ st.tail, x.length ≤ 1000 := fun x hx => h x (List.mem_of_mem_tail hx)
    split at hs
    · cases hs
    · split at hs
      · rcases List.mem_append.1 hs with hs | hs
        · exact ptx_small hl f _ _ _ ht s hs
        · rw [List.mem_singleton.1 hs]; exact join3_len (by decide) (up_1000 hl _ _ _ _ _) (head_1000 h)
      · rcases List.mem_append.1 hs with hs | hs
        · exact ptx_small hl f _ _ _ ht s hs
        · rw [List.mem_singleton.1 hs]; exact join3_len (by decide) (head_1000 h) (up_1000 hl _ _ _ _ _)
theorem dig_small {items : List (List UInt8)} (h : ∀ x ∈ items, x.length ≤ 1000) : ∀ s ∈ digestedV items, s.length ≤ 1000000 := fun s hs => by
  unfold digestedV at hs
  rcases List.mem_append.1 hs with hs | hs
  · have := texts_small _ _ (fun x hx => by obtain ⟨y, _, rfl⟩ := List.mem_map.1 hx; rw [isD_len (leaf_isD y)]; decide) s hs
    omega
  · obtain ⟨y, hy, rfl⟩ := List.mem_map.1 hs
    have : (leafJ y).length ≤ 4000 := join2_len (by decide) (h y hy)
    omega
theorem dig_len (items : List (List UInt8)) : (digestedV items).length ≤ 2 * items.length + 1 := by
  unfold digestedV
  have := texts_le (leavesV items)
  rw [leaves_len] at this
  rw [List.length_append, List.length_map]; omega
theorem chk_small {p : Pg} (hi : ∀ x ∈ p.items, x.length ≤ 1000) (hq : ∀ q ∈ p.paths, ∀ x ∈ q, x.length ≤ 1000) : ∀ s ∈ checkedV p, s.length ≤ 1000000 := fun s hs => by
  unfold checkedV chkUp at hs
  obtain ⟨j, hj, hs⟩ := List.mem_flatMap.1 hs
  unfold itemJ at hs
  have hx : (p.items.getD j []).length ≤ 1000 := by
    rw [List.getD_eq_getElem?_getD]
    cases e : p.items[j]? with
    | none => simp
    | some x => exact hi x (List.mem_of_getElem? e)
  rcases List.mem_cons.1 hs with rfl | hs
  · have : (leafJ (p.items.getD j [])).length ≤ 4000 := join2_len (by decide) hx
    omega
  · have := ptx_small (by rw [isD_len (leaf_isD _)]; decide) _ _ _ _ (fun x hx => by
      rw [List.mem_reverse, List.getD_eq_getElem?_getD] at hx
      cases e : p.paths[j]? with
      | none => rw [e] at hx; cases hx
      | some q => rw [e] at hx; exact hq q (List.mem_of_getElem? e) x hx) s hs
    omega
theorem item_mem {p : Pg} {k : Nat} {y : List UInt8} {q : List (List UInt8)} (hy : p.items[k]? = some y) (hq : p.paths[k]? = some q) : ∀ s ∈ leafJ y :: ptxF (leafD y) p.size.toNat p.size.toNat (p.fr.toNat + k) q.reverse, s ∈ checkedV p := fun s hs => by
  rw [← chk_at hy hq] at hs
  unfold checkedV chkUp
  exact List.mem_flatMap.2 ⟨k, List.mem_range.2 (List.getElem?_eq_some_iff.1 hy).1, hs⟩
/-- an item that is not the log's -/
theorem held_sound {items : List (List UInt8)} {p : Pg} (hf : formedB p = true) (hh : heldB p p.root p.size = true) (hr : p.root = rootL items) (hs : p.size = (items.length : Int)) {k : Nat} {x y : List UInt8} (hy : p.items[k]? = some y) (hx : items[p.fr.toNat + k]? = some x) (hne : x ≠ y) : Coll (digestedV items) (checkedV p) := by
  have hfs := (formed_spec hf).1
  obtain ⟨q, hq⟩ : ∃ q, p.paths[k]? = some q := ⟨_, List.getElem?_eq_getElem (by have := (List.getElem?_eq_some_iff.1 hy).1; omega)⟩
  have hc := held_at hh hy hq
  have hI : p.fr + (k : Int) = ((p.fr.toNat + k : Nat) : Int) := by omega
  obtain ⟨h1, h2, h3, h4⟩ := held_len hc hs hI
  rw [hs, hI, checkV_ref _ _ _ _ _ (by omega) (by omega)] at hc
  simp only [Bool.and_eq_true, decide_eq_true_eq] at hc
  have hu := hc.2.2.2
  have hN : p.size.toNat = items.length := by omega
  have hm := item_mem hy hq
  rw [hN] at hm
  have hxl : (leavesV items)[p.fr.toNat + k]? = some (leafD x) := by unfold leavesV; rw [List.getElem?_map, hx]; rfl
  rw [hr] at hu
  rcases up_sound (leafD y) items.length items.length (p.fr.toNat + k) q.reverse false (leavesV items) (leaves_len items) (Nat.le_refl _) h1 hu with h | h
  · rw [hxl] at h
    rcases leafD_sound (Option.some.inj h) with e | e
    · exact absurd e hne
    · refine e.mono (fun s hs => ?_) (fun s hs => ?_)
      · rw [List.mem_singleton.1 hs]
        unfold digestedV
        exact List.mem_append.2 (.inr (List.mem_map.2 ⟨x, List.mem_of_getElem? hx, rfl⟩))
      · rw [List.mem_singleton.1 hs]; exact hm _ (List.mem_cons_self ..)
  · exact h.mono (fun s hs => by unfold digestedV; exact List.mem_append.2 (.inl hs)) (fun s hs => hm s (List.mem_cons_of_mem _ hs))
theorem coll_in {a b : List (List UInt8)} (h : Coll a b) : CollIn (a ++ b) := h.mono (fun s hs => List.mem_append.2 (.inl hs)) (fun s hs => List.mem_append.2 (.inr hs))
theorem begins_no {l p : List (List UInt8)} (hl : p.length ≤ l.length) (h : beginsV l p = false) : ∃ (k : Nat) (x y : List UInt8), l[k]? = some x ∧ p[k]? = some y ∧ x ≠ y := by
  unfold beginsV at h
  rw [decide_eq_true hl, Bool.true_and, decide_eq_false_iff_not] at h
  apply Classical.byContradiction
  intro hn
  apply h
  refine List.ext_getElem? fun k => ?_
  rcases Nat.lt_or_ge k p.length with hk | hk
  · rw [List.getElem?_take_of_lt hk, List.getElem?_eq_getElem hk, List.getElem?_eq_getElem (by omega : k < l.length)]
    congr 1
    apply Classical.byContradiction
    intro hne
    exact hn ⟨k, _, _, List.getElem?_eq_getElem (by omega), List.getElem?_eq_getElem hk, hne⟩
  · rw [List.getElem?_eq_none hk, List.getElem?_eq_none (by rw [List.length_take]; omega)]
theorem begins_take (l : List (List UInt8)) (k : Nat) : beginsV l (l.take k) = true := by
  unfold beginsV
  rw [List.length_take, decide_eq_true (by omega), Bool.true_and, decide_eq_true_eq]
  rcases Nat.le_total k l.length with h | h
  · rw [Nat.min_eq_left h]
  · rw [Nat.min_eq_right h, List.take_length, List.take_of_length_le h]
/-- what an accepted page says of itself -/
theorem acc_facts {p : Pg} {items its : List (List UInt8)} (h : accE p (rootL items) items.length its = 0) : formedB p = true ∧ heldB p p.root p.size = true ∧ p.root = rootL items ∧ p.size = (items.length : Int) ∧ p.fr ≤ (its.length : Int) := by
  unfold accE at h
  split at h
  · rename_i hf
    split at h
    · rename_i hh
      split at h
      · cases h
      · rename_i hl
        have hh' := hh
        unfold heldB sameB at hh'
        simp only [Bool.and_eq_true, decide_eq_true_eq] at hh'
        obtain ⟨⟨h1, h2, h3⟩, h4⟩ := hh'
        exact ⟨hf, by rw [h1, h2]; exact hh, h1, h2, by omega⟩
    · cases h
  · cases h
end Go.Proofs.YtfhanbiifjiklaaGreatDoor

/- The walk of PageTexts. -/
set_option linter.unusedVariables false
set_option linter.unusedSimpArgs false
namespace Go.Proofs.YtfhanbiifjiklaaGreatDoor
open Go.RowKit

/-- two pages that came in, in boxes of the call -/
structure TwoP (w : World) (p q : Pg) (vi vp ui up : Value) (W : World) : Prop where
  bel : Below w.heap.size w W
  bP : Blk W w.heap.size 25 (p.cs vi vp)
  bQ : Blk W (w.heap.size + 1) 25 (q.cs ui up)
  ti : TextsAt W vi p.items
  tp : PathsAt W vp p.paths
  ui : TextsAt W ui q.items
  up : PathsAt W up q.paths
theorem TwoP.to {w W W' : World} {p q : Pg} {vi vp ui up : Value} (h : TwoP w p q vi vp ui up W) (hb : Below W.heap.size W W') : TwoP w p q vi vp ui up W' :=
  ⟨below_to h.bel (Nat.le_refl _) hb, h.bP.to hb, h.bQ.to hb, h.ti.to hb, h.tp.to hb, h.ui.to hb, h.up.to hb⟩
theorem TwoP.start {w : World} {p q : Pg} {vi vp ui up : Value} (h1 : TextsAt w vi p.items) (h2 : PathsAt w vp p.paths) (h3 : TextsAt w ui q.items) (h4 : PathsAt w up q.paths) : TwoP w p q vi vp ui up ((w.alloc (.cells (p.cs vi vp) 25)).alloc (.cells (q.cs ui up) 25)) := by
  have b1 := below_one w (.cells (p.cs vi vp) 25)
  have b2 := below_one (w.alloc (.cells (p.cs vi vp) 25)) (.cells (q.cs ui up) 25)
  have x := Blk.new (w.alloc (.cells (p.cs vi vp) 25)) 25 (q.cs ui up)
  rw [World.size_alloc] at x
  exact ⟨below_to b1 (Nat.le_refl _) b2, (Blk.new w _ _).to b2, x, (h1.to b1).to b2, (h2.to b1).to b2, (h3.to b1).to b2, (h4.to b1).to b2⟩
set_option maxRecDepth 100000 in
set_option maxHeartbeats 4000000 in
theorem texts_law (p q : Pg) (hp : p.wide) (hq : q.wide) (hpf : -9223372036854775808 ≤ p.fr ∧ p.fr ≤ 9223372036854775807) (hps : -9223372036854775808 ≤ p.size ∧ p.size ≤ 9223372036854775807) (hqf : -9223372036854775808 ≤ q.fr ∧ q.fr ≤ 9223372036854775807) (hqs : -9223372036854775808 ≤ q.size ∧ q.size ≤ 9223372036854775807)
    (t : List UInt8) (ht : t.length ≤ 140737488355328) (vi vp ui up : Value) (w : World) (hvi : TextsAt w vi p.items) (hvp : PathsAt w vp p.paths) (hui : TextsAt w ui q.items) (huq : PathsAt w up q.paths) (hg : Glob w) :
    Calls Tryz.prog 7 #[.agg (p.cs vi vp), .agg (q.cs ui up), .string (bs t)] w fun e w' => e = .returned (.bool true) ∧ Below w.heap.size w w' := by
  have H2 := hide (TwoP.start hvi hvp hui huq)
  have HG := hide hg
  obtain ⟨Ai, ci, rfl, _⟩ := hvi.slice
  obtain ⟨Ap, cp, rfl, _⟩ := hvp.slice
  obtain ⟨Bi, di, rfl, _⟩ := hui.slice
  obtain ⟨Bp, dp, rfl, _⟩ := huq.slice
  clear hvi hvp hui huq hg
  have hsz : (bs t).size = t.length := bs_size t
  unfold Pg.cs at H2 ⊢
  go_enter Tryz.func7, Tryz.ntmps7
  go_wp2_with fail
  generalize (w.alloc (.cells #[.int .i64 p.fr, .int .i64 p.size, .string (bs p.root), .slice Ai p.items.length ci, .slice Ap p.paths.length cp] 25)).alloc (.cells #[.int .i64 q.fr, .int .i64 q.size, .string (bs q.root), .slice Bi q.items.length di, .slice Bp q.paths.length dp] 25) = w2 at *
  have C3 := head_any w2 (HG.out.to H2.out.bel)
  refine C3.mono ?_
  rintro e w3 ⟨rfl, hb⟩
  have H3 := hide (H2.out.to hb)
  clear hb C3 H2
  obtain ⟨p0, p1, p2, p3, p4⟩ := page_cells H3.out.bP; obtain ⟨q0, q1, q2, q3, q4⟩ := page_cells H3.out.bQ
  have CF : Calls Tryz.prog 13 #[.agg #[.int .i64 p.fr, .int .i64 p.size, .string (bs p.root), .slice Ai p.items.length ci, .slice Ap p.paths.length cp]] w3 fun e w' => e = .returned (.bool (fewP p)) ∧ Below w3.heap.size w3 w' := FewP_any p hp _ _ w3 H3.out.ti H3.out.tp
  have CG : ∀ w4 : World, Below w3.heap.size w3 w4 → Calls Tryz.prog 13 #[.agg #[.int .i64 q.fr, .int .i64 q.size, .string (bs q.root), .slice Bi q.items.length di, .slice Bp q.paths.length dp]] w4 fun e w' => e = .returned (.bool (fewP q)) ∧ Below w4.heap.size w4 w' := fun w4 hb => FewP_any q hq _ _ w4 (H3.out.ui.to hb) (H3.out.up.to hb)
  have FP := fun h => few_fit (p := p) h hpf hps
  have FQ := fun h => few_fit (p := q) h hqf hqs
  generalize fewP p = b1 at *
  generalize fewP q = b2 at *
  cases b1 with
  | false =>
    go_wp2_with ((with_reducible refine CF.mono ?_); rintro e w4 ⟨rfl, hb⟩; have H4 := hide (H3.out.to hb); clear hb CF p0 p1 p2 p3 p4 q0 q1 q2 q3 q4 H3; obtain ⟨p0, p1, p2, p3, p4⟩ := page_cells H4.out.bP; obtain ⟨q0, q1, q2, q3, q4⟩ := page_cells H4.out.bQ)
    go_ret
    exact ⟨rfl, H4.out.bel⟩
  | true =>
    cases b2 with
    | false =>
      go_wp2_with (first | ((with_reducible refine CF.mono ?_); rintro e w4 ⟨rfl, hb⟩; have CG := CG w4 hb; have H4 := hide (H3.out.to hb); clear hb CF p0 p1 p2 p3 p4 q0 q1 q2 q3 q4 H3; obtain ⟨p0, p1, p2, p3, p4⟩ := page_cells H4.out.bP; obtain ⟨q0, q1, q2, q3, q4⟩ := page_cells H4.out.bQ) | ((with_reducible refine CG.mono ?_); rintro e w5 ⟨rfl, hb⟩; have H5 := hide (H4.out.to hb); clear hb CG p0 p1 p2 p3 p4 q0 q1 q2 q3 q4 H4))
      go_ret
      exact ⟨rfl, H5.out.bel⟩
    | true =>
      have HFP := hide (FP rfl)
      have HFQ := hide (FQ rfl)
      clear FP FQ
      by_cases hlt : t.length ≤ 3000
      · have c0 : decide ((3000 : Int) < (t.length : Int)) = false := decide_eq_false (by omega)
        go_wp2_with (first | ((with_reducible refine CF.mono ?_); rintro e w4 ⟨rfl, hb⟩; have CG := CG w4 hb; have H4 := hide (H3.out.to hb); clear hb CF p0 p1 p2 p3 p4 q0 q1 q2 q3 q4 H3; obtain ⟨p0, p1, p2, p3, p4⟩ := page_cells H4.out.bP; obtain ⟨q0, q1, q2, q3, q4⟩ := page_cells H4.out.bQ) | ((with_reducible refine CG.mono ?_); rintro e w5 ⟨rfl, hb⟩; have H5 := hide (H4.out.to hb); clear hb CG p0 p1 p2 p3 p4 q0 q1 q2 q3 q4 H4; obtain ⟨p0, p1, p2, p3, p4⟩ := page_cells H5.out.bP; obtain ⟨q0, q1, q2, q3, q4⟩ := page_cells H5.out.bQ))
        have CT : Calls Tryz.prog 16 #[.agg #[.int .i64 p.fr, .int .i64 p.size, .string (bs p.root), .slice Ai p.items.length ci, .slice Ap p.paths.length cp]] w5 fun e w' => e = .returned (.tuple #[.string (bs (textV p)), .int .i64 (textE p)]) ∧ Below w5.heap.size w5 w' := Text_any p HFP.out.1 _ _ w5 (HG.out.to H5.out.bel) H5.out.ti H5.out.tp
        refine CT.mono ?_
        rintro e w6 ⟨rfl, hb⟩
        have H6 := hide (H5.out.to hb)
        clear hb CT p0 p1 p2 p3 p4 q0 q1 q2 q3 q4 H5
        obtain ⟨p0, p1, p2, p3, p4⟩ := page_cells H6.out.bP; obtain ⟨q0, q1, q2, q3, q4⟩ := page_cells H6.out.bQ
        go_wp2_with fail
        have CT : Calls Tryz.prog 16 #[.agg #[.int .i64 q.fr, .int .i64 q.size, .string (bs q.root), .slice Bi q.items.length di, .slice Bp q.paths.length dp]] w6 fun e w' => e = .returned (.tuple #[.string (bs (textV q)), .int .i64 (textE q)]) ∧ Below w6.heap.size w6 w' := Text_any q HFQ.out.1 _ _ w6 (HG.out.to H6.out.bel) H6.out.ui H6.out.up
        refine CT.mono ?_
        rintro e w7 ⟨rfl, hb⟩
        have H7 := hide (H6.out.to hb)
        clear hb CT p0 p1 p2 p3 p4 q0 q1 q2 q3 q4 H6
        obtain ⟨p0, p1, p2, p3, p4⟩ := page_cells H7.out.bP; obtain ⟨q0, q1, q2, q3, q4⟩ := page_cells H7.out.bQ
        cases hfp : formedB p with
        | false =>
          have E0 : textE p = 1 := by unfold textE; rw [hfp]; rfl
          rw [E0]
          clear hfp E0
          go_wp2_with fail
          have CP := Parse_any t (by omega) w7 (HG.out.to H7.out.bel)
          unfold ParseR at CP
          clear p0 p1 p2 p3 p4 q0 q1 q2 q3 q4
          cases hpt : parseP t with
          | none =>
            rw [show parseV t = noPg by unfold parseV; rw [hpt]; rfl, show parseE t = 5 by unfold parseE; rw [hpt]; rfl] at CP
            clear hpt
            refine CP.mono ?_
            rintro e w8 ⟨xi, xp, rfl, hxi, hxp, hb⟩
            obtain ⟨Xi, xci, rfl, _⟩ := hxi.slice
            obtain ⟨Xp, xcp, rfl, _⟩ := hxp.slice
            have H8 := hide (H7.out.to hb)
            clear hb CP H7
            rw [show noPg.cs (.slice Xi noPg.items.length xci) (.slice Xp noPg.paths.length xcp) = #[.int .i64 0, .int .i64 0, .string ⟨#[]⟩, .slice Xi 0 xci, .slice Xp 0 xcp] from rfl]
            have HB8 := below_one w8 (.cells #[.int .i64 0, .int .i64 0, .string ⟨#[]⟩, .slice Xi 0 xci, .slice Xp 0 xcp] 25)
            have CS : Calls Tryz.prog 20 #[.agg #[.int .i64 0, .int .i64 0, .string ⟨#[]⟩, .slice Xi 0 xci, .slice Xp 0 xcp], .agg #[.int .i64 0, .int .i64 0, .string ⟨#[]⟩, .slice none 0 0, .slice none 0 0]] (w8.alloc (.cells #[.int .i64 0, .int .i64 0, .string ⟨#[]⟩, .slice Xi 0 xci, .slice Xp 0 xcp] 25)) fun e w' => e = .returned (.bool true) ∧ Below (w8.alloc (.cells #[.int .i64 0, .int .i64 0, .string ⟨#[]⟩, .slice Xi 0 xci, .slice Xp 0 xcp] 25)).heap.size (w8.alloc (.cells #[.int .i64 0, .int .i64 0, .string ⟨#[]⟩, .slice Xi 0 xci, .slice Xp 0 xcp] 25)) w' := by
              have := PSame_any noPg noPg (fit_wide no_fit) (fit_wide no_fit) _ _ (.slice none 0 0) (.slice none 0 0) _ (hxi.to HB8) (hxp.to HB8) (TextsAt.nil _) (PathsAt.nil _)
              rw [same_refl] at this
              exact this
            have HBB := hide (below_to H8.out.bel (Nat.le_refl _) HB8)
            clear hxi hxp HB8 H8
            go_wp2_with fail
            refine CS.mono ?_
            rintro e w9 ⟨rfl, hb⟩
            have HBC := hide (below_to HBB.out (Nat.le_refl _) hb)
            clear hb CS HBB
            go_wp2_with fail
            go_ret
            exact ⟨rfl, HBC.out⟩
          | some y =>
            obtain ⟨hfy, hty⟩ := text_of_parse hpt
            rw [show parseV t = y by unfold parseV; rw [hpt]; rfl, show parseE t = 0 by unfold parseE; rw [hpt]; rfl] at CP
            refine CP.mono ?_
            rintro e w8 ⟨xi, xp, rfl, hxi, hxp, hb⟩
            have H8 := hide (H7.out.to hb)
            have CT := fun (w' : World) (hb' : Below w8.heap.size w8 w') => Text_any y (formed_fit hfy) xi xp w' (HG.out.to (below_to H8.out.bel (Nat.le_refl _) hb')) (hxi.to hb') (hxp.to hb')
            rw [show textV y = t by unfold textV; rw [hfy]; exact hty, show textE y = 0 by unfold textE; rw [hfy]; rfl] at CT
            obtain ⟨Xi, xci, rfl, _⟩ := hxi.slice
            obtain ⟨Xp, xcp, rfl, _⟩ := hxp.slice
            clear hb CP H7 hxi hxp hpt hfy hty
            unfold Pg.cs at CT ⊢
            have HB8 := below_one w8 (.cells #[.int .i64 y.fr, .int .i64 y.size, .string (bs y.root), .slice Xi y.items.length xci, .slice Xp y.paths.length xcp] 25)
            have CT := CT _ HB8
            have HBB := hide (below_to H8.out.bel (Nat.le_refl _) HB8)
            have q : ((bs t).toList == (bs t).toList) = true := by simp
            clear HB8 H8
            go_wp2_with fail
            refine CT.mono ?_
            rintro e w9 ⟨rfl, hb⟩
            have HBC := hide (below_to HBB.out (Nat.le_refl _) hb)
            clear hb CT HBB
            go_wp2_with fail
            go_ret
            exact ⟨rfl, HBC.out⟩
        | true =>
          have E0 : textE p = 0 := by unfold textE; rw [hfp]; rfl
          have V0 : textV p = textPg p := by unfold textV; rw [hfp]; rfl
          rw [E0, V0]
          have CP := fun (w' : World) (hg' : Glob w') => Parse_any (textPg p) (text_len hfp HFP.out.2.2) w' hg'
          unfold ParseR at CP
          rw [show parseV (textPg p) = p by unfold parseV; rw [parse_text hfp]; rfl, show parseE (textPg p) = 0 by unfold parseE; rw [parse_text hfp]; rfl] at CP
          go_wp2_with fail
          refine (CP w7 (HG.out.to H7.out.bel)).mono ?_
          rintro e w8 ⟨xi, xp, rfl, hxi, hxp, hb⟩
          have H8 := hide (H7.out.to hb)
          obtain ⟨Xi, xci, rfl, _⟩ := hxi.slice
          obtain ⟨Xp, xcp, rfl, _⟩ := hxp.slice
          unfold Pg.cs
          have HB8 := below_one w8 (.cells #[.int .i64 p.fr, .int .i64 p.size, .string (bs p.root), .slice Xi p.items.length xci, .slice Xp p.paths.length xcp] 25)
          have H9 := hide (H8.out.to HB8)
          have HXI := hide (hxi.to HB8)
          have HXP := hide (hxp.to HB8)
          have xb := Blk.new w8 25 (p.cs (.slice Xi p.items.length xci) (.slice Xp p.paths.length xcp))
          obtain ⟨x0, x1, x2, x3, x4⟩ := page_cells xb
          clear p0 p1 p2 p3 p4 q0 q1 q2 q3 q4
          obtain ⟨p0, p1, p2, p3, p4⟩ := page_cells H8.out.bP; obtain ⟨q0, q1, q2, q3, q4⟩ := page_cells H8.out.bQ
          have z1 : w.heap.size < w8.heap.size := H8.out.bP.lt
          have z2 : w.heap.size + 1 < w8.heap.size := H8.out.bQ.lt
          have z3 : w.heap.size ≠ w8.heap.size := by omega
          have z4 : w.heap.size + 1 ≠ w8.heap.size := by omega
          clear hb CP H7 H8 HB8 hxi hxp xb
          go_wp2_with fail
          clear p0 p1 p2 p3 p4 q0 q1 q2 q3 q4
          unfold Pg.cs at x0 x1 x2 x3 x4
          generalize w8.alloc (.cells #[.int .i64 p.fr, .int .i64 p.size, .string (bs p.root), .slice Xi p.items.length xci, .slice Xp p.paths.length xcp] 25) = w9 at *
          have CS : Calls Tryz.prog 20 #[.agg #[.int .i64 p.fr, .int .i64 p.size, .string (bs p.root), .slice Xi p.items.length xci, .slice Xp p.paths.length xcp], .agg #[.int .i64 p.fr, .int .i64 p.size, .string (bs p.root), .slice Ai p.items.length ci, .slice Ap p.paths.length cp]] w9 fun e w' => e = .returned (.bool true) ∧ Below w9.heap.size w9 w' := by
            have := PSame_any p p hp hp _ _ _ _ w9 HXI.out HXP.out H9.out.ti H9.out.tp
            rw [same_refl] at this
            exact this
          refine CS.mono ?_
          rintro e w10 ⟨rfl, hb⟩
          have H10 := hide (H9.out.to hb)
          clear hb CS z1 z2 z3 z4 x0 x1 x2 x3 x4 H9 HXI HXP
          obtain ⟨p0, p1, p2, p3, p4⟩ := page_cells H10.out.bP; obtain ⟨q0, q1, q2, q3, q4⟩ := page_cells H10.out.bQ
          cases hfq : formedB q with
          | false =>
            have E1 : textE q = 1 := by unfold textE; rw [hfq]; rfl
            rw [E1]
            clear hfq E1 V0 hfp
            go_wp2_with fail
            have CP := Parse_any t (by omega) w10 (HG.out.to H10.out.bel)
            unfold ParseR at CP
            clear p0 p1 p2 p3 p4 q0 q1 q2 q3 q4
            cases hpt : parseP t with
            | none =>
              rw [show parseV t = noPg by unfold parseV; rw [hpt]; rfl, show parseE t = 5 by unfold parseE; rw [hpt]; rfl] at CP
              clear hpt
              refine CP.mono ?_
              rintro e w11 ⟨xi, xp, rfl, hxi, hxp, hb⟩
              obtain ⟨Xi, xci, rfl, _⟩ := hxi.slice
              obtain ⟨Xp, xcp, rfl, _⟩ := hxp.slice
              have H11 := hide (H10.out.to hb)
              clear hb CP H10
              rw [show noPg.cs (.slice Xi noPg.items.length xci) (.slice Xp noPg.paths.length xcp) = #[.int .i64 0, .int .i64 0, .string ⟨#[]⟩, .slice Xi 0 xci, .slice Xp 0 xcp] from rfl]
              have HB11 := below_one w11 (.cells #[.int .i64 0, .int .i64 0, .string ⟨#[]⟩, .slice Xi 0 xci, .slice Xp 0 xcp] 25)
              have CS : Calls Tryz.prog 20 #[.agg #[.int .i64 0, .int .i64 0, .string ⟨#[]⟩, .slice Xi 0 xci, .slice Xp 0 xcp], .agg #[.int .i64 0, .int .i64 0, .string ⟨#[]⟩, .slice none 0 0, .slice none 0 0]] (w11.alloc (.cells #[.int .i64 0, .int .i64 0, .string ⟨#[]⟩, .slice Xi 0 xci, .slice Xp 0 xcp] 25)) fun e w' => e = .returned (.bool true) ∧ Below (w11.alloc (.cells #[.int .i64 0, .int .i64 0, .string ⟨#[]⟩, .slice Xi 0 xci, .slice Xp 0 xcp] 25)).heap.size (w11.alloc (.cells #[.int .i64 0, .int .i64 0, .string ⟨#[]⟩, .slice Xi 0 xci, .slice Xp 0 xcp] 25)) w' := by
                have := PSame_any noPg noPg (fit_wide no_fit) (fit_wide no_fit) _ _ (.slice none 0 0) (.slice none 0 0) _ (hxi.to HB11) (hxp.to HB11) (TextsAt.nil _) (PathsAt.nil _)
                rw [same_refl] at this
                exact this
              have HBB := hide (below_to H11.out.bel (Nat.le_refl _) HB11)
              clear hxi hxp HB11 H11
              go_wp2_with fail
              refine CS.mono ?_
              rintro e w12 ⟨rfl, hb⟩
              have HBC := hide (below_to HBB.out (Nat.le_refl _) hb)
              clear hb CS HBB
              go_wp2_with fail
              go_ret
              exact ⟨rfl, HBC.out⟩
            | some y =>
              obtain ⟨hfy, hty⟩ := text_of_parse hpt
              rw [show parseV t = y by unfold parseV; rw [hpt]; rfl, show parseE t = 0 by unfold parseE; rw [hpt]; rfl] at CP
              refine CP.mono ?_
              rintro e w11 ⟨xi, xp, rfl, hxi, hxp, hb⟩
              have H11 := hide (H10.out.to hb)
              have CT := fun (w' : World) (hb' : Below w11.heap.size w11 w') => Text_any y (formed_fit hfy) xi xp w' (HG.out.to (below_to H11.out.bel (Nat.le_refl _) hb')) (hxi.to hb') (hxp.to hb')
              rw [show textV y = t by unfold textV; rw [hfy]; exact hty, show textE y = 0 by unfold textE; rw [hfy]; rfl] at CT
              obtain ⟨Xi, xci, rfl, _⟩ := hxi.slice
              obtain ⟨Xp, xcp, rfl, _⟩ := hxp.slice
              clear hb CP H10 hxi hxp hpt hfy hty
              unfold Pg.cs at CT ⊢
              have HB11 := below_one w11 (.cells #[.int .i64 y.fr, .int .i64 y.size, .string (bs y.root), .slice Xi y.items.length xci, .slice Xp y.paths.length xcp] 25)
              have CT := CT _ HB11
              have HBB := hide (below_to H11.out.bel (Nat.le_refl _) HB11)
              have q : ((bs t).toList == (bs t).toList) = true := by simp
              clear HB11 H11
              go_wp2_with fail
              refine CT.mono ?_
              rintro e w12 ⟨rfl, hb⟩
              have HBC := hide (below_to HBB.out (Nat.le_refl _) hb)
              clear hb CT HBB
              go_wp2_with fail
              go_ret
              exact ⟨rfl, HBC.out⟩
          | true =>
            have E1 : textE q = 0 := by unfold textE; rw [hfq]; rfl
            have V1 : textV q = textPg q := by unfold textV; rw [hfq]; rfl
            rw [E1, V1]
            have QE : ((bs (textPg p)).toList == (bs (textPg q)).toList) = sameP p q := by
              rw [bs_toList, bs_toList, Bool.eq_iff_iff, beq_iff_eq, same_iff]
              exact ⟨fun h => text_inj hfp hfq h, fun h => by rw [h]⟩
            have CS : Calls Tryz.prog 20 #[.agg #[.int .i64 p.fr, .int .i64 p.size, .string (bs p.root), .slice Ai p.items.length ci, .slice Ap p.paths.length cp], .agg #[.int .i64 q.fr, .int .i64 q.size, .string (bs q.root), .slice Bi q.items.length di, .slice Bp q.paths.length dp]] w10 fun e w' => e = .returned (.bool (sameP p q)) ∧ Below w10.heap.size w10 w' := PSame_any p q hp hq _ _ _ _ w10 H10.out.ti H10.out.tp H10.out.ui H10.out.up
            clear hfq E1 V1 V0 hfp
            generalize sameP p q = B at *
            go_wp2_with fail
            refine CS.mono ?_
            rintro e w11 ⟨rfl, hb⟩
            have H11 := hide (H10.out.to hb)
            clear hb CS p0 p1 p2 p3 p4 q0 q1 q2 q3 q4 H10
            obtain ⟨p0, p1, p2, p3, p4⟩ := page_cells H11.out.bP; obtain ⟨q0, q1, q2, q3, q4⟩ := page_cells H11.out.bQ
            have hBB : (B != B) = false := by simp
            go_wp2_with fail
            have CP := Parse_any t (by omega) w11 (HG.out.to H11.out.bel)
            unfold ParseR at CP
            clear p0 p1 p2 p3 p4 q0 q1 q2 q3 q4
            cases hpt : parseP t with
            | none =>
              rw [show parseV t = noPg by unfold parseV; rw [hpt]; rfl, show parseE t = 5 by unfold parseE; rw [hpt]; rfl] at CP
              clear hpt
              refine CP.mono ?_
              rintro e w12 ⟨xi, xp, rfl, hxi, hxp, hb⟩
              obtain ⟨Xi, xci, rfl, _⟩ := hxi.slice
              obtain ⟨Xp, xcp, rfl, _⟩ := hxp.slice
              have H12 := hide (H11.out.to hb)
              clear hb CP H11
              rw [show noPg.cs (.slice Xi noPg.items.length xci) (.slice Xp noPg.paths.length xcp) = #[.int .i64 0, .int .i64 0, .string ⟨#[]⟩, .slice Xi 0 xci, .slice Xp 0 xcp] from rfl]
              have HB12 := below_one w12 (.cells #[.int .i64 0, .int .i64 0, .string ⟨#[]⟩, .slice Xi 0 xci, .slice Xp 0 xcp] 25)
              have CS : Calls Tryz.prog 20 #[.agg #[.int .i64 0, .int .i64 0, .string ⟨#[]⟩, .slice Xi 0 xci, .slice Xp 0 xcp], .agg #[.int .i64 0, .int .i64 0, .string ⟨#[]⟩, .slice none 0 0, .slice none 0 0]] (w12.alloc (.cells #[.int .i64 0, .int .i64 0, .string ⟨#[]⟩, .slice Xi 0 xci, .slice Xp 0 xcp] 25)) fun e w' => e = .returned (.bool true) ∧ Below (w12.alloc (.cells #[.int .i64 0, .int .i64 0, .string ⟨#[]⟩, .slice Xi 0 xci, .slice Xp 0 xcp] 25)).heap.size (w12.alloc (.cells #[.int .i64 0, .int .i64 0, .string ⟨#[]⟩, .slice Xi 0 xci, .slice Xp 0 xcp] 25)) w' := by
                have := PSame_any noPg noPg (fit_wide no_fit) (fit_wide no_fit) _ _ (.slice none 0 0) (.slice none 0 0) _ (hxi.to HB12) (hxp.to HB12) (TextsAt.nil _) (PathsAt.nil _)
                rw [same_refl] at this
                exact this
              have HBB := hide (below_to H12.out.bel (Nat.le_refl _) HB12)
              clear hxi hxp HB12 H12
              go_wp2_with fail
              refine CS.mono ?_
              rintro e w13 ⟨rfl, hb⟩
              have HBC := hide (below_to HBB.out (Nat.le_refl _) hb)
              clear hb CS HBB
              go_wp2_with fail
              go_ret
              exact ⟨rfl, HBC.out⟩
            | some y =>
              obtain ⟨hfy, hty⟩ := text_of_parse hpt
              rw [show parseV t = y by unfold parseV; rw [hpt]; rfl, show parseE t = 0 by unfold parseE; rw [hpt]; rfl] at CP
              refine CP.mono ?_
              rintro e w12 ⟨xi, xp, rfl, hxi, hxp, hb⟩
              have H12 := hide (H11.out.to hb)
              have CT := fun (w' : World) (hb' : Below w12.heap.size w12 w') => Text_any y (formed_fit hfy) xi xp w' (HG.out.to (below_to H12.out.bel (Nat.le_refl _) hb')) (hxi.to hb') (hxp.to hb')
              rw [show textV y = t by unfold textV; rw [hfy]; exact hty, show textE y = 0 by unfold textE; rw [hfy]; rfl] at CT
              obtain ⟨Xi, xci, rfl, _⟩ := hxi.slice
              obtain ⟨Xp, xcp, rfl, _⟩ := hxp.slice
              clear hb CP H11 hxi hxp hpt hfy hty
              unfold Pg.cs at CT ⊢
              have HB12 := below_one w12 (.cells #[.int .i64 y.fr, .int .i64 y.size, .string (bs y.root), .slice Xi y.items.length xci, .slice Xp y.paths.length xcp] 25)
              have CT := CT _ HB12
              have HBB := hide (below_to H12.out.bel (Nat.le_refl _) HB12)
              have q : ((bs t).toList == (bs t).toList) = true := by simp
              clear HB12 H12
              go_wp2_with fail
              refine CT.mono ?_
              rintro e w13 ⟨rfl, hb⟩
              have HBC := hide (below_to HBB.out (Nat.le_refl _) hb)
              clear hb CT HBB
              go_wp2_with fail
              go_ret
              exact ⟨rfl, HBC.out⟩
      · have c0 : decide ((3000 : Int) < (t.length : Int)) = true := decide_eq_true (by omega)
        go_wp2_with (first | ((with_reducible refine CF.mono ?_); rintro e w4 ⟨rfl, hb⟩; have CG := CG w4 hb; have H4 := hide (H3.out.to hb); clear hb CF p0 p1 p2 p3 p4 q0 q1 q2 q3 q4 H3; obtain ⟨p0, p1, p2, p3, p4⟩ := page_cells H4.out.bP; obtain ⟨q0, q1, q2, q3, q4⟩ := page_cells H4.out.bQ) | ((with_reducible refine CG.mono ?_); rintro e w5 ⟨rfl, hb⟩; have H5 := hide (H4.out.to hb); clear hb CG p0 p1 p2 p3 p4 q0 q1 q2 q3 q4 H4))
        go_ret
        exact ⟨rfl, H5.out.bel⟩
end Go.Proofs.YtfhanbiifjiklaaGreatDoor

/- The walk of PageComplete. -/
set_option linter.unusedVariables false
set_option linter.unusedSimpArgs false
namespace Go.Proofs.YtfhanbiifjiklaaGreatDoor
open Go.RowKit

theorem NewL {items : List (List UInt8)} (h : Lg items) (w : World) (hg : Glob w) : Calls Tryz.prog 21 #[.string (bs (rootL items)), .int .i64 (items.length : Int)] w fun e w' => ∃ b, e = .returned (.tuple #[cliP b, .int .i64 0]) ∧ w.heap.size ≤ b ∧ CliAt b (rootL items) items.length [] (.slice none 0 0) w' ∧ Below w.heap.size w w' := by
  have := New_any (rootL items) (by rw [isD_len (root_isD items)]; decide) items.length w hg
  unfold NewR at this
  simp only [new_yes h, if_true] at this
  refine this.mono ?_
  rintro e w' ⟨⟨b, h1, h2, h3⟩, h4⟩
  exact ⟨b, h1, h2, h3, h4⟩
theorem rootL_any {items : List (List UInt8)} (h : Lg items) (v : Value) (w : World) (hv : TextsAt w v items) (hg : Glob w) : Calls Tryz.prog 22 #[v] w fun e w' => e = .returned (.string (bs (rootL items))) ∧ Below w.heap.size w w' := root_any items h.big.1 h.big.2 v w hv hg
/-- what a client keeps between two pages -/
structure CoI (w : World) (b : Nat) (items : List (List UInt8)) (k : Nat) (v : Value) (W : World) : Prop where
  bel : Below w.heap.size w W
  cli : CliAt b (rootL items) items.length (items.take k) v W
  ord : w.heap.size ≤ b
  le : k ≤ items.length
theorem CoI.to {w W W' : World} {b k : Nat} {items : List (List UInt8)} {v : Value} (h : CoI w b items k v W) (hb : Below W.heap.size W W') : CoI w b items k v W' := ⟨below_to h.bel (Nat.le_refl _) hb, h.cli.to hb, h.ord, h.le⟩
theorem CoI.acc {w W W' : World} {b k k' : Nat} {items : List (List UInt8)} {v v' : Value} (h : CoI w b items k v W) (hT : Two b (rowOr v b) W W') (hc : CliAt b (rootL items) items.length (items.take k') v' W') (hk : k' ≤ items.length) : CoI w b items k' v' W' := by
  have hr : b ≤ rowOr v b := rowOr_le (fun g e => by have := (h.cli.lt g e).1; omega) (Nat.le_refl _)
  exact ⟨h.bel.trans (hT.below h.bel.size h.ord (Nat.le_trans h.ord hr)), hc, h.ord, hk⟩
theorem CoI.next {w W : World} {b k : Nat} {items : List (List UInt8)} {v : Value} (h : CoI w b items k v W) (hl : Lg items) : Calls Tryz.prog 23 #[.pointer (some ⟨b, 0, none⟩)] W fun e w' => e = .returned (.int .i64 (k : Int)) ∧ Below W.heap.size W w' := by
  have := Next_any b _ _ (items.take k) (by have := hl.big.1; rw [List.length_take]; omega) v W h.cli
  rw [List.length_take, Nat.min_eq_left h.le] at this
  exact this
theorem CoI.its {w W : World} {b k : Nat} {items : List (List UInt8)} {v : Value} (h : CoI w b items k v W) (hl : Lg items) : Calls Tryz.prog 26 #[.pointer (some ⟨b, 0, none⟩)] W (ItemsR (items.take k) W) :=
  Items_any b _ _ (items.take k) (by have := hl.big.1; rw [List.length_take]; omega) v W h.cli
/-- a page of the log, wherever its arrays lie behind the client -/
theorem CoI.accept {w W : World} {b k F M lo hi : Nat} {items : List (List UInt8)} {v vi vp : Value} (h : CoI w b items k v W) (hl : Lg items) (hF : F ≤ items.length) (h2 : M ≤ 50) (hg : Glob w) (hp : PgAt lo hi W vi vp (pageV items F M)) (hlo : b < lo) (hv : ∀ g, v.ownBlock = some g → g < lo) :
    Calls Tryz.prog 24 #[.pointer (some ⟨b, 0, none⟩), .agg ((pageV items F M).cs vi vp)] W fun e w' => ∃ v', e = .returned (.int .i64 (if k < F then 13 else 0)) ∧ CoI w b items (if k < F then k else max k (min (F + M) items.length)) v' w' ∧ Two b (rowOr v b) W w' := by
  have C := Accept_any b (rootL items) items.length (items.take k) (by have := hl.big.1; rw [List.length_take]; omega) v (pageV items F M) (page_fit hl hF h2) vi vp W (hg.to h.bel) h.cli hp.ti hp.tp (fun _ e => by have := hp.bi b e; omega) (fun g e _ e2 => by have := hp.bi g e2; have := hv g e; omega)
  rw [page_accE hl hF h2 h.le, page_accV hl hF h2 h.le] at C
  refine C.mono ?_
  rintro e w' ⟨v', h1, h2, h3, _⟩
  exact ⟨v', h1, h.acc h3 h2 (by have := h.le; split <;> omega), h3⟩
set_option maxRecDepth 100000 in
set_option maxHeartbeats 4000000 in
theorem complete_law (items : List (List UInt8)) (hn : items.length ≤ 8796093022208) (hx : ∀ x ∈ items, x.length ≤ 140737488355328) (zs : List Nat) (hz : zs.length ≤ 140737488355328) (hz2 : ∀ z ∈ zs, z ≤ 255) (v vz : Value) (w : World) (hv : TextsAt w v items) (hvz : U8sAt w vz zs) (hg : Glob w) :
    Calls Tryz.prog 4 #[v, vz] w fun e w' => e = .returned (.bool true) ∧ Below w.heap.size w w' := by
  have HS := hide hv
  have HZ := hide hvz
  have HG := hide hg
  have CF := fun (w' : World) (hb : Below w.heap.size w w') => few_any items hn hx v w' (hv.to hb)
  obtain ⟨A, c, rfl, _⟩ := hv.slice
  obtain ⟨Az, cz, rfl, _⟩ := hvz.slice
  have C1 := head_any w hg
  clear hv hvz hg
  go_enter Tryz.func4, Tryz.ntmps4
  go_wp2_with fail
  refine C1.mono ?_
  rintro e w1 ⟨rfl, hb⟩
  have HB1 := hide hb
  have CF := CF w1 hb
  clear hb C1
  go_wp2_with fail
  refine CF.mono ?_
  rintro e w2 ⟨rfl, rfl⟩
  clear CF
  cases hfew : fewI items with
  | false =>
    go_wp2_with fail
    go_ret
    exact ⟨rfl, HB1.out⟩
  | true =>
    have HL := hide (fewI_lg hfew)
    have hlen := HL.out.len
    clear hfew
    go_wp2_with fail
    have C3 := rootL_any HL.out _ w2 (HS.out.to HB1.out) (HG.out.to HB1.out)
    refine C3.mono ?_
    rintro e w3 ⟨rfl, hb⟩
    have HB3 := hide (below_to HB1.out (Nat.le_refl _) hb)
    clear hb C3 HB1
    go_wp2_with fail
    have C4 := NewL HL.out w3 (HG.out.to HB3.out)
    unfold cliP at C4
    refine C4.mono ?_
    rintro e w4 ⟨b, rfl, hbb, hcl, hb⟩
    have H4 : Hid (CoI w b items 0 (.slice none 0 0) w4) := ⟨below_to HB3.out (Nat.le_refl _) hb, hcl, by have := HB3.out.size; omega, by omega⟩
    clear hb C4 HB3 hcl hbb
    go_wp2_with fail
    go_loopw [8] (fun i wr => ∃ (m k : Nat) (v' : Value), i = .int .i64 (m : Int) ∧ m ≤ items.length ∧ m ≤ k ∧ Aside (CoI w b items k v' wr)) (fun i _ => items.length - (intOf i).toNat)
    case atStart => exact ⟨0, 0, _, rfl, by omega, by omega, H4.out⟩
    case round =>
      clear H4
      obtain ⟨m, k, v', rfl, hm, hmk, hI⟩ := hrel
      have hI : Hid (CoI w b items k v' wr) := hI
      have hkn := hI.out.le
      by_cases hlt : m < items.length
      · have e1 : decide ((m : Int) < (items.length : Int)) = true := decide_eq_true (by omega)
        by_cases hmz : m < zs.length
        · have e2 : decide ((m : Int) < (zs.length : Int)) = true := decide_eq_true (by omega)
          obtain ⟨z, hz1⟩ : ∃ z, zs[m]? = some z := ⟨_, List.getElem?_eq_getElem hmz⟩
          have hzb := hz2 z (List.mem_of_getElem? hz1)
          obtain ⟨a, rfl, ha, c0⟩ := (HZ.out.to hI.out.bel).at_ hz1
          clear hz1
          have i0 : (0 : Int) ≤ (m : Int) := by omega
          have i1 : (m : Int) < (zs.length : Int) := by omega
          have hm1 : 1 ≤ 1 + z % 50 := by omega
          have hm2 : 1 + z % 50 ≤ 50 := by omega
          go_wp2_with fail
          have C5 := hI.out.next HL.out
          refine C5.mono ?_
          rintro e w5 ⟨rfl, hb⟩
          have H5 := hide (hI.out.to hb)
          clear hb C5 hI
          go_wp2_with fail
          have C6 := Serve_yes items HL.out.big.1 HL.out.big.2 k (1 + z % 50) (serve_yes HL.out H5.out.le hm1 hm2) _ w5 (HG.out.to H5.out.bel) (HS.out.to H5.out.bel)
          rw [show ((1 + z % 50 : Nat) : Int) = 1 + (z : Int) % 50 by omega] at C6
          unfold ServeR at C6
          refine C6.mono ?_
          rintro e w6 ⟨vi, vp, rfl, hpg, hb⟩
          have HP6 := hide hpg
          have H6 := hide (H5.out.to hb)
          have hvl := fun g e => (H5.out.cli.lt g e).2
          have hbl : b < w5.heap.size := H5.out.cli.blk.lt
          obtain ⟨Ai, ci, rfl, _⟩ := hpg.ti.slice
          obtain ⟨Ap, cp, rfl, _⟩ := hpg.tp.slice
          clear hb hpg C6 H5
          have HP7 := hide (HP6.out.to (below_one w6 (.cells ((pageV items k (1 + z % 50)).cs (.slice Ai (pageV items k (1 + z % 50)).items.length ci) (.slice Ap (pageV items k (1 + z % 50)).paths.length cp)) 25)))
          have H7 := hide (H6.out.to (below_one w6 (.cells ((pageV items k (1 + z % 50)).cs (.slice Ai (pageV items k (1 + z % 50)).items.length ci) (.slice Ap (pageV items k (1 + z % 50)).paths.length cp)) 25)))
          have C7 := H7.out.accept HL.out H7.out.le hm2 HG.out HP7.out hbl hvl
          rw [if_neg (Nat.lt_irrefl k), if_neg (Nat.lt_irrefl k)] at C7
          clear HP6 H6 HP7 hvl hbl
          unfold Pg.cs at C7 H7 ⊢
          go_wp2_with fail
          refine C7.mono ?_
          rintro e w8 ⟨v8, rfl, hI8, _⟩
          have H8 := hide hI8
          clear hI8 C7 H7
          go_wp2_with fail
          refine ⟨⟨m + 1, max k (min (k + (1 + z % 50)) items.length), _, by go_num, by omega, by omega, H8.out⟩, ?_⟩
          simp [intOf]; omega
        · have e2 : decide ((m : Int) < (zs.length : Int)) = false := decide_eq_false (by omega)
          go_wp2_with fail
          have C5 := hI.out.next HL.out
          refine C5.mono ?_
          rintro e w5 ⟨rfl, hb⟩
          have H5 := hide (hI.out.to hb)
          clear hb C5 hI
          go_wp2_with fail
          have C6 := Serve_yes items HL.out.big.1 HL.out.big.2 k (1) (serve_yes HL.out H5.out.le (Nat.le_refl 1) (by decide : 1 ≤ 50)) _ w5 (HG.out.to H5.out.bel) (HS.out.to H5.out.bel)
          have C6 : Calls Tryz.prog 14 #[.slice A items.length c, .int .i64 (k : Int), .int .i64 1] w5 _ := C6
          unfold ServeR at C6
          refine C6.mono ?_
          rintro e w6 ⟨vi, vp, rfl, hpg, hb⟩
          have HP6 := hide hpg
          have H6 := hide (H5.out.to hb)
          have hvl := fun g e => (H5.out.cli.lt g e).2
          have hbl : b < w5.heap.size := H5.out.cli.blk.lt
          obtain ⟨Ai, ci, rfl, _⟩ := hpg.ti.slice
          obtain ⟨Ap, cp, rfl, _⟩ := hpg.tp.slice
          clear hb hpg C6 H5
          have HP7 := hide (HP6.out.to (below_one w6 (.cells ((pageV items k (1)).cs (.slice Ai (pageV items k (1)).items.length ci) (.slice Ap (pageV items k (1)).paths.length cp)) 25)))
          have H7 := hide (H6.out.to (below_one w6 (.cells ((pageV items k (1)).cs (.slice Ai (pageV items k (1)).items.length ci) (.slice Ap (pageV items k (1)).paths.length cp)) 25)))
          have C7 := H7.out.accept HL.out H7.out.le (by decide : 1 ≤ 50) HG.out HP7.out hbl hvl
          rw [if_neg (Nat.lt_irrefl k), if_neg (Nat.lt_irrefl k)] at C7
          clear HP6 H6 HP7 hvl hbl
          unfold Pg.cs at C7 H7 ⊢
          go_wp2_with fail
          refine C7.mono ?_
          rintro e w8 ⟨v8, rfl, hI8, _⟩
          have H8 := hide hI8
          clear hI8 C7 H7
          go_wp2_with fail
          refine ⟨⟨m + 1, max k (min (k + (1)) items.length), _, by go_num, by omega, by have := (Nat.le_refl 1); omega, H8.out⟩, ?_⟩
          simp [intOf]; omega
      · obtain rfl : m = items.length := by omega
        obtain rfl : k = items.length := by omega
        have e1 : decide ((items.length : Int) < (items.length : Int)) = false := by simp
        go_wp2_with fail
        have C5 := hI.out.its HL.out
        unfold ItemsR at C5
        rw [List.take_length] at C5
        refine C5.mono ?_
        rintro e w5 ⟨v5, rfl, ho, hb⟩
        have H5 := hide (hI.out.to hb)
        have HT := hide (TextsAt.of_own ho)
        obtain ⟨A5, c5, rfl⟩ := own_sl4 ho
        clear hb C5 hI ho
        go_wp2_with fail
        have C6 : Calls Tryz.prog 25 #[.slice A5 items.length c5, .slice A items.length c] w5 fun e w' => e = .returned (.bool true) ∧ Below w5.heap.size w5 w' := by
          have := Same_any items items hn hn _ _ w5 HT.out (HS.out.to H5.out.bel)
          rwa [decide_eq_true rfl] at this
        refine C6.mono ?_
        rintro e w6 ⟨rfl, hb⟩
        have H6 := hide (H5.out.to hb)
        clear hb C6 H5 HT
        go_wp2_with fail
        have C7 := H6.out.next HL.out
        refine C7.mono ?_
        rintro e w7 ⟨rfl, hb⟩
        have H7 := hide (H6.out.to hb)
        clear hb C7 H6
        have hq : ((items.length : Int) == (items.length : Int)) = true := by simp
        go_wp2_with fail
        go_ret
        exact ⟨ret_bool (by simp), H7.out.bel⟩
end Go.Proofs.YtfhanbiifjiklaaGreatDoor

/- The walk of PageForgery. -/
set_option linter.unusedVariables false
set_option linter.unusedSimpArgs false
namespace Go.Proofs.YtfhanbiifjiklaaGreatDoor
open Go.RowKit Go.Shelf
attribute [local go_sem] Oper.semAt_some

/-- a page that came in, in a box of the call -/
structure FgI (w : World) (p : Pg) (vi vp : Value) (W : World) : Prop where
  bel : Below w.heap.size w W
  box : Blk W w.heap.size 25 (p.cs vi vp)
theorem FgI.to {w W W' : World} {p : Pg} {vi vp : Value} (h : FgI w p vi vp W) (hb : Below W.heap.size W W') : FgI w p vi vp W' := ⟨below_to h.bel (Nat.le_refl _) hb, h.box.to hb⟩
theorem FgI.two {w W W' : World} {p : Pg} {vi vp : Value} {b r : Nat} (h : FgI w p vi vp W) (hT : Two b r W W') (hb : w.heap.size < b) (hr : b ≤ r) : FgI w p vi vp W' := ⟨h.bel.trans (hT.below h.bel.size (by omega) (by omega)), hT.blk h.box (by omega) (by omega)⟩
theorem texts_far {w : World} {vi : Value} {ls : List (List UInt8)} (h : TextsAt w vi ls) {b : Nat} (hb : w.heap.size ≤ b) : ls ≠ [] → vi.ownBlock ≠ some b := fun hne e => by
  obtain ⟨x, hx⟩ : ∃ x, ls[0]? = some x := ⟨_, List.getElem?_eq_getElem (List.length_pos_iff.2 hne)⟩
  obtain ⟨A, c, rfl, _⟩ := h.slice
  obtain ⟨a, rfl, hl, _⟩ := h.at_ hx
  have : a.block = b := Option.some.inj e
  omega
theorem shown_app {D K : List (List UInt8)} (hc : CollIn (D ++ K)) (hn : D.length + K.length ≤ 1000000) (hD : ∀ s ∈ D, s.length ≤ 1000000) (hK : ∀ s ∈ K, s.length ≤ 1000000) (w : World) (v : Value) (hv : TextsAt w v (D ++ K)) : Calls Tryz.prog 29 #[v] w fun e w' => e = .returned (.bool true) ∧ Below w.heap.size w w' :=
  Shown_yes (D ++ K) (by rw [List.length_append]; exact hn) (fun x hx => (List.mem_append.1 hx).elim (hD x) (hK x)) hc v w hv
set_option maxRecDepth 100000 in
set_option maxHeartbeats 4000000 in
theorem forgery_law (items : List (List UInt8)) (hn : items.length ≤ 8796093022208) (hx : ∀ x ∈ items, x.length ≤ 140737488355328) (p : Pg) (hp : p.wide) (hpf : -9223372036854775808 ≤ p.fr ∧ p.fr ≤ 9223372036854775807) (hps : -9223372036854775808 ≤ p.size ∧ p.size ≤ 9223372036854775807) (v vi vp : Value) (w : World) (hv : TextsAt w v items) (hvi : TextsAt w vi p.items) (hvp : PathsAt w vp p.paths) (hg : Glob w) :
    Calls Tryz.prog 5 #[v, .agg (p.cs vi vp)] w fun e w' => e = .returned (.bool true) ∧ Below w.heap.size w w' := by
  have HS := hide hv
  have HG := hide hg
  have HVI := hide hvi
  have HVP := hide hvp
  have CF := fun (w' : World) (hb : Below w.heap.size w w') => few_any items hn hx v w' (hv.to hb)
  have CP := fun (w' : World) (hb : Below w.heap.size w w') => FewP_any p hp vi vp w' (hvi.to hb) (hvp.to hb)
  have H1 : Hid (FgI w p vi vp (w.alloc (.cells (p.cs vi vp) 25))) := ⟨below_one _ _, Blk.new _ _ _⟩
  obtain ⟨A, c, rfl, _⟩ := hv.slice
  obtain ⟨Ai, ci, rfl, _⟩ := hvi.slice
  obtain ⟨Ap, cp, rfl, _⟩ := hvp.slice
  clear hv hg hvi hvp
  unfold Pg.cs at CP H1 ⊢
  go_enter Tryz.func5, Tryz.ntmps5
  go_wp2_with fail
  generalize w.alloc (.cells #[.int .i64 p.fr, .int .i64 p.size, .string (bs p.root), .slice Ai p.items.length ci, .slice Ap p.paths.length cp] 25) = w1 at *
  have C1 := head_any w1 (HG.out.to H1.out.bel)
  refine C1.mono ?_
  rintro e w2 ⟨rfl, hb⟩
  have H2 := hide (H1.out.to hb)
  have CF := CF w2 H2.out.bel
  have CP := CP w2 H2.out.bel
  obtain ⟨x0, x1, x2, x3, x4⟩ := page_cells H2.out.box
  clear hb C1 H1
  have FIT := fun h => few_fit (p := p) h hpf hps
  cases hfew : fewI items with
  | false =>
    rw [hfew] at CF
    clear hfew
    go_wp2_with ((with_reducible refine CF.mono ?_); rintro e w3 ⟨rfl, e9⟩; subst e9)
    go_ret
    exact ⟨rfl, H2.out.bel⟩
  | true =>
    have HL := hide (fewI_lg hfew)
    rw [hfew] at CF
    clear hfew
    cases hfp : fewP p with
    | false =>
      rw [hfp] at CP
      clear hfp
      go_wp2_with (first | ((with_reducible refine CF.mono ?_); rintro e w3 ⟨rfl, e9⟩; subst e9) | ((with_reducible refine CP.mono ?_); rintro e w3 ⟨rfl, hb⟩; have H3 := hide (H2.out.to hb); clear hb))
      go_ret
      exact ⟨rfl, H3.out.bel⟩
    | true =>
      have HFT := hide (FIT hfp).1
      have HP6 := hide (FIT hfp).2.2
      rw [hfp] at CP
      clear hfp FIT
      go_wp2_with (first | ((with_reducible refine CF.mono ?_); rintro e w3 ⟨rfl, e9⟩; subst e9) | ((with_reducible refine CP.mono ?_); rintro e w3 ⟨rfl, hb⟩; have H3 := hide (H2.out.to hb); clear hb))
      clear CF CP x0 x1 x2 x3 x4
      have C3 := rootL_any HL.out _ w3 (HS.out.to H3.out.bel) (HG.out.to H3.out.bel)
      refine C3.mono ?_
      rintro e w4 ⟨rfl, hb⟩
      have H4 := hide (H3.out.to hb)
      have hlen := HL.out.len
      clear hb C3 H3 H2
      go_wp2_with fail
      have C4 := NewL HL.out w4 (HG.out.to H4.out.bel)
      unfold cliP at C4
      refine C4.mono ?_
      rintro e w5 ⟨b, rfl, hbb, hcl, hb⟩
      have H5 := hide (H4.out.to hb)
      have HC5 := hide hcl
      have hwb : w.heap.size < b := by have := H4.out.box.lt; omega
      clear hb C4 H4 hcl hbb
      obtain ⟨x0, x1, x2, x3, x4⟩ := page_cells H5.out.box
      go_wp2_with fail
      have C6 := Accept_any b (rootL items) items.length [] (by decide) (.slice none 0 0) p HFT.out (.slice Ai p.items.length ci) (.slice Ap p.paths.length cp) w5 (HG.out.to H5.out.bel) HC5.out (HVI.out.to H5.out.bel) (HVP.out.to H5.out.bel) (texts_far HVI.out (by omega)) (fun g e => by cases e)
      unfold AcceptR cliP Pg.cs at C6
      refine C6.mono ?_
      rintro e w6 ⟨v6, rfl, hcl, hT, _⟩
      have HF6 : Hid (FgI w p (.slice Ai p.items.length ci) (.slice Ap p.paths.length cp) w6) := H5.out.two hT hwb (Nat.le_refl _)
      have HC6 := hide hcl
      clear C6 hcl hT H5 HC5 x0 x1 x2 x3 x4
      by_cases hacc : accE p (rootL items) items.length [] = 0
      · obtain ⟨hfo, hho, hro, hso, hfz⟩ := acc_facts hacc
        have hfs := (formed_spec hfo).1
        have hfr0 : p.fr.toNat = 0 := by simp at hfz; omega
        have hfr1 : p.fr = 0 := by simp at hfz; omega
        have hav : accV p (rootL items) items.length [] = p.items := by unfold accV; rw [if_pos hacc]; simp
        rw [hav] at HC6
        rw [hacc]
        have hil := hfs.2.2.2.1
        have hlen2 : p.items.length ≤ items.length := by have := held_same hho; omega
        obtain ⟨x0, x1, x2, x3, x4⟩ := page_cells HF6.out.box
        have C7 : Calls Tryz.prog 27 #[.agg #[.int .i64 p.fr, .int .i64 p.size, .string (bs p.root), .slice Ai p.items.length ci, .slice Ap p.paths.length cp]] w6 fun e w' => e = .returned (.bool true) ∧ Below w6.heap.size w6 w' := Holds_yes p HFT.out hfo hho _ _ w6 (HVI.out.to HF6.out.bel) (HVP.out.to HF6.out.bel)
        have y1 : (p.size != (items.length : Int)) = false := by rw [hso]; simp
        have y2 : (p.fr != 0) = false := by rw [hfr1]; rfl
        have HFO := hide hfo
        have HHO := hide hho
        have HRO := hide hro
        have HSO := hide hso
        have HFR := hide hfr0
        have HLN := hide hlen2
        have HIL := hide hil
        clear hfo hho hro hso hfr0 hfr1 hlen2 hil hav hacc hfs hfz
        go_wp2_with fail
        refine C7.mono ?_
        rintro e w7 ⟨rfl, hb⟩
        have HFI := hide (HF6.out.to hb)
        have HC7 := hide (HC6.out.to hb)
        clear hb C7 HF6 HC6 x0 x1 x2 x3 x4
        obtain ⟨x0, x1, x2, x3, x4⟩ := page_cells HFI.out.box
        go_wp2_with fail
        clear x0 x1 x2 x3 x4
        have HBG : Hid (∀ W, Below w7.heap.size w7 W → Calls Tryz.prog 28 #[.slice A items.length c, .slice Ai p.items.length ci] W fun e w' => e = .returned (.bool (beginsV items p.items)) ∧ Below W.heap.size W w') := fun W h => Begins_any items p.items (by omega) (by have := HIL.out; omega) _ _ W ((HS.out.to HFI.out.bel).to h) ((HVI.out.to HFI.out.bel).to h)
        have HIT : Hid (∀ W, Below w7.heap.size w7 W → Calls Tryz.prog 26 #[.pointer (some ⟨b, 0, none⟩)] W (ItemsR p.items W)) := fun W h => Items_any b _ _ p.items (by have := HIL.out; omega) v6 W (HC7.out.to h)
        have HSS : Hid (∀ W, Below w7.heap.size w7 W → ∀ u, TextsAt W u p.items → Calls Tryz.prog 25 #[u, .slice Ai p.items.length ci] W fun e w' => e = .returned (.bool true) ∧ Below W.heap.size W w') := fun W h u hu => by
          have := Same_any p.items p.items (by have := HIL.out; omega) (by have := HIL.out; omega) u _ W hu ((HVI.out.to HFI.out.bel).to h)
          rwa [decide_eq_true rfl] at this
        clear HC7 y1 y2
        cases hB : beginsV items p.items with
        | true =>
          rw [hB] at HBG
          clear hB
          apply wp_region_lo3 (C := fun W => Below w7.heap.size w7 W) (V := [some _, some _, some _, some _, some _, some _, none, some _, some _, some _, some _]) (Fs := [(6, fun a W => ∃ v, a.tmps[59]? = some v ∧ TextsAt W v p.items)]) (Ns := []) (Rel := fun i b b' x x' => Below x.heap.size x x')
          case hm => kernel_rfl
          case hB => kernel_rfl
          case hCw => exact (Below.refl _ w7).drew
          case hC =>
            intro i a a' w_ w' hw hr
            have hr' : Below w_.heap.size w_ w' := hr
            exact below_to hw (Nat.le_refl _) hr'
          case hst =>
            refine keeps3_cons (fun i a a' w_ w' hne hwt hs hput hr h => by
              have hr' : Below w_.heap.size w_ w' := hr
              obtain ⟨v, h1, h2⟩ := h
              exact ⟨v, (hs 59 (by kernel_rfl)).trans h1, h2.to hr'⟩) ?_
            exact keeps3_nil
          case hN0 => exact pre0_nil
          case hNst =>
            exact prek_nil3
          case hop =>
            refine ⟨?_, ?_, ?_, ?_, ?_, ?_, ?_, ?_, ?_, ?_, ?_, trivial⟩
            · intro a w_ K hw hS hd hN hK
              have s0 := hS.at 0 (by kernel_rfl) rfl
              rw [if_pos (want_free rfl)]
              go_simp
              exact hK _ _ (Below.refl _ _) (vok rfl) (facts_cons (fun h => absurd h (by decide)) facts_nil)
            · intro a w_ K hw hS hd hN hK
              have s3 := hS.at 3 (by kernel_rfl) rfl
              rw [if_pos (want_free rfl)]
              go_simp
              exact hK _ _ (Below.refl _ _) (vok rfl) (facts_cons (fun h => absurd h (by decide)) facts_nil)
            · intro a w_ K hw hS hd hN hK
              have s54 := (waits_on hd 1 (by kernel_rfl)).at (d := 54) rfl rfl rfl
              rw [if_pos (want_free rfl)]
              obtain ⟨x0, x1, x2, x3, x4⟩ := page_cells (HFI.out.to hw).box
              go_simp
              exact hK _ _ (Below.refl _ _) (vok rfl) (facts_cons (fun h => absurd h (by decide)) facts_nil)
            · intro a w_ K hw hS hd hN hK
              have s53 := (waits_on hd 0 (by kernel_rfl)).at (d := 53) rfl rfl rfl
              have s55 := (waits_on hd 2 (by kernel_rfl)).at (d := 55) rfl rfl rfl
              rw [if_pos (want_free rfl)]
              go_simp
              with_reducible refine (HBG.out w_ hw).mono ?_
              rintro e w' ⟨rfl, hb⟩
              exact hK _ _ hb (vok rfl) (facts_cons (fun h => absurd h (by decide)) facts_nil)
            · intro a w_ K hw hS hd hN hK
              have s56 := (waits_on hd 3 (by kernel_rfl)).at (d := 56) rfl rfl rfl
              rw [if_pos (want_free rfl)]
              go_simp
              exact hK _ _ (Below.refl _ _) (vok rfl) (facts_cons (fun h => absurd h (by decide)) facts_nil)
            · intro a w_ K hw hS hd hN hK
              have s57 := (waits_on hd 4 (by kernel_rfl)).at (d := 57) rfl rfl rfl
              have s6 := hS.at 6 (by kernel_rfl) rfl
              rw [if_pos (want_yes rfl rfl rfl s57)]
              go_simp
              exact hK _ _ (Below.refl _ _) (vok rfl) (facts_cons (fun h => absurd h (by decide)) facts_nil)
            · intro a w_ K hw hS hd hN hK
              have s57 := (waits_on hd 4 (by kernel_rfl)).at (d := 57) rfl rfl rfl
              have s58 := (waits_on hd 5 (by kernel_rfl)).at (d := 58) rfl rfl rfl
              rw [if_pos (want_yes rfl rfl rfl s57)]
              go_simp
              refine (HIT.out w_ hw).mono ?_
              rintro e w' ⟨v7, rfl, ho7, hb7⟩
              exact hK _ _ hb7 (vfree rfl) (facts_cons (fun _ => ⟨v7, hS.put_at (by kernel_rfl) _, TextsAt.of_own ho7⟩) facts_nil)
            · intro a w_ K hw hS hd hN hK
              have s57 := (waits_on hd 4 (by kernel_rfl)).at (d := 57) rfl rfl rfl
              have s3 := hS.at 3 (by kernel_rfl) rfl
              rw [if_pos (want_yes rfl rfl rfl s57)]
              go_simp
              exact hK _ _ (Below.refl _ _) (vok rfl) (facts_cons (fun h => absurd h (by decide)) facts_nil)
            · intro a w_ K hw hS hd hN hK
              have s57 := (waits_on hd 4 (by kernel_rfl)).at (d := 57) rfl rfl rfl
              have s60 := (waits_on hd 7 (by kernel_rfl)).at (d := 60) rfl rfl rfl
              rw [if_pos (want_yes rfl rfl rfl s57)]
              obtain ⟨x0, x1, x2, x3, x4⟩ := page_cells (HFI.out.to hw).box
              go_simp
              exact hK _ _ (Below.refl _ _) (vok rfl) (facts_cons (fun h => absurd h (by decide)) facts_nil)
            · intro a w_ K hw hS hd hN hK
              have s57 := (waits_on hd 4 (by kernel_rfl)).at (d := 57) rfl rfl rfl
              obtain ⟨v59, s59, t59⟩ := (waits_on hd 6 (by kernel_rfl)).2 _ (List.mem_cons_self ..) rfl
              have s61 := (waits_on hd 8 (by kernel_rfl)).at (d := 61) rfl rfl rfl
              rw [if_pos (want_yes rfl rfl rfl s57)]
              go_simp
              with_reducible refine (HSS.out w_ hw v59 t59).mono ?_
              rintro e w' ⟨rfl, hb⟩
              exact hK _ _ hb (vok rfl) (facts_cons (fun h => absurd h (by decide)) facts_nil)
            · intro a w_ K hw hS hd hN hK
              have s57 := (waits_on hd 4 (by kernel_rfl)).at (d := 57) rfl rfl rfl
              have s62 := (waits_on hd 9 (by kernel_rfl)).at (d := 62) rfl rfl rfl
              rw [if_pos (want_free rfl)]
              go_simp
              exact hK _ _ (Below.refl _ _) (vok rfl) (facts_cons (fun h => absurd h (by decide)) facts_nil)
          case hfin =>
            intro a w8 hw hS hk
            have s53 := (hk 0 (by decide)).at (d := 53) rfl rfl rfl
            have s54 := (hk 1 (by decide)).at (d := 54) rfl rfl rfl
            have s55 := (hk 2 (by decide)).at (d := 55) rfl rfl rfl
            have s56 := (hk 3 (by decide)).at (d := 56) rfl rfl rfl
            have s57 := (hk 4 (by decide)).at (d := 57) rfl rfl rfl
            have s58 := (hk 5 (by decide)).at (d := 58) rfl rfl rfl
            obtain ⟨v59, s59, t59⟩ := (hk 6 (by decide)).2 _ (List.mem_cons_self ..) rfl
            have s60 := (hk 7 (by decide)).at (d := 60) rfl rfl rfl
            have s61 := (hk 8 (by decide)).at (d := 61) rfl rfl rfl
            have s62 := (hk 9 (by decide)).at (d := 62) rfl rfl rfl
            have s63 := (hk 10 (by decide)).at (d := 63) rfl rfl rfl
            have hlit := hS.lit _ (by kernel_rfl) (lits_cons s53 (lits_cons s54 (lits_cons s55 (lits_cons s56 (lits_cons s57 (lits_cons s58 (lits_cons s59 (lits_cons s60 (lits_cons s61 (lits_cons s62 (lits_cons s63 lits_nil)))))))))))
            rw [hlit]
            have HF8 := hide (HFI.out.to hw)
            clear hlit hk hS t59 hw
            simp only [litT, List.setIfInBounds_toArray, List.set_cons_succ, List.set_cons_zero]
            go_wp2_with fail
            go_ret
            exact ⟨rfl, HF8.out.bel⟩
        | false =>
          rw [hB] at HBG
          have HBB := hide hB
          clear hB HSS HIT
          apply wp_region_lo3 (C := fun W => Below w7.heap.size w7 W) (V := [some _, some _, some _, some _, some _, some _, some _, some _, some _, some _, some _]) (Fs := []) (Ns := []) (Rel := fun i b b' x x' => Below x.heap.size x x')
          case hm => kernel_rfl
          case hB => kernel_rfl
          case hCw => exact (Below.refl _ w7).drew
          case hC =>
            intro i a a' w_ w' hw hr
            have hr' : Below w_.heap.size w_ w' := hr
            exact below_to hw (Nat.le_refl _) hr'
          case hst =>
            exact keeps3_nil
          case hN0 => exact pre0_nil
          case hNst =>
            exact prek_nil3
          case hop =>
            refine ⟨?_, ?_, ?_, ?_, ?_, ?_, ?_, ?_, ?_, ?_, ?_, trivial⟩
            · intro a w_ K hw hS hd hN hK
              have s0 := hS.at 0 (by kernel_rfl) rfl
              rw [if_pos (want_free rfl)]
              go_simp
              exact hK _ _ (Below.refl _ _) (vok rfl) facts_nil
            · intro a w_ K hw hS hd hN hK
              have s3 := hS.at 3 (by kernel_rfl) rfl
              rw [if_pos (want_free rfl)]
              go_simp
              exact hK _ _ (Below.refl _ _) (vok rfl) facts_nil
            · intro a w_ K hw hS hd hN hK
              have s54 := (waits_on hd 1 (by kernel_rfl)).at (d := 54) rfl rfl rfl
              rw [if_pos (want_free rfl)]
              obtain ⟨x0, x1, x2, x3, x4⟩ := page_cells (HFI.out.to hw).box
              go_simp
              exact hK _ _ (Below.refl _ _) (vok rfl) facts_nil
            · intro a w_ K hw hS hd hN hK
              have s53 := (waits_on hd 0 (by kernel_rfl)).at (d := 53) rfl rfl rfl
              have s55 := (waits_on hd 2 (by kernel_rfl)).at (d := 55) rfl rfl rfl
              rw [if_pos (want_free rfl)]
              go_simp
              with_reducible refine (HBG.out w_ hw).mono ?_
              rintro e w' ⟨rfl, hb⟩
              exact hK _ _ hb (vok rfl) facts_nil
            · intro a w_ K hw hS hd hN hK
              have s56 := (waits_on hd 3 (by kernel_rfl)).at (d := 56) rfl rfl rfl
              rw [if_pos (want_free rfl)]
              go_simp
              exact hK _ _ (Below.refl _ _) (vok rfl) facts_nil
            · intro a w_ K hw hS hd hN hK
              have s57 := (waits_on hd 4 (by kernel_rfl)).at (d := 57) rfl rfl rfl
              rw [if_neg (want_no rfl rfl rfl s57 rfl)]
              exact hK _ _ (Below.refl _ _) (vok rfl) facts_nil
            · intro a w_ K hw hS hd hN hK
              have s57 := (waits_on hd 4 (by kernel_rfl)).at (d := 57) rfl rfl rfl
              rw [if_neg (want_no rfl rfl rfl s57 rfl)]
              exact hK _ _ (Below.refl _ _) (vok rfl) facts_nil
            · intro a w_ K hw hS hd hN hK
              have s57 := (waits_on hd 4 (by kernel_rfl)).at (d := 57) rfl rfl rfl
              rw [if_neg (want_no rfl rfl rfl s57 rfl)]
              exact hK _ _ (Below.refl _ _) (vok rfl) facts_nil
            · intro a w_ K hw hS hd hN hK
              have s57 := (waits_on hd 4 (by kernel_rfl)).at (d := 57) rfl rfl rfl
              rw [if_neg (want_no rfl rfl rfl s57 rfl)]
              exact hK _ _ (Below.refl _ _) (vok rfl) facts_nil
            · intro a w_ K hw hS hd hN hK
              have s57 := (waits_on hd 4 (by kernel_rfl)).at (d := 57) rfl rfl rfl
              rw [if_neg (want_no rfl rfl rfl s57 rfl)]
              exact hK _ _ (Below.refl _ _) (vok rfl) facts_nil
            · intro a w_ K hw hS hd hN hK
              have s57 := (waits_on hd 4 (by kernel_rfl)).at (d := 57) rfl rfl rfl
              have s62 := (waits_on hd 9 (by kernel_rfl)).at (d := 62) rfl rfl rfl
              rw [if_pos (want_free rfl)]
              go_simp
              exact hK _ _ (Below.refl _ _) (vok rfl) facts_nil
          case hfin =>
            intro a w8 hw hS hk
            have s53 := (hk 0 (by decide)).at (d := 53) rfl rfl rfl
            have s54 := (hk 1 (by decide)).at (d := 54) rfl rfl rfl
            have s55 := (hk 2 (by decide)).at (d := 55) rfl rfl rfl
            have s56 := (hk 3 (by decide)).at (d := 56) rfl rfl rfl
            have s57 := (hk 4 (by decide)).at (d := 57) rfl rfl rfl
            have s58 := (hk 5 (by decide)).at (d := 58) rfl rfl rfl
            have s59 := (hk 6 (by decide)).at (d := 59) rfl rfl rfl
            have s60 := (hk 7 (by decide)).at (d := 60) rfl rfl rfl
            have s61 := (hk 8 (by decide)).at (d := 61) rfl rfl rfl
            have s62 := (hk 9 (by decide)).at (d := 62) rfl rfl rfl
            have s63 := (hk 10 (by decide)).at (d := 63) rfl rfl rfl
            have hlit := hS.lit _ (by kernel_rfl) (lits_cons s53 (lits_cons s54 (lits_cons s55 (lits_cons s56 (lits_cons s57 (lits_cons s58 (lits_cons s59 (lits_cons s60 (lits_cons s61 (lits_cons s62 (lits_cons s63 lits_nil)))))))))))
            rw [hlit]
            have HF8 := hide (HFI.out.to hw)
            clear hlit hk hS hw
            simp only [litT, List.setIfInBounds_toArray, List.set_cons_succ, List.set_cons_zero]
            go_wp2_with fail
            have hfo := HFO.out
            have hho := HHO.out
            have hro := HRO.out
            have hso := HSO.out
            have hfr0 := HFR.out
            have hlen2 := HLN.out
            have hil := HIL.out
            have hB := HBB.out
            have HDG := hide (fun (W : World) (h : Below w8.heap.size w8 W) => Digested_any items HL.out.big.1 HL.out.big.2 (.slice A items.length c) W ((HS.out.to HF8.out.bel).to h))
            have HCK : Hid (∀ W : World, Below w8.heap.size w8 W → Calls Tryz.prog 31 #[.agg #[.int .i64 p.fr, .int .i64 p.size, .string (bs p.root), .slice Ai p.items.length ci, .slice Ap p.paths.length cp]] W (LvR (checkedV p) W)) := fun W h => Checked_any p HFT.out hfo hho _ _ W ((HVI.out.to HF8.out.bel).to h) ((HVP.out.to HF8.out.bel).to h)
            have hdl := dig_len items
            have hcl := chk_len p p.items.length
            have hcl2 : (checkedV p).length ≤ 50 * 10001 := Nat.le_trans hcl (Nat.mul_le_mul hil (by omega))
            have HSH := hide (shown_app (D := digestedV items) (K := checkedV p) (coll_in (by
              obtain ⟨k, x, y, h1, h2, h3⟩ := begins_no hlen2 hB
              exact held_sound hfo hho hro hso (k := k) h2 (by rw [hfr0]; simpa using h1) h3)) (by omega) (dig_small (fun x hx => by have := HL.out.lx x hx; omega)) (chk_small (fun x hx => by have := HP6.out x hx; omega) (fun q hq x hx => by have := (formed_len hfo).1 q hq; rw [this.2 x hx]; decide)))
            clear hcl hB
            clear hfo hho hro hso hfr0 hlen2 hil HFO HHO HRO HSO HFR HLN HIL HBB
            apply wp_region_lo3 (C := fun W => Below w8.heap.size w8 W) (V := [some _, some _, some _, none, some _, none, none, some _, some _, some _]) (Fs := [(3, fun a W => ∃ v, a.tmps[68]? = some v ∧ (a.tmps[71]? = some undef → OwnT W w8.heap.size v (digestedV items))), (5, fun a W => ∃ v, a.tmps[70]? = some v ∧ (a.tmps[71]? = some undef → TextsAt W v (checkedV p))), (6, fun a W => ∃ v, a.tmps[71]? = some v ∧ TextsAt W v (digestedV items ++ checkedV p))]) (Ns := [(6, fun a (_ : World) => a.tmps[71]? = some undef)]) (Rel := fun i b b' x x' => if i = 6 then (fun b b' x x' => ¬ b'.tmps[71]? = some undef ∧ ∃ r, World.grownBy x x' r ∧ ∀ g, r = some g → w8.heap.size ≤ g) b b' x x' else Below x.heap.size x x')
            case hm => kernel_rfl
            case hB => kernel_rfl
            case hCw => exact (Below.refl _ w8).drew
            case hC =>
              intro i a a' w_ w' hw hr
              by_cases e6 : i = 6
              · subst e6
                have hr' : (fun b b' x x' => ¬ b'.tmps[71]? = some undef ∧ ∃ r, World.grownBy x x' r ∧ ∀ g, r = some g → w8.heap.size ≤ g) a a' w_ w' := hr
                obtain ⟨_, r, hg, hv⟩ := hr'
                exact hw.trans (below_grown hg hw.size hv)
              have hr' : Below w_.heap.size w_ w' := by simpa [e6] using hr
              exact below_to hw (Nat.le_refl _) hr'
            case hst =>
              refine keeps3_cons (fun i a a' w_ w' hne hwt hs hput hr h => by
                by_cases e6 : i = 6
                · subst e6
                  have hr' : (fun b b' x x' => ¬ b'.tmps[71]? = some undef ∧ ∃ r, World.grownBy x x' r ∧ ∀ g, r = some g → w8.heap.size ≤ g) a a' w_ w' := hr
                  obtain ⟨v, h1, _⟩ := h
                  exact ⟨v, (hs 68 (by kernel_rfl)).trans h1, fun e => absurd e hr'.1⟩
                have hr' : Below w_.heap.size w_ w' := by simpa [e6] using hr
                obtain ⟨v, h1, h2⟩ := h
                exact ⟨v, (hs 68 (by kernel_rfl)).trans h1, fun e => own_to4 (h2 ((other_slot (d := 71) (k := 6) (by kernel_rfl) hput e6).symm.trans e)) hr'⟩) ?_
              refine keeps3_cons (fun i a a' w_ w' hne hwt hs hput hr h => by
                by_cases e6 : i = 6
                · subst e6
                  have hr' : (fun b b' x x' => ¬ b'.tmps[71]? = some undef ∧ ∃ r, World.grownBy x x' r ∧ ∀ g, r = some g → w8.heap.size ≤ g) a a' w_ w' := hr
                  obtain ⟨v, h1, _⟩ := h
                  exact ⟨v, (hs 70 (by kernel_rfl)).trans h1, fun e => absurd e hr'.1⟩
                have hr' : Below w_.heap.size w_ w' := by simpa [e6] using hr
                obtain ⟨v, h1, h2⟩ := h
                exact ⟨v, (hs 70 (by kernel_rfl)).trans h1, fun e => (h2 ((other_slot (d := 71) (k := 6) (by kernel_rfl) hput e6).symm.trans e)).to hr'⟩) ?_
              refine keeps3_cons (fun i a a' w_ w' hne hwt hs hput hr h => by
                by_cases e6 : i = 6
                · exact absurd e6 hne
                have hr' : Below w_.heap.size w_ w' := by simpa [e6] using hr
                obtain ⟨v, h1, h2⟩ := h
                exact ⟨v, (hs 71 (by kernel_rfl)).trans h1, h2.to hr'⟩) ?_
              exact keeps3_nil
            case hN0 => exact pre0_cons (rfl) (pre0_nil)
            case hNst =>
              refine prek_cons3 (fun i a a' w_ w' hne hwt hr h hput => by
                by_cases e6 : i = 6
                · exact absurd e6 hne
                have hr' : Below w_.heap.size w_ w' := by simpa [e6] using hr
                exact (other_slot (d := 71) (k := 6) (by kernel_rfl) hput e6).trans h) ?_
              exact prek_nil3
            case hop =>
              refine ⟨?_, ?_, ?_, ?_, ?_, ?_, ?_, ?_, ?_, ?_, trivial⟩
              · intro a w_ K hw hS hd hN hK
                have s5 := hS.at 5 (by kernel_rfl) rfl
                rw [if_pos (want_free rfl)]
                go_simp
                exact hK _ _ (Below.refl _ _) (vok rfl) (facts_cons (fun h => absurd h (by decide)) (facts_cons (fun h => absurd h (by decide)) (facts_cons (fun h => absurd h (by decide)) facts_nil)))
              · intro a w_ K hw hS hd hN hK
                have s65 := (waits_on hd 0 (by kernel_rfl)).at (d := 65) rfl rfl rfl
                rw [if_pos (want_free rfl)]
                go_simp
                exact hK _ _ (Below.refl _ _) (vok rfl) (facts_cons (fun h => absurd h (by decide)) (facts_cons (fun h => absurd h (by decide)) (facts_cons (fun h => absurd h (by decide)) facts_nil)))
              · intro a w_ K hw hS hd hN hK
                have s66 := (waits_on hd 1 (by kernel_rfl)).at (d := 66) rfl rfl rfl
                have s0 := hS.at 0 (by kernel_rfl) rfl
                rw [if_pos (want_yes rfl rfl rfl s66)]
                go_simp
                exact hK _ _ (Below.refl _ _) (vok rfl) (facts_cons (fun h => absurd h (by decide)) (facts_cons (fun h => absurd h (by decide)) (facts_cons (fun h => absurd h (by decide)) facts_nil)))
              · intro a w_ K hw hS hd hN hK
                have s66 := (waits_on hd 1 (by kernel_rfl)).at (d := 66) rfl rfl rfl
                have s67 := (waits_on hd 2 (by kernel_rfl)).at (d := 67) rfl rfl rfl
                rw [if_pos (want_yes rfl rfl rfl s66)]
                go_simp
                refine (HDG.out w_ hw).mono ?_
                rintro e w' ⟨v7, rfl, ho7, hb7⟩
                exact hK _ _ hb7 (vfree rfl) (facts_cons (fun _ => ⟨v7, hS.put_at (by kernel_rfl) _, fun _ => own_less ho7 hw.size⟩) (facts_cons (fun h => absurd h (by decide)) (facts_cons (fun h => absurd h (by decide)) facts_nil)))
              · intro a w_ K hw hS hd hN hK
                have s66 := (waits_on hd 1 (by kernel_rfl)).at (d := 66) rfl rfl rfl
                have s3 := hS.at 3 (by kernel_rfl) rfl
                rw [if_pos (want_yes rfl rfl rfl s66)]
                obtain ⟨x0, x1, x2, x3, x4⟩ := page_cells (HF8.out.to hw).box
                go_simp
                exact hK _ _ (Below.refl _ _) (vok rfl) (facts_cons (fun h => absurd h (by decide)) (facts_cons (fun h => absurd h (by decide)) (facts_cons (fun h => absurd h (by decide)) facts_nil)))
              · intro a w_ K hw hS hd hN hK
                have s66 := (waits_on hd 1 (by kernel_rfl)).at (d := 66) rfl rfl rfl
                have s69 := (waits_on hd 4 (by kernel_rfl)).at (d := 69) rfl rfl rfl
                rw [if_pos (want_yes rfl rfl rfl s66)]
                go_simp
                refine (HCK.out w_ hw).mono ?_
                rintro e w' ⟨v7, rfl, ho7, hb7⟩
                exact hK _ _ hb7 (vfree rfl) (facts_cons (fun h => absurd h (by decide)) (facts_cons (fun _ => ⟨v7, hS.put_at (by kernel_rfl) _, fun _ => TextsAt.of_own ho7⟩) (facts_cons (fun h => absurd h (by decide)) facts_nil)))
              · intro a w_ K hw hS hd hN hK
                have s66 := (waits_on hd 1 (by kernel_rfl)).at (d := 66) rfl rfl rfl
                obtain ⟨v68, s68, f68⟩ := (waits_on hd 3 (by kernel_rfl)).2 _ (List.mem_cons_self ..) rfl
                obtain ⟨v70, s70, f70⟩ := (waits_on hd 5 (by kernel_rfl)).2 _ (List.mem_cons_of_mem _ (List.mem_cons_self ..)) rfl
                have hu71 := hN _ (List.mem_cons_self ..) rfl
                rw [if_pos (want_yes rfl rfl rfl s66)]
                refine wp_append_texts (.tmp 68) (.tmp 70) rfl w8.heap.size v68 (digestedV items) (eval_at s68) (f68 hu71) v70 (checkedV p) (eval_at s70) (f70 hu71) (by omega) hw.size ?_
                intro v8 w' ho hg hne
                have hp71 := hS.put_at (s := 71) (by kernel_rfl) v8
                exact hK v8 w' ⟨fun e => hne (Option.some.inj (hp71.symm.trans e)), _, hg, fun g e => (own_blk_lt (f68 hu71) g e).1⟩ (vfree rfl) (facts_cons (fun h => absurd h (by decide)) (facts_cons (fun h => absurd h (by decide)) (facts_cons (fun _ => ⟨v8, hp71, TextsAt.of_own ho⟩) facts_nil)))
              · intro a w_ K hw hS hd hN hK
                have s66 := (waits_on hd 1 (by kernel_rfl)).at (d := 66) rfl rfl rfl
                obtain ⟨v71, s71, t71⟩ := (waits_on hd 6 (by kernel_rfl)).2 _ (List.mem_cons_of_mem _ (List.mem_cons_of_mem _ (List.mem_cons_self ..))) rfl
                rw [if_pos (want_yes rfl rfl rfl s66)]
                go_simp
                with_reducible refine (HSH.out w_ v71 t71).mono ?_
                rintro e w' ⟨rfl, hb⟩
                exact hK _ _ hb (vok rfl) (facts_cons (fun h => absurd h (by decide)) (facts_cons (fun h => absurd h (by decide)) (facts_cons (fun h => absurd h (by decide)) facts_nil)))
              · intro a w_ K hw hS hd hN hK
                have s66 := (waits_on hd 1 (by kernel_rfl)).at (d := 66) rfl rfl rfl
                have s72 := (waits_on hd 7 (by kernel_rfl)).at (d := 72) rfl rfl rfl
                rw [if_pos (want_free rfl)]
                go_simp
                exact hK _ _ (Below.refl _ _) (vok rfl) (facts_cons (fun h => absurd h (by decide)) (facts_cons (fun h => absurd h (by decide)) (facts_cons (fun h => absurd h (by decide)) facts_nil)))
              · intro a w_ K hw hS hd hN hK
                have s73 := (waits_on hd 8 (by kernel_rfl)).at (d := 73) rfl rfl rfl
                rw [if_pos (want_free rfl)]
                go_simp
                exact hK _ _ (Below.refl _ _) (vok rfl) (facts_cons (fun h => absurd h (by decide)) (facts_cons (fun h => absurd h (by decide)) (facts_cons (fun h => absurd h (by decide)) facts_nil)))
            case hfin =>
              intro a w9 hw hS hk
              have s65 := (hk 0 (by decide)).at (d := 65) rfl rfl rfl
              have s66 := (hk 1 (by decide)).at (d := 66) rfl rfl rfl
              have s67 := (hk 2 (by decide)).at (d := 67) rfl rfl rfl
              obtain ⟨v68, s68, f68⟩ := (hk 3 (by decide)).2 _ (List.mem_cons_self ..) rfl
              have s69 := (hk 4 (by decide)).at (d := 69) rfl rfl rfl
              obtain ⟨v70, s70, f70⟩ := (hk 5 (by decide)).2 _ (List.mem_cons_of_mem _ (List.mem_cons_self ..)) rfl
              obtain ⟨v71, s71, t71⟩ := (hk 6 (by decide)).2 _ (List.mem_cons_of_mem _ (List.mem_cons_of_mem _ (List.mem_cons_self ..))) rfl
              have s72 := (hk 7 (by decide)).at (d := 72) rfl rfl rfl
              have s73 := (hk 8 (by decide)).at (d := 73) rfl rfl rfl
              have s4 := (hk 9 (by decide)).at (d := 4) rfl rfl rfl
              have hlit := hS.lit _ (by kernel_rfl) (lits_cons s65 (lits_cons s66 (lits_cons s67 (lits_cons s68 (lits_cons s69 (lits_cons s70 (lits_cons s71 (lits_cons s72 (lits_cons s73 (lits_cons s4 lits_nil))))))))))
              rw [hlit]
              have HF9 := hide (below_to HF8.out.bel (Nat.le_refl _) hw)
              clear hlit hk hS f68 f70 t71 hw
              simp only [litT, List.setIfInBounds_toArray, List.set_cons_succ, List.set_cons_zero]
              go_wp2_with fail
              go_ret
              exact ⟨rfl, HF9.out⟩
      · have hav : accV p (rootL items) items.length [] = [] := by unfold accV; rw [if_neg hacc]
        rw [hav] at HC6
        have ha0 : (accE p (rootL items) items.length [] != 0) = true := by rw [bne_iff_ne]; exact hacc
        generalize accE p (rootL items) items.length [] = E at *
        clear hav hacc
        have C7 := Next_any b _ _ [] (by decide) v6 w6 HC6.out
        unfold cliP at C7
        have HC6' := HC6
        go_wp2_with ((with_reducible refine C7.mono ?_); rintro e w7 ⟨rfl, hb⟩; have HF7 := hide (HF6.out.to hb); clear hb)
        go_ret
        exact ⟨rfl, HF7.out.bel⟩
end Go.Proofs.YtfhanbiifjiklaaGreatDoor

/- The walk of PageMatchesReference. -/
set_option linter.unusedVariables false
set_option linter.unusedSimpArgs false
namespace Go.Proofs.YtfhanbiifjiklaaGreatDoor
open Go.RowKit Go.Shelf

/-- a page in a box of the call -/
structure BxP (b : Nat) (X : Pg) (vi vp : Value) (W : World) : Prop where
  blk : Blk W b 25 (X.cs vi vp)
  ti : TextsAt W vi X.items
  tp : PathsAt W vp X.paths
theorem BxP.to {b : Nat} {X : Pg} {vi vp : Value} {W W' : World} (h : BxP b X vi vp W) (hb : Below W.heap.size W W') : BxP b X vi vp W' := ⟨h.blk.to hb, h.ti.to hb, h.tp.to hb⟩
theorem BxP.new {X : Pg} {vi vp : Value} {W : World} (h1 : TextsAt W vi X.items) (h2 : PathsAt W vp X.paths) : BxP W.heap.size X vi vp (W.alloc (.cells (X.cs vi vp) 25)) := ⟨Blk.new _ _ _, h1.to (below_one _ _), h2.to (below_one _ _)⟩
theorem serve_wide {items : List (List UInt8)} (h : Lg items) (fr most : Int) : (serveV items fr most).wide := by
  unfold serveV
  cases hs : serveB items fr most with
  | false => exact fit_wide no_fit
  | true =>
    rw [if_pos rfl]
    unfold serveB at hs
    simp only [Bool.and_eq_true, decide_eq_true_eq] at hs
    exact fit_wide (page_fit h (by omega) (by omega))
set_option maxRecDepth 100000 in
set_option maxHeartbeats 4000000 in
theorem matches_law (items : List (List UInt8)) (hn : items.length ≤ 8796093022208) (hx : ∀ x ∈ items, x.length ≤ 140737488355328) (fr most : Int) (p : Pg) (hp : p.wide) (hpf : -9223372036854775808 ≤ p.fr ∧ p.fr ≤ 9223372036854775807) (hps : -9223372036854775808 ≤ p.size ∧ p.size ≤ 9223372036854775807) (t : List UInt8) (ht : t.length ≤ 140737488355328) (v vi vp : Value) (w : World) (hv : TextsAt w v items) (hvi : TextsAt w vi p.items) (hvp : PathsAt w vp p.paths) (hg : Glob w) :
    Calls Tryz.prog 3 #[v, .int .i64 fr, .int .i64 most, .agg (p.cs vi vp), .string (bs t)] w fun e w' => e = .returned (.bool true) ∧ Below w.heap.size w w' := by
  have HS := hide hv
  have HG := hide hg
  have HVI := hide hvi
  have HVP := hide hvp
  have CF := fun (w' : World) (hb : Below w.heap.size w w') => few_any items hn hx v w' (hv.to hb)
  have CP := fun (w' : World) (hb : Below w.heap.size w w') => FewP_any p hp vi vp w' (hvi.to hb) (hvp.to hb)
  have H1 : Hid (FgI w p vi vp (w.alloc (.cells (p.cs vi vp) 25))) := ⟨below_one _ _, Blk.new _ _ _⟩
  obtain ⟨A, c, rfl, _⟩ := hv.slice
  obtain ⟨Ai, ci, rfl, _⟩ := hvi.slice
  obtain ⟨Ap, cp, rfl, _⟩ := hvp.slice
  have hsz : (bs t).size = t.length := bs_size t
  clear hv hg hvi hvp
  unfold Pg.cs at CP H1 ⊢
  go_enter Tryz.func3, Tryz.ntmps3
  go_wp2_with fail
  generalize w.alloc (.cells #[.int .i64 p.fr, .int .i64 p.size, .string (bs p.root), .slice Ai p.items.length ci, .slice Ap p.paths.length cp] 25) = w1 at *
  have C1 := head_any w1 (HG.out.to H1.out.bel)
  refine C1.mono ?_
  rintro e w2 ⟨rfl, hb⟩
  have H2 := hide (H1.out.to hb)
  have CF := CF w2 H2.out.bel
  have CP := CP w2 H2.out.bel
  obtain ⟨x0, x1, x2, x3, x4⟩ := page_cells H2.out.box
  clear hb C1 H1
  have FIT := fun h => few_fit (p := p) h hpf hps
  cases hfew : fewI items with
  | false =>
    rw [hfew] at CF
    clear hfew
    go_wp2_with ((with_reducible refine CF.mono ?_); rintro e w3 ⟨rfl, e9⟩; subst e9)
    go_ret
    exact ⟨rfl, H2.out.bel⟩
  | true =>
    have HL := hide (fewI_lg hfew)
    rw [hfew] at CF
    clear hfew
    cases hfp : fewP p with
    | false =>
      rw [hfp] at CP
      clear hfp
      go_wp2_with (first | ((with_reducible refine CF.mono ?_); rintro e w3 ⟨rfl, e9⟩; subst e9) | ((with_reducible refine CP.mono ?_); rintro e w3 ⟨rfl, hb⟩; have H3 := hide (H2.out.to hb); clear hb))
      go_ret
      exact ⟨rfl, H3.out.bel⟩
    | true =>
      have HFT := hide (FIT hfp).1
      rw [hfp] at CP
      clear hfp FIT
      by_cases h3000 : 3000 < t.length
      · have e0 : decide ((3000 : Int) < (t.length : Int)) = true := decide_eq_true (by omega)
        have e0' : decide (3000 < t.length) = true := decide_eq_true h3000
        go_wp2_with (first | ((with_reducible refine CF.mono ?_); rintro e w3 ⟨rfl, e9⟩; subst e9) | ((with_reducible refine CP.mono ?_); rintro e w3 ⟨rfl, hb⟩; have H3 := hide (H2.out.to hb); clear hb))
        go_ret
        exact ⟨rfl, H3.out.bel⟩
      · have e0 : decide ((3000 : Int) < (t.length : Int)) = false := decide_eq_false (by omega)
        have e0' : decide (3000 < t.length) = false := decide_eq_false h3000
        go_wp2_with (first | ((with_reducible refine CF.mono ?_); rintro e w3 ⟨rfl, e9⟩; subst e9) | ((with_reducible refine CP.mono ?_); rintro e w3 ⟨rfl, hb⟩; have H3 := hide (H2.out.to hb); clear hb))
        clear CF CP x0 x1 x2 x3 x4 H2
        obtain ⟨X, hX⟩ : ∃ X, serveV items fr most = X := ⟨_, rfl⟩
        obtain ⟨E, hE⟩ : ∃ E, serveE items fr most = E := ⟨_, rfl⟩
        have hXw : X.wide := by rw [← hX]; exact serve_wide HL.out fr most
        obtain ⟨Y, hY⟩ : ∃ Y, parseV t = Y := ⟨_, rfl⟩
        obtain ⟨G, hG⟩ : ∃ G, parseE t = G := ⟨_, rfl⟩
        have hYw : Y.wide := by rw [← hY]; exact fit_wide (parseV_fit t)
        obtain ⟨S, hS⟩ : ∃ S, textV p = S := ⟨_, rfl⟩
        obtain ⟨K, hK⟩ : ∃ K, textE p = K := ⟨_, rfl⟩
        have CSV := fun (w' : World) (hb : Below w.heap.size w w') => Serve_any items HL.out.big.1 HL.out.big.2 fr most (.slice A items.length c) w' (HG.out.to hb) (HS.out.to hb)
        have CRS := fun (w' : World) (hb : Below w.heap.size w w') => rServe_any items HL.out.big.1 HL.out.big.2 fr most (.slice A items.length c) w' (HS.out.to hb)
        have CT := fun (w' : World) (hb : Below w.heap.size w w') => Text_any p HFT.out (.slice Ai p.items.length ci) (.slice Ap p.paths.length cp) w' (HG.out.to hb) (HVI.out.to hb) (HVP.out.to hb)
        have CRT := fun (w' : World) (hb : Below w.heap.size w w') => rText_any p HFT.out (.slice Ai p.items.length ci) (.slice Ap p.paths.length cp) w' (HVI.out.to hb) (HVP.out.to hb)
        have CPR := fun (w' : World) (hb : Below w.heap.size w w') => Parse_any t (by omega) w' (HG.out.to hb)
        have CRP := fun w' : World => rParse_any t (by omega) w'
        unfold ParseR at CPR CRP
        unfold ServeR at CSV
        unfold RServeR at CRS
        rw [hX, hE] at CSV CRS
        rw [hS, hK] at CT CRT
        rw [hY, hG] at CPR CRP
        unfold Pg.cs at CT CRT
        clear hX hE hY hG hS hK
        have HSV := hide CSV
        have HRS := hide CRS
        have HCT := hide CT
        have HRT := hide CRT
        have HPR := hide CPR
        have HRP := hide CRP
        clear CSV CRS CT CRT CPR CRP
        have C := HSV.out w3 H3.out.bel
        with_reducible refine C.mono ?_
        rintro e w4 ⟨vi', vp', rfl, hpg, hb⟩
        have t1 := hpg.ti
        have t2 := hpg.tp
        obtain ⟨aI, aci, rfl, _⟩ := t1.slice
        obtain ⟨aP, acp, rfl, _⟩ := t2.slice
        clear C
        have H4 := hide (H3.out.to hb)
        clear H3
        have hbx := below_one w4 (.cells (X.cs (.slice aI X.items.length aci) (.slice aP X.paths.length acp)) 25)
        have Za5 := hide (BxP.new t1 t2)
        have H5 := hide (H4.out.to hbx)
        clear H4 hbx t1 t2 hb
        unfold Pg.cs at *
        go_wp2_with fail
        generalize w4.alloc (.cells #[.int .i64 X.fr, .int .i64 X.size, .string (bs X.root), .slice aI X.items.length aci, .slice aP X.paths.length acp] 25) = w5 at *
        have C := HRS.out w5 H5.out.bel
        with_reducible refine C.mono ?_
        rintro e w6 ⟨vi', vp', rfl, hq1, hq2, hb⟩
        have t1 := hq1
        have t2 := hq2
        obtain ⟨bI, bci, rfl, _⟩ := t1.slice
        obtain ⟨bP, bcp, rfl, _⟩ := t2.slice
        clear C
        have H6 := hide (H5.out.to hb)
        have Za6 := hide (Za5.out.to hb)
        clear H5 Za5
        have hbx := below_one w6 (.cells (X.cs (.slice bI X.items.length bci) (.slice bP X.paths.length bcp)) 25)
        have Zb7 := hide (BxP.new t1 t2)
        have H7 := hide (H6.out.to hbx)
        have Za7 := hide (Za6.out.to hbx)
        clear H6 Za6 hbx t1 t2 hb
        unfold Pg.cs at *
        obtain ⟨p0, p1, p2, p3, p4⟩ := page_cells (p := p) H7.out.box
        go_wp2_with fail
        generalize w6.alloc (.cells #[.int .i64 X.fr, .int .i64 X.size, .string (bs X.root), .slice bI X.items.length bci, .slice bP X.paths.length bcp] 25) = w7 at *
        have C := HCT.out w7 H7.out.bel
        with_reducible refine C.mono ?_
        rintro e w8 ⟨rfl, hb⟩
        clear C p0 p1 p2 p3 p4
        have H8 := hide (H7.out.to hb)
        have Za8 := hide (Za7.out.to hb)
        have Zb8 := hide (Zb7.out.to hb)
        clear H7 Za7 Zb7
        clear hb
        obtain ⟨p0, p1, p2, p3, p4⟩ := page_cells (p := p) H8.out.box
        go_wp2_with fail
        have C := HRT.out w8 H8.out.bel
        with_reducible refine C.mono ?_
        rintro e w9 ⟨rfl, hb⟩
        clear C p0 p1 p2 p3 p4
        have H9 := hide (H8.out.to hb)
        have Za9 := hide (Za8.out.to hb)
        have Zb9 := hide (Zb8.out.to hb)
        clear H8 Za8 Zb8
        clear hb
        go_wp2_with fail
        have C := HPR.out w9 H9.out.bel
        with_reducible refine C.mono ?_
        rintro e w10 ⟨vi', vp', rfl, hq1, hq2, hb⟩
        have t1 := hq1
        have t2 := hq2
        obtain ⟨xI, xci, rfl, _⟩ := t1.slice
        obtain ⟨xP, xcp, rfl, _⟩ := t2.slice
        clear C
        have H10 := hide (H9.out.to hb)
        have Za10 := hide (Za9.out.to hb)
        have Zb10 := hide (Zb9.out.to hb)
        clear H9 Za9 Zb9
        have hbx := below_one w10 (.cells (Y.cs (.slice xI Y.items.length xci) (.slice xP Y.paths.length xcp)) 25)
        have Zx11 := hide (BxP.new t1 t2)
        have H11 := hide (H10.out.to hbx)
        have Za11 := hide (Za10.out.to hbx)
        have Zb11 := hide (Zb10.out.to hbx)
        clear H10 Za10 Zb10 hbx t1 t2 hb
        unfold Pg.cs at *
        go_wp2_with fail
        generalize w10.alloc (.cells #[.int .i64 Y.fr, .int .i64 Y.size, .string (bs Y.root), .slice xI Y.items.length xci, .slice xP Y.paths.length xcp] 25) = w11 at *
        have C := HRP.out w11
        with_reducible refine C.mono ?_
        rintro e w12 ⟨vi', vp', rfl, hq1, hq2, hb⟩
        have t1 := hq1
        have t2 := hq2
        obtain ⟨yI, yci, rfl, _⟩ := t1.slice
        obtain ⟨yP, ycp, rfl, _⟩ := t2.slice
        clear C
        have H12 := hide (H11.out.to hb)
        have Za12 := hide (Za11.out.to hb)
        have Zb12 := hide (Zb11.out.to hb)
        have Zx12 := hide (Zx11.out.to hb)
        clear H11 Za11 Zb11 Zx11
        have hbx := below_one w12 (.cells (Y.cs (.slice yI Y.items.length yci) (.slice yP Y.paths.length ycp)) 25)
        have Zy13 := hide (BxP.new t1 t2)
        have H13 := hide (H12.out.to hbx)
        have Za13 := hide (Za12.out.to hbx)
        have Zb13 := hide (Zb12.out.to hbx)
        have Zx13 := hide (Zx12.out.to hbx)
        clear H12 Za12 Zb12 Zx12 hbx t1 t2 hb
        unfold Pg.cs at *
        have px := fun i => Za13.out.blk.cell i
        unfold Pg.cs at px
        have a0 := (px 0).trans (show _ = some (Value.int .i64 X.fr) from rfl)
        have a1 := (px 1).trans (show _ = some (Value.int .i64 X.size) from rfl)
        have a2 := (px 2).trans (show _ = some (Value.string (bs X.root)) from rfl)
        have a3 := (px 3).trans (show _ = some (Value.slice aI X.items.length aci) from rfl)
        have a4 := (px 4).trans (show _ = some (Value.slice aP X.paths.length acp) from rfl)
        clear px
        have px := fun i => Zb13.out.blk.cell i
        unfold Pg.cs at px
        have b0 := (px 0).trans (show _ = some (Value.int .i64 X.fr) from rfl)
        have b1 := (px 1).trans (show _ = some (Value.int .i64 X.size) from rfl)
        have b2 := (px 2).trans (show _ = some (Value.string (bs X.root)) from rfl)
        have b3 := (px 3).trans (show _ = some (Value.slice bI X.items.length bci) from rfl)
        have b4 := (px 4).trans (show _ = some (Value.slice bP X.paths.length bcp) from rfl)
        clear px
        have g1 : (E == E) = true := by simp
        have g2 : (K == K) = true := by simp
        have g3 : (G == G) = true := by simp
        have g4 : ((bs S).toList == (bs S).toList) = true := by simp
        go_wp2_with fail
        generalize w12.alloc (.cells #[.int .i64 Y.fr, .int .i64 Y.size, .string (bs Y.root), .slice yI Y.items.length yci, .slice yP Y.paths.length ycp] 25) = w13 at *
        have CS : Calls Tryz.prog 20 #[.agg #[.int .i64 X.fr, .int .i64 X.size, .string (bs X.root), .slice aI X.items.length aci, .slice aP X.paths.length acp], .agg #[.int .i64 X.fr, .int .i64 X.size, .string (bs X.root), .slice bI X.items.length bci, .slice bP X.paths.length bcp]] w13 fun e w' => e = .returned (.bool true) ∧ Below w13.heap.size w13 w' := by
          have := PSame_any X X hXw hXw _ _ _ _ w13 Za13.out.ti Za13.out.tp Zb13.out.ti Zb13.out.tp
          rw [same_refl] at this
          exact this
        with_reducible refine CS.mono ?_
        rintro e w14 ⟨rfl, hb⟩
        clear CS a0 a1 a2 a3 a4 b0 b1 b2 b3 b4
        have H14 := hide (H13.out.to hb)
        have Za14 := hide (Za13.out.to hb)
        have Zb14 := hide (Zb13.out.to hb)
        have Zx14 := hide (Zx13.out.to hb)
        have Zy14 := hide (Zy13.out.to hb)
        clear H13 Za13 Zb13 Zx13 Zy13
        clear hb
        have px := fun i => Zx14.out.blk.cell i
        unfold Pg.cs at px
        have a0 := (px 0).trans (show _ = some (Value.int .i64 Y.fr) from rfl)
        have a1 := (px 1).trans (show _ = some (Value.int .i64 Y.size) from rfl)
        have a2 := (px 2).trans (show _ = some (Value.string (bs Y.root)) from rfl)
        have a3 := (px 3).trans (show _ = some (Value.slice xI Y.items.length xci) from rfl)
        have a4 := (px 4).trans (show _ = some (Value.slice xP Y.paths.length xcp) from rfl)
        clear px
        have px := fun i => Zy14.out.blk.cell i
        unfold Pg.cs at px
        have b0 := (px 0).trans (show _ = some (Value.int .i64 Y.fr) from rfl)
        have b1 := (px 1).trans (show _ = some (Value.int .i64 Y.size) from rfl)
        have b2 := (px 2).trans (show _ = some (Value.string (bs Y.root)) from rfl)
        have b3 := (px 3).trans (show _ = some (Value.slice yI Y.items.length yci) from rfl)
        have b4 := (px 4).trans (show _ = some (Value.slice yP Y.paths.length ycp) from rfl)
        clear px
        go_wp2_with fail
        have CS : Calls Tryz.prog 20 #[.agg #[.int .i64 Y.fr, .int .i64 Y.size, .string (bs Y.root), .slice xI Y.items.length xci, .slice xP Y.paths.length xcp], .agg #[.int .i64 Y.fr, .int .i64 Y.size, .string (bs Y.root), .slice yI Y.items.length yci, .slice yP Y.paths.length ycp]] w14 fun e w' => e = .returned (.bool true) ∧ Below w14.heap.size w14 w' := by
          have := PSame_any Y Y hYw hYw _ _ _ _ w14 Zx14.out.ti Zx14.out.tp Zy14.out.ti Zy14.out.tp
          rw [same_refl] at this
          exact this
        with_reducible refine CS.mono ?_
        rintro e w15 ⟨rfl, hb⟩
        have HF := hide (below_to H14.out.bel (Nat.le_refl _) hb)
        clear CS a0 a1 a2 a3 a4 b0 b1 b2 b3 b4 hb
        go_wp2_with fail
        go_ret
        exact ⟨rfl, HF.out⟩
end Go.Proofs.YtfhanbiifjiklaaGreatDoor
