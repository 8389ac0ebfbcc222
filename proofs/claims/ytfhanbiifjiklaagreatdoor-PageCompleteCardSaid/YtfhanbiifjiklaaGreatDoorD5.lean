/- The walk of the statements' examples: head. -/
import Derived.Test.YtfhanbiifjiklaaGreatDoorD4
set_option linter.unusedVariables false
set_option linter.unusedSimpArgs false
namespace Go.Proofs.YtfhanbiifjiklaaGreatDoor
open Go.RowKit

/-- what the examples keep -/
structure HdI (w : World) (bP bQ b lo1 hi1 lo2 hi2 : Nat) (vi vp ui up : Value) (its : List (List UInt8)) (v : Value) (W : World) : Prop where
  bel : Below w.heap.size w W
  boxP : Blk W bP 25 (hP.cs vi vp)
  boxQ : Blk W bQ 25 (hQ.cs ui up)
  pgP : PgAt lo1 hi1 W vi vp hP
  pgQ : PgAt lo2 hi2 W ui up hQ
  cli : CliAt b hR 3 its v W
  ord : w.heap.size ≤ b ∧ bP < b ∧ bQ < b ∧ hi1 ≤ b ∧ hi2 ≤ b
section
variable {w W W' : World} {bP bQ b lo1 hi1 lo2 hi2 : Nat} {vi vp ui up v v' : Value} {its its' : List (List UInt8)}
theorem HdI.to (h : HdI w bP bQ b lo1 hi1 lo2 hi2 vi vp ui up its v W) (hb : Below W.heap.size W W') : HdI w bP bQ b lo1 hi1 lo2 hi2 vi vp ui up its v W' :=
  ⟨below_to h.bel (Nat.le_refl _) hb, h.boxP.to hb, h.boxQ.to hb, h.pgP.to hb, h.pgQ.to hb, h.cli.to hb, h.ord⟩
theorem rowOr_le {v : Value} {b n : Nat} (h : ∀ g, v.ownBlock = some g → n ≤ g) (hb : n ≤ b) : n ≤ rowOr v b := by
  unfold rowOr
  cases e : v.ownBlock with
  | none => exact hb
  | some g => exact h g e
theorem HdI.acc (h : HdI w bP bQ b lo1 hi1 lo2 hi2 vi vp ui up its v W) (hT : Two b (rowOr v b) W W') (hc : CliAt b hR 3 its' v' W') : HdI w bP bQ b lo1 hi1 lo2 hi2 vi vp ui up its' v' W' := by
  have ho := h.ord
  have hr : b ≤ rowOr v b := rowOr_le (fun g e => by have := (h.cli.lt g e).1; omega) (Nat.le_refl _)
  exact ⟨h.bel.trans (hT.below h.bel.size ho.1 (Nat.le_trans ho.1 hr)), hT.blk h.boxP (by omega) (by omega), hT.blk h.boxQ (by omega) (by omega), h.pgP.two hT (.inr ho.2.2.2.1) (.inr (by omega)), h.pgQ.two hT (.inr ho.2.2.2.2) (.inr (by omega)), hc, ho⟩
theorem HdI.farP (h : HdI w bP bQ b lo1 hi1 lo2 hi2 vi vp ui up its v W) : vi.ownBlock ≠ some b ∧ ∀ g, v.ownBlock = some g → vi.ownBlock ≠ some g := by
  have ho := h.ord
  exact ⟨fun e => by have := h.pgP.bi b e; omega, fun g e e2 => by have := h.pgP.bi g e2; have := (h.cli.lt g e).1; omega⟩
theorem HdI.farQ (h : HdI w bP bQ b lo1 hi1 lo2 hi2 vi vp ui up its v W) : ui.ownBlock ≠ some b ∧ ∀ g, v.ownBlock = some g → ui.ownBlock ≠ some g := by
  have ho := h.ord
  exact ⟨fun e => by have := h.pgQ.bi b e; omega, fun g e e2 => by have := h.pgQ.bi g e2; have := (h.cli.lt g e).1; omega⟩
end
set_option maxRecDepth 100000 in
set_option maxHeartbeats 4000000 in
theorem head_any (w : World) (hg : Glob w) : Calls Tryz.prog 11 #[] w fun e w' => e = .returned (.bool true) ∧ Below w.heap.size w w' := by
  have HG := hide hg
  clear hg
  go_enter Tryz.func11, Tryz.ntmps11
  go_wp2_with fail
  have HB1 := hide (below_one w (.cells #[.string ⟨#[97]⟩, .string ⟨#[98]⟩, .string ⟨#[99]⟩] 9))
  have HL1 : Hid (TextsAt (w.alloc (.cells #[.string ⟨#[97]⟩, .string ⟨#[98]⟩, .string ⟨#[99]⟩] 9)) (.slice (some ⟨w.heap.size, 0, none⟩) 3 3) abc) := TextsAt.of_blk (ls := abc) (Blk.new w 9 _) rfl
  generalize w.alloc (.cells #[.string ⟨#[97]⟩, .string ⟨#[98]⟩, .string ⟨#[99]⟩] 9) = w1 at *
  have C1 : Calls Tryz.prog 14 #[.slice (some ⟨w.heap.size, 0, none⟩) 3 3, .int .i64 1, .int .i64 1] w1 (ServeR hP 0 w1) := Serve_yes abc (by decide) (by decide) 1 1 head_serve.1 _ w1 (HG.out.to HB1.out) HL1.out
  refine C1.mono ?_
  rintro e w2 ⟨vi, vp, rfl, hpg, hb⟩
  have HP2 := hide hpg
  have HB2 := hide (below_to HB1.out (Nat.le_refl _) hb)
  have HL2 := hide (HL1.out.to hb)
  obtain ⟨Ai, ci, rfl, _⟩ := hpg.ti.slice
  obtain ⟨Ap, cp, rfl, _⟩ := hpg.tp.slice
  clear hb hpg C1 HB1 HL1
  unfold Pg.cs
  go_wp2_with fail
  have HB3 := hide (below_alloc HB2.out (Nat.le_refl _) (.cells #[.int .i64 hP.fr, .int .i64 hP.size, .string (bs hP.root), .slice Ai hP.items.length ci, .slice Ap hP.paths.length cp] 25))
  have HL3 := hide (HL2.out.to (below_one w2 (.cells #[.int .i64 hP.fr, .int .i64 hP.size, .string (bs hP.root), .slice Ai hP.items.length ci, .slice Ap hP.paths.length cp] 25)))
  have HP3 := hide (HP2.out.to (below_one w2 (.cells #[.int .i64 hP.fr, .int .i64 hP.size, .string (bs hP.root), .slice Ai hP.items.length ci, .slice Ap hP.paths.length cp] 25)))
  have HX3 := hide (Blk.new w2 25 #[.int .i64 hP.fr, .int .i64 hP.size, .string (bs hP.root), .slice Ai hP.items.length ci, .slice Ap hP.paths.length cp])
  have hs3 : (w2.alloc (.cells #[.int .i64 hP.fr, .int .i64 hP.size, .string (bs hP.root), .slice Ai hP.items.length ci, .slice Ap hP.paths.length cp] 25)).heap.size = w2.heap.size + 1 := by simp
  generalize w2.alloc (.cells #[.int .i64 hP.fr, .int .i64 hP.size, .string (bs hP.root), .slice Ai hP.items.length ci, .slice Ap hP.paths.length cp] 25) = w3 at *
  clear HB2 HL2 HP2
  have C2 : Calls Tryz.prog 14 #[.slice (some ⟨w.heap.size, 0, none⟩) 3 3, .int .i64 0, .int .i64 2] w3 (ServeR hQ 0 w3) := Serve_yes abc (by decide) (by decide) 0 2 head_serve.2.1 _ w3 (HG.out.to HB3.out) HL3.out
  refine C2.mono ?_
  rintro e w4 ⟨ui, up, rfl, hpg, hb⟩
  have HQ4 := hide hpg
  have HB4 := hide (below_to HB3.out (Nat.le_refl _) hb)
  have HL4 := hide (HL3.out.to hb)
  have HP4 := hide (HP3.out.to hb)
  have HX4 := hide (HX3.out.to hb)
  have hs4 := hb.size
  obtain ⟨Bi, di, rfl, _⟩ := hpg.ti.slice
  obtain ⟨Bp, dp, rfl, _⟩ := hpg.tp.slice
  clear hb hpg C2 HB3 HL3 HP3 HX3
  unfold Pg.cs
  go_wp2_with fail
  have HB5 := hide (below_alloc HB4.out (Nat.le_refl _) (.cells #[.int .i64 hQ.fr, .int .i64 hQ.size, .string (bs hQ.root), .slice Bi hQ.items.length di, .slice Bp hQ.paths.length dp] 25))
  have HL5 := hide (HL4.out.to (below_one w4 (.cells #[.int .i64 hQ.fr, .int .i64 hQ.size, .string (bs hQ.root), .slice Bi hQ.items.length di, .slice Bp hQ.paths.length dp] 25)))
  have HP5 := hide (HP4.out.to (below_one w4 (.cells #[.int .i64 hQ.fr, .int .i64 hQ.size, .string (bs hQ.root), .slice Bi hQ.items.length di, .slice Bp hQ.paths.length dp] 25)))
  have HQ5 := hide (HQ4.out.to (below_one w4 (.cells #[.int .i64 hQ.fr, .int .i64 hQ.size, .string (bs hQ.root), .slice Bi hQ.items.length di, .slice Bp hQ.paths.length dp] 25)))
  have HX5 := hide (HX4.out.alloc (.cells #[.int .i64 hQ.fr, .int .i64 hQ.size, .string (bs hQ.root), .slice Bi hQ.items.length di, .slice Bp hQ.paths.length dp] 25))
  have HY5 := hide (Blk.new w4 25 #[.int .i64 hQ.fr, .int .i64 hQ.size, .string (bs hQ.root), .slice Bi hQ.items.length di, .slice Bp hQ.paths.length dp])
  have hs5 : (w4.alloc (.cells #[.int .i64 hQ.fr, .int .i64 hQ.size, .string (bs hQ.root), .slice Bi hQ.items.length di, .slice Bp hQ.paths.length dp] 25)).heap.size = w4.heap.size + 1 := by simp
  generalize w4.alloc (.cells #[.int .i64 hQ.fr, .int .i64 hQ.size, .string (bs hQ.root), .slice Bi hQ.items.length di, .slice Bp hQ.paths.length dp] 25) = w5 at *
  clear HB4 HL4 HP4 HQ4 HX4
  have C3 : Calls Tryz.prog 22 #[.slice (some ⟨w.heap.size, 0, none⟩) 3 3] w5 fun e w' => e = .returned (.string (bs hR)) ∧ Below w5.heap.size w5 w' := root_any abc (by decide) (by decide) _ w5 HL5.out (HG.out.to HB5.out)
  refine C3.mono ?_
  rintro e w6 ⟨rfl, hb⟩
  have HB6 := hide (below_to HB5.out (Nat.le_refl _) hb)
  have HP6 := hide (HP5.out.to hb)
  have HQ6 := hide (HQ5.out.to hb)
  have HX6 := hide (HX5.out.to hb)
  have HY6 := hide (HY5.out.to hb)
  have hs6 := hb.size
  clear hb C3 HB5 HL5 HP5 HQ5 HX5 HY5
  go_wp2_with fail
  have C4 := New_any hR head_small.2.2.1 3 w6 (HG.out.to HB6.out)
  unfold NewR at C4
  simp only [head_serve.2.2, if_true] at C4
  unfold cliP at C4
  refine C4.mono ?_
  rintro e w7 ⟨⟨b, rfl, hbb, hcl⟩, hb⟩
  have H7 : Hid (HdI w w2.heap.size w4.heap.size b w1.heap.size w2.heap.size w3.heap.size w4.heap.size (.slice Ai hP.items.length ci) (.slice Ap hP.paths.length cp) (.slice Bi hQ.items.length di) (.slice Bp hQ.paths.length dp) [] (.slice none 0 0) w7) :=
    ⟨below_to HB6.out (Nat.le_refl _) hb, HX6.out.to hb, HY6.out.to hb, HP6.out.to hb, HQ6.out.to hb, hcl, by have := HB6.out.size; have h1 := HX6.out.lt; have h2 := HY6.out.lt; exact ⟨by omega, by omega, by omega, by omega, by omega⟩⟩
  clear hb hcl C4 HB6 HP6 HQ6 HX6 HY6
  have hi1 : ((hP.items.length : Int) != 1) = false := by rw [head_text.2.2.2.1]; rfl
  have hi2 : ((hP.paths.length : Int) != 1) = false := by rw [head_text.2.2.2.2]; rfl
  have px := fun i => H7.out.boxP.cell i
  unfold Pg.cs at px
  have p0 := (px 0).trans (show _ = some (Value.int .i64 hP.fr) from rfl)
  have p1 := (px 1).trans (show _ = some (Value.int .i64 hP.size) from rfl)
  have p2 := (px 2).trans (show _ = some (Value.string (bs hP.root)) from rfl)
  have p3 := (px 3).trans (show _ = some (Value.slice Ai hP.items.length ci) from rfl)
  have p4 := (px 4).trans (show _ = some (Value.slice Ap hP.paths.length cp) from rfl)
  clear px
  go_wp2_with fail
  -- @MARK
  have C8 := Accept_any b hR 3 [] (by decide) (.slice none 0 0) hP hP_fit (.slice Ai hP.items.length ci) (.slice Ap hP.paths.length cp) w7 (HG.out.to H7.out.bel) H7.out.cli H7.out.pgP.ti H7.out.pgP.tp H7.out.farP.1 H7.out.farP.2
  rw [head_acc.1, head_acc.2.1] at C8
  unfold AcceptR Pg.cs cliP at C8
  refine C8.mono ?_
  rintro e w8 ⟨v8, rfl, hc, hT, _⟩
  have H8 := hide (H7.out.acc hT hc)
  clear hc hT C8 H7
  clear p0 p1 p2 p3 p4
  have px := fun i => H8.out.boxQ.cell i
  unfold Pg.cs at px
  have q0 := (px 0).trans (show _ = some (Value.int .i64 hQ.fr) from rfl)
  have q1 := (px 1).trans (show _ = some (Value.int .i64 hQ.size) from rfl)
  have q2 := (px 2).trans (show _ = some (Value.string (bs hQ.root)) from rfl)
  have q3 := (px 3).trans (show _ = some (Value.slice Bi hQ.items.length di) from rfl)
  have q4 := (px 4).trans (show _ = some (Value.slice Bp hQ.paths.length dp) from rfl)
  clear px
  go_wp2_with fail
  have C9 := Accept_any b hR 3 [] (by decide) v8 hQ hQ_fit (.slice Bi hQ.items.length di) (.slice Bp hQ.paths.length dp) w8 (HG.out.to H8.out.bel) H8.out.cli H8.out.pgQ.ti H8.out.pgQ.tp H8.out.farQ.1 H8.out.farQ.2
  rw [head_acc.2.2.1, head_acc.2.2.2.1] at C9
  unfold AcceptR Pg.cs cliP at C9
  refine C9.mono ?_
  rintro e w9 ⟨v9, rfl, hc, hT, _⟩
  have H9 := hide (H8.out.acc hT hc)
  clear hc hT C9 H8
  clear q0 q1 q2 q3 q4
  have C10 := Next_any b hR 3 [[97], [98]] (by decide) v9 w9 H9.out.cli
  unfold cliP at C10
  go_wp2_with fail
  refine C10.mono ?_
  rintro e w10 ⟨rfl, hb⟩
  have H10 := hide (H9.out.to hb)
  clear hb C10 H9
  have px := fun i => H10.out.boxP.cell i
  unfold Pg.cs at px
  have p0 := (px 0).trans (show _ = some (Value.int .i64 hP.fr) from rfl)
  have p1 := (px 1).trans (show _ = some (Value.int .i64 hP.size) from rfl)
  have p2 := (px 2).trans (show _ = some (Value.string (bs hP.root)) from rfl)
  have p3 := (px 3).trans (show _ = some (Value.slice Ai hP.items.length ci) from rfl)
  have p4 := (px 4).trans (show _ = some (Value.slice Ap hP.paths.length cp) from rfl)
  clear px
  go_wp2_with fail
  have C11 := Accept_any b hR 3 [[97], [98]] (by decide) v9 hP hP_fit (.slice Ai hP.items.length ci) (.slice Ap hP.paths.length cp) w10 (HG.out.to H10.out.bel) H10.out.cli H10.out.pgP.ti H10.out.pgP.tp H10.out.farP.1 H10.out.farP.2
  rw [head_acc.2.2.2.2.1, head_acc.2.2.2.2.2.1] at C11
  unfold AcceptR Pg.cs cliP at C11
  refine C11.mono ?_
  rintro e w11 ⟨v11, rfl, hc, hT, _⟩
  have H11 := hide (H10.out.acc hT hc)
  clear hc hT C11 H10
  clear p0 p1 p2 p3 p4
  have px := fun i => H11.out.boxP.cell i
  unfold Pg.cs at px
  have p0 := (px 0).trans (show _ = some (Value.int .i64 hP.fr) from rfl)
  have p1 := (px 1).trans (show _ = some (Value.int .i64 hP.size) from rfl)
  have p2 := (px 2).trans (show _ = some (Value.string (bs hP.root)) from rfl)
  have p3 := (px 3).trans (show _ = some (Value.slice Ai hP.items.length ci) from rfl)
  have p4 := (px 4).trans (show _ = some (Value.slice Ap hP.paths.length cp) from rfl)
  clear px
  go_wp2_with fail
  have hbF : Below w11.heap.size w11 ((w11.alloc (.cells #[.int .i64 hP.fr, .int .i64 hP.size, .string (bs hP.root), .slice (some ⟨w11.heap.size + 1, 0, none⟩) 1 1, .slice Ap hP.paths.length cp] 25)).alloc (.cells #[.string ⟨#[120]⟩] 9)) := below_to (below_one _ _) (Nat.le_refl _) (below_one _ _)
  have HTF : Hid (TextsAt ((w11.alloc (.cells #[.int .i64 hP.fr, .int .i64 hP.size, .string (bs hP.root), .slice (some ⟨w11.heap.size + 1, 0, none⟩) 1 1, .slice Ap hP.paths.length cp] 25)).alloc (.cells #[.string ⟨#[120]⟩] 9)) (.slice (some ⟨w11.heap.size + 1, 0, none⟩) 1 1) [[120]]) := by
    have h1 := Blk.new (w11.alloc (.cells #[.int .i64 hP.fr, .int .i64 hP.size, .string (bs hP.root), .slice (some ⟨w11.heap.size + 1, 0, none⟩) 1 1, .slice Ap hP.paths.length cp] 25)) 9 #[.string ⟨#[120]⟩]
    rw [World.size_alloc] at h1
    exact TextsAt.of_blk (ls := [[120]]) h1 rfl
  have H12 := hide (H11.out.to hbF)
  have hbl : b < w11.heap.size := H11.out.cli.blk.lt
  have hvl := fun g e => (H11.out.cli.lt g e).2
  have C13 := Accept_any b hR 3 [[97], [98]] (by decide) v11 hF hF_fit (.slice (some ⟨w11.heap.size + 1, 0, none⟩) 1 1) (.slice Ap hP.paths.length cp) _ (HG.out.to H12.out.bel) H12.out.cli HTF.out H12.out.pgP.tp (fun e => by have : w11.heap.size + 1 = b := Option.some.inj e; omega) (fun g e e2 => by have : w11.heap.size + 1 = g := Option.some.inj e2; have := hvl g e; omega)
  rw [head_acc.2.2.2.2.2.2.1, head_acc.2.2.2.2.2.2.2, show hF.cs (.slice (some ⟨w11.heap.size + 1, 0, none⟩) 1 1) (.slice Ap hP.paths.length cp) = #[.int .i64 hP.fr, .int .i64 hP.size, .string (bs hP.root), .slice (some ⟨w11.heap.size + 1, 0, none⟩) 1 1, .slice Ap hP.paths.length cp] from rfl] at C13
  unfold AcceptR cliP at C13
  refine C13.mono ?_
  rintro e w13 ⟨v13, rfl, hc, hT, _⟩
  have H13 := hide (H12.out.acc hT hc)
  clear hc hT C13 H12 H11 HTF hbF hvl hbl
  clear p0 p1 p2 p3 p4
  have px := fun i => H13.out.boxP.cell i
  unfold Pg.cs at px
  have p0 := (px 0).trans (show _ = some (Value.int .i64 hP.fr) from rfl)
  have p1 := (px 1).trans (show _ = some (Value.int .i64 hP.size) from rfl)
  have p2 := (px 2).trans (show _ = some (Value.string (bs hP.root)) from rfl)
  have p3 := (px 3).trans (show _ = some (Value.slice Ai hP.items.length ci) from rfl)
  have p4 := (px 4).trans (show _ = some (Value.slice Ap hP.paths.length cp) from rfl)
  clear px
  have C14 := Text_any hP hP_fit (.slice Ai hP.items.length ci) (.slice Ap hP.paths.length cp) w13 (HG.out.to H13.out.bel) H13.out.pgP.ti H13.out.pgP.tp
  rw [head_text.1] at C14
  unfold Pg.cs at C14
  have C15 := fun (w' : World) (hg' : Glob w') => Parse_any (textV hP ++ [10]) head_text.2.2.1 w' hg'
  unfold ParseR at C15
  simp only [head_text.2.1, ← bs_app] at C15
  have hsl := head_text.2.2.1
  rw [List.length_append] at hsl
  simp only [List.length_cons, List.length_nil] at hsl
  generalize textV hP = S at *
  have hsz : (bs S).size = S.length := bs_size S
  generalize parseV (S ++ [10]) = X at *
  go_wp2_with fail
  refine C14.mono ?_
  rintro e w14 ⟨rfl, hb⟩
  have H14 := hide (H13.out.to hb)
  clear hb C14 H13
  clear p0 p1 p2 p3 p4
  go_wp2_with fail
  refine (C15 w14 (HG.out.to H14.out.bel)).mono ?_
  rintro e w15 ⟨xi, xp, rfl, hxi, hxp, hb⟩
  obtain ⟨Xi, xci, rfl, _⟩ := hxi.slice
  obtain ⟨Xp, xcp, rfl, _⟩ := hxp.slice
  have H15 := hide (H14.out.to hb)
  clear hb C15 H14 hxi hxp
  unfold Pg.cs
  go_wp2_with fail
  have H16 := hide (H15.out.to (below_one w15 (.cells #[.int .i64 X.fr, .int .i64 X.size, .string (bs X.root), .slice Xi X.items.length xci, .slice Xp X.paths.length xcp] 25)))
  generalize w15.alloc (.cells #[.int .i64 X.fr, .int .i64 X.size, .string (bs X.root), .slice Xi X.items.length xci, .slice Xp X.paths.length xcp] 25) = w16 at *
  clear H15
  have C17 := Next_any b hR 3 [[97], [98]] (by decide) v13 w16 H16.out.cli
  unfold cliP at C17
  refine C17.mono ?_
  rintro e w17 ⟨rfl, hb⟩
  have H17 := hide (H16.out.to hb)
  clear hb C17 H16
  go_wp2_with fail
  have C18 := Items_any b hR 3 [[97], [98]] (by decide) v13 w17 H17.out.cli
  unfold cliP at C18
  refine C18.mono ?_
  rintro e w18 ⟨v18, rfl, ho, hb⟩
  have H18 := hide (H17.out.to hb)
  have HT18 := hide (TextsAt.of_own ho)
  clear hb C18 H17 ho
  go_wp2_with fail
  have HT19 := hide (HT18.out.to (below_one w18 (.cells #[.string ⟨#[97]⟩, .string ⟨#[98]⟩] 9)))
  have HU19 : Hid (TextsAt (w18.alloc (.cells #[.string ⟨#[97]⟩, .string ⟨#[98]⟩] 9)) (.slice (some ⟨w18.heap.size, 0, none⟩) 2 2) [[97], [98]]) := TextsAt.of_blk (ls := [[97], [98]]) (Blk.new w18 9 _) rfl
  have H19 := hide (H18.out.to (below_one w18 (.cells #[.string ⟨#[97]⟩, .string ⟨#[98]⟩] 9)))
  generalize w18.alloc (.cells #[.string ⟨#[97]⟩, .string ⟨#[98]⟩] 9) = w19 at *
  clear H18 HT18
  have C20 : Calls Tryz.prog 25 #[v18, .slice (some ⟨w18.heap.size, 0, none⟩) 2 2] w19 fun e w' => e = .returned (.bool true) ∧ Below w19.heap.size w19 w' := Same_any [[97], [98]] [[97], [98]] (by decide) (by decide) v18 _ w19 HT19.out HU19.out
  refine C20.mono ?_
  rintro e w20 ⟨rfl, hb⟩
  have H20 := hide (H19.out.to hb)
  clear hb C20 H19 HT19 HU19
  have hl1 : hP.items.length = 1 := by rw [head_text.2.2.2.1]; rfl
  have i1 : (0 : Int) < (hP.items.length : Int) := by omega
  obtain ⟨a, e0, ha, c0⟩ := H20.out.pgP.ti.at_ (k := 0) (x := [98]) (by rw [head_text.2.2.2.1]; rfl)
  subst e0
  have px := fun i => H20.out.boxP.cell i
  unfold Pg.cs at px
  have p0 := (px 0).trans (show _ = some (Value.int .i64 hP.fr) from rfl)
  have p1 := (px 1).trans (show _ = some (Value.int .i64 hP.size) from rfl)
  have p2 := (px 2).trans (show _ = some (Value.string (bs hP.root)) from rfl)
  have p3 := (px 3).trans (show _ = some (Value.slice (some a) hP.items.length ci) from rfl)
  have p4 := (px 4).trans (show _ = some (Value.slice Ap hP.paths.length cp) from rfl)
  clear px
  rw [Addr.add_zero'] at c0
  have HB20 := hide H20.out.bel
  clear H20 hl1
  go_wp2_with fail
  go_ret
  exact ⟨ret_bool (by rw [bs_toList]; rfl), HB20.out⟩
end Go.Proofs.YtfhanbiifjiklaaGreatDoor
