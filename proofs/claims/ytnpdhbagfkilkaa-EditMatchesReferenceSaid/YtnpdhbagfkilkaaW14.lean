/- Walks: edit.Ahead, the walk. -/
import Derived.Test.YtnpdhbagfkilkaaW13
import Derived.Test.YtnpdhbagfkilkaaPlain8
set_option linter.unusedVariables false
set_option linter.unusedSimpArgs false
namespace Go.Proofs.Ytnpdhbagfkilkaa
open Go.RowKit

def AhIv (wr wo : World) (R T : Nat) (W : Wt) (x p : ByteArray) (j : Nat) (t57 : Value) : Prop := ∃ i : Nat, i ≤ x.size + 1 ∧ t57 = .int .i64 i ∧ AhI wr wo R T W x p j i
def AhJv (wr wo : World) (R T : Nat) (W : Wt) (x p : ByteArray) (t42 : Value) : Prop := ∃ j : Nat, j ≤ p.size + 1 ∧ t42 = .int .i64 j ∧ AhJ wr wo R T W x p j
theorem AhI.drewN {wr wo : World} {R T : Nat} {W : Wt} {x p : ByteArray} {j i : Nat} (h : AhI wr wo R T W x p j i) (q : Nat) : AhI (wr.drewN q) wo R T W x p j i := by
  obtain ⟨B, f, h⟩ := h
  exact ⟨B, f, h.drewN q⟩
theorem AhRel.still {wr wo : World} {R T : Nat} {W : Wt} (hW : W.valid = true) {x p : ByteArray} (hx : x.size ≤ 120) (hp : p.size ≤ 120) {j i : Nat} {B : Nat → Nat} {f : Nat → Nat → Int} (h : AhRel wr wo R T W x p j i B f) (hj : j ≤ p.size)
    {iz jz c : Int} (i' j' : Nat) (ei : iz = i') (ej : jz = j') (hi' : i' ≤ x.size) (hq : j' < j ∨ (j' = j ∧ i' < i)) (hc : -1000 ≤ c ∧ c ≤ 1000) :
    Calls Try.prog 33 #[.int .i64 iz, .int .i64 jz, .int .i64 c, .pointer (some ⟨R, 0, none⟩)] wr fun e w' => e = .returned (.int .i64 (Wt.atv (Wt.F W x.data.toList p.data.toList j' i') c)) ∧ w' = wr :=
  (h.at_ hW hx hp hj i' j' ei ej hi' hq hc).mono fun _ _ ⟨h1, h2⟩ => ⟨h1, h2.symm⟩
theorem lits_cells (W : World) (zs : List Int) (b : Nat) (hb : b = W.heap.size) : ∀ j, j < zs.length → (W.alloc (.cells (zs.map (Value.int .i64)).toArray 3)).cell? ⟨b, 0 + j, none⟩ = some (.int .i64 (zs.getD j 0)) := by
  intro j hj
  subst hb
  rw [Nat.zero_add, (Blk.new W 3 _).cell]
  simp [List.getElem?_eq_getElem hj, List.getD]
theorem lits_cells2 (W : World) (a c : Int) (b : Nat) (hb : b = W.heap.size) : ∀ j, j < [a, c].length → (W.alloc (.cells #[.int .i64 a, .int .i64 c] 3)).cell? ⟨b, 0 + j, none⟩ = some (.int .i64 ([a, c].getD j 0)) := lits_cells W [a, c] b hb
theorem lits_cells4 (W : World) (a c d e : Int) (b : Nat) (hb : b = W.heap.size) : ∀ j, j < [a, c, d, e].length → (W.alloc (.cells #[.int .i64 a, .int .i64 c, .int .i64 d, .int .i64 e] 3)).cell? ⟨b, 0 + j, none⟩ = some (.int .i64 ([a, c, d, e].getD j 0)) := lits_cells W [a, c, d, e] b hb
theorem minOf4 (a b c d : Int) : Lib.minOf [a, b, c, d] = min (min (min a b) c) d := by simp [Lib.minOf]
theorem minOf2 (a b : Int) : Lib.minOf [a, b] = min a b := by simp [Lib.minOf]
theorem wpList_field_one {P : Program} {w : World} {ops : Array Oper} {rest : List Oper} {o : Oper} {a : Act} {Q : Exit → Act → World → Prop} (hgd : o.guard = none) (ty : TypeId) (x : Operand) (k : Nat) (ho : o.op = .field ty x k) (v : Value)
    (hx : (Instr.field ty (a.eval x) k).run P w = .ok v w) (h : wpList P ops Q rest (a.put o.dst v) w) : wpList P ops Q (o :: rest) a w :=
  wpList_plain hgd fun K hK => by
    unfold Oper.wp execOp
    simp only [ho, Sem.run_bind, Sem.run_pure, Result.andThen_ok, hx]
    exact hK _ _ h
theorem least4 (b : Nat) (a c d f : Int) (w : World) (hb : b = w.heap.size) : Calls Try.prog 34 #[.slice (some ⟨b, 0, none⟩) 4 4] (w.alloc (.cells #[.int .i64 a, .int .i64 c, .int .i64 d, .int .i64 f] 3)) fun e w' => e = .returned (.int .i64 (min (min (min a c) d) f)) ∧ Below w.heap.size w w' := by
  refine (least_any b 4 4 [a, c, d, f] _ (by decide) rfl (by decide) (lits_cells4 w a c d f b hb)).mono ?_
  rintro e w' ⟨rfl, rfl⟩
  exact ⟨by rw [minOf4], (Below.refl _ _).alloc (Nat.le_refl _) _⟩
theorem least2 (b : Nat) (a c : Int) (w : World) (hb : b = w.heap.size) : Calls Try.prog 34 #[.slice (some ⟨b, 0, none⟩) 2 2] (w.alloc (.cells #[.int .i64 a, .int .i64 c] 3)) fun e w' => e = .returned (.int .i64 (min a c)) ∧ Below w.heap.size w w' := by
  refine (least_any b 2 2 [a, c] _ (by decide) rfl (by decide) (lits_cells2 w a c b hb)).mono ?_
  rintro e w' ⟨rfl, rfl⟩
  exact ⟨by rw [minOf2], (Below.refl _ _).alloc (Nat.le_refl _) _⟩
theorem same_rng (x y : List UInt8) (i j : Nat) : -1000 ≤ (Wt.same x y i j).1 ∧ (Wt.same x y i j).1 ≤ 1000 := by unfold Wt.same; split <;> simp
theorem change_rng {W : Wt} (hW : W.valid = true) (x y : List UInt8) (i j : Nat) : -1000 ≤ (Wt.change W x y i j).1 ∧ (Wt.change W x y i j).1 ≤ 1000 := by
  have hv := Wt.valid_num hW
  unfold Wt.change
  split
  · cases hl : Wt.look W.near (Wt.at_ x i) (Wt.at_ y j) with
    | none => simp; omega
    | some c => have := Wt.look_le hW hl; simp; omega
  · simp
theorem swap_rng {W : Wt} (hW : W.valid = true) (x y : List UInt8) (i j : Nat) : -1000 ≤ (Wt.swap W x y i j).1 ∧ (Wt.swap W x y i j).1 ≤ 1000 := by
  have hv := Wt.valid_num hW
  unfold Wt.swap
  split <;> simp <;> omega
/-- the steps' box behind the store -/
theorem box_cells {W : Wt} {x y : List UInt8} {i j : Nat} {w6 : World} {b : Nat} (h : Blk w6 b 53 (splice (initArr 0) 0 (stepArr (W.steps x y i j)))) :
    w6.cell? ⟨b, 3, none⟩ = some (.int .i64 (Wt.same x y i j).1) ∧ w6.cell? ⟨b, 6, none⟩ = some (.int .i64 (Wt.change W x y i j).1) := by
  rw [splice_all rfl] at h
  exact ⟨h.cell 3, h.cell 6⟩
theorem AhTop.drewN {wr wo : World} {R T : Nat} {W : Wt} {x p : ByteArray} {k : Nat} {B : Nat → Nat} {f : Nat → Nat → Int} (h : AhTop wr wo R T W x p k B f) (q : Nat) : AhTop (wr.drewN q) wo R T W x p k B f :=
  ⟨h.rws.drewN q, h.done, below_drewN h.bel q, h.base⟩
theorem AhTop.below {wr w' wo : World} {R T : Nat} {W : Wt} {x p : ByteArray} {k : Nat} {B : Nat → Nat} {f : Nat → Nat → Int} (h : AhTop wr wo R T W x p k B f) (hb : Below wr.heap.size wr w') : AhTop w' wo R T W x p k B f :=
  ⟨h.rws.below hb, h.done, h.bel.trans (hb.mono h.bel.size), h.base⟩
/-- the last loop: the text's places behind the row -/
def AhOv (wr wo : World) (R T : Nat) (W : Wt) (x p : ByteArray) (t16 t17 : Value) : Prop := ∃ i : Nat, (i = 0 ∨ i + 1 ≤ x.size) ∧ (p.size = 0 → i = 0) ∧ t16 = .int .i64 (W.afold x.data.toList p.data.toList i) ∧ t17 = .int .i64 i ∧ ∃ B f, AhTop wr wo R T W x p (p.size + 1) B f
theorem minOf_row (zs : List Int) (h : zs ≠ []) : Lib.minOf zs = Wt.minL zs := by
  cases zs with
  | nil => exact absurd rfl h
  | cons a l => simp [Lib.minOf, Wt.minL]
theorem over_byte {x p : ByteArray} {i : Nat} (h : i + 1 < x.size) (hp : 0 < p.size) : Wt.over x.data.toList p.data.toList i = (!(decide (x[i].toNat = x[i + 1].toNat)) && decide (x[i + 1].toNat = p[p.size - 1].toNat)) := by
  have e1 := at_byte x (show i < x.size by omega)
  have e2 := at_byte x h
  have e3 := at_byte p (show p.size - 1 < p.size by omega)
  have e4 : p.data.toList.length = p.size := by simp
  unfold Wt.over
  rw [e4, e1, e2, e3]
  have q : ∀ a b : Nat, ((a : Int) == (b : Int)) = decide (a = b) := fun a b => by rw [Bool.eq_iff_iff]; simp; omega
  simp only [bne, q]
theorem run_index_str (x : ByteArray) (k : Nat) (hk : k < x.size) {iz : Int} (hi : iz = k) (w : World) : (Instr.index 9 (.string x) (.int .i64 iz)).run Try.prog w = .ok (.int .u8 x[k].toNat) w := by
  subst hi
  go_simp
theorem ahead_f {W : Wt} {x y : List UInt8} (h : ok3 W x y = false) : ahead W x y = 0 ∧ errn (ok3 W x y) = 1 := by simp [ahead, errn, h]

set_option maxHeartbeats 20000000 in
set_option maxRecDepth 100000 in
theorem ahead_any (W : Wt) (A : Option Addr) (n c X : Nat) (x p : ByteArray) (w : World) (hN : Near w X A n W.near) (hX : X ≤ w.heap.size) (hn : n ≤ 140737488355328) (hx : x.size ≤ maxLen) (hp : p.size ≤ maxLen) :
    Calls Try.prog 16 #[wval W A n c, .string x, .string p] w fun e w' => e = .returned (.tuple #[.int .i64 (ahead W x.data.toList p.data.toList), .int .i64 (errn (ok3 W x.data.toList p.data.toList))]) ∧ Below w.heap.size w w' := by
  have HN := hide hN
  have HB := hide (Box.start w W A n c)
  clear hN
  cases hv : W.valid
  · have HF := hide (ahead_f (W := W) (x := x.data.toList) (y := p.data.toList) (by simp [ok3, hv]))
    go_enter Try.func16, Try.ntmps16
    unfold wval
    go_wp2_with (first
      | (go_at_call 20; rw [← wval_eq]; refine (valid_try W A n c X _ (by exact HN.out.below HB.out.bel hX) (by simp; omega) hn).mono ?_; rintro e w1 ⟨rfl, hb⟩; have HT := hide (HB.out.next hb); clear HB hb; have HB := HT; clear HT))
    go_ret2
    exact ⟨ret_two HF.out.1.symm HF.out.2.symm, HB.out.bel⟩
  cases hxt : okText x.data.toList
  · have HF := hide (ahead_f (W := W) (x := x.data.toList) (y := p.data.toList) (by simp [ok3, hxt]))
    go_enter Try.func16, Try.ntmps16
    unfold wval
    go_wp2_with (first
      | (go_at_call 20; rw [← wval_eq]; refine (valid_try W A n c X _ (by exact HN.out.below HB.out.bel hX) (by simp; omega) hn).mono ?_; rintro e w1 ⟨rfl, hb⟩; have HT := hide (HB.out.next hb); clear HB hb; have HB := HT; clear HT)
      | (go_at_call 26; refine (isText_any _ _ (by assumption)).mono ?_; rintro e w1 ⟨rfl, hb⟩; have HT := hide (HB.out.next hb); clear HB hb; have HB := HT; clear HT))
    go_ret2
    exact ⟨ret_two HF.out.1.symm HF.out.2.symm, HB.out.bel⟩
  cases hyt : okText p.data.toList
  · have HF := hide (ahead_f (W := W) (x := x.data.toList) (y := p.data.toList) (by simp [ok3, hyt]))
    go_enter Try.func16, Try.ntmps16
    unfold wval
    go_wp2_with (first
      | (go_at_call 20; rw [← wval_eq]; refine (valid_try W A n c X _ (by exact HN.out.below HB.out.bel hX) (by simp; omega) hn).mono ?_; rintro e w1 ⟨rfl, hb⟩; have HT := hide (HB.out.next hb); clear HB hb; have HB := HT; clear HT)
      | (go_at_call 26; refine (isText_any _ _ (by assumption)).mono ?_; rintro e w1 ⟨rfl, hb⟩; have HT := hide (HB.out.next hb); clear HB hb; have HB := HT; clear HT))
    go_ret2
    exact ⟨ret_two HF.out.1.symm HF.out.2.symm, HB.out.bel⟩
  have HF : Hid (ahead W x.data.toList p.data.toList = Wt.aheadV W x.data.toList p.data.toList ∧ errn (ok3 W x.data.toList p.data.toList) = 0) := by show _ ∧ _; simp [ahead, errn, ok3, hv, hxt, hyt]
  have HV := hide hv
  have hx120 : x.size ≤ 120 := by simpa using okText_len hxt
  have hy120 : p.size ≤ 120 := by simpa using okText_len hyt
  have HX := hide (okText_len hxt)
  have HY := hide (okText_len hyt)
  obtain ⟨n1, n2, n3, n4, n5, n6, n7, n8⟩ := Wt.valid_num hv
  have hmk := fun w => run_make_any (P := Try.prog) Try.underlying46 info_ints rfl (N := (p.size : Int) + 1) (n := p.size + 1) (by omega) (by omega) (by omega) w
  have hmr := fun w => run_make_any (P := Try.prog) Try.underlying25 info_int rfl (N := (x.size : Int) + 1) (n := x.size + 1) (by omega) (by omega) (by omega) w
  go_enter Try.func16, Try.ntmps16
  unfold wval
  go_wp2_with (first
    | (go_at_call 20; rw [← wval_eq]; refine (valid_try W A n c X _ (by exact HN.out.below HB.out.bel hX) (by simp; omega) hn).mono ?_; rintro e w1 ⟨rfl, hb⟩; have HT := hide (HB.out.next hb); clear HB hb; have HB := HT; clear HT)
    | (go_at_call 26; refine (isText_any _ _ (by assumption)).mono ?_; rintro e w1 ⟨rfl, hb⟩; have HT := hide (HB.out.next hb); clear HB hb; have HB := HT; clear HT; obtain ⟨d0, d1, d2, d3, d4⟩ := HB.out.facts)
    | (go_at_call 27; rw [← wval_eq]; refine (open_any W HV.out x p A n c X _ (by exact HN.out.below HB.out.bel hX) (by have := HB.out.bel.size; omega)).mono ?_; rintro e wo ⟨rfl, ho⟩; have HO := hide (ho.ed HN.out.1); have HBo := hide (HB.out.next ho.bel); clear ho HB))
  clear d0 d1 d2 d3 d4
  go_loopw [42] (fun t42 wr => AhJv wr wo (wo.heap.size + 1) wo.heap.size W x p t42) (fun t42 _ => (p.size + 1) - (intOf t42).toNat)
  case atStart => exact ⟨0, by omega, rfl, AhJ.start wo W x p⟩
  case round =>
    obtain ⟨j, hj, rfl, hJ⟩ := hrel
    have HJ := hide hJ
    clear hJ
    by_cases hlt : j < p.size + 1
    · have ⟨u0, u1, u2, u3, u4, u5, u6⟩ : wr.cell? ⟨wo.heap.size + 1, 0, none⟩ = some (.slice (some ⟨wo.heap.size, 0, none⟩) (p.size + 1) (p.size + 1)) ∧ wr.cell? ⟨wo.heap.size, j, none⟩ = some (.slice none 0 0) ∧ wr.frozen? ⟨wo.heap.size, j, none⟩ = false ∧ wo.heap.size < wr.heap.size ∧ wo.heap.size + 1 < wr.heap.size ∧ (j : Int) < (p.size : Int) + 1 ∧ 0 ≤ (j : Int) := by
        obtain ⟨B, f, h⟩ := HJ.out
        refine ⟨h.rws.var.cell 0, ?_, h.rws.top.frozen _, h.rws.top.lt, h.rws.var.lt, by omega, by omega⟩
        rw [h.rws.top.cell, slotsB_get (by omega), if_neg (by omega)]
      go_wp2
      go_region
      have HI := hide (HJ.out.row 1)
      clear HJ u0 u1 u2 u3 u4 u5 u6
      generalize hww : World.drew (World.alloc (World.setCell wr ⟨wo.heap.size, j, none⟩ (.slice (some ⟨wr.heap.size, 0, none⟩) (x.size + 1) (x.size + 1))) (.cells (madeCells #[.int .i64 0] (x.size + 1)) 3)) = wi
      have HI2 : Hid (AhI wi wo (wo.heap.size + 1) wo.heap.size W x p j 0) := by rw [← hww]; exact HI.out
      clear hww HI
      have ⟨g1, g2⟩ : wi.cell? ⟨wo.heap.size + 1, 0, none⟩ = some (.slice (some ⟨wo.heap.size, 0, none⟩) (p.size + 1) (p.size + 1)) ∧ ∃ b, wi.cell? ⟨wo.heap.size, j, none⟩ = some (.slice (some ⟨b, 0, none⟩) (x.size + 1) (x.size + 1)) := by
        obtain ⟨B, f, h⟩ := HI2.out
        have := h.facts (by omega) (Nat.zero_le _)
        exact ⟨this.1, _, this.2.1⟩
      obtain ⟨b, g2⟩ := g2
      go_wp2
      clear g1 g2
      go_loopw [57] (fun t57 wr => AhIv wr wo (wo.heap.size + 1) wo.heap.size W x p j t57) (fun t57 _ => (x.size + 1) - (intOf t57).toNat)
      case atStart => exact ⟨0, by omega, rfl, HI2.out⟩
      case round =>
        obtain ⟨i, hi, rfl, hI⟩ := hrel
        have HI := hide hI
        clear hI HI2
        by_cases hlti : i < x.size + 1
        · obtain ⟨B, f, hA⟩ := HI.out
          obtain ⟨k1, k2, ⟨ov, k3⟩, k4, k5, k6, k7⟩ := hA.facts (by omega) (show i ≤ x.size by omega)
          have hFj := Wt.F_rec HV.out HX.out HY.out (j := j) (i := i) (by simpa using (show j ≤ p.size by omega)) (by simpa using (show i ≤ x.size by omega))
          have HFR := hide hFj
          have HA := hide hA
          clear hFj hA HI
          have HBx := hide (HBo.out.next (wc := wo) (w' := wr) (HA.out.bel))
          obtain ⟨d0, d1, d2, d3, _⟩ := HBx.out.facts
          rcases Nat.eq_zero_or_pos i with hi0 | hi0
          · subst hi0
            have m1 : 0 ≤ (j : Int) * W.ins := Int.mul_nonneg (by omega) n1
            have m2 : (j : Int) * W.ins ≤ 1000000 := by
              have := Int.mul_le_mul (show (j : Int) ≤ 120 by omega) n2 n1 (by omega)
              omega
            have m3 : IntKind.i64.wrap ((j : Int) * W.ins) = (j : Int) * W.ins := IntWalk.i64_in _ (by omega)
            have HV0 : Hid ((j : Int) * W.ins = Wt.F W x.data.toList p.data.toList j 0) := by show _ = _; rw [← HFR.out]; simp [Wt.fstep]
            go_wp2
            go_region
            go_wp2
            go_roundw
            case rel =>
              have R1 : AhI _ wo (wo.heap.size + 1) wo.heap.size W x p j (0 + 1) := (AhI.next HA.out HV0.out).drewN 1
              first | exact ⟨1, by omega, by go_num, R1⟩ | ((repeat apply Exists.intro); exact ⟨⟨1, by omega, by go_num, R1⟩, rfl⟩)
            case measure => simp [intOf]; try omega
          · have hie : ((i : Int) == 0) = false := by simp; omega
            rcases Nat.eq_zero_or_pos j with hj0 | hj0
            · subst hj0
              have HV0 : Hid (Wt.atv (Wt.F W x.data.toList p.data.toList 0 (i - 1)) W.del = Wt.F W x.data.toList p.data.toList 0 i) := by
                show _ = _
                rw [← HFR.out]
                simp [Wt.fstep, show i ≠ 0 by omega]
              go_wp2_with (go_at_call 33; refine (HA.out.at_ HV.out hx120 hy120 (by omega) (i - 1) 0 (by omega) (by omega) (by omega) (by omega) (by omega)).mono ?_; rintro e w' ⟨rfl, rfl⟩)
              all_goals
                go_roundw
                case rel => first | exact ⟨i + 1, by omega, by go_num, AhI.next HA.out HV0.out⟩ | ((repeat apply Exists.intro); exact ⟨⟨i + 1, by omega, by go_num, AhI.next HA.out HV0.out⟩, rfl⟩)
                case measure => simp [intOf]; try omega
            · have hi1 : i - 1 ≤ x.size := by omega
              have hj1 : j - 1 ≤ p.size := by omega
              have hix1 : ((i : Int) - 1) = ((i - 1 : Nat) : Int) := by omega
              have hjx1 : ((j : Int) - 1) = ((j - 1 : Nat) : Int) := by omega
              have HEo := hide (HO.out.below HA.out.bel HO.out.blk.lt HO.out.map.lt)
              have r1 := same_rng x.data.toList p.data.toList (i - 1) (j - 1)
              have r2 := change_rng HV.out x.data.toList p.data.toList (i - 1) (j - 1)
              have s1 : IntKind.i64.wrap ((i : Int) - 1) = (i : Int) - 1 := IntWalk.i64_in _ (by omega)
              have s2 : IntKind.i64.wrap ((j : Int) - 1) = (j : Int) - 1 := IntWalk.i64_in _ (by omega)
              go_wp2_with (first
                | (go_at_call 33; refine (HA.out.at_ HV.out hx120 hy120 (by omega) (i - 1) j (by omega) (by omega) (by omega) (by omega) (by omega)).mono ?_; rintro e w' ⟨rfl, rfl⟩)
                | (go_at_call 31; refine (steps_any W HV.out x p A n c _ _ (i - 1) (j - 1) _ HEo.out hx120 hy120 hi1 hj1).mono ?_; rintro e w5 ⟨rfl, hb5⟩; have HB5 := hide hb5; clear hb5)
                | ((with_reducible show wpList _ _ _ (Oper.mk _ (Op.store 53 (.tmp 14) (.tmp 86)) _ _ _ _ :: _) _ _); refine wpList_store_part rfl 53 (.tmp 14) (.tmp 86) rfl w5.heap.size 0 _ rfl rfl 53 (initArr 0) (by rw [initArr0]; exact Blk.new _ _ _) (by kernel_rfl) (fit18 rfl) (stepArr_one _) ?_; intro w6 ho6 hb6; have HW6 := hide ho6; obtain ⟨x3, x6⟩ := box_cells hb6; have HB6 := hide hb6; clear ho6 hb6))
              have hbb := hide (HW6.out.below (HB5.out.alloc HB5.out.size _) (HB5.out.alloc HB5.out.size _).size HB5.out.size)
              have HA6 := hide (HA.out.below hbb.out)
              have HAd : Hid (AhRel w6.drew wo (wo.heap.size + 1) wo.heap.size W x p j i B f) := HA6.out.drewN 1
              have s3 : IntKind.i64.wrap ((i - 1 : Nat) : Int) = ((i - 1 : Nat) : Int) := IntWalk.i64_in _ (by omega)
              have s4 : IntKind.i64.wrap ((j - 1 : Nat) : Int) = ((j - 1 : Nat) : Int) := IntWalk.i64_in _ (by omega)
              have HBx6 := hide (HBx.out.next hbb.out)
              have HE6 := hide (HEo.out.below hbb.out HEo.out.blk.lt HEo.out.map.lt)
              obtain ⟨q1, q2, ⟨ov6, q3⟩, q4, q5, q6, q7⟩ := HA6.out.facts (by omega) (show i ≤ x.size by omega)
              clear d0 d1 d2 d3
              obtain ⟨d0, d1, d2, d3, _⟩ := HBx6.out.facts
              refine wp_region_still_tail 26 (by kernel_rfl) (by kernel_rfl) ?_
              simp only [List.take_succ_cons, List.take_zero]
              repeat still_step
              still_call (HAd.out.still HV.out hx120 hy120 (by omega) i (j - 1) (by omega) (by omega) (by omega) (by omega) (by omega))
              repeat still_step
              still_call (HAd.out.still HV.out hx120 hy120 (by omega) (i - 1) (j - 1) (by omega) (by omega) (by omega) (by omega) (by omega))
              repeat still_step
              still_call (HAd.out.still HV.out hx120 hy120 (by omega) (i - 1) (j - 1) (by omega) (by omega) (by omega) (by omega) (by omega))
              try refine wpStill_nil ?_
              simp only [List.drop_succ_cons, List.drop_zero]
              change wpList _ _ _ _ _ w6.drew
              have HEd : Hid (Ed w6.drew (w1.heap.size + 2) (w1.heap.size + 1) W A n c x p) := HE6.out.drewN 1
              clear HBx6 HE6 HA6 q1 q2 q3 q4 q5 q6 q7 d0 d1 d2 d3 x3 x6 HB6 hbb HW6 HB5 HEo HBx HA k1 k2 k3 k4 k5 k6 k7
              generalize w6.drew = w7 at HAd HEd ⊢
              generalize hm4 : min (min (min (Wt.atv (W.F x.data.toList p.data.toList j (i - 1)) W.del) (Wt.atv (W.F x.data.toList p.data.toList (j - 1) i) W.ins)) (Wt.atv (W.F x.data.toList p.data.toList (j - 1) (i - 1)) (Wt.same x.data.toList p.data.toList (i - 1) (j - 1)).1)) (Wt.atv (W.F x.data.toList p.data.toList (j - 1) (i - 1)) (W.change x.data.toList p.data.toList (i - 1) (j - 1)).1) = m4
              have HM4 := hide hm4
              clear hm4
              have HV1 : Hid ((if 1 < i ∧ 1 < j then min m4 (Wt.atv (W.F x.data.toList p.data.toList (j - 2) (i - 2)) (W.swap x.data.toList p.data.toList (i - 2) (j - 2)).1) else m4) = Wt.F W x.data.toList p.data.toList j i) := by
                show _ = _
                rw [← HFR.out, ← HM4.out]
                simp only [Wt.fstep, if_neg (show ¬ i = 0 by omega), if_pos (show 0 < j by omega)]
              by_cases hw1 : 1 < (i : Int)
              · by_cases hw2 : 1 < (j : Int)
                · have HV0 : Hid (min m4 (Wt.atv (W.F x.data.toList p.data.toList (j - 2) (i - 2)) (W.swap x.data.toList p.data.toList (i - 2) (j - 2)).1) = Wt.F W x.data.toList p.data.toList j i) := by
                    show _ = _
                    rw [← HV1.out, if_pos (by omega)]
                  have hix2 : ((i : Int) - 2) = ((i - 2 : Nat) : Int) := by omega
                  have hjx2 : ((j : Int) - 2) = ((j - 2 : Nat) : Int) := by omega
                  have s5 : IntKind.i64.wrap ((i - 2 : Nat) : Int) = ((i - 2 : Nat) : Int) := IntWalk.i64_in _ (by omega)
                  have s6 : IntKind.i64.wrap ((j - 2 : Nat) : Int) = ((j - 2 : Nat) : Int) := IntWalk.i64_in _ (by omega)
                  have hi2 : i - 2 ≤ x.size := by omega
                  have hj2 : j - 2 ≤ p.size := by omega
                  have r5 := swap_rng HV.out x.data.toList p.data.toList (i - 2) (j - 2)
                  obtain ⟨⟨sc, sa, sb⟩, hs⟩ : ∃ s, W.swap x.data.toList p.data.toList (i - 2) (j - 2) = s := ⟨_, rfl⟩
                  rw [hs] at r5 HV0
                  obtain ⟨r5, r6⟩ : -1000 ≤ sc ∧ sc ≤ 1000 := r5
                  have hix : ∀ w, (Instr.index 53 (.agg (stepArr (W.steps x.data.toList p.data.toList (i - 2) (j - 2)))) (.int .i64 5)).run Try.prog w = .ok (.agg #[.int .i64 sc, .int .i64 sa, .int .i64 sb]) w := fun w => index_step _ (steps_length W x.data.toList p.data.toList (i - 2) (j - 2)) (k := 5) (by rw [← hs]; rfl) w
                  have HV2 : Hid (min m4 (Wt.atv (W.F x.data.toList p.data.toList (j - 2) (i - 2)) sc) = Wt.F W x.data.toList p.data.toList j i) := HV0
                  clear hs
                  go_wp2_with (first
                    | (go_at_call 34; refine (least4 _ _ _ _ _ w7 (by rfl)).mono ?_; rintro e w8 ⟨rfl, hb8⟩; rw [HM4.out]; have HB8 := hide hb8; clear hb8; have HA8 := hide (HAd.out.below HB8.out); have HE8 := hide (HEd.out.below HB8.out HEd.out.blk.lt HEd.out.map.lt); obtain ⟨q1, q2, ⟨ov8, q3⟩, q4, q5, q6, q7⟩ := HA8.out.facts (by omega) (show i ≤ x.size by omega))
                    | (go_at_call 31; refine (steps_any W HV.out x p A n c _ _ (i - 2) (j - 2) _ HE8.out hx120 hy120 hi2 hj2).mono ?_; rintro e w9 ⟨rfl, hb9⟩; have HB9 := hide hb9; clear hb9; have HA9 := hide (HA8.out.below HB9.out); clear q1 q2 q3 q4 q5 q6 q7; obtain ⟨q1, q2, ⟨ov9, q3⟩, q4, q5, q6, q7⟩ := HA9.out.facts (by omega) (show i ≤ x.size by omega))
                    | ((with_reducible show wpList _ _ _ (Oper.mk _ (Op.field 52 (.tmp 133) 0) _ _ _ _ :: _) _ _); refine wpList_field_one rfl _ _ _ rfl (.int .i64 sc) (by rfl) ?_)
                    | (go_at_call 33; refine (HA9.out.at_ HV.out hx120 hy120 (by omega) (i - 2) (j - 2) (by omega) (by omega) (by omega) (by omega) (by omega)).mono ?_; rintro e w' ⟨rfl, rfl⟩)
                    | (go_at_call 34; refine (least2 _ _ _ w9 (by rfl)).mono ?_; rintro e w10 ⟨rfl, hb10⟩; have HA10 := hide (HA9.out.below hb10); clear hb10; clear q1 q2 q3 q4 q5 q6 q7; obtain ⟨q1, q2, ⟨ov10, q3⟩, q4, q5, q6, q7⟩ := HA10.out.facts (by omega) (show i ≤ x.size by omega)))
                  all_goals
                    go_roundw
                    case rel => first | exact ⟨i + 1, by omega, by go_num, AhI.next HA10.out HV2.out⟩ | ((repeat apply Exists.intro); exact ⟨⟨i + 1, by omega, by go_num, AhI.next HA10.out HV2.out⟩, rfl⟩)
                    case measure => simp [intOf]; try omega
                · have HV0 : Hid (m4 = Wt.F W x.data.toList p.data.toList j i) := by
                    show _ = _
                    rw [← HV1.out, if_neg (by omega)]
                  go_wp2_with (first
                    | (go_at_call 34; refine (least4 _ _ _ _ _ w7 (by rfl)).mono ?_; rintro e w8 ⟨rfl, hb8⟩; rw [HM4.out]; have HB8 := hide hb8; clear hb8; have HA8 := hide (HAd.out.below HB8.out); have HE8 := hide (HEd.out.below HB8.out HEd.out.blk.lt HEd.out.map.lt); obtain ⟨q1, q2, ⟨ov8, q3⟩, q4, q5, q6, q7⟩ := HA8.out.facts (by omega) (show i ≤ x.size by omega)))
                  all_goals
                    go_roundw
                    case rel => first | exact ⟨i + 1, by omega, by go_num, AhI.next HA8.out HV0.out⟩ | ((repeat apply Exists.intro); exact ⟨⟨i + 1, by omega, by go_num, AhI.next HA8.out HV0.out⟩, rfl⟩)
                    case measure => simp [intOf]; try omega
              · have HV0 : Hid (m4 = Wt.F W x.data.toList p.data.toList j i) := by
                  show _ = _
                  rw [← HV1.out, if_neg (by omega)]
                go_wp2_with (first
                  | (go_at_call 34; refine (least4 _ _ _ _ _ w7 (by rfl)).mono ?_; rintro e w8 ⟨rfl, hb8⟩; rw [HM4.out]; have HB8 := hide hb8; clear hb8; have HA8 := hide (HAd.out.below HB8.out); have HE8 := hide (HEd.out.below HB8.out HEd.out.blk.lt HEd.out.map.lt); obtain ⟨q1, q2, ⟨ov8, q3⟩, q4, q5, q6, q7⟩ := HA8.out.facts (by omega) (show i ≤ x.size by omega)))
                all_goals
                  go_roundw
                  case rel => first | exact ⟨i + 1, by omega, by go_num, AhI.next HA8.out HV0.out⟩ | ((repeat apply Exists.intro); exact ⟨⟨i + 1, by omega, by go_num, AhI.next HA8.out HV0.out⟩, rfl⟩)
                  case measure => simp [intOf]; try omega
        · have HZ := hide (AhI.done_row (by have e : i = x.size + 1 := by omega
                                            rw [← e]; exact HI.out))
          clear HI
          go_wp2
          go_roundw
          case rel =>
            have R : AhJv _ wo (wo.heap.size + 1) wo.heap.size W x p (.int .i64 ((j : Int) + 1)) := ⟨j + 1, by omega, by go_num, HZ.out⟩
            first | exact R | ((repeat apply Exists.intro); exact ⟨R, rfl⟩)
          case measure => simp [intOf]; try omega
    · obtain ⟨B, f, hT⟩ : AhJ wr wo (wo.heap.size + 1) wo.heap.size W x p (p.size + 1) := by
        have e : j = p.size + 1 := by omega
        rw [← e]; exact HJ.out
      have HT := hide hT
      have HBx := hide (HBo.out.next hT.bel)
      have hR := hT.rws.var.cell 0
      have hS := hT.rws.slot (show p.size < p.size + 1 by omega) (by omega)
      have hmin : Hid (Lib.minOf ((List.range (x.size + 1)).map fun i => f p.size i) = W.afold x.data.toList p.data.toList 0) := by
        show _ = _
        have e : ((List.range (x.size + 1)).map fun i => f p.size i) = (List.range (x.data.toList.length + 1)).map fun i => W.F x.data.toList p.data.toList p.data.toList.length i := by
          have e1 : x.data.toList.length = x.size := by simp
          have e2 : p.data.toList.length = p.size := by simp
          rw [e1, e2]
          exact List.map_congr_left fun i hi => hT.done p.size i (by have := List.mem_range.1 hi; omega) (by omega)
        rw [e]
        exact minOf_row _ (by simp)
      have hcells : Hid (∀ q, q < ((List.range (x.size + 1)).map fun i => f p.size i).length → wr.cell? ⟨B p.size, 0 + q, none⟩ = some (.int .i64 (((List.range (x.size + 1)).map fun i => f p.size i).getD q 0))) := by
        show ∀ q, _ → _
        intro q hq
        rw [Nat.zero_add, hT.rws.cell (by omega) (by simpa using hq)]
        simp at hq
        simp [hq]
      clear hT HJ
      obtain ⟨d0, d1, d2, d3, _⟩ := HBx.out.facts
      go_wp2_with (go_at_call 34; refine (least_any _ _ _ ((List.range (x.size + 1)).map fun i => f p.size i) _ (by omega) (by simp) (by omega) hcells.out).mono ?_; rintro e w' ⟨rfl, rfl⟩; rw [hmin.out])
      go_loopw [16, 17] (fun t16 t17 wr => AhOv wr wo (wo.heap.size + 1) wo.heap.size W x p t16 t17) (fun _ t17 _ => x.size - (intOf t17).toNat)
      case atStart => exact ⟨0, .inl rfl, fun _ => rfl, rfl, rfl, B, f, HT.out⟩
      case round =>
        clear HT HBx hR hS hmin hcells d0 d1 d2 d3
        obtain ⟨i, hi, hz, rfl, rfl, B, f, hT⟩ := hrel
        have HT := hide hT
        have HBx := hide (HBo.out.next hT.bel)
        clear hT
        obtain ⟨d0, d1, d2, d3, _⟩ := HBx.out.facts
        by_cases hlt : i + 1 < x.size
        · by_cases hp0 : 0 < p.size
          · have hpl : p.size - 1 < p.size := by omega
            have hi1 : i < x.size := by omega
            have hjx1 : ((p.size : Int) - 1) = ((p.size - 1 : Nat) : Int) := by omega
            have hov := over_byte hlt hp0
            have xi1 : ∀ w, (Instr.index 9 (.string x) (.int .i64 ((i : Int) + 1))).run Try.prog w = .ok (.int .u8 x[i + 1].toNat) w := run_index_str x (i + 1) hlt (by omega)
            have s1 : IntKind.i64.wrap ((i : Int) + 1) = (i : Int) + 1 := IntWalk.i64_in _ (by omega)
            have s2 : IntKind.i64.wrap ((p.size - 1 : Nat) : Int) = ((p.size - 1 : Nat) : Int) := IntWalk.i64_in _ (by omega)
            by_cases e1 : x[i].toNat = x[i + 1].toNat
            · have HV : Hid (W.afold x.data.toList p.data.toList i = W.afold x.data.toList p.data.toList (i + 1)) := by
                show _ = _
                rw [Wt.afold_succ, hov]; simp [e1]
              have hb1 : ((x[i].toNat : Int) != (x[i + 1].toNat : Int)) = false := by simp [e1]
              clear hov e1
              go_wp2
              go_quiet (fail)
              go_wp2
              go_roundw
              case rel => first | exact ⟨i + 1, by omega, by omega, by rw [HV.out], by go_num, B, f, HT.out⟩ | ((repeat apply Exists.intro); exact ⟨⟨i + 1, by omega, by omega, by rw [HV.out], by go_num, B, f, HT.out.drewN _⟩, rfl⟩) | exact ⟨i + 1, by omega, by omega, by rw [HV.out], by go_num, B, f, HT.out.drewN _⟩
              case measure => simp [intOf]; try omega
            · have hb1 : ((x[i].toNat : Int) != (x[i + 1].toNat : Int)) = true := by simp; omega
              by_cases e2 : x[i + 1].toNat = p[p.size - 1].toNat
              · have HK : Hid (min (W.afold x.data.toList p.data.toList i) (Wt.atv (W.F x.data.toList p.data.toList (p.size - 1) i) W.swp) = W.afold x.data.toList p.data.toList (i + 1)) := by
                  show _ = _
                  rw [Wt.afold_succ, hov, if_pos (by simp only [Bool.and_eq_true, Bool.not_eq_true', decide_eq_false_iff_not, decide_eq_true_eq]; exact ⟨e1, e2⟩)]
                  simp
                have hb2 : ((x[i + 1].toNat : Int) == (p[p.size - 1].toNat : Int)) = true := by simp [e2]
                clear hov e1 e2
                go_wp2
                go_quiet (fail)
                go_wp2_with (first
                  | (go_at_call 33; refine ((HT.out.drewN _).at_ HV.out hx120 hy120 i (p.size - 1) (by omega) (by omega) (by omega) (by omega) (by omega)).mono ?_; rintro e w' ⟨rfl, rfl⟩)
                  | (go_at_call 34; refine (least2 _ _ _ _ (by rfl)).mono ?_; rintro e w8 ⟨rfl, hb8⟩; rw [HK.out]; have HT8 := hide ((HT.out.drewN _).below hb8); clear hb8))
                go_roundw
                case rel => first | exact ⟨i + 1, by omega, by omega, rfl, by go_num, B, f, HT8.out⟩ | ((repeat apply Exists.intro); exact ⟨⟨i + 1, by omega, by omega, rfl, by go_num, B, f, HT8.out⟩, rfl⟩)
                case measure => simp [intOf]; try omega
              · have HV : Hid (W.afold x.data.toList p.data.toList i = W.afold x.data.toList p.data.toList (i + 1)) := by
                  show _ = _
                  rw [Wt.afold_succ, hov]; simp [e1, e2]
                have hb2 : ((x[i + 1].toNat : Int) == (p[p.size - 1].toNat : Int)) = false := by simp; omega
                clear hov e1 e2
                go_wp2
                go_quiet (fail)
                go_wp2
                go_roundw
                case rel => first | exact ⟨i + 1, by omega, by omega, by rw [HV.out], by go_num, B, f, HT.out⟩ | ((repeat apply Exists.intro); exact ⟨⟨i + 1, by omega, by omega, by rw [HV.out], by go_num, B, f, HT.out.drewN _⟩, rfl⟩) | exact ⟨i + 1, by omega, by omega, by rw [HV.out], by go_num, B, f, HT.out.drewN _⟩
                case measure => simp [intOf]; try omega
          · have HE : Hid (W.afold x.data.toList p.data.toList i = ahead W x.data.toList p.data.toList) := by
              show _ = _
              rw [HF.out.1, hz (by omega)]
              simp [Wt.aheadV, show p.size = 0 by omega, Wt.afold]
            go_wp2
            go_ret2
            exact ⟨ret_two HE.out HF.out.2.symm, HBx.out.bel⟩
        · have HE : Hid (W.afold x.data.toList p.data.toList i = ahead W x.data.toList p.data.toList) := by
            show _ = _
            rw [HF.out.1]
            unfold Wt.aheadV
            by_cases hp0 : 0 < p.data.toList.length
            · rw [if_pos hp0]
              have : x.data.toList.length - 1 = i := by
                have e1 : x.data.toList.length = x.size := by simp
                omega
              rw [this]
            · rw [if_neg hp0, hz (by simpa using hp0)]
              rfl
          go_wp2
          go_ret2
          exact ⟨ret_two HE.out HF.out.2.symm, HBx.out.bel⟩
end Go.Proofs.Ytnpdhbagfkilkaa
