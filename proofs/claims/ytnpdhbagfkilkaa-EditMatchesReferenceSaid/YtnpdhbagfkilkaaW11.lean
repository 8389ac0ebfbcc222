/- Walks: edit.Best. -/
import Derived.Test.YtnpdhbagfkilkaaW10
import Derived.OwnWalk
set_option linter.unusedVariables false
set_option linter.unusedSimpArgs false
namespace Go.Proofs.Ytnpdhbagfkilkaa
open Go.RowKit

theorem own_block {w : World} {base : Nat} {e : TypeId} {size n : Nat} {v : Value} {xs : List Value} (h : w.ownsRow base e size v n xs) : ∀ k, v.ownBlock = some k → base ≤ k ∧ k < w.heap.size := by
  rcases h.2 with ⟨rfl, _⟩ | ⟨g, cap, cur, rfl, hb, hh, _⟩
  · intro k hk; simp [Value.ownBlock] at hk
  · intro k hk
    simp only [Value.ownBlock, Option.some.injEq] at hk
    subst hk
    exact ⟨hb, (Array.getElem?_eq_some_iff.1 hh).1⟩
theorem own_drewN {w : World} {base : Nat} {e : TypeId} {size n : Nat} {v : Value} {xs : List Value} (h : w.ownsRow base e size v n xs) (q : Nat) : (w.drewN q).ownsRow base e size v n xs := h
/-- a slice value that holds the integers l -/
def IntsV (w : World) (v : Value) (l : List Int) : Prop := ∃ A c, v = .slice A l.length c ∧ Ints w w.heap.size A l.length l
theorem IntsV.nil (w : World) : IntsV w (.slice none 0 0) [] := ⟨none, 0, rfl, Reads.none_⟩
theorem IntsV.of_own {w : World} {base : Nat} {e : TypeId} {v : Value} {l : List Int} (h : w.ownsRow base e 1 v l.length (l.map (Value.int .i64))) : IntsV w v l := by
  rcases h.2 with ⟨rfl, h0⟩ | ⟨g, cap, cur, rfl, hb, hh, h1, h2, h3, h4⟩
  · have : l = [] := List.eq_nil_of_length_eq_zero h0
    subst this
    exact IntsV.nil w
  · refine ⟨some ⟨g, 0, none⟩, cap, rfl, by simp, fun _ => ⟨⟨g, 0, none⟩, rfl, (Array.getElem?_eq_some_iff.1 hh).1, fun j u hu => ?_⟩⟩
    have e1 : (⟨g, 0, none⟩ : Addr).add j = ⟨g, j, none⟩ := by unfold Addr.add; split <;> simp_all
    rw [e1, cell_of_row w g j cur e (0, 0) hh]
    rw [← h4, List.getElem?_take] at hu
    split at hu
    · simpa using hu
    · cases hu

structure BsRel (wr wT : World) (W : Wt) (x y : ByteArray) (t11 : Value) (i j : Nat) (l : List Int) : Prop where
  hi : i ≤ x.size
  hj : j ≤ y.size
  len : l.length ≤ i + j
  path : l ++ Wt.G W x.data.toList y.data.toList i j = Wt.G W x.data.toList y.data.toList 0 0
  own : wr.ownsRow wT.heap.size 3 1 t11 l.length (l.map (Value.int .i64))
  bel : Below wT.heap.size wT wr
def BsR (wr wT : World) (W : Wt) (x y : ByteArray) (t11 t12 t13 : Value) : Prop :=
  ∃ i j l, t12 = .int .i64 (i : Nat) ∧ t13 = .int .i64 (j : Nat) ∧ BsRel wr wT W x y t11 i j l
def BsK (wr wT : World) (W : Wt) (x y : ByteArray) (i j : Nat) (l : List Int) (v t11 t12 t13 t49 : Value) : Prop :=
  ∃ k : Nat, k ≤ 6 ∧ t49 = .int .i64 k ∧ v = t11 ∧ t12 = .int .i64 i ∧ t13 = .int .i64 j ∧ (∀ q, q < k → Wt.goodK W x.data.toList y.data.toList i j q = false) ∧ BsRel wr wT W x y v i j l

theorem BsRel.more {wr wT : World} {W : Wt} {x y : ByteArray} {v : Value} {i j : Nat} {l : List Int} (h : BsRel wr wT W x y v i j l) (o : Obj) (q : Nat) : BsRel ((wr.alloc o).drewN q) wT W x y v i j l :=
  ⟨h.hi, h.hj, h.len, h.path, own_drewN (h.own.alloc o) q, below_drewN (h.bel.alloc h.bel.size o) q⟩
theorem BsRel.below {wr w' wT : World} {W : Wt} {x y : ByteArray} {v : Value} {i j : Nat} {l : List Int} (h : BsRel wr wT W x y v i j l) (hb : Below wr.heap.size wr w') : BsRel w' wT W x y v i j l :=
  ⟨h.hi, h.hj, h.len, h.path, (by
    refine ⟨h.own.1, ?_⟩
    rcases h.own.2 with h0 | ⟨g, cap, cur, h1, h2, h3, h4⟩
    · exact .inl h0
    · exact .inr ⟨g, cap, cur, h1, h2, (hb.block g (Array.getElem?_eq_some_iff.1 h3).1).trans h3, h4⟩), h.bel.trans (hb.mono h.bel.size)⟩
/-- the facts that a round reads of the table -/
theorem FillRel.two {wT w : World} {g m : Nat} {W : Wt} {A : Option Addr} {n c : Nat} {x y : ByteArray} {D : Nat → Nat → Int} (h : FillRel wT w g m W A n c x y D 0 0) {wr : World} (hb : Below wT.heap.size wT wr) {i j : Nat} (hi : i ≤ x.size) (hj : j ≤ y.size) :
    wr.cell? ⟨w.heap.size, i, none⟩ = some (.slice (some ⟨w.heap.size + 1 + i, 0, none⟩) (y.size + 1) (y.size + 1)) ∧ wr.cell? ⟨w.heap.size + 1 + i, j, none⟩ = some (.int .i64 (D i j)) ∧ w.heap.size < wr.heap.size ∧ w.heap.size + 1 + i < wr.heap.size := by
  have hz := h.size
  have hz2 := hb.size
  obtain ⟨h1, h2⟩ := h.cells hi hj (.inl (by omega))
  exact ⟨(hb.cell (p := ⟨w.heap.size, i, none⟩) (by show w.heap.size < wT.heap.size; omega)).trans h1, (hb.cell (p := ⟨w.heap.size + 1 + i, j, none⟩) (by show w.heap.size + 1 + i < wT.heap.size; omega)).trans h2, by omega, by omega⟩
theorem good_iff {W : Wt} {x y : List UInt8} {i j k na nb : Nat} {sc dv dij : Int} (hs : Wt.stp W x y i j k = (sc, (na : Int), (nb : Int))) (h1 : Wt.D W x y (i + na) (j + nb) = dv) (h2 : Wt.D W x y i j = dij) : Wt.goodK W x y i j k = (decide (0 ≤ sc) && decide (sc + dv = dij)) := by
  unfold Wt.goodK
  rw [hs]
  simp only [Int.toNat_natCast, h1, h2]
theorem good_neg {W : Wt} {x y : List UInt8} {i j k : Nat} {sc sa sb : Int} (hs : Wt.stp W x y i j k = (sc, sa, sb)) (h : sc < 0) : Wt.goodK W x y i j k = false := by
  unfold Wt.goodK
  rw [hs]
  simp; omega
theorem one_new {W : World} {a : Value} {ty : TypeId} {b : Nat} (hb : b = W.heap.size) : ∀ (j : Nat) (u : Value), [a][j]? = some u → (W.alloc (.cells #[a] ty)).cell? ((⟨b, 0, none⟩ : Addr).add j) = some u := by
  subst hb
  exact cell_one_new _ _ _
theorem BsK.next {wr wT : World} {W : Wt} {x y : ByteArray} {v : Value} {i j k : Nat} {l : List Int} (hk : k < 6) (hmin : ∀ q, q < k → Wt.goodK W x.data.toList y.data.toList i j q = false) (hg : Wt.goodK W x.data.toList y.data.toList i j k = false) (h : BsRel wr wT W x y v i j l) (o : Obj) (q : Nat) :
    BsK ((wr.alloc o).drewN q) wT W x y i j l v v (.int .i64 i) (.int .i64 j) (.int .i64 ((k : Int) + 1)) :=
  ⟨k + 1, by omega, by go_num, rfl, rfl, rfl, fun q hq => by
    rcases Nat.lt_or_ge q k with h | h
    · exact hmin q h
    · obtain rfl : q = k := by omega
      exact hg, h.more o q⟩
/-- one edit more -/
theorem BsRel.step {wr w' wT : World} {W : Wt} {x y : ByteArray} {v v' : Value} {i j k na nb : Nat} {l : List Int} {sc : Int} (h : BsRel wr wT W x y v i j l) (hG : Wt.G W x.data.toList y.data.toList i j = (k : Int) :: Wt.G W x.data.toList y.data.toList (i + na) (j + nb))
    (hi : i + na ≤ x.size) (hj : j + nb ≤ y.size) (hp : 0 < na + nb) (hown : w'.ownsRow wT.heap.size 3 1 v' (l.length + 1) (l.map (Value.int .i64) ++ [.int .i64 k])) (hb : Below wT.heap.size wT w') : BsRel w' wT W x y v' (i + na) (j + nb) (l ++ [(k : Int)]) :=
  ⟨hi, hj, by have := h.len; simp; omega, by rw [← h.path, hG]; simp, by simpa using hown, hb⟩

theorem BsR.mk {wr w' wT : World} {W : Wt} {x y : ByteArray} {v v' : Value} {i j k na nb : Nat} {l : List Int} (h : BsRel wr wT W x y v i j l) (hG : Wt.G W x.data.toList y.data.toList i j = (k : Int) :: Wt.G W x.data.toList y.data.toList (i + na) (j + nb))
    (hi : i + na ≤ x.size) (hj : j + nb ≤ y.size) (hp : 0 < na + nb) (hown : w'.ownsRow wT.heap.size 3 1 v' (l.length + 1) (l.map (Value.int .i64) ++ [.int .i64 k])) (hb : Below wT.heap.size wT w') (q : Nat) :
    BsR (w'.drewN q) wT W x y v' (.int .i64 ((i : Int) + na)) (.int .i64 ((j : Int) + nb)) :=
  ⟨i + na, j + nb, l ++ [(k : Int)], vint (by omega), vint (by omega), h.step (sc := 0) hG hi hj hp (own_drewN hown q) (below_drewN hb q)⟩
/-- behind the append: the step's box, what lay before -/
theorem best_boxes {wr wT w6 : World} {W : Wt} {x y : ByteArray} {v : Value} {i j q : Nat} {l : List Int} {a b c : Int} {k : Int} (h : BsRel wr wT W x y v i j l)
    (hg : (((wr.alloc (.cells #[.int .i64 a, .int .i64 b, .int .i64 c] 52)).drewN q).alloc (.cells #[.int .i64 k] 3)).grownBy w6 v.ownBlock) :
    w6.cell? ⟨wr.heap.size, 1, none⟩ = some (.int .i64 b) ∧ w6.cell? ⟨wr.heap.size, 2, none⟩ = some (.int .i64 c) ∧ Below wT.heap.size wT w6 := by
  have hne : some wr.heap.size ≠ v.ownBlock := fun e => by have := (own_block h.own _ e.symm).2; omega
  have hb : Blk (((wr.alloc (.cells #[.int .i64 a, .int .i64 b, .int .i64 c] 52)).drewN q).alloc (.cells #[.int .i64 k] 3)) wr.heap.size 52 #[.int .i64 a, .int .i64 b, .int .i64 c] :=
    ((Blk.new wr _ _).drewN q).alloc _
  have hb6 : Blk w6 wr.heap.size 52 #[.int .i64 a, .int .i64 b, .int .i64 c] := (hg.block _ hb.lt hne).trans hb
  have hz := h.bel.size
  have hbl : Below wT.heap.size wT (((wr.alloc (.cells #[.int .i64 a, .int .i64 b, .int .i64 c] 52)).drewN q).alloc (.cells #[.int .i64 k] 3)) :=
    (below_drewN (h.bel.alloc hz _) q).alloc (by show wT.heap.size ≤ ((wr.alloc _)).heap.size; simp; omega) _
  exact ⟨hb6.cell 1, hb6.cell 2, hbl.grown hg hbl.size (fun k hk => (own_block h.own k hk).1)⟩
theorem ret_three {v : Value} {a b c d : Int} (h1 : a = b) (h2 : c = d) : Ending.returned (.tuple #[v, .int .i64 a, .int .i64 c]) = .returned (.tuple #[v, .int .i64 b, .int .i64 d]) := by rw [h1, h2]
theorem best_f {W : Wt} {x y : List UInt8} (h : ok3 W x y = false) : bestL W x y = [] ∧ dist W x y = 0 ∧ errn (ok3 W x y) = 1 := by simp [bestL, dist, errn, h]

set_option maxHeartbeats 1000000 in
set_option maxRecDepth 100000 in
theorem best_any (W : Wt) (A : Option Addr) (n c X : Nat) (x y : ByteArray) (w : World) (hN : Near w X A n W.near) (hX : X ≤ w.heap.size) (hn : n ≤ 140737488355328) (hx : x.size ≤ maxLen) (hy : y.size ≤ maxLen) :
    Calls Try.prog 14 #[wval W A n c, .string x, .string y] w fun e w' => ∃ v, e = .returned (.tuple #[v, .int .i64 (dist W x.data.toList y.data.toList), .int .i64 (errn (ok3 W x.data.toList y.data.toList))]) ∧ IntsV w' v (bestL W x.data.toList y.data.toList) ∧ Below w.heap.size w w' := by
  have HN := hide hN
  have HB := hide (Box.start w W A n c)
  clear hN
  cases hv : W.valid
  · have HF := hide (best_f (W := W) (x := x.data.toList) (y := y.data.toList) (by simp [ok3, hv]))
    go_enter Try.func14, Try.ntmps14
    unfold wval
    go_wp2_with (go_at_call 20; rw [← wval_eq]; refine (valid_try W A n c X _ (by exact HN.out.below HB.out.bel hX) (by simp; omega) hn).mono ?_; rintro e w1 ⟨rfl, hb⟩; have HT := hide (HB.out.next hb); clear HB hb; have HB := HT; clear HT)
    go_ret3
    exact ⟨_, ret_three HF.out.2.1.symm HF.out.2.2.symm, by rw [HF.out.1]; exact IntsV.nil _, HB.out.bel⟩
  cases hxt : okText x.data.toList
  · have HF := hide (best_f (W := W) (x := x.data.toList) (y := y.data.toList) (by simp [ok3, hxt]))
    go_enter Try.func14, Try.ntmps14
    unfold wval
    go_wp2_with (first
      | (go_at_call 20; rw [← wval_eq]; refine (valid_try W A n c X _ (by exact HN.out.below HB.out.bel hX) (by simp; omega) hn).mono ?_; rintro e w1 ⟨rfl, hb⟩; have HT := hide (HB.out.next hb); clear HB hb; have HB := HT; clear HT)
      | (go_at_call 26; refine (isText_any _ _ (by assumption)).mono ?_; rintro e w1 ⟨rfl, hb⟩; have HT := hide (HB.out.next hb); clear HB hb; have HB := HT; clear HT))
    go_ret3
    exact ⟨_, ret_three HF.out.2.1.symm HF.out.2.2.symm, by rw [HF.out.1]; exact IntsV.nil _, HB.out.bel⟩
  cases hyt : okText y.data.toList
  · have HF := hide (best_f (W := W) (x := x.data.toList) (y := y.data.toList) (by simp [ok3, hyt]))
    go_enter Try.func14, Try.ntmps14
    unfold wval
    go_wp2_with (first
      | (go_at_call 20; rw [← wval_eq]; refine (valid_try W A n c X _ (by exact HN.out.below HB.out.bel hX) (by simp; omega) hn).mono ?_; rintro e w1 ⟨rfl, hb⟩; have HT := hide (HB.out.next hb); clear HB hb; have HB := HT; clear HT)
      | (go_at_call 26; refine (isText_any _ _ (by assumption)).mono ?_; rintro e w1 ⟨rfl, hb⟩; have HT := hide (HB.out.next hb); clear HB hb; have HB := HT; clear HT))
    go_ret3
    exact ⟨_, ret_three HF.out.2.1.symm HF.out.2.2.symm, by rw [HF.out.1]; exact IntsV.nil _, HB.out.bel⟩
  have HF := hide (ok3_t (W := W) (x := x.data.toList) (y := y.data.toList) hv hxt hyt)
  have HL : Hid (bestL W x.data.toList y.data.toList = Wt.G W x.data.toList y.data.toList 0 0) := by show _ = _; simp [bestL, ok3, hv, hxt, hyt]
  have HV := hide hv
  have hx120 : x.size ≤ 120 := by simpa using okText_len hxt
  have hy120 : y.size ≤ 120 := by simpa using okText_len hyt
  have HX := hide (okText_len hxt)
  have HY := hide (okText_len hyt)
  have HD := hide (Wt.isDist hv (okText_len hxt) (okText_len hyt))
  obtain ⟨i0, hi0, hz0, hz1, hz2⟩ := info_parts info_int
  go_enter Try.func14, Try.ntmps14
  unfold wval
  go_wp2_with (first
    | (go_at_call 20; rw [← wval_eq]; refine (valid_try W A n c X _ (by exact HN.out.below HB.out.bel hX) (by simp; omega) hn).mono ?_; rintro e w1 ⟨rfl, hb⟩; have HT := hide (HB.out.next hb); clear HB hb; have HB := HT; clear HT)
    | (go_at_call 26; refine (isText_any _ _ (by assumption)).mono ?_; rintro e w1 ⟨rfl, hb⟩; have HT := hide (HB.out.next hb); clear HB hb; have HB := HT; clear HT; obtain ⟨d0, d1, d2, d3, d4⟩ := HB.out.facts)
    | (go_at_call 27; rw [← wval_eq]; refine (open_any W HV.out x y A n c X _ (by exact HN.out.below HB.out.bel hX) (by have := HB.out.bel.size; omega)).mono ?_; rintro e w4 ⟨rfl, ho⟩; have HO := hide (ho.ed HN.out.1); have HBB := hide (HB.out.bel.trans (ho.bel.mono HB.out.bel.size)); clear ho HB)
    | (go_at_call 28; refine (table_any W HV.out x y A n c _ _ _ HO.out hx120 hy120 _ HD.out).mono ?_; rintro e wT ⟨rfl, hf⟩; have HT := hide hf; have hgw := HO.out.blk.lt; have hmw := HO.out.map.lt; have HBT := hide (HBB.out.trans (hf.bel.mono HBB.out.size)); have hgT := Nat.lt_of_lt_of_le hgw hf.bel.size; have hmT := Nat.lt_of_lt_of_le hmw hf.bel.size; clear hf))
  clear d0 d1 d2 d3 d4
  go_loopw [11, 12, 13] (fun t11 t12 t13 wr => BsR wr wT W x y t11 t12 t13) (fun _ t12 t13 _ => (x.size + y.size) - ((intOf t12).toNat + (intOf t13).toNat))
  case atStart => exact ⟨0, 0, [], rfl, rfl, by omega, by omega, by simp, rfl, ⟨by simp, .inl ⟨rfl, rfl⟩⟩, Below.refl _ _⟩
  case round =>
    obtain ⟨v, rfl⟩ : ∃ v : Value, v = u11 := ⟨_, rfl⟩
    obtain ⟨i, j, l, rfl, rfl, hrel⟩ := hrel
    have hi := hrel.hi
    have hj := hrel.hj
    have HEd := hide (HT.out.ed.below hrel.bel hgT hmT)
    have HR := hide hrel
    clear hrel
    by_cases hi1 : i < x.size
    · have hne : i < x.data.toList.length ∨ j < y.data.toList.length := .inl (by simpa using hi1)
      have FK := hide (Wt.firstK_spec HV.out HX.out HY.out (show i ≤ x.data.toList.length by simpa using hi) (show j ≤ y.data.toList.length by simpa using hj) hne)
      have GR := hide (Wt.G_rec HV.out HX.out HY.out (show i ≤ x.data.toList.length by simpa using hi) (show j ≤ y.data.toList.length by simpa using hj) hne)
      generalize Wt.firstK W x.data.toList y.data.toList i j = K at FK GR
      clear hne
      go_wp2_with (go_at_call 31; refine (steps_any W HV.out x y A n c _ _ i j _ HEd.out hx120 hy120 hi hj).mono ?_; rintro e w5 ⟨rfl, hb⟩; have HBS := hide (HR.out.below hb); clear hb HR HEd)
      go_loopw [11, 12, 13, 49] (fun t11 t12 t13 t49 wr => BsK wr wT W x y i j l v t11 t12 t13 t49) (fun _ _ _ t49 _ => 6 - (intOf t49).toNat)
      case atStart => exact ⟨0, by omega, rfl, rfl, rfl, rfl, fun q hq => by omega, HBS.out⟩
      case round =>
        obtain ⟨k, hk, rfl, rfl, rfl, rfl, hmin, hrel⟩ := hrel
        clear HBS
        have hkK : k ≤ K := by
          rcases Nat.lt_or_ge K k with h | h
          · have h1 := hmin K h
            rw [FK.out.2.2.1] at h1
            cases h1
          · exact h
        have hk6 : k < 6 := by have := FK.out.1; omega
        obtain ⟨⟨sc, sa, sb⟩, hs⟩ : ∃ s, Wt.stp W x.data.toList y.data.toList i j k = s := ⟨_, rfl⟩
        have hix := fun w => index_step _ (steps_length W x.data.toList y.data.toList i j) (stp_list hk6 hs) w
        have Hmin := hide hmin
        clear hmin
        by_cases hneg : sc < 0
        · have HG := hide (good_neg hs hneg)
          have HRel := hide hrel
          have hdec : decide (0 ≤ sc) = false := by simp; omega
          clear hrel hs
          go_wp2
          go_quiet (fail)
          go_wp2
          go_roundw
          case rel =>
            first | exact BsK.next hk6 Hmin.out HG.out HRel.out _ _ | ((repeat apply Exists.intro); exact ⟨BsK.next hk6 Hmin.out HG.out HRel.out _ _, rfl⟩)
          case measure => simp [intOf]; omega
        · have hfit := Wt.stp_fits HV.out (show i ≤ x.data.toList.length by simpa using hi) (show j ≤ y.data.toList.length by simpa using hj) hk6
          rw [hs] at hfit
          have hf : sc ≤ 1000 ∧ 0 ≤ sa ∧ 0 ≤ sb ∧ 0 < sa + sb ∧ i + sa ≤ x.size ∧ j + sb ≤ y.size := by
            have := hfit.resolve_left hneg
            simpa using this
          clear hfit
          obtain ⟨f1, f2, f3, f4, f5, f6⟩ := hf
          obtain ⟨na, rfl⟩ := Int.eq_ofNat_of_zero_le f2
          obtain ⟨nb, rfl⟩ := Int.eq_ofNat_of_zero_le f3
          have hi2 : i + na ≤ x.size := by omega
          have hj2 : j + nb ≤ y.size := by omega
          obtain ⟨p1, p2, p3, p4⟩ := HT.out.two hrel.bel hi2 hj2
          obtain ⟨q1, q2, q3, q4⟩ := HT.out.two hrel.bel hi hj
          have b1 := HD.out.lo (i + na) (j + nb)
          have b2 := HD.out.hi (i + na) (j + nb) (by simpa using hi2) (by simpa using hj2)
          obtain ⟨dv, hdv⟩ : ∃ dv, Wt.D W x.data.toList y.data.toList (i + na) (j + nb) = dv := ⟨_, rfl⟩
          obtain ⟨dij, hdij⟩ : ∃ dij, Wt.D W x.data.toList y.data.toList i j = dij := ⟨_, rfl⟩
          have HG := hide (good_iff hs hdv hdij)
          rw [hdv] at p2 b1 b2
          rw [hdij] at q2
          have HS := hide hs
          clear hs hdv hdij
          have HRel := hide hrel
          clear hrel
          have s1 : IntKind.i64.wrap ((i : Int) + (na : Int)) = (i : Int) + (na : Int) := IntWalk.i64_in _ (by omega)
          have s2 : 0 ≤ (i : Int) + (na : Int) := by omega
          have s3 : (i : Int) + (na : Int) < (x.size : Int) + 1 := by omega
          have s4 : ((i : Int) + (na : Int)).toNat = i + na := by omega
          have s5 : IntKind.i64.wrap ((j : Int) + (nb : Int)) = (j : Int) + (nb : Int) := IntWalk.i64_in _ (by omega)
          have s6 : 0 ≤ (j : Int) + (nb : Int) := by omega
          have s7 : (j : Int) + (nb : Int) < (y.size : Int) + 1 := by omega
          have s8 : ((j : Int) + (nb : Int)).toNat = j + nb := by omega
          have s9 : IntKind.i64.wrap (sc + dv) = sc + dv := IntWalk.i64_in _ (by omega)
          have t1 : (i : Int) < (x.size : Int) + 1 := by omega
          have t2 : (j : Int) < (y.size : Int) + 1 := by omega
          have hsc : 0 ≤ sc := by omega
          by_cases heq : sc + dv = dij
          · have hbq : ((sc + dv) == dij) = true := by simp [heq]
            have hgood : Wt.goodK W x.data.toList y.data.toList i j k = true := by rw [HG.out]; simp [hsc, heq]
            obtain rfl : k = K := by
              rcases Nat.lt_or_ge k K with h | h
              · have h1 := FK.out.2.2.2 k h
                rw [hgood] at h1; cases h1
              · omega
            have HGR : Hid (Wt.G W x.data.toList y.data.toList i j = (k : Int) :: Wt.G W x.data.toList y.data.toList (i + na) (j + nb)) := by
              show _ = _
              have h := GR.out
              rw [HS.out] at h
              simpa using h
            have HOWN := hide HRel.out.own
            clear hgood heq HG
            go_wp2
            go_quiet (fail)
            clear s1 s2 s3 s4 s5 s6 s7 s8 s9 t1 t2 hbq
            go_wp2_with (at_builtin; refine wpList_append_own _ rfl (.tmp 82) (.tmp 84) _ rfl wT.heap.size 3 i0 (.int .i64 0) 1 8 Try.underlying25 hi0 hz0 hz1 hz2 rfl (by omega) _ l.length (l.map (Value.int .i64)) rfl (by exact (own_drewN (HOWN.out.alloc _) _).alloc _) ⟨_, 0, none⟩ 1 1 [.int .i64 k] rfl rfl (one_new (by simp)) (by intro u hu; rw [List.mem_singleton.1 hu]; rfl) (by have := HRel.out.len; simp only [maxLen]; omega) (by have := HRel.out.len; omega) (by have := HRel.out.bel.size; simp; omega) ?_; intro v' w6 hown6 hgr6 _; obtain ⟨x1, x2, x3⟩ := best_boxes HRel.out hgr6; have HO6 := hide hown6; have HB6 := hide x3; clear hown6 hgr6 x3)
            have s1 : IntKind.i64.wrap ((i : Int) + (na : Int)) = (i : Int) + (na : Int) := IntWalk.i64_in _ (by omega)
            have s5 : IntKind.i64.wrap ((j : Int) + (nb : Int)) = (j : Int) + (nb : Int) := IntWalk.i64_in _ (by omega)
            go_quiet (fail)
            clear s1 s5
            go_wp2
            go_roundw
            case rel =>
              first | exact BsR.mk HRel.out HGR.out hi2 hj2 (by omega) HO6.out HB6.out _ | ((repeat apply Exists.intro); exact ⟨BsR.mk HRel.out HGR.out hi2 hj2 (by omega) HO6.out HB6.out _, rfl⟩)
            case measure => simp [intOf]; omega
          · have hbq : ((sc + dv) == dij) = false := by simp [heq]
            have hbad : Wt.goodK W x.data.toList y.data.toList i j k = false := by rw [HG.out]; simp [heq]
            have HG2 := hide hbad
            clear hbad heq HG
            go_wp2
            go_quiet (fail)
            clear s1 s2 s3 s4 s5 s6 s7 s8 s9 t1 t2 hbq
            go_wp2
            go_roundw
            case rel =>
              first | exact BsK.next hk6 Hmin.out HG2.out HRel.out _ _ | ((repeat apply Exists.intro); exact ⟨BsK.next hk6 Hmin.out HG2.out HRel.out _ _, rfl⟩)
            case measure => simp [intOf]; omega
    by_cases hj1 : j < y.size
    · have hne : i < x.data.toList.length ∨ j < y.data.toList.length := .inr (by simpa using hj1)
      have FK := hide (Wt.firstK_spec HV.out HX.out HY.out (show i ≤ x.data.toList.length by simpa using hi) (show j ≤ y.data.toList.length by simpa using hj) hne)
      have GR := hide (Wt.G_rec HV.out HX.out HY.out (show i ≤ x.data.toList.length by simpa using hi) (show j ≤ y.data.toList.length by simpa using hj) hne)
      generalize Wt.firstK W x.data.toList y.data.toList i j = K at FK GR
      clear hne
      go_wp2_with (go_at_call 31; refine (steps_any W HV.out x y A n c _ _ i j _ HEd.out hx120 hy120 hi hj).mono ?_; rintro e w5 ⟨rfl, hb⟩; have HBS := hide (HR.out.below hb); clear hb HR HEd)
      go_loopw [11, 12, 13, 49] (fun t11 t12 t13 t49 wr => BsK wr wT W x y i j l v t11 t12 t13 t49) (fun _ _ _ t49 _ => 6 - (intOf t49).toNat)
      case atStart => exact ⟨0, by omega, rfl, rfl, rfl, rfl, fun q hq => by omega, HBS.out⟩
      case round =>
        obtain ⟨k, hk, rfl, rfl, rfl, rfl, hmin, hrel⟩ := hrel
        clear HBS
        have hkK : k ≤ K := by
          rcases Nat.lt_or_ge K k with h | h
          · have h1 := hmin K h
            rw [FK.out.2.2.1] at h1
            cases h1
          · exact h
        have hk6 : k < 6 := by have := FK.out.1; omega
        obtain ⟨⟨sc, sa, sb⟩, hs⟩ : ∃ s, Wt.stp W x.data.toList y.data.toList i j k = s := ⟨_, rfl⟩
        have hix := fun w => index_step _ (steps_length W x.data.toList y.data.toList i j) (stp_list hk6 hs) w
        have Hmin := hide hmin
        clear hmin
        by_cases hneg : sc < 0
        · have HG := hide (good_neg hs hneg)
          have HRel := hide hrel
          have hdec : decide (0 ≤ sc) = false := by simp; omega
          clear hrel hs
          go_wp2
          go_quiet (fail)
          go_wp2
          go_roundw
          case rel =>
            first | exact BsK.next hk6 Hmin.out HG.out HRel.out _ _ | ((repeat apply Exists.intro); exact ⟨BsK.next hk6 Hmin.out HG.out HRel.out _ _, rfl⟩)
          case measure => simp [intOf]; omega
        · have hfit := Wt.stp_fits HV.out (show i ≤ x.data.toList.length by simpa using hi) (show j ≤ y.data.toList.length by simpa using hj) hk6
          rw [hs] at hfit
          have hf : sc ≤ 1000 ∧ 0 ≤ sa ∧ 0 ≤ sb ∧ 0 < sa + sb ∧ i + sa ≤ x.size ∧ j + sb ≤ y.size := by
            have := hfit.resolve_left hneg
            simpa using this
          clear hfit
          obtain ⟨f1, f2, f3, f4, f5, f6⟩ := hf
          obtain ⟨na, rfl⟩ := Int.eq_ofNat_of_zero_le f2
          obtain ⟨nb, rfl⟩ := Int.eq_ofNat_of_zero_le f3
          have hi2 : i + na ≤ x.size := by omega
          have hj2 : j + nb ≤ y.size := by omega
          obtain ⟨p1, p2, p3, p4⟩ := HT.out.two hrel.bel hi2 hj2
          obtain ⟨q1, q2, q3, q4⟩ := HT.out.two hrel.bel hi hj
          have b1 := HD.out.lo (i + na) (j + nb)
          have b2 := HD.out.hi (i + na) (j + nb) (by simpa using hi2) (by simpa using hj2)
          obtain ⟨dv, hdv⟩ : ∃ dv, Wt.D W x.data.toList y.data.toList (i + na) (j + nb) = dv := ⟨_, rfl⟩
          obtain ⟨dij, hdij⟩ : ∃ dij, Wt.D W x.data.toList y.data.toList i j = dij := ⟨_, rfl⟩
          have HG := hide (good_iff hs hdv hdij)
          rw [hdv] at p2 b1 b2
          rw [hdij] at q2
          have HS := hide hs
          clear hs hdv hdij
          have HRel := hide hrel
          clear hrel
          have s1 : IntKind.i64.wrap ((i : Int) + (na : Int)) = (i : Int) + (na : Int) := IntWalk.i64_in _ (by omega)
          have s2 : 0 ≤ (i : Int) + (na : Int) := by omega
          have s3 : (i : Int) + (na : Int) < (x.size : Int) + 1 := by omega
          have s4 : ((i : Int) + (na : Int)).toNat = i + na := by omega
          have s5 : IntKind.i64.wrap ((j : Int) + (nb : Int)) = (j : Int) + (nb : Int) := IntWalk.i64_in _ (by omega)
          have s6 : 0 ≤ (j : Int) + (nb : Int) := by omega
          have s7 : (j : Int) + (nb : Int) < (y.size : Int) + 1 := by omega
          have s8 : ((j : Int) + (nb : Int)).toNat = j + nb := by omega
          have s9 : IntKind.i64.wrap (sc + dv) = sc + dv := IntWalk.i64_in _ (by omega)
          have t1 : (i : Int) < (x.size : Int) + 1 := by omega
          have t2 : (j : Int) < (y.size : Int) + 1 := by omega
          have hsc : 0 ≤ sc := by omega
          by_cases heq : sc + dv = dij
          · have hbq : ((sc + dv) == dij) = true := by simp [heq]
            have hgood : Wt.goodK W x.data.toList y.data.toList i j k = true := by rw [HG.out]; simp [hsc, heq]
            obtain rfl : k = K := by
              rcases Nat.lt_or_ge k K with h | h
              · have h1 := FK.out.2.2.2 k h
                rw [hgood] at h1; cases h1
              · omega
            have HGR : Hid (Wt.G W x.data.toList y.data.toList i j = (k : Int) :: Wt.G W x.data.toList y.data.toList (i + na) (j + nb)) := by
              show _ = _
              have h := GR.out
              rw [HS.out] at h
              simpa using h
            have HOWN := hide HRel.out.own
            clear hgood heq HG
            go_wp2
            go_quiet (fail)
            clear s1 s2 s3 s4 s5 s6 s7 s8 s9 t1 t2 hbq
            go_wp2_with (at_builtin; refine wpList_append_own _ rfl (.tmp 82) (.tmp 84) _ rfl wT.heap.size 3 i0 (.int .i64 0) 1 8 Try.underlying25 hi0 hz0 hz1 hz2 rfl (by omega) _ l.length (l.map (Value.int .i64)) rfl (by exact (own_drewN (HOWN.out.alloc _) _).alloc _) ⟨_, 0, none⟩ 1 1 [.int .i64 k] rfl rfl (one_new (by simp)) (by intro u hu; rw [List.mem_singleton.1 hu]; rfl) (by have := HRel.out.len; simp only [maxLen]; omega) (by have := HRel.out.len; omega) (by have := HRel.out.bel.size; simp; omega) ?_; intro v' w6 hown6 hgr6 _; obtain ⟨x1, x2, x3⟩ := best_boxes HRel.out hgr6; have HO6 := hide hown6; have HB6 := hide x3; clear hown6 hgr6 x3)
            have s1 : IntKind.i64.wrap ((i : Int) + (na : Int)) = (i : Int) + (na : Int) := IntWalk.i64_in _ (by omega)
            have s5 : IntKind.i64.wrap ((j : Int) + (nb : Int)) = (j : Int) + (nb : Int) := IntWalk.i64_in _ (by omega)
            go_quiet (fail)
            clear s1 s5
            go_wp2
            go_roundw
            case rel =>
              first | exact BsR.mk HRel.out HGR.out hi2 hj2 (by omega) HO6.out HB6.out _ | ((repeat apply Exists.intro); exact ⟨BsR.mk HRel.out HGR.out hi2 hj2 (by omega) HO6.out HB6.out _, rfl⟩)
            case measure => simp [intOf]; omega
          · have hbq : ((sc + dv) == dij) = false := by simp [heq]
            have hbad : Wt.goodK W x.data.toList y.data.toList i j k = false := by rw [HG.out]; simp [heq]
            have HG2 := hide hbad
            clear hbad heq HG
            go_wp2
            go_quiet (fail)
            clear s1 s2 s3 s4 s5 s6 s7 s8 s9 t1 t2 hbq
            go_wp2
            go_roundw
            case rel =>
              first | exact BsK.next hk6 Hmin.out HG2.out HRel.out _ _ | ((repeat apply Exists.intro); exact ⟨BsK.next hk6 Hmin.out HG2.out HRel.out _ _, rfl⟩)
            case measure => simp [intOf]; omega
    · have hG := HR.out.path
      rw [Wt.G_end (by simp; omega), List.append_nil] at hG
      have hO := HR.out.own
      have HIV : Hid (IntsV wr v (bestL W x.data.toList y.data.toList)) := by
        rw [HL.out, ← hG]
        exact IntsV.of_own hO
      obtain ⟨q1, q2, q3, q4⟩ := HT.out.two HR.out.bel (i := 0) (j := 0) (by omega) (by omega)
      simp only [Nat.add_zero] at q1 q2 q3 q4
      have HBE := hide (HBT.out.trans (HR.out.bel.mono HBT.out.size))
      clear hG hO HR HEd
      go_wp2
      go_quiet (fail)
      go_wp2
      go_ret3
      exact ⟨_, ret_three HF.out.1.symm HF.out.2.symm, HIV.out, below_drewN HBE.out _⟩
end Go.Proofs.Ytnpdhbagfkilkaa
