/- Walks: edit.Check. -/
import Derived.Test.YtnpdhbagfkilkaaW9
import Derived.Test.YtnpdhbagfkilkaaPlain5
set_option linter.unusedVariables false
set_option linter.unusedSimpArgs false
namespace Go.Proofs.Ytnpdhbagfkilkaa
open Go.RowKit

structure CkRel (wr w : World) (W : Wt) (A : Option Addr) (n c g m : Nat) (x y : ByteArray) (l : List Int) (ne : Nat) (t11 t12 t13 t36 : Value) (k i j : Nat) (sum : Int) : Prop where
  v11 : t11 = .int .i64 i
  v12 : t12 = .int .i64 j
  v13 : t13 = .int .i64 sum
  v36 : t36 = .int .i64 k
  hk : k ≤ ne
  hi : i ≤ x.size
  hj : j ≤ y.size
  lo : 0 ≤ sum
  hi2 : sum ≤ 1000 * ((i : Int) + j)
  ck : Wt.checkF W x.data.toList y.data.toList (l.drop k) i j sum = Wt.check W x.data.toList y.data.toList l
  box : Box wr w W A n c
  ed : Ed wr g m W A n c x y
  hg : w.heap.size < g
  hm : w.heap.size < m
def CkR (wr w : World) (W : Wt) (A : Option Addr) (n c g m : Nat) (x y : ByteArray) (l : List Int) (ne : Nat) (t11 t12 t13 t36 : Value) : Prop :=
  ∃ k i j sum, CkRel wr w W A n c g m x y l ne t11 t12 t13 t36 k i j sum

theorem stp_list {W : Wt} {x y : List UInt8} {i j k : Nat} (h : k < 6) {s : Int × Int × Int} (e : Wt.stp W x y i j k = s) : (W.steps x y i j)[k]? = some s := by rw [← e]; exact Wt.stp_get h
theorem ret_nb {a b : Int} {c d : Bool} (h1 : a = b) (h2 : c = d) : Ending.returned (.tuple #[.int .i64 a, .bool c]) = .returned (.tuple #[.int .i64 b, .bool d]) := by rw [h1, h2]

set_option maxHeartbeats 1000000 in
set_option maxRecDepth 100000 in
theorem check_any (W : Wt) (A : Option Addr) (n c X : Nat) (x y : ByteArray) (E : Option Addr) (ne ce : Nat) (l : List Int) (w : World) (hN : Near w X A n W.near) (hX : X ≤ w.heap.size) (hn : n ≤ 140737488355328) (hx : x.size ≤ maxLen) (hy : y.size ≤ maxLen)
    (hE : Ints w X E ne l) (hne : ne ≤ 140737488355328) :
    Calls Try.prog 18 #[wval W A n c, .string x, .string y, .slice E ne ce] w fun e w' => e = .returned (.tuple #[.int .i64 ((Wt.check W x.data.toList y.data.toList l).getD 0), .bool (Wt.check W x.data.toList y.data.toList l).isSome]) ∧ Below w.heap.size w w' := by
  have HN := hide hN
  have HE := hide hE
  have HB := hide (Box.start w W A n c)
  clear hN hE
  cases hv : W.valid
  · have HF : Hid (Wt.check W x.data.toList y.data.toList l = none) := by show _ = _; simp [Wt.check, ok3, hv]
    go_enter Try.func18, Try.ntmps18
    unfold wval
    go_wp2_with (go_at_call 20; rw [← wval_eq]; refine (valid_try W A n c X _ (by exact HN.out.below HB.out.bel hX) (by simp; omega) hn).mono ?_; rintro e w1 ⟨rfl, hb⟩; have HT := hide (HB.out.next hb); clear HB hb; have HB := HT; clear HT)
    go_ret2
    exact ⟨ret_nb (by rw [HF.out]; rfl) (by rw [HF.out]; rfl), HB.out.bel⟩
  cases hxt : okText x.data.toList
  · have HF : Hid (Wt.check W x.data.toList y.data.toList l = none) := by show _ = _; simp [Wt.check, ok3, hxt]
    go_enter Try.func18, Try.ntmps18
    unfold wval
    go_wp2_with (first
      | (go_at_call 20; rw [← wval_eq]; refine (valid_try W A n c X _ (by exact HN.out.below HB.out.bel hX) (by simp; omega) hn).mono ?_; rintro e w1 ⟨rfl, hb⟩; have HT := hide (HB.out.next hb); clear HB hb; have HB := HT; clear HT)
      | (go_at_call 26; refine (isText_any _ _ (by assumption)).mono ?_; rintro e w1 ⟨rfl, hb⟩; have HT := hide (HB.out.next hb); clear HB hb; have HB := HT; clear HT))
    go_ret2
    exact ⟨ret_nb (by rw [HF.out]; rfl) (by rw [HF.out]; rfl), HB.out.bel⟩
  cases hyt : okText y.data.toList
  · have HF : Hid (Wt.check W x.data.toList y.data.toList l = none) := by show _ = _; simp [Wt.check, ok3, hyt]
    go_enter Try.func18, Try.ntmps18
    unfold wval
    go_wp2_with (first
      | (go_at_call 20; rw [← wval_eq]; refine (valid_try W A n c X _ (by exact HN.out.below HB.out.bel hX) (by simp; omega) hn).mono ?_; rintro e w1 ⟨rfl, hb⟩; have HT := hide (HB.out.next hb); clear HB hb; have HB := HT; clear HT)
      | (go_at_call 26; refine (isText_any _ _ (by assumption)).mono ?_; rintro e w1 ⟨rfl, hb⟩; have HT := hide (HB.out.next hb); clear HB hb; have HB := HT; clear HT))
    go_ret2
    exact ⟨ret_nb (by rw [HF.out]; rfl) (by rw [HF.out]; rfl), HB.out.bel⟩
  have HV := hide hv
  have hx120 : x.size ≤ 120 := by simpa using okText_len hxt
  have hy120 : y.size ≤ 120 := by simpa using okText_len hyt
  have HK : Hid (Wt.checkF W x.data.toList y.data.toList (l.drop 0) 0 0 0 = Wt.check W x.data.toList y.data.toList l) := by show _ = _; simp [Wt.check, ok3, hv, hxt, hyt]
  go_enter Try.func18, Try.ntmps18
  unfold wval
  go_wp2_with (first
    | (go_at_call 20; rw [← wval_eq]; refine (valid_try W A n c X _ (by exact HN.out.below HB.out.bel hX) (by simp; omega) hn).mono ?_; rintro e w1 ⟨rfl, hb⟩; have HT := hide (HB.out.next hb); clear HB hb; have HB := HT; clear HT)
    | (go_at_call 26; refine (isText_any _ _ (by assumption)).mono ?_; rintro e w1 ⟨rfl, hb⟩; have HT := hide (HB.out.next hb); clear HB hb; have HB := HT; clear HT; obtain ⟨d0, d1, d2, d3, d4⟩ := HB.out.facts)
    | (go_at_call 27; rw [← wval_eq]; refine (open_any W HV.out x y A n c X _ (by exact HN.out.below HB.out.bel hX) (by have := HB.out.bel.size; omega)).mono ?_; rintro e w4 ⟨rfl, ho⟩; have HO := hide (ho.ed HN.out.1); have HBz := HB.out.blk.lt; have HT := hide (HB.out.next ho.bel); clear HB ho; have HB := HT; clear HT))
  clear d0 d1 d2 d3 d4
  go_loopw [11, 12, 13, 36] (fun t11 t12 t13 t36 wr => CkR wr w W A n c _ _ x y l ne t11 t12 t13 t36) (fun _ _ _ t36 _ => ne - (intOf t36).toNat)
  case atStart => exact ⟨0, 0, 0, 0, ⟨rfl, rfl, rfl, rfl, by omega, by omega, by omega, by omega, by omega, HK.out, HB.out, HO.out, by omega, by omega⟩⟩
  case round =>
    obtain ⟨k, i, j, sum, hr⟩ := hrel
    have hg' : w.heap.size < w1.heap.size := by have := hr.hg; have := hr.hm; omega
    obtain ⟨rfl, rfl, rfl, rfl, hk, hi, hj, lo, hi2, hck, hbox, hed, hg, hm⟩ := hr
    clear HB HO HK
    by_cases hlt : k < ne
    · obtain ⟨ad, rfl, _, hce⟩ := (HE.out.below hbox.bel hX).at_ hlt
      have hl : k < l.length := by rw [HE.out.len]; exact hlt
      have hdrop : l.drop k = l[k] :: l.drop (k + 1) := List.drop_eq_getElem_cons hl
      have hgd : l[k]?.getD 0 = l[k] := by rw [List.getElem?_eq_getElem hl]; rfl
      rw [hgd] at hce
      rw [hdrop] at hck
      generalize l[k] = ev at *
      clear hgd hdrop
      have HCk := hide hck
      have HBx := hide hbox
      have HEd := hide hed
      clear hck hbox hed
      by_cases t1 : ev < 1
      · have HF : Hid (Wt.check W x.data.toList y.data.toList l = none) := by show _ = _; rw [← HCk.out]; simp [Wt.checkF, t1]
        go_wp2
        go_ret2
        exact ⟨ret_nb (by rw [HF.out]; rfl) (by rw [HF.out]; rfl), HBx.out.bel⟩
      by_cases t2 : 5 < ev
      · have HF : Hid (Wt.check W x.data.toList y.data.toList l = none) := by show _ = _; rw [← HCk.out]; simp [Wt.checkF, t2]
        go_wp2
        go_ret2
        exact ⟨ret_nb (by rw [HF.out]; rfl) (by rw [HF.out]; rfl), HBx.out.bel⟩
      obtain ⟨q, rfl⟩ := Int.eq_ofNat_of_zero_le (show 0 ≤ ev by omega)
      have hq : q < 6 := by omega
      obtain ⟨⟨sc, sa, sb⟩, hs⟩ : ∃ s, Wt.stp W x.data.toList y.data.toList i j q = s := ⟨_, rfl⟩
      have hfit := Wt.stp_fits HV.out (show i ≤ x.data.toList.length by simpa using hi) (show j ≤ y.data.toList.length by simpa using hj) hq
      rw [hs] at hfit
      have hix := fun w => index_step _ (steps_length W x.data.toList y.data.toList i j) (stp_list hq hs) w
      have HS := hide hs
      clear hs
      by_cases hneg : sc < 0
      · have HF : Hid (Wt.check W x.data.toList y.data.toList l = none) := by show _ = _; rw [← HCk.out]; simp [Wt.checkF, t1, t2, HS.out, hneg]
        clear hfit
        go_wp2_with (go_at_call 31; refine (steps_any W HV.out x y A n c _ _ i j _ HEd.out hx120 hy120 hi hj).mono ?_; rintro e w5 ⟨rfl, hb⟩; have HBB := hide (HBx.out.next hb); clear hb)
        go_ret2
        exact ⟨ret_nb (by rw [HF.out]; rfl) (by rw [HF.out]; rfl), HBB.out.bel.trans ((Below.refl _ _).alloc HBB.out.bel.size _)⟩
      · have hf : sc ≤ 1000 ∧ 0 ≤ sa ∧ 0 ≤ sb ∧ 0 < sa + sb ∧ i + sa ≤ x.size ∧ j + sb ≤ y.size := by
          have := hfit.resolve_left hneg
          simpa using this
        clear hfit
        obtain ⟨f1, f2, f3, f4, f5, f6⟩ := hf
        obtain ⟨na, rfl⟩ := Int.eq_ofNat_of_zero_le f2
        obtain ⟨nb, rfl⟩ := Int.eq_ofNat_of_zero_le f3
        have HN1 : Hid (Wt.checkF W x.data.toList y.data.toList (l.drop (k + 1)) (i + na) (j + nb) (sum + sc) = Wt.check W x.data.toList y.data.toList l) := by
          show _ = _
          rw [← HCk.out]; simp [Wt.checkF, t1, t2, HS.out, hneg]
        go_wp2_with (go_at_call 31; refine (steps_any W HV.out x y A n c _ _ i j _ HEd.out hx120 hy120 hi hj).mono ?_; rintro e w5 ⟨rfl, hb⟩; have HBB := hide (HBx.out.next hb); have HEE := hide (HEd.out.below hb HEd.out.blk.lt HEd.out.map.lt); clear hb)
        have s1 : IntKind.i64.wrap ((i : Int) + (na : Int)) = (i : Int) + (na : Int) := IntWalk.i64_in _ (by omega)
        have s5 : IntKind.i64.wrap ((j : Int) + (nb : Int)) = (j : Int) + (nb : Int) := IntWalk.i64_in _ (by omega)
        have s9 : IntKind.i64.wrap (sum + sc) = sum + sc := IntWalk.i64_in _ (by omega)
        go_quiet (fail)
        clear s1 s5 s9
        go_wp2
        go_roundw
        case rel =>
          have hz := HBB.out.blk.lt
          refine ⟨k + 1, i + na, j + nb, sum + sc, ⟨vint (by omega), vint (by omega), rfl, by go_num, by omega, by omega, by omega, by omega, by omega, HN1.out, ⟨(HBB.out.blk.alloc _).drewN _, below_drewN (HBB.out.bel.alloc HBB.out.bel.size _) _⟩, ?_, by omega, by omega⟩⟩
          exact (HEE.out.below ((Below.refl _ _).alloc (Nat.le_refl _) _) HEE.out.blk.lt HEE.out.map.lt).drewN _
        case measure => simp [intOf]; omega
    · obtain rfl : k = ne := by omega
      have hnil : l.drop k = [] := List.drop_eq_nil_of_le (by rw [HE.out.len]; omega)
      rw [hnil] at hck
      have HBx := hide hbox
      have HCk := hide hck
      clear hbox hed hck hnil
      by_cases t1 : i < x.size
      · have HF : Hid (Wt.check W x.data.toList y.data.toList l = none) := by show _ = _; rw [← HCk.out]; simp [Wt.checkF, t1]
        go_wp2
        go_ret2
        exact ⟨ret_nb (by rw [HF.out]; rfl) (by rw [HF.out]; rfl), HBx.out.bel⟩
      by_cases t2 : j < y.size
      · have HF : Hid (Wt.check W x.data.toList y.data.toList l = none) := by show _ = _; rw [← HCk.out]; simp [Wt.checkF, t2]
        go_wp2
        go_ret2
        exact ⟨ret_nb (by rw [HF.out]; rfl) (by rw [HF.out]; rfl), HBx.out.bel⟩
      · have HF : Hid (Wt.check W x.data.toList y.data.toList l = some sum) := by show _ = _; rw [← HCk.out]; simp [Wt.checkF, t1, t2]
        go_wp2
        go_ret2
        exact ⟨ret_nb (by rw [HF.out]; rfl) (by rw [HF.out]; rfl), HBx.out.bel⟩
end Go.Proofs.Ytnpdhbagfkilkaa
