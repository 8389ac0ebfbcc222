/- Walks: EditAhead. -/
import Derived.Test.YtnpdhbagfkilkaaW21
import Derived.Deep.DeepCutAuto
import Derived.Deep.DrawnRows
set_option linter.unusedVariables false
set_option linter.unusedSimpArgs false
namespace Go.Proofs.Ytnpdhbagfkilkaa
open Go.RowKit

theorem ext_drop (x : ByteArray) (i : Nat) : (x.extract i x.size).data.toList = x.data.toList.drop i := by
  simp [ByteArray.data_extract, Array.toList_extract, List.extract]
  rw [List.take_of_length_le (by simp)]
theorem ext_one (x : ByteArray) (i : Nat) (h : i < x.data.toList.length) : (x.extract i (i + 1)).data.toList = [x.data.toList[i]] := by
  simp [ByteArray.data_extract, Array.toList_extract, List.extract]
  rw [List.drop_eq_getElem_cons (by simpa using h)]
  simp
/-- what the law tries at place i -/
def try1 (p x : ByteArray) (i : Nat) : ByteArray := p ++ x.extract i x.size
def try2 (p x : ByteArray) (i : Nat) : ByteArray := p ++ x.extract i (i + 1) ++ x.extract (i + 2) x.size
def hitB (W : Wt) (x : ByteArray) (a : Int) (t : ByteArray) : Prop := ok3 W x.data.toList t.data.toList = true ∧ dist W x.data.toList t.data.toList = a
def missed (W : Wt) (p x : ByteArray) (a : Int) (i : Nat) : Prop := ∀ j, j < i → ¬ hitB W x a (try1 p x j) ∧ (j + 2 ≤ x.size → ¬ hitB W x a (try2 p x j))
theorem try1_list (p x : ByteArray) (i : Nat) : (try1 p x i).data.toList = p.data.toList ++ x.data.toList.drop i := by
  have e := ext_drop x i
  unfold try1
  rw [ByteArray.data_append, Array.toList_append, e]
theorem try2_list (p x : ByteArray) (i : Nat) (h : i < x.data.toList.length) : (try2 p x i).data.toList = p.data.toList ++ (x.data.toList[i] :: x.data.toList.drop (i + 2)) := by
  have e := ext_drop x (i + 2)
  have e1 := ext_one x i h
  unfold try2
  rw [ByteArray.data_append, Array.toList_append, ByteArray.data_append, Array.toList_append, e, e1]
  simp
theorem ext_size_le (x : ByteArray) (i j : Nat) : (x.extract i j).size ≤ x.size := by
  rw [ByteArray.size_extract]; omega
theorem missed_end {W : Wt} {p x : ByteArray} (h : ok3 W x.data.toList p.data.toList = true) (hm : missed W p x (ahead W x.data.toList p.data.toList) (x.size + 1)) : 120 < p.size + x.size := by
  rcases Nat.lt_or_ge 120 (p.size + x.size) with h1 | h1
  · exact h1
  · exfalso
    rcases ahead_at h (by rw [toList_length, toList_length]; exact h1) with ⟨i, hi, h2, h3⟩ | ⟨i, hi, h2, h3⟩
    · rw [toList_length] at hi
      refine (hm i (by omega)).1 ⟨?_, ?_⟩ <;> rw [try1_list]
      · exact h2
      · exact h3
    · rw [toList_length] at hi
      refine (hm i (by omega)).2 (by omega) ⟨?_, ?_⟩ <;> rw [try2_list p x i (by rw [toList_length]; omega)]
      · exact h2
      · exact h3
theorem missed_succ {W : Wt} {p x : ByteArray} {a : Int} {i : Nat} (h : missed W p x a i) (h1 : ¬ hitB W x a (try1 p x i)) (h2 : i + 2 ≤ x.size → ¬ hitB W x a (try2 p x i)) : missed W p x a (i + 1) := fun j hj => by
  rcases Nat.lt_or_ge j i with h' | h'
  · exact h j h'
  · obtain rfl : j = i := by omega
    exact ⟨h1, h2⟩
def AhLoop (w wr : World) (W : Wt) (A : Option Addr) (n c : Nat) (p x : ByteArray) (a : Int) (t : Value) : Prop := ∃ i : Nat, i ≤ x.size + 1 ∧ t = .int .i64 i ∧ LawS w wr W A n c ∧ missed W p x a i
theorem ways (W : Wt) (x t : ByteArray) (a : Int) : ∃ v D, Hid (errn (ok3 W x.data.toList t.data.toList) = v) ∧ Hid (dist W x.data.toList t.data.toList = D) ∧ ((v = 0 ∧ (D == a) = true) ∨ (v = 0 ∧ (D == a) = false ∧ ¬ hitB W x a t) ∨ (v = 1 ∧ ¬ hitB W x a t)) := by
  refine ⟨_, _, rfl, rfl, ?_⟩
  cases h : ok3 W x.data.toList t.data.toList
  · exact .inr (.inr ⟨rfl, fun h' => by rw [h'.1] at h; cases h⟩)
  · by_cases hd : dist W x.data.toList t.data.toList = a
    · exact .inl ⟨rfl, by simp [hd]⟩
    · exact .inr (.inl ⟨rfl, by simp [hd], fun h' => hd h'.2⟩)

attribute [local go_sem ↓] Go.wp_at_zero Go.wp_at_succ
set_option maxHeartbeats 8000000 in
set_option maxRecDepth 100000 in
theorem ahead_law (W : Wt) (A : Option Addr) (n c : Nat) (x p r : ByteArray) (w : World) (hN : Near w w.heap.size A n W.near) (hn : n ≤ 140737488355328) (hx : x.size ≤ maxLen) (hp : p.size ≤ maxLen) (hr : r.size ≤ maxLen) :
    Calls Try.prog 7 #[wval W A n c, .string x, .string p, .string r] w fun e w' => e = .returned (.bool true) ∧ Below w.heap.size w w' := by
  have H0 := hide (LawS.start (c := c) hN)
  clear hN
  cases hf : fewB [x, p, r] n
  · go_enter Try.func7, Try.ntmps7
    unfold wval
    go_wp2_with fail
    refine (lw_head H0.out).mono ?_
    rintro e w1 ⟨rfl, hs⟩
    have H1 := hide hs; clear hs H0
    obtain ⟨d0, d1, d2, d3, d4⟩ := H1.out.facts
    go_wp2_with fail
    refine (lw_few3 H1.out hn x p r hx hp hr _ rfl).mono ?_
    rintro e w2 ⟨rfl, hs⟩
    have H2 := hide hs; clear hs H1 d0 d1 d2 d3 d4
    rw [hf]
    go_wp2_with fail
    go_ret
    exact ⟨rfl, H2.out.bel⟩
  obtain ⟨hz, _⟩ := fewB_size hf
  have zx : x.size ≤ 200 := hz x (by simp)
  have zp : p.size ≤ 200 := hz p (by simp)
  have zr : r.size ≤ 200 := hz r (by simp)
  clear hz
  obtain ⟨v1, V1⟩ : ∃ v, Hid (errn (ok3 W x.data.toList p.data.toList) = v) := ⟨_, rfl⟩
  obtain ⟨v2, V2⟩ : ∃ v, Hid (errn (ok3 W x.data.toList (p ++ r).data.toList) = v) := ⟨_, rfl⟩
  obtain ⟨a, E1⟩ : ∃ v, Hid (ahead W x.data.toList p.data.toList = v) := ⟨_, rfl⟩
  obtain ⟨D, E2⟩ : ∃ v, Hid (dist W x.data.toList (p ++ r).data.toList = v) := ⟨_, rfl⟩
  cases h1 : ok3 W x.data.toList p.data.toList
  · obtain rfl : v1 = 1 := by have := V1.out; rw [h1] at this; exact this.symm
    obtain rfl : a = 0 := by rw [← E1.out]; simp [ahead, h1]
    clear h1
    go_enter Try.func7, Try.ntmps7
    unfold wval
    go_wp2_with fail
    refine (lw_head H0.out).mono ?_
    rintro e w1 ⟨rfl, hs⟩
    have H1 := hide hs; clear hs H0
    obtain ⟨d0, d1, d2, d3, d4⟩ := H1.out.facts
    go_wp2_with fail
    refine (lw_few3 H1.out hn x p r hx hp hr _ rfl).mono ?_
    rintro e w2 ⟨rfl, hs⟩
    have H2 := hide hs; clear hs H1 d0 d1 d2 d3 d4
    rw [hf]
    obtain ⟨d0, d1, d2, d3, d4⟩ := H2.out.facts
    go_wp2_with fail
    refine (lw_ahead H2.out hn x p hx hp).mono ?_
    rintro e w3 ⟨rfl, _, hs⟩
    have H3 := hide hs; clear hs H2 d0 d1 d2 d3 d4
    rw [V1.out, E1.out]
    go_wp2_with fail
    go_ret
    exact ⟨rfl, H3.out.bel⟩
  obtain rfl : v1 = 0 := by have := V1.out; rw [h1] at this; exact this.symm
  have hDa : v2 = 1 ∨ (v2 = 0 ∧ a ≤ D) := by
    cases h2 : ok3 W x.data.toList (p ++ r).data.toList
    · left; have := V2.out; rw [h2] at this; exact this.symm
    · right
      refine ⟨by have := V2.out; rw [h2] at this; exact this.symm, ?_⟩
      have app : (p ++ r).data.toList = p.data.toList ++ r.data.toList := by simp
      rw [← E1.out, ← E2.out, app]
      exact ahead_le h1 (by rw [← app]; exact h2)
  have HM : Hid (∀ _ : missed W p x a (x.size + 1), 120 < p.size + x.size) := by
    show ∀ _, _
    rw [← E1.out]
    exact missed_end h1
  clear h1
  go_enter Try.func7, Try.ntmps7
  unfold wval
  go_wp2_with fail
  refine (lw_head H0.out).mono ?_
  rintro e w1 ⟨rfl, hs⟩
  have H1 := hide hs; clear hs H0
  obtain ⟨d0, d1, d2, d3, d4⟩ := H1.out.facts
  go_wp2_with fail
  refine (lw_few3 H1.out hn x p r hx hp hr _ rfl).mono ?_
  rintro e w2 ⟨rfl, hs⟩
  have H2 := hide hs; clear hs H1 d0 d1 d2 d3 d4
  rw [hf]
  obtain ⟨d0, d1, d2, d3, d4⟩ := H2.out.facts
  go_wp2_with fail
  refine (lw_ahead H2.out hn x p hx hp).mono ?_
  rintro e w3 ⟨rfl, _, hs⟩
  have H3 := hide hs; clear hs H2 d0 d1 d2 d3 d4
  rw [V1.out, E1.out]
  obtain ⟨d0, d1, d2, d3, d4⟩ := H3.out.facts
  go_wp2_with fail
  refine (lw_dist H3.out hn x (p ++ r) hx (by rw [ByteArray.size_append]; unfold maxLen; omega)).mono ?_
  rintro e w4 ⟨rfl, _, hs⟩
  have H4 := hide hs; clear hs H3 d0 d1 d2 d3 d4
  rw [V2.out, E2.out]
  clear V1 V2 E1 E2
  go_upto_region 8 with fail
  go_cut [61] (fun s wx => s = .bool false ∧ LawS w wx W A n c)
  case first =>
    rcases hDa with rfl | ⟨rfl, hDa⟩
    all_goals
      go_wp2_with fail
      go_meet
      exact ⟨by first | rfl | (rw [decide_eq_false (by omega)]), H4.out⟩
  case rest =>
    obtain ⟨rfl, hs⟩ := hcut
    have H6 := hide hs
    clear hs H4 hDa
    go_wp2_with fail
    go_loopg [14] (x.size + 1) (fun k t wr => ∃ i : Nat, i + k = x.size + 1 ∧ t = .int .i64 i ∧ LawS w wr W A n c ∧ missed W p x a i)
    case atStart => exact ⟨0, by omega, rfl, H6.out, fun j hj => by omega⟩
    case round =>
      obtain ⟨i, hi, rfl, hs, hm⟩ := hrel
      clear H6
      have H5 := hide hs
      have HQ := hide hm
      clear hs hm
      have hi' : i ≤ x.size + 1 := by omega
      have HK := hide hi
      clear hi
      by_cases hlt : i ≤ x.size
      · have hlt' : (i : Int) ≤ (x.size : Int) := by omega
        have h0' : (0 : Int) ≤ (i : Int) := by omega
        obtain ⟨u1, D1, U1, F1, hw1⟩ := ways W x (try1 p x i) a
        obtain ⟨d0, d1, d2, d3, d4⟩ := H5.out.facts
        unfold try1 at U1 F1
        go_upto_region 13 with fail
        go_cut [15, 16] (fun s15 s16 wx => s15 = .int .i64 D1 ∧ s16 = .int .i64 u1 ∧ LawS w wx W A n c)
        case first =>
          clear hw1
          go_region_with (go_at_call 12; refine (lw_dist (H5.out.drewN 1) hn x (p ++ x.extract i x.size) hx (by have := ext_size_le x i x.size; rw [ByteArray.size_append]; unfold maxLen; omega)).mono ?_; rintro e w6 ⟨rfl, _, hs⟩; rw [U1.out, F1.out])
          all_goals (go_wp2_with fail; go_meet; exact ⟨rfl, rfl, by assumption⟩)
        case rest =>
        obtain ⟨rfl, rfl, hs⟩ := hcut
        have H7 := hide hs
        clear hs H5 d0 d1 d2 d3 d4 U1 F1
        rcases hw1 with ⟨rfl, ha⟩ | hw1
        · go_wp2_with fail
          go_ret
          exact ⟨rfl, H7.out.bel⟩
        have HM1 : Hid (¬ hitB W x a (try1 p x i)) := by
          rcases hw1 with ⟨h1, h2, h3⟩ | ⟨h1, h3⟩
          · exact h3
          · exact h3
        have hw1' : (u1 = 0 ∧ (D1 == a) = false) ∨ u1 = 1 := by
          rcases hw1 with ⟨h1, h2, h3⟩ | ⟨h1, h3⟩
          · exact .inl ⟨h1, h2⟩
          · exact .inr h1
        clear hw1
        go_upto_region 14 with fail
        go_cut [85] (fun s wx => s = .bool false ∧ LawS w wx W A n c)
        case first =>
          rcases hw1' with ⟨rfl, hw1'⟩ | rfl
          all_goals
            go_wp2_with fail
            go_meet
            exact ⟨rfl, H7.out⟩
        case rest =>
        obtain ⟨rfl, hs⟩ := hcut
        have H8 := hide hs
        clear hs H7 hw1'
        by_cases hlt2 : i + 2 ≤ x.size
        · obtain ⟨u2, D2, U2, F2, hw2⟩ := ways W x (try2 p x i) a
          obtain ⟨d0, d1, d2, d3, d4⟩ := H8.out.facts
          unfold try2 at U2 F2
          have hl2 : (i : Int) + 2 ≤ (x.size : Int) := by omega
          have s1 : IntKind.i64.wrap ((i : Int) + 1) = (i : Int) + 1 := IntWalk.i64_in _ (by omega)
          have s2 : IntKind.i64.wrap ((i : Int) + 2) = (i : Int) + 2 := IntWalk.i64_in _ (by omega)
          go_upto_region 17 with fail
          go_cut [17, 18] (fun s17 s18 wx => s17 = .int .i64 D2 ∧ s18 = .int .i64 u2 ∧ LawS w wx W A n c)
          case first =>
            clear hw2
            go_region_with (go_at_call 12; refine (lw_dist (H8.out.drewN 1) hn x (p ++ x.extract i (i + 1) ++ x.extract (i + 2) x.size) hx (by have := ext_size_le x i (i + 1); have := ext_size_le x (i + 2) x.size; rw [ByteArray.size_append, ByteArray.size_append]; unfold maxLen; omega)).mono ?_; rintro e w6 ⟨rfl, _, hs⟩; rw [U2.out, F2.out])
            all_goals (go_wp2_with fail; go_meet; exact ⟨rfl, rfl, by assumption⟩)
          case rest =>
          obtain ⟨rfl, rfl, hs⟩ := hcut
          have H9 := hide hs
          clear hs H8 d0 d1 d2 d3 d4 U2 F2 s1 s2
          rcases hw2 with ⟨rfl, ha⟩ | hw2
          · go_wp2_with fail
            go_ret
            exact ⟨rfl, H9.out.bel⟩
          have HM2 : Hid (¬ hitB W x a (try2 p x i)) := by
            rcases hw2 with ⟨h1, h2, h3⟩ | ⟨h1, h3⟩
            · exact h3
            · exact h3
          have hw2' : (u2 = 0 ∧ (D2 == a) = false) ∨ u2 = 1 := by
            rcases hw2 with ⟨h1, h2, h3⟩ | ⟨h1, h3⟩
            · exact .inl ⟨h1, h2⟩
            · exact .inr h1
          clear hw2
          rcases hw2' with ⟨rfl, hw2'⟩ | rfl
          all_goals
            go_wp2_with fail
            go_roundg (gk - 1)
            case measure => have := HK.out; omega
            case rel => exact ⟨i + 1, by have := HK.out; omega, by go_num, H9.out, missed_succ HQ.out HM1.out fun _ => HM2.out⟩
        · go_wp2_with fail
          go_roundg (gk - 1)
          case measure => have := HK.out; omega
          case rel => exact ⟨i + 1, by have := HK.out; omega, by go_num, H8.out, missed_succ HQ.out HM1.out fun h => absurd h hlt2⟩
      · obtain rfl : i = x.size + 1 := by omega
        have hfin := HM.out HQ.out
        clear HK
        go_wp2_with fail
        go_ret
        exact ⟨ret_b (decide_eq_true (by omega)), H5.out.bel⟩
end Go.Proofs.Ytnpdhbagfkilkaa
