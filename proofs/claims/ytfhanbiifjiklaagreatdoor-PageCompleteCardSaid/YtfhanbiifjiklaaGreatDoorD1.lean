/- Walks of the statements' helpers: lists compared, sizes, leaves. -/
import Derived.Test.YtfhanbiifjiklaaGreatDoorC7
import Derived.BigQuiet
set_option linter.unusedVariables false
set_option linter.unusedSimpArgs false
namespace Go.Proofs.YtfhanbiifjiklaaGreatDoor
open Go.RowKit

set_option maxRecDepth 100000 in
set_option maxHeartbeats 4000000 in
theorem Same_any (a b : List (List UInt8)) (ha : a.length ≤ 8796093022208) (hb : b.length ≤ 8796093022208) (v u : Value) (w : World) (hv : TextsAt w v a) (hu : TextsAt w u b) : Calls Tryz.prog 25 #[v, u] w fun e w' => e = .returned (.bool (decide (a = b))) ∧ Below w.heap.size w w' := by
  obtain ⟨A, c, rfl, _⟩ := hv.slice
  obtain ⟨B, d, rfl, _⟩ := hu.slice
  have HS := hide hv
  have HU := hide hu
  clear hv hu
  by_cases hab : a.length = b.length
  · have HAB := hide hab
    rw [← hab] at HU hb ⊢
    clear hab
    go_enter Tryz.func25, Tryz.ntmps25
    go_wp2_with fail
    go_loopw [5] (fun i wr => ∃ k : Nat, i = .int .i64 (k : Int) ∧ k ≤ a.length ∧ Aside (Below w.heap.size w wr) ∧ Aside (a.take k = b.take k)) (fun i _ => a.length - (intOf i).toNat)
    case atStart => exact ⟨0, rfl, by omega, Below.refl _ _, rfl⟩
    case round =>
      obtain ⟨k, rfl, hk, hB, hT⟩ := hrel
      have HB : Hid (Below w.heap.size w wr) := hB
      have HT : Hid (a.take k = b.take k) := hT
      clear hB hT
      by_cases hlt : k < a.length
      · have e1 : decide ((k : Int) < (a.length : Int)) = true := decide_eq_true (by omega)
        obtain ⟨x, hx⟩ : ∃ x, a[k]? = some x := ⟨_, List.getElem?_eq_getElem hlt⟩
        obtain ⟨y, hy⟩ : ∃ y, b[k]? = some y := ⟨_, List.getElem?_eq_getElem (by have := HAB.out; omega)⟩
        obtain ⟨aa, rfl, ha0, c0⟩ := (HS.out.to HB.out).at_ hx
        obtain ⟨ba, rfl, hb0, d0⟩ := (HU.out.to HB.out).at_ hy
        have i0 : (0 : Int) ≤ (k : Int) := by omega
        have i1 : (k : Int) < (a.length : Int) := by omega
        by_cases hxy : x = y
        · have HN : Hid (a.take (k + 1) = b.take (k + 1)) := by show _ = _; rw [List.take_add_one, List.take_add_one, hx, hy, HT.out, hxy]
          subst hxy
          have q : ((bs x).toList == (bs x).toList) = true := by simp
          clear hx hy
          go_wp2_with fail
          go_quiet (fail)
          go_wp2_with fail
          refine ⟨⟨k + 1, by go_num, by omega, below_drewN HB.out _, HN.out⟩, ?_⟩
          simp [intOf]; omega
        · have HN : Hid (decide (a = b) = false) := by
            show _ = _
            apply decide_eq_false
            rintro rfl
            exact hxy (Option.some.inj (hx.symm.trans hy))
          have q : ((bs x).toList == (bs y).toList) = false := by rw [beq_eq_false_iff_ne, bs_toList, bs_toList]; exact hxy
          clear hx hy hxy
          go_wp2_with fail
          go_quiet (fail)
          go_wp2_with fail
          go_ret
          exact ⟨ret_bool (by rw [HN.out]), below_drewN HB.out _⟩
      · obtain rfl : k = a.length := by omega
        have e1 : decide ((a.length : Int) < (a.length : Int)) = false := by simp
        have HN : Hid (decide (a = b) = true) := by
          show _ = _
          apply decide_eq_true
          have := HT.out
          rwa [List.take_length, HAB.out, List.take_length] at this
        go_wp2_with fail
        go_ret
        exact ⟨ret_bool (by rw [HN.out]), HB.out⟩
  · have HN : Hid (decide (a = b) = false) := by
      show _ = _
      apply decide_eq_false
      rintro rfl
      exact hab rfl
    have e1 : ((a.length : Int) == (b.length : Int)) = false := by rw [beq_eq_false_iff_ne]; omega
    have e2 : (a.length == b.length) = false := by rw [beq_eq_false_iff_ne]; exact hab
    clear hab
    go_enter Tryz.func25, Tryz.ntmps25
    go_wp2_with fail
    go_ret
    exact ⟨ret_bool (by rw [HN.out]), Below.refl _ _⟩
def fewT (l : List (List UInt8)) (m : Nat) : Bool := l.all (fun x => decide (x.length ≤ m)) && decide (l.length ≤ 30)
theorem all_step {α : Type} {f : α → Bool} {l : List α} {k : Nat} {x : α} (h : l[k]? = some x) : (l.take (k + 1)).all f = ((l.take k).all f && f x) := by
  rw [List.take_add_one, h, List.all_append]; simp
theorem all_no {α : Type} {f : α → Bool} {l : List α} {k : Nat} {x : α} (h : l[k]? = some x) (hf : f x = false) : l.all f = false := by
  rw [List.all_eq_false]
  exact ⟨x, List.mem_of_getElem? h, by rw [hf]; simp⟩
set_option maxRecDepth 100000 in
set_option maxHeartbeats 1000000 in
theorem Few_any (l : List (List UInt8)) (hl : l.length ≤ 8796093022208) (hx : ∀ x ∈ l, x.length ≤ 140737488355328) (m : Nat) (hm : m ≤ 1000000) (v : Value) (w : World) (hv : TextsAt w v l) :
    Calls Tryz.prog 32 #[v, .int .i64 (m : Int)] w fun e w' => e = .returned (.bool (fewT l m)) ∧ w' = w := by
  obtain ⟨A, c, rfl, _⟩ := hv.slice
  have HS := hide hv
  have HX := hide hx
  clear hv hx
  go_enter Tryz.func32, Tryz.ntmps32
  go_wp2_with fail
  go_loopw [5] (fun i wr => ∃ k : Nat, i = .int .i64 (k : Int) ∧ k ≤ l.length ∧ Aside (wr = w) ∧ Aside ((l.take k).all (fun x => decide (x.length ≤ m)) = true)) (fun i _ => l.length - (intOf i).toNat)
  case atStart => exact ⟨0, rfl, by omega, rfl, rfl⟩
  case round =>
    obtain ⟨k, rfl, hk, hw, hT⟩ := hrel
    obtain rfl : wr = w := hw
    have HT : Hid ((l.take k).all (fun x => decide (x.length ≤ m)) = true) := hT
    clear hT
    by_cases hlt : k < l.length
    · have e1 : decide ((k : Int) < (l.length : Int)) = true := decide_eq_true (by omega)
      obtain ⟨x, hx⟩ : ∃ x, l[k]? = some x := ⟨_, List.getElem?_eq_getElem hlt⟩
      obtain ⟨a, rfl, ha, c0⟩ := HS.out.at_ hx
      have hxl := HX.out x (List.mem_of_getElem? hx)
      have hsz : (bs x).size = x.length := bs_size x
      by_cases hxm : x.length ≤ m
      · have e2 : decide ((m : Int) < (x.length : Int)) = false := decide_eq_false (by omega)
        have e3 : decide (m < x.length) = false := decide_eq_false (by omega)
        have HN : Hid ((l.take (k + 1)).all (fun x => decide (x.length ≤ m)) = true) := by show _ = _; rw [all_step hx, HT.out, decide_eq_true hxm]; rfl
        clear hx
        go_wp2_with fail
        refine ⟨⟨k + 1, by go_num, by omega, trivial, HN.out⟩, ?_⟩
        simp [intOf]; omega
      · have e2 : decide ((m : Int) < (x.length : Int)) = true := decide_eq_true (by omega)
        have e3 : decide (m < x.length) = true := decide_eq_true (by omega)
        have HN : Hid (fewT l m = false) := by show _ = _; unfold fewT; rw [all_no hx (decide_eq_false hxm)]; rfl
        clear hx
        go_wp2_with fail
        go_ret
        exact ⟨ret_bool (by rw [HN.out]), rfl⟩
    · obtain rfl : k = l.length := by omega
      have e1 : decide ((l.length : Int) < (l.length : Int)) = false := by simp
      have HN : Hid (fewT l m = decide (l.length ≤ 30)) := by
        show _ = _
        have := HT.out
        rw [List.take_length] at this
        unfold fewT; rw [this]; rfl
      cases hd : decide (l.length ≤ 30) with
      | true =>
        rw [hd] at HN
        have e4 : decide ((l.length : Int) ≤ 30) = true := decide_eq_true (by have := of_decide_eq_true hd; omega)
        clear hd
        go_wp2_with fail
        go_ret
        exact ⟨ret_bool (by rw [HN.out]), rfl⟩
      | false =>
        rw [hd] at HN
        have e4 : decide ((l.length : Int) ≤ 30) = false := decide_eq_false (by have := of_decide_eq_false hd; omega)
        clear hd
        go_wp2_with fail
        go_ret
        exact ⟨ret_bool (by rw [HN.out]), rfl⟩
/-- a result of texts in an array of its own -/
def LvR (ls : List (List UInt8)) (w : World) (e : Ending) (w' : World) : Prop := ∃ v', e = .returned v' ∧ OwnT w' w.heap.size v' ls ∧ Below w.heap.size w w'
set_option maxRecDepth 100000 in
set_option maxHeartbeats 2000000 in
theorem leaves_any (items : List (List UInt8)) (hn : items.length ≤ 1000000) (hx : ∀ x ∈ items, x.length ≤ 100000) (v : Value) (w : World) (hv : TextsAt w v items) (hg : Glob w) :
    Calls Tryz.prog 42 #[v] w (LvR (leavesV items) w) := by
  obtain ⟨A, c, rfl, _⟩ := hv.slice
  have HS := hide hv
  have HX := hide hx
  have HG := hide hg
  obtain ⟨i0, hi0, hz0, hz1, hz2⟩ := info_parts info_str
  clear hv hx hg
  go_enter Tryz.func42, Tryz.ntmps42
  go_wp2_with fail
  go_loopw [3, 4] (fun o i wr => ∃ k : Nat, i = .int .i64 (k : Int) ∧ k ≤ items.length ∧ Aside (OwnT wr w.heap.size o ((leavesV items).take k)) ∧ Aside (Below w.heap.size w wr)) (fun _ i _ => items.length - (intOf i).toNat)
  case atStart => exact ⟨0, rfl, by omega, World.ownsRow_nil _ _ _ _, Below.refl _ _⟩
  case round =>
    obtain ⟨k, rfl, hk, hO, hB⟩ := hrel
    have HO : Hid (OwnT wr w.heap.size _ ((leavesV items).take k)) := hO
    have HB : Hid (Below w.heap.size w wr) := hB
    have htl : ((leavesV items).take k).length = k := by rw [List.length_take]; simp [leavesV]; omega
    obtain ⟨Ao, co, rfl⟩ := own_sl4 hO
    clear hO hB
    rw [htl] at HO ⊢
    by_cases hlt : k < items.length
    · have e1 : decide ((k : Int) < (items.length : Int)) = true := decide_eq_true (by omega)
      obtain ⟨x, hx⟩ : ∃ x, items[k]? = some x := ⟨_, List.getElem?_eq_getElem hlt⟩
      obtain ⟨a, rfl, ha, c0⟩ := (HS.out.to HB.out).at_ hx
      have hxl := HX.out x (List.mem_of_getElem? hx)
      have CL := Leaf_any x (by omega) wr (HG.out.to HB.out)
      have HSN : Hid ((leavesV items).take (k + 1) = (leavesV items).take k ++ [leafD x]) := by show _ = _; unfold leavesV; rw [List.take_add_one, List.getElem?_map, hx]; rfl
      have HO1 : Hid (wr.ownsRow w.heap.size 9 1 (.slice Ao k co) k (flatS ((leavesV items).take k))) := by
        have := HO.out
        unfold OwnT at this
        rw [htl] at this
        exact this
      generalize leafD x = d at *
      generalize (leavesV items).take k = L at *
      clear hx HO
      go_wp2_with fail
      refine CL.mono ?_
      rintro e w4 ⟨rfl, hb4⟩
      have HO4 := hide (own_to4 HO1.out hb4)
      have HB4 := hide (below_to HB.out (Nat.le_refl _) hb4)
      have HSZ : Hid (w.heap.size ≤ w4.heap.size) := HB4.out.size
      clear hb4 CL HO1
      go_wp2_with (at_builtin; refine wpList_append_own _ rfl (.tmp 11) (.tmp 17) _ rfl w.heap.size 9 i0 (.string ⟨#[]⟩) 1 16 Tryz.underlying22 hi0 hz0 hz1 hz2 rfl (by omega) _ k (flatS L) rfl ?c0 ⟨_, 0, none⟩ 1 1 [.string (bs d)] rfl rfl ?c1 ?c2 ?c4 ?c5 ?c3 ?_)
      case c0 => exact own_to4 HO4.out (below_one _ _)
      case c1 => exact cells_new4 (xs := [.string (bs d)]) (by simp)
      case c2 => intro u hu; simp only [List.mem_cons, List.not_mem_nil, or_false] at hu; rcases hu with rfl; rfl
      case c4 => simp only [maxLen]; omega
      case c5 => omega
      case c3 => have := HSZ.out; simp; omega
      intro v' w6 hown6 hgr6 _
      have HB6 := hide ((below_alloc HB4.out (Nat.le_refl _) _).grown hgr6 (by have := HSZ.out; simp; omega) (fun b hb => (HO4.out.lt b hb).1))
      have HO6 : Hid (OwnT w6 w.heap.size v' ((leavesV items).take (k + 1))) := by
        rw [HSN.out]
        show World.ownsRow _ _ _ _ _ _ _
        rw [flatS_snoc, List.length_append, htl]
        exact hown6
      clear hown6 hgr6
      go_wp2_with fail
      refine ⟨⟨k + 1, by go_num, by omega, HO6.out, HB6.out⟩, ?_⟩
      simp [intOf]; omega
    · obtain rfl : k = items.length := by omega
      have e1 : decide ((items.length : Int) < (items.length : Int)) = false := by simp
      go_wp2_with fail
      go_ret
      refine ⟨_, rfl, ?_, HB.out⟩
      have := HO.out
      rwa [List.take_of_length_le (by simp [leavesV])] at this
set_option maxHeartbeats 1000000 in
theorem root_any (items : List (List UInt8)) (hn : items.length ≤ 1000) (hx : ∀ x ∈ items, x.length ≤ 100000) (v : Value) (w : World) (hv : TextsAt w v items) (hg : Glob w) :
    Calls Tryz.prog 22 #[v] w fun e w' => e = .returned (.string (bs (totalT (leavesV items)))) ∧ Below w.heap.size w w' := by
  have CL := leaves_any items (by omega) hx v w hv hg
  unfold LvR at CL
  have HG := hide hg
  clear hv hx hg
  go_enter Tryz.func22, Tryz.ntmps22
  go_wp2_with fail
  refine CL.mono ?_
  rintro e w2 ⟨v', rfl, ho, hb⟩
  have HB := hide hb
  have CR := root_leaves items hn v' w2 (TextsAt.of_own ho) (HG.out.to hb)
  clear ho hb CL
  obtain ⟨R, HR⟩ : ∃ R, Hid (totalT (leavesV items) = R) := ⟨_, rfl⟩
  rw [HR.out] at CR
  go_wp2_with fail
  refine CR.mono ?_
  rintro e w3 ⟨rfl, hb⟩
  go_wp2_with fail
  go_ret
  exact ⟨by rw [HR.out]; rfl, below_to HB.out (Nat.le_refl _) hb⟩
def fewI (items : List (List UInt8)) : Bool := decide (items.length ≤ 12) && fewT items 60
set_option maxHeartbeats 1000000 in
theorem few_any (items : List (List UInt8)) (hl : items.length ≤ 8796093022208) (hx : ∀ x ∈ items, x.length ≤ 140737488355328) (v : Value) (w : World) (hv : TextsAt w v items) :
    Calls Tryz.prog 12 #[v] w fun e w' => e = .returned (.bool (fewI items)) ∧ w' = w := by
  have CF : Calls Tryz.prog 32 #[v, .int .i64 60] w _ := Few_any items hl hx 60 (by omega) v w hv
  obtain ⟨A, c, rfl, _⟩ := hv.slice
  unfold fewI
  clear hv hx
  cases hd : decide (items.length ≤ 12) with
  | true =>
    have e4 : decide ((items.length : Int) ≤ 12) = true := decide_eq_true (by have := of_decide_eq_true hd; omega)
    clear hd
    generalize fewT items 60 = B at *
    cases B
    all_goals
      go_enter Tryz.func12, Tryz.ntmps12
      go_wp2_with ((with_reducible refine CF.mono ?_); rintro e w' ⟨rfl, rfl⟩)
      go_ret
      exact ⟨rfl, rfl⟩
  | false =>
    have e4 : decide ((items.length : Int) ≤ 12) = false := decide_eq_false (by have := of_decide_eq_false hd; omega)
    clear hd
    go_enter Tryz.func12, Tryz.ntmps12
    go_wp2_with fail
    go_ret
    exact ⟨rfl, rfl⟩
end Go.Proofs.YtfhanbiifjiklaaGreatDoor
