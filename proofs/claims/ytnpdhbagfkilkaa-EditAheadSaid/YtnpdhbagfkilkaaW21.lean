/- Walks: EditParts, EditLonger. -/
import Derived.Test.YtnpdhbagfkilkaaW20
set_option linter.unusedVariables false
set_option linter.unusedSimpArgs false
namespace Go.Proofs.Ytnpdhbagfkilkaa
open Go.RowKit

set_option maxHeartbeats 4000000 in
set_option maxRecDepth 100000 in
theorem parts_law (W : Wt) (A : Option Addr) (n c : Nat) (a b x y : ByteArray) (w : World) (hN : Near w w.heap.size A n W.near) (hn : n ≤ 140737488355328) (ha : a.size ≤ maxLen) (hb : b.size ≤ maxLen) (hx : x.size ≤ maxLen) (hy : y.size ≤ maxLen) :
    Calls Try.prog 6 #[wval W A n c, .string a, .string b, .string x, .string y] w fun e w' => e = .returned (.bool true) ∧ Below w.heap.size w w' := by
  have H0 := hide (LawS.start (c := c) hN)
  clear hN
  cases hf : fewB [a, b, x, y] n
  · go_enter Try.func6, Try.ntmps6
    unfold wval
    go_wp2_with fail
    refine (lw_head H0.out).mono ?_
    rintro e w1 ⟨rfl, hs⟩
    have H1 := hide hs; clear hs H0
    obtain ⟨d0, d1, d2, d3, d4⟩ := H1.out.facts
    go_wp2_with fail
    refine (lw_few4 H1.out hn a b x y ha hb hx hy _ rfl).mono ?_
    rintro e w2 ⟨rfl, hs⟩
    have H2 := hide hs; clear hs H1 d0 d1 d2 d3 d4
    rw [hf]
    go_wp2_with fail
    go_ret
    exact ⟨rfl, H2.out.bel⟩
  obtain ⟨hz, _⟩ := fewB_size hf
  have za : a.size ≤ 200 := hz a (by simp)
  have zb : b.size ≤ 200 := hz b (by simp)
  have zx : x.size ≤ 200 := hz x (by simp)
  have zy : y.size ≤ 200 := hz y (by simp)
  clear hz
  obtain ⟨v1, V1⟩ : ∃ v, Hid (errn (ok3 W a.data.toList x.data.toList) = v) := ⟨_, rfl⟩
  obtain ⟨v2, V2⟩ : ∃ v, Hid (errn (ok3 W b.data.toList y.data.toList) = v) := ⟨_, rfl⟩
  obtain ⟨v3, V3⟩ : ∃ v, Hid (errn (ok3 W (a ++ b).data.toList (x ++ y).data.toList) = v) := ⟨_, rfl⟩
  obtain ⟨D1, E1⟩ : ∃ v, Hid (dist W a.data.toList x.data.toList = v) := ⟨_, rfl⟩
  obtain ⟨D2, E2⟩ : ∃ v, Hid (dist W b.data.toList y.data.toList = v) := ⟨_, rfl⟩
  obtain ⟨D3, E3⟩ : ∃ v, Hid (dist W (a ++ b).data.toList (x ++ y).data.toList = v) := ⟨_, rfl⟩
  go_enter Try.func6, Try.ntmps6
  unfold wval
  go_wp2_with fail
  refine (lw_head H0.out).mono ?_
  rintro e w1 ⟨rfl, hs⟩
  have H1 := hide hs; clear hs H0
  obtain ⟨d0, d1, d2, d3, d4⟩ := H1.out.facts
  go_wp2_with fail
  refine (lw_few4 H1.out hn a b x y ha hb hx hy _ rfl).mono ?_
  rintro e w2 ⟨rfl, hs⟩
  have H2 := hide hs; clear hs H1 d0 d1 d2 d3 d4
  rw [hf]
  obtain ⟨d0, d1, d2, d3, d4⟩ := H2.out.facts
  go_wp2_with fail
  refine (lw_dist H2.out hn a x ha hx).mono ?_
  rintro e w3 ⟨rfl, _, hs⟩
  have H3 := hide hs; clear hs H2 d0 d1 d2 d3 d4
  rw [V1.out, E1.out]
  obtain ⟨d0, d1, d2, d3, d4⟩ := H3.out.facts
  go_wp2_with fail
  refine (lw_dist H3.out hn b y hb hy).mono ?_
  rintro e w4 ⟨rfl, _, hs⟩
  have H4 := hide hs; clear hs H3 d0 d1 d2 d3 d4
  rw [V2.out, E2.out]
  obtain ⟨d0, d1, d2, d3, d4⟩ := H4.out.facts
  go_wp2_with fail
  refine (lw_dist H4.out hn (a ++ b) (x ++ y) (by rw [ByteArray.size_append]; unfold maxLen; omega) (by rw [ByteArray.size_append]; unfold maxLen; omega)).mono ?_
  rintro e w5 ⟨rfl, _, hs⟩
  have H5 := hide hs; clear hs H4 d0 d1 d2 d3 d4
  rw [V3.out, E3.out]
  cases h1 : ok3 W a.data.toList x.data.toList
  · obtain rfl : v1 = 1 := by have := V1.out; rw [h1] at this; exact this.symm
    go_wp2_with fail
    go_ret
    exact ⟨rfl, H5.out.bel⟩
  obtain rfl : v1 = 0 := by have := V1.out; rw [h1] at this; exact this.symm
  cases h2 : ok3 W b.data.toList y.data.toList
  · obtain rfl : v2 = 1 := by have := V2.out; rw [h2] at this; exact this.symm
    go_wp2_with fail
    go_ret
    exact ⟨rfl, H5.out.bel⟩
  obtain rfl : v2 = 0 := by have := V2.out; rw [h2] at this; exact this.symm
  by_cases h3 : 120 < a.size + b.size
  · clear h1 h2
    go_wp2_with fail
    go_ret
    exact ⟨rfl, H5.out.bel⟩
  by_cases h4 : 120 < x.size + y.size
  · clear h1 h2
    go_wp2_with fail
    go_ret
    exact ⟨rfl, H5.out.bel⟩
  have ha' : a.data.toList.length + b.data.toList.length ≤ 120 := by rw [toList_length, toList_length]; omega
  have hx' : x.data.toList.length + y.data.toList.length ≤ 120 := by rw [toList_length, toList_length]; omega
  have q1 := ok3_parts h1 h2 ha' hx'
  have q2 := dist_parts h1 h2 ha' hx'
  have app : ∀ s t : ByteArray, (s ++ t).data.toList = s.data.toList ++ t.data.toList := fun s t => by simp
  rw [← app, ← app] at q1 q2
  obtain rfl : v3 = 0 := by have := V3.out; rw [q1] at this; exact this.symm
  rw [E1.out, E2.out, E3.out] at q2
  obtain ⟨_, l1, l2⟩ := ok3_split h1
  obtain ⟨_, l3, l4⟩ := ok3_split h2
  have r1 := Wt.dl_hi (ok3_valid h1) l1 l2
  have r2 := Wt.dl_hi (ok3_valid h2) l3 l4
  have r3 := dist_lo W a.data.toList x.data.toList
  have r4 := dist_lo W b.data.toList y.data.toList
  have r5 : dist W a.data.toList x.data.toList ≤ 1000000 := by unfold dist; rw [if_pos h1]; exact r1
  have r6 : dist W b.data.toList y.data.toList ≤ 1000000 := by unfold dist; rw [if_pos h2]; exact r2
  rw [E1.out] at r3 r5
  rw [E2.out] at r4 r6
  clear h1 h2 app q1 r1 r2 l1 l2 l3 l4 ha' hx'
  go_wp2_with fail
  go_ret
  exact ⟨rfl, H5.out.bel⟩

set_option maxHeartbeats 4000000 in
set_option maxRecDepth 100000 in
theorem longer_law (W : Wt) (A : Option Addr) (n c : Nat) (x p m : ByteArray) (w : World) (hN : Near w w.heap.size A n W.near) (hn : n ≤ 140737488355328) (hx : x.size ≤ maxLen) (hp : p.size ≤ maxLen) (hm : m.size ≤ maxLen) :
    Calls Try.prog 8 #[wval W A n c, .string x, .string p, .string m] w fun e w' => e = .returned (.bool true) ∧ Below w.heap.size w w' := by
  have H0 := hide (LawS.start (c := c) hN)
  clear hN
  cases hf : fewB [x, p, m] n
  · go_enter Try.func8, Try.ntmps8
    unfold wval
    go_wp2_with fail
    refine (lw_head H0.out).mono ?_
    rintro e w1 ⟨rfl, hs⟩
    have H1 := hide hs; clear hs H0
    obtain ⟨d0, d1, d2, d3, d4⟩ := H1.out.facts
    go_wp2_with fail
    refine (lw_few3 H1.out hn x p m hx hp hm _ rfl).mono ?_
    rintro e w2 ⟨rfl, hs⟩
    have H2 := hide hs; clear hs H1 d0 d1 d2 d3 d4
    rw [hf]
    go_wp2_with fail
    go_ret
    exact ⟨rfl, H2.out.bel⟩
  obtain ⟨hz, _⟩ := fewB_size hf
  have zp : p.size ≤ 200 := hz p (by simp)
  have zm : m.size ≤ 200 := hz m (by simp)
  clear hz
  have app : (p ++ m).data.toList = p.data.toList ++ m.data.toList := by simp
  obtain ⟨v1, V1⟩ : ∃ v, Hid (errn (ok3 W x.data.toList p.data.toList) = v) := ⟨_, rfl⟩
  obtain ⟨v2, V2⟩ : ∃ v, Hid (errn (ok3 W x.data.toList (p ++ m).data.toList) = v) := ⟨_, rfl⟩
  obtain ⟨v3, V3⟩ : ∃ v, Hid (errn (ok3 W x.data.toList (ByteArray.mk #[]).data.toList) = v) := ⟨_, rfl⟩
  obtain ⟨a1, E1⟩ : ∃ v, Hid (ahead W x.data.toList p.data.toList = v) := ⟨_, rfl⟩
  obtain ⟨a2, E2⟩ : ∃ v, Hid (ahead W x.data.toList (p ++ m).data.toList = v) := ⟨_, rfl⟩
  obtain ⟨a3, E3⟩ : ∃ v, Hid (ahead W x.data.toList (ByteArray.mk #[]).data.toList = v) := ⟨_, rfl⟩
  obtain ⟨D, E4⟩ : ∃ v, Hid (dist W x.data.toList p.data.toList = v) := ⟨_, rfl⟩
  have HA := hide app
  clear app
  go_enter Try.func8, Try.ntmps8
  unfold wval
  go_wp2_with fail
  refine (lw_head H0.out).mono ?_
  rintro e w1 ⟨rfl, hs⟩
  have H1 := hide hs; clear hs H0
  obtain ⟨d0, d1, d2, d3, d4⟩ := H1.out.facts
  go_wp2_with fail
  refine (lw_few3 H1.out hn x p m hx hp hm _ rfl).mono ?_
  rintro e w2 ⟨rfl, hs⟩
  have H2 := hide hs; clear hs H1 d0 d1 d2 d3 d4
  rw [hf]
  obtain ⟨d0, d1, d2, d3, d4⟩ := H2.out.facts
  go_wp2_with fail
  refine (lw_ahead H2.out hn x p hx hp).mono ?_
  rintro e w3 ⟨rfl, _, hs⟩
  have H3 := hide hs; clear hs H2 d0 d1 d2 d3 d4
  rw [V1.out, E1.out]
  obtain ⟨d0, d1, d2, d3, d4⟩ := H3.out.facts
  go_wp2_with fail
  refine (lw_ahead H3.out hn x (p ++ m) hx (by rw [ByteArray.size_append]; unfold maxLen; omega)).mono ?_
  rintro e w4 ⟨rfl, _, hs⟩
  have H4 := hide hs; clear hs H3 d0 d1 d2 d3 d4
  rw [V2.out, E2.out]
  obtain ⟨d0, d1, d2, d3, d4⟩ := H4.out.facts
  go_wp2_with fail
  refine (lw_dist H4.out hn x p hx hp).mono ?_
  rintro e w5 ⟨rfl, _, hs⟩
  have H5 := hide hs; clear hs H4 d0 d1 d2 d3 d4
  rw [V1.out, E4.out]
  obtain ⟨d0, d1, d2, d3, d4⟩ := H5.out.facts
  go_wp2_with fail
  refine (lw_ahead H5.out hn x ⟨#[]⟩ hx (by decide)).mono ?_
  rintro e w6 ⟨rfl, _, hs⟩
  have H6 := hide hs; clear hs H5 d0 d1 d2 d3 d4
  rw [V3.out, E3.out]
  cases h1 : ok3 W x.data.toList p.data.toList
  · obtain rfl : v1 = 1 := by have := V1.out; rw [h1] at this; exact this.symm
    go_wp2_with fail
    go_ret
    exact ⟨rfl, H6.out.bel⟩
  obtain rfl : v1 = 0 := by have := V1.out; rw [h1] at this; exact this.symm
  obtain rfl : v3 = 0 := by have h := V3.out; rw [show ok3 W x.data.toList (ByteArray.mk #[]).data.toList = true from ok3_nil h1] at h; exact h.symm
  obtain rfl : a3 = 0 := by rw [← E3.out]; exact ahead_nil h1
  have q1 : a1 ≤ D := by rw [← E1.out, ← E4.out]; exact ahead_dist h1
  cases h2 : ok3 W x.data.toList (p ++ m).data.toList
  · obtain rfl : v2 = 1 := by have := V2.out; rw [h2] at this; exact this.symm
    clear h1 h2
    go_wp2_with fail
    go_ret
    exact ⟨rfl, H6.out.bel⟩
  obtain rfl : v2 = 0 := by have := V2.out; rw [h2] at this; exact this.symm
  have q2 : a1 ≤ a2 := by rw [← E1.out, ← E2.out, HA.out]; exact ahead_longer h1 (by rw [← HA.out]; exact h2)
  clear h1 h2
  go_wp2_with fail
  go_ret
  exact ⟨rfl, H6.out.bel⟩
end Go.Proofs.Ytnpdhbagfkilkaa
