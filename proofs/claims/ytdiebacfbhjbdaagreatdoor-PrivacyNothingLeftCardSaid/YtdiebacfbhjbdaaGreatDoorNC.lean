/- The walk of the statements' examples: head. -/
import Derived.Test.YtdiebacfbhjbdaaGreatDoorNB
import Derived.Test.YtdiebacfbhjbdaaGreatDoorP3
set_option linter.unusedVariables false
set_option linter.unusedSimpArgs false
namespace Go.Proofs.YtdiebacfbhjbdaaGreatDoor
open Go.RowKit

theorem make_yes {p t s : List UInt8} (h : canM p t s = true) (hs : s.length ≤ 140737488355328) (ht : t.length ≤ 140737488355328) (hp : p.length ≤ 140737488355328) (w : World) (hg : Glob w) {l : Ln} (hl : mkL p t s = l) :
    Calls Tryz.prog 19 #[.string (bs p), .string (bs t), .string (bs s)] w fun e w' => e = .returned (.tuple #[.agg #[.string (bs l.p), .string (bs l.t), .string (bs l.s), .string (bs l.d)], .int .i64 0]) ∧ Below w.heap.size w w' := by
  have := Make_any p t s hp ht hs w hg
  rw [show makeV p t s = l by unfold makeV; rw [h]; exact hl, show makeE p t s = 0 by unfold makeE; rw [h]; rfl] at this
  exact this
theorem make_no {p t s : List UInt8} (h : canM p t s = false) (hs : s.length ≤ 140737488355328) (ht : t.length ≤ 140737488355328) (hp : p.length ≤ 140737488355328) (w : World) (hg : Glob w) :
    Calls Tryz.prog 19 #[.string (bs p), .string (bs t), .string (bs s)] w fun e w' => e = .returned (.tuple #[.agg #[.string ⟨#[]⟩, .string ⟨#[]⟩, .string ⟨#[]⟩, .string ⟨#[]⟩], .int .i64 1]) ∧ Below w.heap.size w w' := by
  have := Make_any p t s hp ht hs w hg
  rw [show makeV p t s = noL by unfold makeV; rw [h]; rfl, show makeE p t s = 1 by unfold makeE; rw [h]; rfl] at this
  exact this
theorem rows_new (w : World) (size : Nat) (t : TypeId) (ls : List (List Value)) (hs : ∀ x ∈ ls, x.length = size) (cs : Array Value) (hcs : cs.toList = ls.flatten) (n : Nat) (hn : n = ls.length) : RowsAt (w.alloc (.cells cs t)) size (.slice (some ⟨w.heap.size, 0, none⟩) n n) ls := by
  refine RowsAt.of_blk (Blk.new w t cs) hn (Nat.le_refl _) hs fun k x hx j u hu => ?_
  have := flat_at ls hs k x j u hx hu
  rw [← hcs] at this
  simpa using this
theorem okA_of (log : List Ln) (q : List UInt8) (h1 : validG log = true) (h2 : isNm q = true) : okA log q = true := by unfold okA; rw [h1, h2]; rfl
def SomeTx (ls : List (List UInt8)) (k : Int) (w : World) (e : Ending) (w' : World) : Prop := ∃ v', e = .returned (.tuple #[v', .int .i64 k]) ∧ TextsAt w' v' ls ∧ Below w.heap.size w w'
theorem about_yes {log : List Ln} (hf : ∀ l ∈ log, l.fit) (hl : log.length ≤ 1000000000) {q : List UInt8} (hok : okA log q = true) (hq : q.length ≤ 140737488355328) (v : Value) (w : World) (hv : LnsAt w v log) (hg : Glob w) {ls : List (List UInt8)} (he : aboutP log q = ls) :
    Calls Tryz.prog 16 #[v, .string (bs q)] w (SomeTx ls 0 w) :=
  (About_any log hf hl q hq v w hv hg).mono fun e w' ⟨v', h1, h2, h3⟩ => ⟨v', by rw [h1, hok]; rfl, by rw [← he]; unfold aboutV at h2; rw [hok] at h2; exact h2, h3⟩
def SomeLn (ls : List Ln) (k m : Int) (w : World) (e : Ending) (w' : World) : Prop := ∃ v', e = .returned (.tuple #[v', .int .i64 k, .int .i64 m]) ∧ LnsAt w' v' ls ∧ Below w.heap.size w w'
theorem erase_yes {log : List Ln} (hf : ∀ l ∈ log, l.fit) (hl : log.length ≤ 1000000000) {q : List UInt8} (hok : okA log q = true) (hq : q.length ≤ 140737488355328) (v : Value) (w : World) (hv : LnsAt w v log) (hg : Glob w) {ls : List Ln} (he : eraseP log q = ls) {k : Int} (hk : ((hitsP log q : Nat) : Int) = k) :
    Calls Tryz.prog 13 #[v, .string (bs q)] w (SomeLn ls k 0 w) :=
  (Erase_any log hf hl q hq v w hv hg).mono fun e w' ⟨v', h1, h2, h3⟩ => ⟨v', by rw [h1, hok, ← hk]; unfold hitsV; rw [hok]; rfl, by rw [← he]; unfold eraseV at h2; rw [hok] at h2; exact h2, h3⟩
theorem root_yes {log : List Ln} (hf : ∀ l ∈ log, l.fit) (hd : ∀ l ∈ log, l.d.length ≤ 100000000000) (hl : log.length ≤ 1000000000) (hok : validG log = true) (v : Value) (w : World) (hv : LnsAt w v log) (hg : Glob w) {R : List UInt8} (hR : totalT (leavesP log) = R) :
    Calls Tryz.prog 14 #[v] w fun e w' => e = .returned (.tuple #[.string (bs R), .int .i64 0]) ∧ Below w.heap.size w w' := by
  have := Root_any log hf hd hl v w hv hg
  rw [hok, if_pos rfl, hR] at this
  exact this
set_option maxRecDepth 100000 in
set_option maxHeartbeats 16000000 in
theorem head_any (w : World) (hg : Glob w) : Calls Tryz.prog 11 #[] w fun e w' => e = .returned (.bool true) ∧ Below w.heap.size w w' := by
  have CS : Calls Tryz.prog 33 #[.string ⟨#[115, 97, 108, 116]⟩] w fun e w' => e = .returned (.string (bs (sumD [115, 97, 108, 116]))) ∧ Below w.heap.size w w' := Sum_any [115, 97, 108, 116] (by decide) w hg
  have HS := hide (sumD_isD [115, 97, 108, 116])
  generalize sumD [115, 97, 108, 116] = S at *
  have HSl : Hid (S.length ≤ 140737488355328) := by have := isD_len HS.out; show _ ≤ _; omega
  have HG := hide hg
  clear hg
  obtain ⟨la, HLA⟩ : ∃ l, Hid (mkL annaT inT S = l) := ⟨_, rfl⟩
  obtain ⟨lb, HLB⟩ : ∃ l, Hid (mkL bobT parT S = l) := ⟨_, rfl⟩
  obtain ⟨lc, HLC⟩ : ∃ l, Hid (mkL annaT outT S = l) := ⟨_, rfl⟩
  have HVL : Hid (validG [la, lb, lc] = true) := by show _ = _; rw [← HLA.out, ← HLB.out, ← HLC.out]; exact head_valid HS.out
  have HAB : Hid (aboutP [la, lb, lc] annaT = [inT, outT]) := by show _ = _; rw [← HLA.out, ← HLB.out, ← HLC.out]; exact head_about S
  have HHI : Hid (hitsP [la, lb, lc] annaT = 2) := by show _ = _; rw [← HLA.out, ← HLB.out, ← HLC.out]; exact head_hits S
  have HBO : Hid (aboutP [la, lb, lc] bobT = [parT]) := by show _ = _; rw [← HLA.out, ← HLB.out, ← HLC.out]; exact head_bob S
  have HFI : Hid (∀ l ∈ [la, lb, lc], l.fit ∧ l.d.length ≤ 100000000000) := fun l hl => by
    simp only [List.mem_cons, List.not_mem_nil, or_false] at hl
    have h1 := HSl.out
    have h2 : ∀ x, (listD x).length = 16 := fun x => isD_len (listD_isD x)
    rcases hl with rfl | rfl | rfl
    · rw [← HLA.out]; exact ⟨⟨by show annaT.length ≤ _; decide, by show inT.length ≤ _; decide, h1, by show (listD _).length ≤ _; rw [h2]; decide⟩, by show (listD _).length ≤ _; rw [h2]; decide⟩
    · rw [← HLB.out]; exact ⟨⟨by show bobT.length ≤ _; decide, by show parT.length ≤ _; decide, h1, by show (listD _).length ≤ _; rw [h2]; decide⟩, by show (listD _).length ≤ _; rw [h2]; decide⟩
    · rw [← HLC.out]; exact ⟨⟨by show annaT.length ≤ _; decide, by show outT.length ≤ _; decide, h1, by show (listD _).length ≤ _; rw [h2]; decide⟩, by show (listD _).length ≤ _; rw [h2]; decide⟩
  go_enter Tryz.func11, Tryz.ntmps11
  go_wp2_with fail
  refine CS.mono ?_
  rintro e w1 ⟨rfl, hb⟩
  have HB1 := hide hb
  clear hb CS
  have C2 : Calls Tryz.prog 19 #[.string ⟨#[97, 110, 110, 97]⟩, .string ⟨#[109, 111, 118, 101, 100, 32, 105, 110]⟩, .string (bs S)] w1 fun e w' => e = .returned (.tuple #[.agg #[.string (bs la.p), .string (bs la.t), .string (bs la.s), .string (bs la.d)], .int .i64 0]) ∧ Below w1.heap.size w1 w' := make_yes (can_in HS.out) (by first | exact HSl.out | decide) (by first | exact HSl.out | decide) (by first | exact HSl.out | decide) w1 (HG.out.to HB1.out) HLA.out
  go_wp2_with fail
  refine C2.mono ?_
  rintro e v2 ⟨rfl, hb⟩
  have HB2 := hide (below_alloc (below_to HB1.out (Nat.le_refl _) hb) (Nat.le_refl _) (.cells #[.string (bs la.p), .string (bs la.t), .string (bs la.s), .string (bs la.d)] 32))
  clear hb C2 HB1
  go_wp2_with fail
  have HX2 := hide (Blk.new v2 32 #[.string (bs la.p), .string (bs la.t), .string (bs la.s), .string (bs la.d)])
  generalize v2.alloc (.cells #[.string (bs la.p), .string (bs la.t), .string (bs la.s), .string (bs la.d)] 32) = w2 at *
  have C3 : Calls Tryz.prog 19 #[.string ⟨#[98, 111, 98]⟩, .string ⟨#[112, 97, 114, 99, 101, 108]⟩, .string (bs S)] w2 fun e w' => e = .returned (.tuple #[.agg #[.string (bs lb.p), .string (bs lb.t), .string (bs lb.s), .string (bs lb.d)], .int .i64 0]) ∧ Below w2.heap.size w2 w' := make_yes (can_par HS.out) (by first | exact HSl.out | decide) (by first | exact HSl.out | decide) (by first | exact HSl.out | decide) w2 (HG.out.to HB2.out) HLB.out
  go_wp2_with fail
  refine C3.mono ?_
  rintro e v3 ⟨rfl, hb⟩
  have HB3 := hide (below_alloc (below_to HB2.out (Nat.le_refl _) hb) (Nat.le_refl _) (.cells #[.string (bs lb.p), .string (bs lb.t), .string (bs lb.s), .string (bs lb.d)] 32))
  have HY2 := hide (HX2.out.to hb)
  clear hb C3 HB2
  go_wp2_with fail
  replace HX2 := hide (HY2.out.alloc (.cells #[.string (bs lb.p), .string (bs lb.t), .string (bs lb.s), .string (bs lb.d)] 32))
  clear HY2
  have HX3 := hide (Blk.new v3 32 #[.string (bs lb.p), .string (bs lb.t), .string (bs lb.s), .string (bs lb.d)])
  generalize v3.alloc (.cells #[.string (bs lb.p), .string (bs lb.t), .string (bs lb.s), .string (bs lb.d)] 32) = w3 at *
  have C4 : Calls Tryz.prog 19 #[.string ⟨#[97, 110, 110, 97]⟩, .string ⟨#[109, 111, 118, 101, 100, 32, 111, 117, 116]⟩, .string (bs S)] w3 fun e w' => e = .returned (.tuple #[.agg #[.string (bs lc.p), .string (bs lc.t), .string (bs lc.s), .string (bs lc.d)], .int .i64 0]) ∧ Below w3.heap.size w3 w' := make_yes (can_out HS.out) (by first | exact HSl.out | decide) (by first | exact HSl.out | decide) (by first | exact HSl.out | decide) w3 (HG.out.to HB3.out) HLC.out
  go_wp2_with fail
  refine C4.mono ?_
  rintro e v4 ⟨rfl, hb⟩
  have HB4 := hide (below_alloc (below_to HB3.out (Nat.le_refl _) hb) (Nat.le_refl _) (.cells #[.string (bs lc.p), .string (bs lc.t), .string (bs lc.s), .string (bs lc.d)] 32))
  have HY2 := hide (HX2.out.to hb)
  have HY3 := hide (HX3.out.to hb)
  clear hb C4 HB3
  go_wp2_with fail
  replace HX2 := hide (HY2.out.alloc (.cells #[.string (bs lc.p), .string (bs lc.t), .string (bs lc.s), .string (bs lc.d)] 32))
  clear HY2
  replace HX3 := hide (HY3.out.alloc (.cells #[.string (bs lc.p), .string (bs lc.t), .string (bs lc.s), .string (bs lc.d)] 32))
  clear HY3
  have HX4 := hide (Blk.new v4 32 #[.string (bs lc.p), .string (bs lc.t), .string (bs lc.s), .string (bs lc.d)])
  generalize v4.alloc (.cells #[.string (bs lc.p), .string (bs lc.t), .string (bs lc.s), .string (bs lc.d)] 32) = w4 at *
  have C5 : Calls Tryz.prog 19 #[.string ⟨#[49]⟩, .string ⟨#[109, 111, 118, 101, 100, 32, 105, 110]⟩, .string (bs S)] w4 fun e w' => e = .returned (.tuple #[.agg #[.string ⟨#[]⟩, .string ⟨#[]⟩, .string ⟨#[]⟩, .string ⟨#[]⟩], .int .i64 1]) ∧ Below w4.heap.size w4 w' := make_no (can_1 inT S) (by first | exact HSl.out | decide) (by first | exact HSl.out | decide) (by first | exact HSl.out | decide) w4 (HG.out.to HB4.out)
  go_wp2_with fail
  refine C5.mono ?_
  rintro e v5 ⟨rfl, hb⟩
  have HB5 := hide (below_alloc (below_to HB4.out (Nat.le_refl _) hb) (Nat.le_refl _) (.cells #[.string ⟨#[]⟩, .string ⟨#[]⟩, .string ⟨#[]⟩, .string ⟨#[]⟩] 32))
  have HY2 := hide (HX2.out.to hb)
  have HY3 := hide (HX3.out.to hb)
  have HY4 := hide (HX4.out.to hb)
  clear hb C5 HB4
  go_wp2_with fail
  replace HX2 := hide (HY2.out.alloc (.cells #[.string ⟨#[]⟩, .string ⟨#[]⟩, .string ⟨#[]⟩, .string ⟨#[]⟩] 32))
  clear HY2
  replace HX3 := hide (HY3.out.alloc (.cells #[.string ⟨#[]⟩, .string ⟨#[]⟩, .string ⟨#[]⟩, .string ⟨#[]⟩] 32))
  clear HY3
  replace HX4 := hide (HY4.out.alloc (.cells #[.string ⟨#[]⟩, .string ⟨#[]⟩, .string ⟨#[]⟩, .string ⟨#[]⟩] 32))
  clear HY4
  generalize v5.alloc (.cells #[.string ⟨#[]⟩, .string ⟨#[]⟩, .string ⟨#[]⟩, .string ⟨#[]⟩] 32) = w5 at *
  have C6 : Calls Tryz.prog 19 #[.string ⟨#[97, 110, 110, 97]⟩, .string ⟨#[]⟩, .string (bs S)] w5 fun e w' => e = .returned (.tuple #[.agg #[.string ⟨#[]⟩, .string ⟨#[]⟩, .string ⟨#[]⟩, .string ⟨#[]⟩], .int .i64 1]) ∧ Below w5.heap.size w5 w' := make_no (can_0 annaT S) (by first | exact HSl.out | decide) (by first | exact HSl.out | decide) (by first | exact HSl.out | decide) w5 (HG.out.to HB5.out)
  go_wp2_with fail
  refine C6.mono ?_
  rintro e v6 ⟨rfl, hb⟩
  have HB6 := hide (below_alloc (below_to HB5.out (Nat.le_refl _) hb) (Nat.le_refl _) (.cells #[.string ⟨#[]⟩, .string ⟨#[]⟩, .string ⟨#[]⟩, .string ⟨#[]⟩] 32))
  have HY2 := hide (HX2.out.to hb)
  have HY3 := hide (HX3.out.to hb)
  have HY4 := hide (HX4.out.to hb)
  clear hb C6 HB5
  go_wp2_with fail
  replace HX2 := hide (HY2.out.alloc (.cells #[.string ⟨#[]⟩, .string ⟨#[]⟩, .string ⟨#[]⟩, .string ⟨#[]⟩] 32))
  clear HY2
  replace HX3 := hide (HY3.out.alloc (.cells #[.string ⟨#[]⟩, .string ⟨#[]⟩, .string ⟨#[]⟩, .string ⟨#[]⟩] 32))
  clear HY3
  replace HX4 := hide (HY4.out.alloc (.cells #[.string ⟨#[]⟩, .string ⟨#[]⟩, .string ⟨#[]⟩, .string ⟨#[]⟩] 32))
  clear HY4
  generalize v6.alloc (.cells #[.string ⟨#[]⟩, .string ⟨#[]⟩, .string ⟨#[]⟩, .string ⟨#[]⟩] 32) = w6 at *
  have C7 : Calls Tryz.prog 19 #[.string ⟨#[97, 110, 110, 97]⟩, .string ⟨#[109, 111, 118, 101, 100, 32, 105, 110]⟩, .string ⟨#[120]⟩] w6 fun e w' => e = .returned (.tuple #[.agg #[.string ⟨#[]⟩, .string ⟨#[]⟩, .string ⟨#[]⟩, .string ⟨#[]⟩], .int .i64 1]) ∧ Below w6.heap.size w6 w' := make_no (can_x annaT inT) (by first | exact HSl.out | decide) (by first | exact HSl.out | decide) (by first | exact HSl.out | decide) w6 (HG.out.to HB6.out)
  go_wp2_with fail
  refine C7.mono ?_
  rintro e v7 ⟨rfl, hb⟩
  have HB7 := hide (below_alloc (below_to HB6.out (Nat.le_refl _) hb) (Nat.le_refl _) (.cells #[.string ⟨#[]⟩, .string ⟨#[]⟩, .string ⟨#[]⟩, .string ⟨#[]⟩] 32))
  have HY2 := hide (HX2.out.to hb)
  have x2_0 := (HY2.out.cell 0).trans rfl
  have x2_1 := (HY2.out.cell 1).trans rfl
  have x2_2 := (HY2.out.cell 2).trans rfl
  have x2_3 := (HY2.out.cell 3).trans rfl
  have lt2 : v2.heap.size < v7.heap.size := HY2.out.lt
  have ne2 : v2.heap.size ≠ v7.heap.size := Nat.ne_of_lt lt2
  have HY3 := hide (HX3.out.to hb)
  have x3_0 := (HY3.out.cell 0).trans rfl
  have x3_1 := (HY3.out.cell 1).trans rfl
  have x3_2 := (HY3.out.cell 2).trans rfl
  have x3_3 := (HY3.out.cell 3).trans rfl
  have lt3 : v3.heap.size < v7.heap.size := HY3.out.lt
  have ne3 : v3.heap.size ≠ v7.heap.size := Nat.ne_of_lt lt3
  have HY4 := hide (HX4.out.to hb)
  have x4_0 := (HY4.out.cell 0).trans rfl
  have x4_1 := (HY4.out.cell 1).trans rfl
  have x4_2 := (HY4.out.cell 2).trans rfl
  have x4_3 := (HY4.out.cell 3).trans rfl
  have lt4 : v4.heap.size < v7.heap.size := HY4.out.lt
  have ne4 : v4.heap.size ≠ v7.heap.size := Nat.ne_of_lt lt4
  clear hb C7 HB6
  go_wp2_with fail
  have HL8 : Hid (LnsAt ((v7.alloc (.cells #[.string ⟨#[]⟩, .string ⟨#[]⟩, .string ⟨#[]⟩, .string ⟨#[]⟩] 32)).alloc (.cells #[.string (bs la.p), .string (bs la.t), .string (bs la.s), .string (bs la.d), .string (bs lb.p), .string (bs lb.t), .string (bs lb.s), .string (bs lb.d), .string (bs lc.p), .string (bs lc.t), .string (bs lc.s), .string (bs lc.d)] 32)) (.slice (some ⟨v7.heap.size + 1, 0, none⟩) 3 3) [la, lb, lc]) := by
    have := rows_new (v7.alloc (.cells #[.string ⟨#[]⟩, .string ⟨#[]⟩, .string ⟨#[]⟩, .string ⟨#[]⟩] 32)) 4 32 ([la, lb, lc].map lnV) (by simp [lnV]) #[.string (bs la.p), .string (bs la.t), .string (bs la.s), .string (bs la.d), .string (bs lb.p), .string (bs lb.t), .string (bs lb.s), .string (bs lb.d), .string (bs lc.p), .string (bs lc.t), .string (bs lc.s), .string (bs lc.d)] rfl 3 rfl
    rw [show (v7.alloc (.cells #[.string ⟨#[]⟩, .string ⟨#[]⟩, .string ⟨#[]⟩, .string ⟨#[]⟩] 32)).heap.size = v7.heap.size + 1 by simp] at this
    exact this
  have HB8 := hide (below_alloc HB7.out (Nat.le_refl _) (.cells #[.string (bs la.p), .string (bs la.t), .string (bs la.s), .string (bs la.d), .string (bs lb.p), .string (bs lb.t), .string (bs lb.s), .string (bs lb.d), .string (bs lc.p), .string (bs lc.t), .string (bs lc.s), .string (bs lc.d)] 32))
  generalize (v7.alloc (.cells #[.string ⟨#[]⟩, .string ⟨#[]⟩, .string ⟨#[]⟩, .string ⟨#[]⟩] 32)).alloc (.cells #[.string (bs la.p), .string (bs la.t), .string (bs la.s), .string (bs la.d), .string (bs lb.p), .string (bs lb.t), .string (bs lb.s), .string (bs lb.d), .string (bs lc.p), .string (bs lc.t), .string (bs lc.s), .string (bs lc.d)] 32) = w8 at *
  generalize Value.slice (some ⟨v7.heap.size + 1, 0, none⟩) 3 3 = lv at *
  clear x2_0 x2_1 x2_2 x2_3 x3_0 x3_1 x3_2 x3_3 x4_0 x4_1 x4_2 x4_3 lt2 lt3 lt4 ne2 ne3 ne4 HX2 HX3 HX4 HY2 HY3 HY4 HB7
  obtain ⟨R, HR⟩ : ∃ R, Hid (totalT (leavesP [la, lb, lc]) = R) := ⟨_, rfl⟩
  obtain ⟨le, HLE⟩ : ∃ l, Hid (eraseP [la, lb, lc] annaT = l) := ⟨_, rfl⟩
  have HV2 : Hid (validG le = true) := by show _ = _; rw [← HLE.out]; exact valid_erase HVL.out
  have HR2 : Hid (totalT (leavesP le) = R) := by show _ = _; rw [← HLE.out, leaves_erase]; exact HR.out
  have HA2 : Hid (aboutP le annaT = []) := by show _ = _; rw [← HLE.out]; exact about_none anna_nm _
  have HB2 : Hid (aboutP le bobT = [parT]) := by show _ = _; rw [← HLE.out, about_other bob_nm (by decide)]; exact HBO.out
  have HF2 : Hid (∀ l ∈ le, l.fit ∧ l.d.length ≤ 100000000000) := fun l hl => by
    rw [← HLE.out] at hl
    obtain ⟨x, hx, rfl⟩ := List.mem_map.1 hl
    obtain ⟨h1, h2⟩ := HFI.out x hx
    split
    · exact ⟨⟨Nat.zero_le _, Nat.zero_le _, Nat.zero_le _, h1.d⟩, h2⟩
    · exact ⟨h1, h2⟩
  have HL2 : Hid (le.length ≤ 1000000000) := by show _ ≤ _; rw [← HLE.out, erase_len]; show 3 ≤ _; decide
  have HL3 : Hid ([la, lb, lc].length ≤ 1000000000) := by show 3 ≤ _; decide
  have HRE : Hid (R ≠ []) := by rw [← HR.out]; exact total_ne (leaves_proper _)
  have hre : (bs R).toList.isEmpty = false := by
    rw [bs_toList]
    have := HRE.out
    cases R with
    | nil => exact absurd rfl this
    | cons _ _ => rfl
  have hrs : ((bs R).toList == (bs R).toList) = true := by simp
  have C9 := root_yes (fun l hl => (HFI.out l hl).1) (fun l hl => (HFI.out l hl).2) HL3.out HVL.out lv w8 HL8.out (HG.out.to HB8.out) HR.out
  refine C9.mono ?_
  rintro e w9 ⟨rfl, hb⟩
  have HB9 := hide (below_to HB8.out (Nat.le_refl _) hb)
  have HL9 := hide (HL8.out.to hb)
  clear hb C9 HL8 HB8
  go_wp2_with fail
  have C10 : Calls Tryz.prog 16 #[lv, .string ⟨#[97, 110, 110, 97]⟩] w9 (SomeTx [inT, outT] 0 w9) := about_yes (fun l hl => (HFI.out l hl).1) HL3.out (okA_of _ _ HVL.out anna_nm) (by decide) lv w9 HL9.out (HG.out.to HB9.out) HAB.out
  refine C10.mono ?_
  rintro e w10 ⟨va, rfl, ha, hb⟩
  have HB10 := hide (below_to HB9.out (Nat.le_refl _) hb)
  have HL10 := hide (HL9.out.to hb)
  have HA10 := hide ha
  clear hb C10 HL9 HB9 ha
  go_wp2_with fail
  have C11 : Calls Tryz.prog 13 #[lv, .string ⟨#[97, 110, 110, 97]⟩] w10 (SomeLn le 2 0 w10) := erase_yes (fun l hl => (HFI.out l hl).1) HL3.out (okA_of _ _ HVL.out anna_nm) (by decide) lv w10 HL10.out (HG.out.to HB10.out) HLE.out (by rw [HHI.out]; rfl)
  refine C11.mono ?_
  rintro e w11 ⟨lx, rfl, hx, hb⟩
  have HB11 := hide (below_to HB10.out (Nat.le_refl _) hb)
  have HL11 := hide hx
  have HA11 := hide (HA10.out.to hb)
  clear hb C11 HL10 HB10 HA10 hx
  go_wp2_with fail
  have C12 := root_yes (fun l hl => (HF2.out l hl).1) (fun l hl => (HF2.out l hl).2) HL2.out HV2.out lx w11 HL11.out (HG.out.to HB11.out) HR2.out
  refine C12.mono ?_
  rintro e w12 ⟨rfl, hb⟩
  have HB12 := hide (below_to HB11.out (Nat.le_refl _) hb)
  have HL12 := hide (HL11.out.to hb)
  have HA12 := hide (HA11.out.to hb)
  clear hb C12 HL11 HB11 HA11
  go_wp2_with fail
  have C13 : Calls Tryz.prog 16 #[lx, .string ⟨#[97, 110, 110, 97]⟩] w12 (SomeTx [] 0 w12) := about_yes (fun l hl => (HF2.out l hl).1) HL2.out (okA_of _ _ HV2.out anna_nm) (by decide) lx w12 HL12.out (HG.out.to HB12.out) HA2.out
  refine C13.mono ?_
  rintro e w13 ⟨vn, rfl, hn, hb⟩
  obtain ⟨An, cn, rfl, _⟩ := hn.slice
  have HB13 := hide (below_to HB12.out (Nat.le_refl _) hb)
  have HL13 := hide (HL12.out.to hb)
  have HA13 := hide (HA12.out.to hb)
  clear hb C13 HL12 HB12 HA12 hn
  go_wp2_with fail
  have C14 : Calls Tryz.prog 16 #[lx, .string ⟨#[98, 111, 98]⟩] w13 (SomeTx [parT] 0 w13) := about_yes (fun l hl => (HF2.out l hl).1) HL2.out (okA_of _ _ HV2.out bob_nm) (by decide) lx w13 HL13.out (HG.out.to HB13.out) HB2.out
  refine C14.mono ?_
  rintro e w14 ⟨vr, rfl, hr, hb⟩
  have HB14 := hide (below_to HB13.out (Nat.le_refl _) hb)
  have HA14 := hide (HA13.out.to hb)
  have HR14 := hide hr
  clear hb C14 HL13 HB13 HA13 hr
  go_wp2_with fail
  have C15 : Calls Tryz.prog 17 #[va, .slice (some ⟨w14.heap.size, 0, none⟩) 2 2] (w14.alloc (.cells #[.string ⟨#[109, 111, 118, 101, 100, 32, 105, 110]⟩, .string ⟨#[109, 111, 118, 101, 100, 32, 111, 117, 116]⟩] 9)) fun e w' => e = .returned (.bool true) ∧ Below (w14.alloc (.cells #[.string ⟨#[109, 111, 118, 101, 100, 32, 105, 110]⟩, .string ⟨#[109, 111, 118, 101, 100, 32, 111, 117, 116]⟩] 9)).heap.size (w14.alloc (.cells #[.string ⟨#[109, 111, 118, 101, 100, 32, 105, 110]⟩, .string ⟨#[109, 111, 118, 101, 100, 32, 111, 117, 116]⟩] 9)) w' :=
    Texts_any [inT, outT] [inT, outT] (by decide) (by decide) va _ _ (RowsAt.to HA14.out (below_one _ _)) (rows_new w14 1 9 ([inT, outT].map strV) (by simp [strV]) _ rfl 2 rfl)
  have HB15 := hide (below_alloc HB14.out (Nat.le_refl _) (.cells #[.string ⟨#[109, 111, 118, 101, 100, 32, 105, 110]⟩, .string ⟨#[109, 111, 118, 101, 100, 32, 111, 117, 116]⟩] 9))
  have HR15 := hide (HR14.out.to (below_one w14 (.cells #[.string ⟨#[109, 111, 118, 101, 100, 32, 105, 110]⟩, .string ⟨#[109, 111, 118, 101, 100, 32, 111, 117, 116]⟩] 9)))
  refine C15.mono ?_
  rintro e w16 ⟨rfl, hb⟩
  have HB16 := hide (below_to HB15.out (Nat.le_refl _) hb)
  have HR16 := hide (HR15.out.to hb)
  clear hb C15 HB15 HR15 HB14 HR14 HA14
  go_wp2_with fail
  have C17 : Calls Tryz.prog 17 #[vr, .slice (some ⟨w16.heap.size, 0, none⟩) 1 1] (w16.alloc (.cells #[.string ⟨#[112, 97, 114, 99, 101, 108]⟩] 9)) fun e w' => e = .returned (.bool true) ∧ Below (w16.alloc (.cells #[.string ⟨#[112, 97, 114, 99, 101, 108]⟩] 9)).heap.size (w16.alloc (.cells #[.string ⟨#[112, 97, 114, 99, 101, 108]⟩] 9)) w' :=
    Texts_any [parT] [parT] (by decide) (by decide) vr _ _ (RowsAt.to HR16.out (below_one _ _)) (rows_new w16 1 9 ([parT].map strV) (by simp [strV]) _ rfl 1 rfl)
  have HB17 := hide (below_alloc HB16.out (Nat.le_refl _) (.cells #[.string ⟨#[112, 97, 114, 99, 101, 108]⟩] 9))
  refine C17.mono ?_
  rintro e w18 ⟨rfl, hb⟩
  have HB18 := hide (below_to HB17.out (Nat.le_refl _) hb)
  clear hb C17 HB17 HB16 HR16
  go_wp2_with fail
  go_ret
  exact ⟨rfl, HB18.out⟩
end Go.Proofs.YtdiebacfbhjbdaaGreatDoor
