/- Walks of the statements: PrivacyNoTrace. -/
import Derived.Test.YtdiebacfbhjbdaaGreatDoorO4
set_option linter.unusedVariables false
set_option linter.unusedSimpArgs false
namespace Go.Proofs.YtdiebacfbhjbdaaGreatDoor
open Go.RowKit

theorem LnsAt.none_nil {w : World} {n c : Nat} {log : List Ln} (h : LnsAt w (.slice none n c) log) : log = [] := by
  cases log with
  | nil => rfl
  | cons x r =>
    obtain ⟨a, h1, _⟩ := h.at_ (k := 0) (l := x) rfl
    cases h1
theorem lns_flat {w : World} {a : Addr} {n c : Nat} {log : List Ln} (h : LnsAt w (.slice (some a) n c) log) : ∀ (j : Nat) u, ((log.map lnV).flatten)[j]? = some u → w.cell? (a.add j) = some u := by
  obtain ⟨A, c', h1, _, h3, h4⟩ := h
  injection h1 with e1
  intro j u hu
  have hl := flat_len (log.map lnV) h3
  have hj : j < (log.map lnV).flatten.length := (List.getElem?_eq_some_iff.1 hu).1
  have hk : j / 4 < (log.map lnV).length := by omega
  have hx : (log.map lnV)[j / 4]? = some (log.map lnV)[j / 4] := List.getElem?_eq_getElem hk
  obtain ⟨a', e, _, hc⟩ := h4 (j / 4) _ hx
  rw [← e1] at e
  obtain rfl := Option.some.inj e
  have hxl := h3 _ (List.getElem_mem hk)
  have hv : ((log.map lnV)[j / 4])[j % 4]? = some (((log.map lnV)[j / 4])[j % 4]'(by omega)) := List.getElem?_eq_getElem _
  have h5 := flat_at (log.map lnV) h3 (j / 4) _ (j % 4) _ hx hv
  rw [show j / 4 * 4 + j % 4 = j by omega, hu] at h5
  have h6 := hc (j % 4) _ hv
  rw [add_of_add, show j / 4 * 4 + j % 4 = j by omega] at h6
  rw [h6, h5]
/-- a row of lines of the call's own -/
def OwnL (w : World) (B : Nat) (v : Value) (M : List Ln) : Prop := w.ownsRow B 32 4 v M.length (M.map lnV).flatten
theorem LnsAt.of_own {w : World} {B : Nat} {v : Value} {M : List Ln} (h : OwnL w B v M) : LnsAt w v M := RowsAt.of_own (by simp [lnV]) (by rw [List.length_map]; exact h)
theorem own_blk {w : World} {B : Nat} {A : Option Addr} {n c : Nat} {xs : List Value} {e : TypeId} {s : Nat} (h : w.ownsRow B e s (.slice A n c) n xs) (hn : 0 < n) : ∃ g, A = some ⟨g, 0, none⟩ ∧ B ≤ g ∧ ∀ i, w.frozen? ⟨g, i, none⟩ = false := by
  obtain ⟨_, h⟩ := h
  rcases h with ⟨_, h0⟩ | ⟨g, cap, cur, hv, hB, hg, _⟩
  · omega
  · injection hv with h1 h2 h3
    exact ⟨g, h1, hB, fun i => Blk.frozen (cs := cur) hg i⟩
theorem flat_set (m : Ln) : ∀ (M : List Ln) (k : Nat), k < M.length → ((M.set k m).map lnV).flatten = (((((M.map lnV).flatten.set (k * 4) (.string (bs m.p))).set (k * 4 + 1) (.string (bs m.t))).set (k * 4 + 2) (.string (bs m.s))).set (k * 4 + 3) (.string (bs m.d)))
  | [], k, h => by simp at h
  | y :: M, 0, _ => by simp [lnV]
  | y :: M, k + 1, h => by
    have ih := flat_set m M k (by simpa using h)
    have e : ∀ j, (k + 1) * 4 + j = k * 4 + j + 4 := fun j => by omega
    rw [List.set_cons_succ, List.map_cons, List.flatten_cons, ih, List.map_cons, List.flatten_cons]
    rw [show (k + 1) * 4 = k * 4 + 4 by omega, show k * 4 + 4 + 1 = k * 4 + 1 + 4 by omega, show k * 4 + 4 + 2 = k * 4 + 2 + 4 by omega, show k * 4 + 4 + 3 = k * 4 + 3 + 4 by omega]
    simp [lnV]
theorem own_set1 {w : World} {B g n c : Nat} {xs : List Value} {e : TypeId} (h : w.ownsRow B e 4 (.slice (some ⟨g, 0, none⟩) n c) n xs) (j : Nat) (u : Value) : (w.setCell ⟨g, j, none⟩ u).ownsRow B e 4 (.slice (some ⟨g, 0, none⟩) n c) n (xs.set j u) := by
  obtain ⟨h1, h⟩ := h
  refine ⟨by rw [List.length_set]; exact h1, ?_⟩
  rcases h with ⟨h0, _⟩ | ⟨g', cap, cur, hv, hB, hg, h2, h3, h4, h5⟩
  · cases h0
  · injection hv with e1 e2 e3
    injection e1 with e1
    injection e1 with e1
    subst e1
    refine .inr ⟨g, cap, cur.setIfInBounds j u, by rw [e3], hB, Blk.set_ (cs := cur) hg j u, h2, h3, by rw [Array.size_setIfInBounds]; exact h4, ?_⟩
    rw [Array.toList_setIfInBounds, List.take_set, h5]
theorem own_set4 {w : World} {B g n c : Nat} {M : List Ln} (h : OwnL w B (.slice (some ⟨g, 0, none⟩) n c) M) {x : Ln} {k : Nat} (hk : k < M.length) : OwnL ((((w.setCell ⟨g, k * 4, none⟩ (.string (bs x.p))).setCell ⟨g, k * 4 + 1, none⟩ (.string (bs x.t))).setCell ⟨g, k * 4 + 2, none⟩ (.string (bs x.s))).setCell ⟨g, k * 4 + 3, none⟩ (.string (bs x.d))) B (.slice (some ⟨g, 0, none⟩) n c) (M.set k x) := by
  have hn : n = M.length := by
    obtain ⟨_, h⟩ := h
    rcases h with ⟨h0, _⟩ | ⟨g', cap, cur, hv, _⟩
    · cases h0
    · injection hv
  subst hn
  unfold OwnL at h ⊢
  rw [List.length_set, flat_set x M k hk]
  exact own_set1 (own_set1 (own_set1 (own_set1 h _ _) _ _) _ _) _ _
theorem g_add (g i : Nat) : (⟨g, 0, none⟩ : Addr).add i = ⟨g, i, none⟩ := by unfold Addr.add; split <;> simp_all
/-- some of the first k lines about p are erased ones -/
structure MRel (p : List UInt8) (log M : List Ln) (k : Nat) : Prop where
  len : M.length = log.length
  each : ∀ (i : Nat) (l m : Ln), log[i]? = some l → M[i]? = some m → m = l ∨ (l.p = p ∧ m = er l)
  rest : ∀ i, k ≤ i → M[i]? = log[i]?
theorem MRel.start (p : List UInt8) (log : List Ln) : MRel p log log 0 := ⟨rfl, fun i l m h1 h2 => .inl (Option.some.inj (h2.symm.trans h1)), fun _ _ => rfl⟩
theorem MRel.ahead {p : List UInt8} {log M : List Ln} {k : Nat} (h : MRel p log M k) {x : Ln} (hx : log[k]? = some x) : M[k]? = some x := (h.rest k (Nat.le_refl _)).trans hx
theorem MRel.stay {p : List UInt8} {log M : List Ln} {k : Nat} (h : MRel p log M k) {x : Ln} (hx : log[k]? = some x) : MRel p log M (k + 1) := ⟨h.len, h.each, fun i hi => h.rest i (by omega)⟩
theorem MRel.turn {p : List UInt8} {log M : List Ln} {k : Nat} (h : MRel p log M k) {x : Ln} (hx : log[k]? = some x) (hp : x.p = p) : MRel p log (M.set k (er x)) (k + 1) := by
  refine ⟨by rw [List.length_set]; exact h.len, fun i l m h1 h2 => ?_, fun i hi => ?_⟩
  · by_cases hik : k = i
    · subst hik
      have hlt : k < M.length := by rw [h.len]; exact (List.getElem?_eq_some_iff.1 hx).1
      rw [List.getElem?_set_self hlt] at h2
      obtain rfl := Option.some.inj (h1.symm.trans hx)
      exact .inr ⟨hp, (Option.some.inj h2).symm⟩
    · rw [List.getElem?_set_ne hik] at h2
      exact h.each i l m h1 h2
  · rw [List.getElem?_set_ne (by omega)]
    exact h.rest i (by omega)
set_option maxRecDepth 100000 in
set_option maxHeartbeats 1000000 in
theorem notrace_law (log : List Ln) (hl0 : log.length ≤ 8796093022208) (p : List UInt8) (wh : Nat) (hwh : wh ≤ 4294967295) (v : Value) (hv0 : v = .slice none 0 0 ∨ ∃ a n c, v = .slice (some a) n c) (w : World) (hv : LnsAt w v log) (hg : Glob w) :
    Calls Tryz.prog 6 #[v, .string (bs p), .int .u32 (wh : Int)] w fun e w' => e = .returned (.bool true) ∧ Below w.heap.size w w' := by
  have HB0 := hide (Below.refl w.heap.size w)
  have HS0 := hide hv
  have HG := hide hg
  clear hv hg
  go_enter Tryz.func6, Tryz.ntmps6
  go_wp2_with fail
  have C1 := head_any w HG.out
  refine C1.mono ?_
  rintro e w1 ⟨rfl, hb⟩
  have HB1 := hide (below_to HB0.out (Nat.le_refl _) hb)
  have HS1 := hide (HS0.out.to hb)
  clear hb C1 HB0 HS0
  go_wp2_with fail
  have HB2 := hide (below_alloc HB1.out (Nat.le_refl _) (.cells #[.string (bs p)] 9))
  have HS2 := hide (HS1.out.to (below_one w1 (.cells #[.string (bs p)] 9)))
  clear HB1 HS1
  cases hfew : shT [p] && fewG log with
  | false =>
    have CF : Calls Tryz.prog 12 #[v, .slice (some ⟨w1.heap.size, 0, none⟩) 1 1] (w1.alloc (.cells #[.string (bs p)] 9)) fun e w' => e = .returned (.bool (shT [p] && fewG log)) ∧ Below (w1.alloc (.cells #[.string (bs p)] 9)).heap.size (w1.alloc (.cells #[.string (bs p)] 9)) w' := few_any log (Nat.le_trans hl0 (by decide)) [p] (by simp) v _ _ HS2.out (rows_new w1 1 9 ([p].map strV) (by simp [strV]) _ rfl 1 rfl)
    rw [hfew] at CF
    clear hfew hl0
    have C3 := CF
    refine C3.mono ?_
    rintro e w3 ⟨rfl, hb⟩
    have HB3 := hide (below_to HB2.out (Nat.le_refl _) hb)
    have HS3 := hide (HS2.out.to hb)
    clear hb C3 HB2 HS2
    go_wp2_with fail
    go_ret
    exact ⟨rfl, HB3.out⟩
  | true =>
    have CF : Calls Tryz.prog 12 #[v, .slice (some ⟨w1.heap.size, 0, none⟩) 1 1] (w1.alloc (.cells #[.string (bs p)] 9)) fun e w' => e = .returned (.bool (shT [p] && fewG log)) ∧ Below (w1.alloc (.cells #[.string (bs p)] 9)).heap.size (w1.alloc (.cells #[.string (bs p)] 9)) w' := few_any log (Nat.le_trans hl0 (by decide)) [p] (by simp) v _ _ HS2.out (rows_new w1 1 9 ([p].map strV) (by simp [strV]) _ rfl 1 rfl)
    rw [hfew] at CF
    simp only [Bool.and_eq_true] at hfew
    obtain ⟨hl, hf0, hd0⟩ := few_facts hfew.2
    have lp := sh_facts hfew.1 p (by simp)
    have HF := hide hf0
    have HD := hide hd0
    clear hfew hl0 hf0 hd0
    have C3 := CF
    refine C3.mono ?_
    rintro e w3 ⟨rfl, hb⟩
    have HB3 := hide (below_to HB2.out (Nat.le_refl _) hb)
    have HS3 := hide (HS2.out.to hb)
    clear hb C3 HB2 HS2
    obtain ⟨i0, hi0, hz0, hz1, hz2⟩ := info_parts (show (Tryz.prog.info? 32).map (fun i => (i.zero, i.size, i.bytes)) = some (some (.agg #[.string ⟨#[]⟩, .string ⟨#[]⟩, .string ⟨#[]⟩, .string ⟨#[]⟩]), 4, 64) by kernel_rfl)
    have o0 : Hid (World.ownsRow (w3.alloc (.cells #[] 32)) w3.heap.size 32 4 (.slice (some ⟨w3.heap.size, 0, none⟩) 0 0) 0 []) := ⟨rfl, .inr ⟨w3.heap.size, 0, #[], rfl, Nat.le_refl _, heap_alloc_new w3 _, Nat.le_refl _, by omega, rfl, rfl⟩⟩
    have HE := hide (below_one w3 (.cells #[] 32))
    rcases hv0 with rfl | ⟨a, n, c, rfl⟩
    focus
      have HLN : Hid (log = []) := HS3.out.none_nil
      have HO : Hid (OwnL (w3.alloc (.cells #[] 32)) w3.heap.size (.slice (some ⟨w3.heap.size, 0, none⟩) 0 0) log) := by
        rw [HLN.out]
        exact o0.out
      go_wp2_with (at_builtin; refine wpList_append_own_none rfl (.tmp 23) (.tmp 24) _ rfl w3.heap.size 32 i0 4 Tryz.underlying22 hi0 _ 0 [] rfl o0.out rfl ?_)
      have HB := hide HE.out
      generalize Value.slice (some ⟨w3.heap.size, 0, none⟩) 0 0 = v' at *
      generalize w3.alloc (.cells #[] 32) = w6 at *
    rotate_left
    focus
      obtain rfl : n = log.length := by
        obtain ⟨A', c', h⟩ := HS3.out.slice
        injection h
      have hcell := hide (lns_flat (HS3.out.to HE.out))
      have hflen : ((log.map lnV).flatten).length = log.length * 4 := by rw [flat_len (size := 4) _ (by simp [lnV]), List.length_map]
      have HFL := hide hflen
      clear hflen
      go_wp2_with (at_builtin; refine wpList_append_own _ rfl (.tmp 23) (.tmp 24) _ rfl w3.heap.size 32 i0 (.agg #[.string ⟨#[]⟩, .string ⟨#[]⟩, .string ⟨#[]⟩, .string ⟨#[]⟩]) 4 64 Tryz.underlying22 hi0 hz0 hz1 hz2 rfl (by omega) _ 0 [] rfl o0.out a log.length c (log.map lnV).flatten rfl HFL.out hcell.out ?c2 ?c4 ?c5 ?c3 ?_)
      case c2 =>
        intro u hu
        obtain ⟨x, hx, hu⟩ := List.mem_flatten.1 hu
        obtain ⟨l, _, rfl⟩ := List.mem_map.1 hx
        simp only [lnV, List.mem_cons, List.not_mem_nil, or_false] at hu
        rcases hu with rfl | rfl | rfl | rfl <;> rfl
      case c4 => simp only [maxLen]; omega
      case c5 => omega
      case c3 => exact HE.out.size
      intro v' w6 hown6 hgr6 _
      have HB : Hid (Below w3.heap.size w3 w6) := HE.out.grown hgr6 HE.out.size (fun b hb => (o0.out.lt b hb).1)
      have HO : Hid (OwnL w6 w3.heap.size v' log) := by
        show World.ownsRow _ _ _ _ _ _ _
        exact hown6
      clear hown6 hgr6
    all_goals
      clear HE o0 hi0 hz0 hz1 hz2
      obtain ⟨A1, c1, rfl⟩ := own_slice HO.out
      go_wp2_with fail
      go_loopw [9] (fun i wr => ∃ (k : Nat) (M : List Ln), i = .int .i64 (k : Int) ∧ k ≤ log.length ∧ Aside (MRel p log M k) ∧ Aside (Below w3.heap.size w3 wr) ∧ Aside (OwnL wr w3.heap.size (.slice A1 log.length c1) M)) (fun i _ => log.length - (intOf i).toNat)
      case atStart => exact ⟨0, log, rfl, by omega, MRel.start p log, HB.out, HO.out⟩
      case round =>
        obtain ⟨k, M, rfl, hk, hM, hB, hO⟩ := hrel
        have HM : Hid (MRel p log M k) := hM
        have HBr : Hid (Below w3.heap.size w3 wr) := hB
        have HOr : Hid (OwnL wr w3.heap.size (.slice A1 log.length c1) M) := hO
        clear hM hB hO
        have HML := hide HM.out.len
        by_cases hlt : k < log.length
        · have e1 : decide ((k : Int) < (log.length : Int)) = true := decide_eq_true (by omega)
          obtain ⟨x, hx⟩ : ∃ x, log[k]? = some x := ⟨_, List.getElem?_eq_getElem hlt⟩
          have hy : M[k]? = some x := HM.out.ahead hx
          have hOo := HOr.out
          unfold OwnL at hOo
          rw [HML.out] at hOo
          obtain ⟨g, rfl, hgB, hfz⟩ := own_blk hOo (by omega)
          obtain ⟨b, hbe, hb, d0, d1, d2, d3⟩ := (LnsAt.of_own HOr.out).at_ hy
          injection hbe with hbe
          subst hbe
          rw [g_add] at d0 d1 d2 d3
          have HNX := hide (HM.out.stay hx)
          by_cases hp : x.p = p
          · have e2 : ((bs x.p).toList == (bs p).toList) = true := by rw [hp]; simp
            have HNY := hide (HM.out.turn hx hp)
            have HOS := hide (own_set4 HOr.out (x := er x) (by rw [HML.out]; exact hlt))
            clear hx hy hp hOo hb
            go_wp2_with fail
            all_goals first
              | (refine ⟨⟨k + 1, M.set k (er x), by go_num, by omega, HNY.out, (((HBr.out.setCell (p := ⟨g, k * 4, none⟩) hgB _).setCell (p := ⟨g, k * 4 + 1, none⟩) hgB _).setCell (p := ⟨g, k * 4 + 2, none⟩) hgB _).setCell (p := ⟨g, k * 4 + 3, none⟩) hgB _, HOS.out⟩, ?_⟩; simp [intOf]; omega)
              | (refine ⟨⟨k + 1, M, by go_num, by omega, HNX.out, HBr.out, HOr.out⟩, ?_⟩; simp [intOf]; omega)
          · have e2 : ((bs x.p).toList == (bs p).toList) = false := by rw [beq_eq_false_iff_ne, bs_toList, bs_toList]; exact hp
            clear hx hy hp hOo hb
            go_wp2_with fail
            refine ⟨⟨k + 1, M, by go_num, by omega, HNX.out, HBr.out, HOr.out⟩, ?_⟩
            simp [intOf]; omega
        · obtain rfl : k = log.length := by omega
          have e1 : decide ((log.length : Int) < (log.length : Int)) = false := by simp
          have hMl : M.length ≤ 30 := by rw [HML.out]; exact hl
          have HFM : Hid (∀ l ∈ M, l.fit) := fun m hm => by
            obtain ⟨i, hi, rfl⟩ := List.getElem_of_mem hm
            have e2 := List.getElem?_eq_getElem hi
            have hi' : i < log.length := by have := HML.out; omega
            have e3 := List.getElem?_eq_getElem hi'
            have hf := HF.out _ (List.getElem_mem hi')
            rcases HM.out.each i _ _ e3 e2 with h | ⟨_, h⟩
            · rw [h]; exact hf
            · rw [h]; exact ⟨Nat.zero_le _, Nat.zero_le _, Nat.zero_le _, hf.d⟩
          have HLM := hide (LnsAt.of_own HOr.out)
          have HB4 := hide (below_to HB3.out (Nat.le_refl _) HBr.out)
          have HS4 := hide (HS3.out.to HBr.out)
          clear HB3 HBr HB HO HS3 HOr
          have CE := Erase_any log HF.out (by omega) p lp _ wr HS4.out (HG.out.to HB4.out)
          unfold EraseR at CE
          go_wp2_with fail
          refine CE.mono ?_
          rintro e w7 ⟨v7, rfl, h7, hb⟩
          have HB7 := hide (below_to HB4.out (Nat.le_refl _) hb)
          have HE7 := hide h7
          have HM7 := hide (HLM.out.to hb)
          clear hb h7 CE
          have CE := Erase_any M HFM.out (by omega) p lp _ w7 HM7.out (HG.out.to HB7.out)
          unfold EraseR at CE
          go_wp2_with fail
          refine CE.mono ?_
          rintro e w8 ⟨v8, rfl, h8, hb⟩
          have HB8 := hide (below_to HB7.out (Nat.le_refl _) hb)
          have HE8 := hide (HE7.out.to hb)
          have HM8 := hide h8
          clear hb h8 CE
          cases hok : okA log p with
          | false =>
            clear hok
            go_wp2_with fail
            go_ret
            exact ⟨rfl, HB8.out⟩
          | true =>
            have HK := hide hok
            have HK2 : Hid (okA M p = true) := by
              have := HK.out
              unfold okA at this
              simp only [Bool.and_eq_true] at this
              show _ = _
              unfold okA
              rw [valid_some log M HML.out this.1 (fun i l m h1 h2 => HM.out.each i l m h1 h2), this.2]
              rfl
            have HEQ : Hid (eraseV M p = eraseV log p) := by
              have := HK.out
              unfold okA at this
              simp only [Bool.and_eq_true] at this
              show _ = _
              unfold eraseV
              rw [HK.out, HK2.out, if_pos rfl, if_pos rfl]
              exact erase_some this.2 log M HML.out (fun i l m h1 h2 => HM.out.each i l m h1 h2)
            have HLE : Hid ((eraseV log p).length ≤ 1000000000) := by
              show _ ≤ _
              unfold eraseV
              rw [HK.out, if_pos rfl, erase_len]
              omega
            have HM9 := hide HM8.out
            rw [HEQ.out] at HM9
            have CS := Same_any (eraseV log p) (eraseV log p) HLE.out HLE.out v7 v8 w8 HE8.out HM9.out
            rw [decide_eq_true rfl] at CS
            rw [HK2.out]
            clear hok
            go_wp2_with fail
            refine CS.mono ?_
            rintro e w9 ⟨rfl, hb⟩
            have HB9 := hide (below_to HB8.out (Nat.le_refl _) hb)
            clear hb CS
            go_wp2_with fail
            go_ret
            exact ⟨rfl, HB9.out⟩
end Go.Proofs.YtdiebacfbhjbdaaGreatDoor
