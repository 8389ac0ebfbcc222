/- Several texts as one, in build order. -/
import Derived.Test.YtnjlefggkfagmaaGreatDoorME
import Derived.Test.YtnjlefggkfagmaaGreatDoorMC
import Derived.BigQuiet
import Derived.Test.YtnjlefggkfagmaaGreatDoorMD
import Derived.Test.YtnjlefggkfagmaaGreatDoorMB
/- Walks of the reference of layer 2: the texts that are digested for a root. -/
set_option linter.unusedVariables false
set_option linter.unusedSimpArgs false
namespace Go.Proofs.YtnjlefggkfagmaaGreatDoor
open Go.RowKit Go.Shelf
attribute [local go_sem] Oper.semAt_some

theorem own_less {w : World} {B B' : Nat} {e : TypeId} {s n : Nat} {v : Value} {xs : List Value} (h : w.ownsRow B e s v n xs) (hB : B' ≤ B) : w.ownsRow B' e s v n xs := by
  obtain ⟨h0, h⟩ := h
  refine ⟨h0, h.imp id ?_⟩
  rintro ⟨g, cap, cur, h1, h2, h3⟩
  exact ⟨g, cap, cur, h1, Nat.le_trans hB h2, h3⟩
theorem wp_append_texts {o : Oper} {a : Act} {w : World} {K : Act → World → Prop} {Q : Exit → Act → World → Prop} (s x : Operand) (hop : o.op = Op.call { callee := Callee.builtin Builtin.append, args := #[s, x], argTypes := #[22, 22] })
    (B : Nat) (v : Value) (L : List (List UInt8)) (hs : a.eval s = v) (hown : OwnT w B v L) (xv : Value) (q : List (List UInt8)) (hx : a.eval x = xv) (hq : TextsAt w xv q) (hn : L.length + q.length ≤ 1000000000) (hB : B ≤ w.heap.size)
    (h : ∀ v' w', OwnT w' B v' (L ++ q) → w.grownBy w' v.ownBlock → v' ≠ undef → K (a.put o.dst v') w') : o.wp Tryz.prog a w K Q := by
  obtain ⟨i0, hi0, hz0, hz1, hz2⟩ := info_parts (show (Tryz.prog.info? 9).map (fun i => (i.zero, i.size, i.bytes)) = some (some (.string ⟨#[]⟩), 1, 16) by kernel_rfl)
  obtain ⟨A, c, rfl, hc⟩ := hq.slice
  cases q with
  | nil =>
    obtain ⟨Av, cv, rfl⟩ := own_sl4 hown
    have hle : L.length ≤ cv := by
      rcases hown.2 with ⟨h1, h2⟩ | ⟨g, cap, cur, h1, h3, h4, h5, _⟩
      · injection h1 with _ e2 e3; omega
      · injection h1 with _ _ e3; omega
    have hsrc : Src Tryz.prog i0.size 22 (.slice A ([] : List (List UInt8)).length c) 0 [] w := by
      cases A with
      | none => exact Src.ofNil w Tryz.underlying22 c
      | some ad => exact Src.ofSlice w Tryz.underlying22 ad 0 c [] (by simp) (fun j u h => by simp at h) (fun u h => by cases h)
    have hrun := run_append_nothing (P := Tryz.prog) w 22 22 o.type 9 i0 Tryz.underlying22 hi0 Av L.length cv hle _ hsrc
    unfold Oper.wp
    simp only [List.length_nil] at hrun hx
    simp [execOp, hop, resolve, invoke, builtin, hs, hx, hrun, Result.andThen]
    refine h _ w ?_ (World.grownBy.refl _ _) (by intro e; cases e)
    rw [List.append_nil]; exact hown
  | cons y q =>
    obtain ⟨ad, rfl, _, _⟩ := hq.at_ (k := 0) (x := y) rfl
    refine wp_append_keep w s x 22 hop B 9 i0 _ 1 16 Tryz.underlying22 hi0 hz0 hz1 hz2 rfl (by decide) v L.length _ hs hown ad (y :: q).length c ((y :: q).map fun l => Value.string (bs l)) hx (by simp) (fun j u hj => by
        rw [List.getElem?_map] at hj
        obtain ⟨z, hz, rfl⟩ := Option.map_eq_some_iff.1 hj
        obtain ⟨ad', e, _, hc⟩ := hq.at_ hz
        cases e
        exact hc) (by intro u hu; obtain ⟨z, _, rfl⟩ := List.mem_map.1 hu; rfl) (by unfold maxLen; omega) (by omega) hB ?_
    intro v' w' h2 h3 h4 h5
    refine h v' w' ?_ h3 (fun e => ?_)
    · unfold OwnT
      rw [List.length_append]
      have : flatS (L ++ y :: q) = flatS L ++ (y :: q).map fun l => Value.string (bs l) := by simp [flatS, encStr]
      rw [this]; exact h2
    · obtain ⟨_, _, e2⟩ := own_sl4 h2
      rw [e2] at e; cases e
theorem own_blk_lt {w : World} {B : Nat} {v : Value} {ls : List (List UInt8)} (h : OwnT w B v ls) : ∀ g, v.ownBlock = some g → B ≤ g ∧ g < w.heap.size := World.ownsRow.lt h
theorem own_one {w : World} {B : Nat} (x : List UInt8) (hB : B ≤ w.heap.size) : OwnT (w.alloc (.cells #[.string (bs x)] 9)) B (.slice (some ⟨w.heap.size, 0, none⟩) 1 1) [x] :=
  ⟨rfl, .inr ⟨w.heap.size, 1, #[.string (bs x)], rfl, hB, Blk.new _ _ _, Nat.le_refl _, by decide, rfl, rfl⟩⟩
theorem texts_len : ∀ (f : Nat) (l : List (List UInt8)), l.length ≤ f → 1 ≤ l.length → (textsV l).length + 1 = l.length
  | 0, l, h, h0 => by omega
  | f + 1, l, h, h0 => by
    rcases Nat.lt_or_ge 1 l.length with h1 | h1
    · obtain ⟨a, b⟩ := half_lt (n := l.length) h1
      rw [texts_two h1]
      generalize halfN l.length = k at *
      have t1 := texts_len f (l.take k) (by rw [List.length_take]; omega) (by rw [List.length_take]; omega)
      have t2 := texts_len f (l.drop k) (by rw [List.length_drop]; omega) (by rw [List.length_drop]; omega)
      rw [List.length_take] at t1
      rw [List.length_drop] at t2
      simp only [List.length_append, List.length_cons, List.length_nil]
      omega
    · match l, h1, h0 with
      | [x], _, _ => rw [show textsV [x] = [] from textsF_one rfl]; rfl
theorem texts_le (l : List (List UInt8)) : (textsV l).length ≤ l.length + 1 := by
  rcases Nat.eq_zero_or_pos l.length with h | h
  · rw [List.eq_nil_of_length_eq_zero h]; decide
  · have := texts_len l.length l (Nat.le_refl _) h; omega
def TxOk (f : Nat) : Prop := ∀ (ls : List (List UInt8)) (v : Value) (w : World), TextsAt w v ls → ls.length ≤ f → ls.length ≤ 100000 → (∀ x ∈ ls, x.length ≤ 1000000) → Calls Tryz.prog 37 #[v] w (LvR (textsV ls) w)
theorem TextsAt.to4 {w w' : World} {v : Value} {ls : List (List UInt8)} (h : TextsAt w v ls) (hb : Below w.heap.size w w') : TextsAt w' v ls := h.to hb
theorem put_far {a : Act} {d t : Tmp} {v : Value} (h : d ≠ t) : (a.put (some d) v).tmps[t]? = a.tmps[t]? := by
  show (a.tmps.setIfInBounds d v)[t]? = _
  rw [Array.getElem?_setIfInBounds_ne h]
theorem total_small {ls : List (List UInt8)} (hx : ∀ x ∈ ls, x.length ≤ 1000000) : (totalT ls).length ≤ 1000000000 := total_le (fun x h => Nat.le_trans (hx x h) (by decide))
theorem join_node {a b : List UInt8} (ha : a.length ≤ 1000000000) (hb : b.length ≤ 1000000000) (w : World) (v : Value) (hv : TextsAt w v [nodeT, a, b]) : Calls Tryz.prog 39 #[v] w fun e w' => e = .returned (.string (bs (joinD [nodeT, a, b]))) ∧ Below w.heap.size w w' :=
  rJoined_any [nodeT, a, b] (by simp) (by rw [lenS3]; simp [nodeT]; omega) (join3 (by decide) (by omega) (by omega)) v w hv
theorem rroot_at (ls : List (List UInt8)) (v : Value) (w : World) (hv : TextsAt w v ls) (hn : ls.length ≤ 140737488355328) (hx : ∀ x ∈ ls, x.length ≤ 1000000000) : Calls Tryz.prog 86 #[v] w fun e w' => e = .returned (.string (bs (totalT ls))) ∧ Below w.heap.size w w' := rroot_any ls.length ls v w hv (Nat.le_refl _) hn hx
theorem join_nodeB {a b : List UInt8} (ha : a.length ≤ 1000000000) (hb : b.length ≤ 1000000000) (w : World) (g : Nat) (hv : Blk w g 9 #[.string ⟨#[110, 111, 100, 101]⟩, .string (bs a), .string (bs b)]) : Calls Tryz.prog 39 #[.slice (some ⟨g, 0, none⟩) 3 3] w fun e w' => e = .returned (.string (bs (joinD [nodeT, a, b]))) ∧ Below w.heap.size w w' :=
  join_node ha hb w _ (TextsAt.of_blk (ls := [nodeT, a, b]) (show Blk w g 9 (strC [nodeT, a, b]) from hv) rfl)
set_option maxRecDepth 100000 in
set_option maxHeartbeats 1000000 in
theorem texts_nil (v : Value) (w : World) (hv : TextsAt w v []) : Calls Tryz.prog 37 #[v] w (LvR (textsV []) w) := by
  obtain ⟨A, c, rfl, hc⟩ := hv.slice
  have HE : ∀ (w' : World) (v' : Value), TextsAt w' v' [emptyT] → Calls Tryz.prog 39 #[v'] w' fun e w'' => e = .returned (.string (bs (joinD [emptyT]))) ∧ Below w'.heap.size w' w'' := fun w' v' h => rJoined_any [emptyT] (by simp) (by decide) (by decide +kernel) v' w' h
  have HV : Hid (textsV [] = [joinD [emptyT]]) := rfl
  have hr := HE (w.alloc (.cells #[.string (bs emptyT)] 9)) (.slice (some ⟨w.heap.size, 0, none⟩) 1 1) (TextsAt.of_blk (ls := [emptyT]) (Blk.new _ _ _) rfl)
  clear HE hv
  generalize joinD [emptyT] = X at *
  go_enter Tryz.func37, Tryz.ntmps37
  go_wp2_with fail
  refine hr.mono ?_
  rintro e w2 ⟨rfl, hb⟩
  have HB := hide (below_to (below_one w _) (Nat.le_refl _) hb)
  clear hb hr
  go_wp2_with fail
  go_ret
  refine ⟨_, rfl, ?_, below_to HB.out (Nat.le_refl _) (below_one _ _)⟩
  rw [HV.out]
  exact own_one X (by have := HB.out.size; omega)
set_option maxRecDepth 100000 in
set_option maxHeartbeats 4000000 in
theorem texts_step (f : Nat) (ih : TxOk f) : TxOk (f + 1) := by
  intro ls v w hv hf hn hx
  obtain ⟨A, c, rfl, hc⟩ := hv.slice
  by_cases hl0 : ls.length = 0
  · obtain rfl : ls = [] := List.eq_nil_of_length_eq_zero hl0
    exact texts_nil _ w hv
  by_cases hl1 : ls.length = 1
  · obtain ⟨x, rfl⟩ : ∃ x, ls = [x] := by
      match ls, hl1 with
      | [x], _ => exact ⟨x, rfl⟩
    have HV : Hid (textsV [x] = []) := textsF_one rfl
    clear hv hx ih
    go_enter Tryz.func37, Tryz.ntmps37
    go_wp2_with fail
    go_ret
    refine ⟨_, rfl, ?_, Below.refl _ _⟩
    rw [HV.out]
    exact World.ownsRow_nil _ _ _ _
  · have hh := half_lt (n := ls.length) (by omega)
    have HV := hide (texts_two (l := ls) (by omega))
    have CH := fun w => rHalf_any ls.length (by omega) w
    obtain ⟨x0, hx0⟩ : ∃ x, ls[0]? = some x := ⟨_, List.getElem?_eq_getElem (by omega)⟩
    obtain ⟨a, rfl, ha, _⟩ := hv.at_ hx0
    clear hx0
    have e0 : ((ls.length : Int) == 0) = false := by rw [beq_eq_false_iff_ne]; omega
    have e1 : ((ls.length : Int) == 1) = false := by rw [beq_eq_false_iff_ne]; omega
    generalize hk : halfN ls.length = k at *
    have HS := hide hv
    have HX := hide hx
    have HJ := hide (join_nodeB (a := totalT (ls.take k)) (b := totalT (ls.drop k)) (total_small (fun x h => hx x (List.mem_of_mem_take h))) (total_small (fun x h => hx x (List.mem_of_mem_drop h))))
    have k1 : (k : Int) ≤ (c : Int) := by omega
    have k0 : (0 : Int) ≤ (k : Int) := by omega
    have k2 : (k : Int) ≤ (ls.length : Int) := by omega
    have k3 : ((k : Int) == (c : Int)) = false := by rw [beq_eq_false_iff_ne]; omega
    have k4 : k ≠ c := by omega
    have k5 : ¬ c = k := by omega
    clear hx hv
    go_enter Tryz.func37, Tryz.ntmps37
    go_wp2_with ((with_reducible refine (CH _).mono ?_); rintro e w' ⟨rfl, rfl⟩)
    rename World => w1
    apply wp_region_lo3 (C := fun W => Below w1.heap.size w1 W) (V := [some _, some _, some _, some _, some _, some _, some _, some _, none, some _, some _]) (Fs := [(8, fun a W => ∃ b, a.tmps[25]? = some (.slice (some ⟨b, 0, none⟩) 3 3) ∧ Blk W b 9 #[.string ⟨#[110, 111, 100, 101]⟩, .string (bs (totalT (ls.take k))), .string (bs (totalT (ls.drop k)))])]) (Ns := []) (Rel := fun i b b' x x' => Below x.heap.size x x')
    case hm => kernel_rfl
    case hB => kernel_rfl
    case hCw => exact (Below.refl _ w1).drew
    case hC =>
      intro i a a' w_ w' hw hr
      have hr' : Below w_.heap.size w_ w' := hr
      exact below_to hw (Nat.le_refl _) hr'
    case hst =>
      refine keeps3_cons (fun i a a' w_ w' hne hwt hs hput hr h => by
        have hr' : Below w_.heap.size w_ w' := hr
        obtain ⟨b, h1, h2⟩ := h
        exact ⟨b, (hs 25 (by kernel_rfl)).trans h1, h2.to hr'⟩) ?_
      exact keeps3_nil
    case hN0 => exact pre0_nil
    case hNst =>
      exact prek_nil3
    case hop =>
      refine ⟨?_, ?_, ?_, ?_, ?_, ?_, ?_, ?_, ?_, ?_, ?_, trivial⟩
      · intro a w_ K hw hS hd hN hK
        have s0 := hS.at 0 (by kernel_rfl) rfl
        rw [if_pos (want_free rfl)]
        go_simp
        exact hK _ _ (Below.refl _ _) (vok rfl) (facts_cons (fun h => absurd h (by decide)) facts_nil)
      · intro a w_ K hw hS hd hN hK
        have s4 := hS.at 4 (by kernel_rfl) rfl
        rw [if_pos (want_free rfl)]
        go_simp
        exact hK _ _ (Below.refl _ _) (vok rfl) (facts_cons (fun h => absurd h (by decide)) facts_nil)
      · intro a w_ K hw hS hd hN hK
        have s17 := (waits_on hd 0 (by kernel_rfl)).at (d := 17) rfl rfl rfl
        have s18 := (waits_on hd 1 (by kernel_rfl)).at (d := 18) rfl rfl rfl
        rw [if_pos (want_free rfl)]
        go_simp
        exact hK _ _ (Below.refl _ _) (vok rfl) (facts_cons (fun h => absurd h (by decide)) facts_nil)
      · intro a w_ K hw hS hd hN hK
        have s19 := (waits_on hd 2 (by kernel_rfl)).at (d := 19) rfl rfl rfl
        rw [if_pos (want_free rfl)]
        go_simp
        with_reducible refine (rroot_at (ls.take k) _ w_ ((HS.out.take (k := k) (by omega) c (by omega)).to4 hw) (by rw [List.length_take]; omega) (fun x h => Nat.le_trans (HX.out x (List.mem_of_mem_take h)) (by decide))).mono ?_
        rintro e w' ⟨rfl, hb⟩
        exact hK _ _ hb (vok rfl) (facts_cons (fun h => absurd h (by decide)) facts_nil)
      · intro a w_ K hw hS hd hN hK
        have s0 := hS.at 0 (by kernel_rfl) rfl
        rw [if_pos (want_free rfl)]
        go_simp
        exact hK _ _ (Below.refl _ _) (vok rfl) (facts_cons (fun h => absurd h (by decide)) facts_nil)
      · intro a w_ K hw hS hd hN hK
        have s4 := hS.at 4 (by kernel_rfl) rfl
        rw [if_pos (want_free rfl)]
        go_simp
        exact hK _ _ (Below.refl _ _) (vok rfl) (facts_cons (fun h => absurd h (by decide)) facts_nil)
      · intro a w_ K hw hS hd hN hK
        have s21 := (waits_on hd 4 (by kernel_rfl)).at (d := 21) rfl rfl rfl
        have s22 := (waits_on hd 5 (by kernel_rfl)).at (d := 22) rfl rfl rfl
        rw [if_pos (want_free rfl)]
        go_simp
        exact hK _ _ (Below.refl _ _) (vok rfl) (facts_cons (fun h => absurd h (by decide)) facts_nil)
      · intro a w_ K hw hS hd hN hK
        have s23 := (waits_on hd 6 (by kernel_rfl)).at (d := 23) rfl rfl rfl
        rw [if_pos (want_free rfl)]
        go_simp
        with_reducible refine (rroot_at (ls.drop k) _ w_ ((HS.out.drop (k := k) (by omega) (c - k) (by omega)).to4 hw) (by rw [List.length_drop]; omega) (fun x h => Nat.le_trans (HX.out x (List.mem_of_mem_drop h)) (by decide))).mono ?_
        rintro e w' ⟨rfl, hb⟩
        exact hK _ _ hb (vok rfl) (facts_cons (fun h => absurd h (by decide)) facts_nil)
      · intro a w_ K hw hS hd hN hK
        have s20 := (waits_on hd 3 (by kernel_rfl)).at (d := 20) rfl rfl rfl
        have s24 := (waits_on hd 7 (by kernel_rfl)).at (d := 24) rfl rfl rfl
        rw [if_pos (want_free rfl)]
        go_simp
        exact hK _ _ (below_one _ _) (vfree rfl) (facts_cons (fun _ => ⟨_, hS.put_at (by kernel_rfl) _, Blk.new _ _ _⟩) facts_nil)
      · intro a w_ K hw hS hd hN hK
        obtain ⟨b25, s25, r25⟩ := (waits_on hd 8 (by kernel_rfl)).2 _ (List.mem_cons_self ..) rfl
        rw [if_pos (want_free rfl)]
        go_simp
        with_reducible refine (HJ.out w_ _ r25).mono ?_
        rintro e w' ⟨rfl, hb⟩
        exact hK _ _ hb (vok rfl) (facts_cons (fun h => absurd h (by decide)) facts_nil)
      · intro a w_ K hw hS hd hN hK
        have s26 := (waits_on hd 9 (by kernel_rfl)).at (d := 26) rfl rfl rfl
        rw [if_pos (want_free rfl)]
        go_simp
        exact hK _ _ (Below.refl _ _) (vok rfl) (facts_cons (fun h => absurd h (by decide)) facts_nil)
    case hfin =>
      intro a w4 hw hS hk
      have s17 := (hk 0 (by decide)).at (d := 17) rfl rfl rfl
      have s18 := (hk 1 (by decide)).at (d := 18) rfl rfl rfl
      have s19 := (hk 2 (by decide)).at (d := 19) rfl rfl rfl
      have s20 := (hk 3 (by decide)).at (d := 20) rfl rfl rfl
      have s21 := (hk 4 (by decide)).at (d := 21) rfl rfl rfl
      have s22 := (hk 5 (by decide)).at (d := 22) rfl rfl rfl
      have s23 := (hk 6 (by decide)).at (d := 23) rfl rfl rfl
      have s24 := (hk 7 (by decide)).at (d := 24) rfl rfl rfl
      obtain ⟨b25, s25, r25⟩ := (hk 8 (by decide)).2 _ (List.mem_cons_self ..) rfl
      have s26 := (hk 9 (by decide)).at (d := 26) rfl rfl rfl
      have s5 := (hk 10 (by decide)).at (d := 5) rfl rfl rfl
      have hlit := hS.lit _ (by kernel_rfl) (lits_cons s17 (lits_cons s18 (lits_cons s19 (lits_cons s20 (lits_cons s21 (lits_cons s22 (lits_cons s23 (lits_cons s24 (lits_cons s25 (lits_cons s26 (lits_cons s5 lits_nil)))))))))))
      rw [hlit]
      clear hlit hk hS s17 s18 s19 s20 s21 s22 s23 s24 s25 r25 s26 s5
      have HS4 := hide (HS.out.to hw)
      have HB := hide hw
      clear hw HJ
      simp only [litT, List.setIfInBounds_toArray, List.set_cons_succ, List.set_cons_zero]
      go_wp2_with fail
      clear HS
      rename_i w4x
      have HS := HS4
      clear HS4
      apply wp_region_lo3 (C := fun W => Below w4.heap.size w4 W) (V := [some _, some _, some _, none, some _, some _, some _, none, none, some _, none, none, none]) (Fs := [(3, fun a W => ∃ v, a.tmps[30]? = some v ∧ (a.tmps[35]? = some undef → OwnT W w4.heap.size v (textsV (ls.take k)))), (7, fun a W => ∃ v, a.tmps[34]? = some v ∧ (a.tmps[35]? = some undef → TextsAt W v (textsV (ls.drop k)))), (8, fun a W => ∃ v, a.tmps[35]? = some v ∧ v ≠ undef ∧ (a.tmps[38]? = some undef → OwnT W w4.heap.size v ((textsV (ls.take k)) ++ (textsV (ls.drop k))))), (10, fun a W => ∃ b, a.tmps[37]? = some (.slice (some ⟨b, 0, none⟩) 1 1) ∧ b < W.heap.size ∧ (a.tmps[38]? = some undef → Blk W b 9 #[.string (bs (joinD [nodeT, totalT (ls.take k), totalT (ls.drop k)]))]) ∧ ∀ v, a.tmps[30]? = some v → v.ownBlock ≠ some b), (11, fun a W => ∃ v, a.tmps[38]? = some v ∧ ¬ a.tmps[35]? = some undef ∧ OwnT W w4.heap.size v ((textsV (ls.take k)) ++ (textsV (ls.drop k)) ++ [(joinD [nodeT, totalT (ls.take k), totalT (ls.drop k)])])), (12, fun a W => ∃ v, a.tmps[38]? = some v ∧ a.tmps[2]? = some v ∧ ¬ a.tmps[35]? = some undef ∧ OwnT W w4.heap.size v ((textsV (ls.take k)) ++ (textsV (ls.drop k)) ++ [(joinD [nodeT, totalT (ls.take k), totalT (ls.drop k)])]))]) (Ns := [(8, fun a (_ : World) => a.tmps[35]? = some undef), (10, fun a W => ∀ v, a.tmps[30]? = some v → ∀ g, v.ownBlock = some g → g < W.heap.size), (11, fun a (_ : World) => a.tmps[38]? = some undef)]) (Rel := fun i b b' x x' => if i = 3 then (fun _ b' x x' => Below x.heap.size x x' ∧ ∀ v, b'.tmps[30]? = some v → ∀ g, v.ownBlock = some g → x.heap.size ≤ g ∧ g < x'.heap.size) b b' x x' else if i = 8 then (fun b b' x x' => b.tmps[35]? = some undef ∧ ¬ b'.tmps[35]? = some undef ∧ ∃ v, b.tmps[30]? = some v ∧ World.grownBy x x' (Value.ownBlock v) ∧ ∀ g, v.ownBlock = some g → w4.heap.size ≤ g) b b' x x' else if i = 11 then (fun b b' x x' => ¬ b.tmps[35]? = some undef ∧ ¬ b'.tmps[38]? = some undef ∧ ∃ r, World.grownBy x x' r ∧ ∀ g, r = some g → w4.heap.size ≤ g) b b' x x' else Below x.heap.size x x')
      case hm => kernel_rfl
      case hB => kernel_rfl
      case hCw => exact (Below.refl _ w4).drew
      case hC =>
        intro i a a' w_ w' hw hr
        by_cases e3 : i = 3
        · subst e3
          have hr' : (fun _ b' x x' => Below x.heap.size x x' ∧ ∀ v, b'.tmps[30]? = some v → ∀ g, v.ownBlock = some g → x.heap.size ≤ g ∧ g < x'.heap.size) a a' w_ w' := hr
          exact below_to hw (Nat.le_refl _) hr'.1
        by_cases e8 : i = 8
        · subst e8
          have hr' : (fun b b' x x' => b.tmps[35]? = some undef ∧ ¬ b'.tmps[35]? = some undef ∧ ∃ v, b.tmps[30]? = some v ∧ World.grownBy x x' (Value.ownBlock v) ∧ ∀ g, v.ownBlock = some g → w4.heap.size ≤ g) a a' w_ w' := hr
          obtain ⟨_, _, v, _, hg, hv⟩ := hr'
          exact hw.trans (below_grown hg hw.size hv)
        by_cases e11 : i = 11
        · subst e11
          have hr' : (fun b b' x x' => ¬ b.tmps[35]? = some undef ∧ ¬ b'.tmps[38]? = some undef ∧ ∃ r, World.grownBy x x' r ∧ ∀ g, r = some g → w4.heap.size ≤ g) a a' w_ w' := hr
          obtain ⟨_, _, r, hg, hv⟩ := hr'
          exact hw.trans (below_grown hg hw.size hv)
        have hr' : Below w_.heap.size w_ w' := by simpa [e3, e8, e11] using hr
        exact below_to hw (Nat.le_refl _) hr'
      case hst =>
        refine keeps3_cons (fun i a a' w_ w' hne hwt hs hput hr h => by
          by_cases e3 : i = 3
          · exact absurd e3 hne
          by_cases e8 : i = 8
          · subst e8
            have hr' : (fun b b' x x' => b.tmps[35]? = some undef ∧ ¬ b'.tmps[35]? = some undef ∧ ∃ v, b.tmps[30]? = some v ∧ World.grownBy x x' (Value.ownBlock v) ∧ ∀ g, v.ownBlock = some g → w4.heap.size ≤ g) a a' w_ w' := hr
            obtain ⟨v, h1, _⟩ := h
            exact ⟨v, (hs 30 (by kernel_rfl)).trans h1, fun e => absurd e hr'.2.1⟩
          by_cases e11 : i = 11
          · subst e11
            have hr' : (fun b b' x x' => ¬ b.tmps[35]? = some undef ∧ ¬ b'.tmps[38]? = some undef ∧ ∃ r, World.grownBy x x' r ∧ ∀ g, r = some g → w4.heap.size ≤ g) a a' w_ w' := hr
            obtain ⟨v, h1, _⟩ := h
            exact ⟨v, (hs 30 (by kernel_rfl)).trans h1, fun e => absurd ((other_slot (d := 35) (k := 8) (by kernel_rfl) hput (by decide)).symm.trans e) hr'.1⟩
          have hr' : Below w_.heap.size w_ w' := by simpa [e3, e8, e11] using hr
          obtain ⟨v, h1, h2⟩ := h
          exact ⟨v, (hs 30 (by kernel_rfl)).trans h1, fun e => own_to4 (h2 ((other_slot (d := 35) (k := 8) (by kernel_rfl) hput e8).symm.trans e)) hr'⟩) ?_
        refine keeps3_cons (fun i a a' w_ w' hne hwt hs hput hr h => by
          by_cases e3 : i = 3
          · subst e3
            have hr' : (fun _ b' x x' => Below x.heap.size x x' ∧ ∀ v, b'.tmps[30]? = some v → ∀ g, v.ownBlock = some g → x.heap.size ≤ g ∧ g < x'.heap.size) a a' w_ w' := hr
            obtain ⟨v, h1, h2⟩ := h
            exact ⟨v, (hs 34 (by kernel_rfl)).trans h1, fun e => (h2 ((other_slot (d := 35) (k := 8) (by kernel_rfl) hput (by decide)).symm.trans e)).to hr'.1⟩
          by_cases e8 : i = 8
          · subst e8
            have hr' : (fun b b' x x' => b.tmps[35]? = some undef ∧ ¬ b'.tmps[35]? = some undef ∧ ∃ v, b.tmps[30]? = some v ∧ World.grownBy x x' (Value.ownBlock v) ∧ ∀ g, v.ownBlock = some g → w4.heap.size ≤ g) a a' w_ w' := hr
            obtain ⟨v, h1, _⟩ := h
            exact ⟨v, (hs 34 (by kernel_rfl)).trans h1, fun e => absurd e hr'.2.1⟩
          by_cases e11 : i = 11
          · subst e11
            have hr' : (fun b b' x x' => ¬ b.tmps[35]? = some undef ∧ ¬ b'.tmps[38]? = some undef ∧ ∃ r, World.grownBy x x' r ∧ ∀ g, r = some g → w4.heap.size ≤ g) a a' w_ w' := hr
            obtain ⟨v, h1, _⟩ := h
            exact ⟨v, (hs 34 (by kernel_rfl)).trans h1, fun e => absurd ((other_slot (d := 35) (k := 8) (by kernel_rfl) hput (by decide)).symm.trans e) hr'.1⟩
          have hr' : Below w_.heap.size w_ w' := by simpa [e3, e8, e11] using hr
          obtain ⟨v, h1, h2⟩ := h
          exact ⟨v, (hs 34 (by kernel_rfl)).trans h1, fun e => (h2 ((other_slot (d := 35) (k := 8) (by kernel_rfl) hput e8).symm.trans e)).to hr'⟩) ?_
        refine keeps3_cons (fun i a a' w_ w' hne hwt hs hput hr h => by
          by_cases e3 : i = 3
          · subst e3
            have hr' : (fun _ b' x x' => Below x.heap.size x x' ∧ ∀ v, b'.tmps[30]? = some v → ∀ g, v.ownBlock = some g → x.heap.size ≤ g ∧ g < x'.heap.size) a a' w_ w' := hr
            obtain ⟨v, h1, h0, h2⟩ := h
            exact ⟨v, (hs 35 (by kernel_rfl)).trans h1, h0, fun e => own_to4 (h2 ((other_slot (d := 38) (k := 11) (by kernel_rfl) hput (by decide)).symm.trans e)) hr'.1⟩
          by_cases e8 : i = 8
          · exact absurd e8 hne
          by_cases e11 : i = 11
          · subst e11
            have hr' : (fun b b' x x' => ¬ b.tmps[35]? = some undef ∧ ¬ b'.tmps[38]? = some undef ∧ ∃ r, World.grownBy x x' r ∧ ∀ g, r = some g → w4.heap.size ≤ g) a a' w_ w' := hr
            obtain ⟨v, h1, h0, _⟩ := h
            exact ⟨v, (hs 35 (by kernel_rfl)).trans h1, h0, fun e => absurd e hr'.2.1⟩
          have hr' : Below w_.heap.size w_ w' := by simpa [e3, e8, e11] using hr
          obtain ⟨v, h1, h0, h2⟩ := h
          exact ⟨v, (hs 35 (by kernel_rfl)).trans h1, h0, fun e => own_to4 (h2 ((other_slot (d := 38) (k := 11) (by kernel_rfl) hput e11).symm.trans e)) hr'⟩) ?_
        refine keeps3_cons (fun i a a' w_ w' hne hwt hs hput hr h => by
          by_cases e3 : i = 3
          · subst e3
            have hr' : (fun _ b' x x' => Below x.heap.size x x' ∧ ∀ v, b'.tmps[30]? = some v → ∀ g, v.ownBlock = some g → x.heap.size ≤ g ∧ g < x'.heap.size) a a' w_ w' := hr
            obtain ⟨b, h1, h0, h2, h3⟩ := h
            exact ⟨b, (hs 37 (by kernel_rfl)).trans h1, Nat.lt_of_lt_of_le h0 hr'.1.size, fun e => (h2 ((other_slot (d := 38) (k := 11) (by kernel_rfl) hput (by decide)).symm.trans e)).to hr'.1, fun v hv e => by have q1 := (hr'.2 v hv b e).1; omega⟩
          by_cases e8 : i = 8
          · subst e8
            have hr' : (fun b b' x x' => b.tmps[35]? = some undef ∧ ¬ b'.tmps[35]? = some undef ∧ ∃ v, b.tmps[30]? = some v ∧ World.grownBy x x' (Value.ownBlock v) ∧ ∀ g, v.ownBlock = some g → w4.heap.size ≤ g) a a' w_ w' := hr
            obtain ⟨b, h1, h0, h2, h3⟩ := h
            obtain ⟨_, _, v, hv, hg, _⟩ := hr'
            exact ⟨b, (hs 37 (by kernel_rfl)).trans h1, Nat.lt_of_lt_of_le h0 hg.size, fun e => by have hB := h2 ((other_slot (d := 38) (k := 11) (by kernel_rfl) hput (by decide)).symm.trans e); exact (hg.block b hB.lt (fun e2 => h3 v hv e2.symm)).trans hB, fun v' hv' => h3 v' ((other_slot (d := 30) (k := 3) (by kernel_rfl) hput (by decide)).symm.trans hv')⟩
          by_cases e11 : i = 11
          · subst e11
            have hr' : (fun b b' x x' => ¬ b.tmps[35]? = some undef ∧ ¬ b'.tmps[38]? = some undef ∧ ∃ r, World.grownBy x x' r ∧ ∀ g, r = some g → w4.heap.size ≤ g) a a' w_ w' := hr
            obtain ⟨b, h1, h0, _, h3⟩ := h
            exact ⟨b, (hs 37 (by kernel_rfl)).trans h1, (by obtain ⟨_, _, _, hg, _⟩ := hr'; exact Nat.lt_of_lt_of_le h0 hg.size), fun e => absurd e hr'.2.1, fun v' hv' => h3 v' ((other_slot (d := 30) (k := 3) (by kernel_rfl) hput (by decide)).symm.trans hv')⟩
          have hr' : Below w_.heap.size w_ w' := by simpa [e3, e8, e11] using hr
          obtain ⟨b, h1, h0, h2, h3⟩ := h
          exact ⟨b, (hs 37 (by kernel_rfl)).trans h1, Nat.lt_of_lt_of_le h0 hr'.size, fun e => (h2 ((other_slot (d := 38) (k := 11) (by kernel_rfl) hput e11).symm.trans e)).to hr', fun v hv => h3 v ((other_slot (d := 30) (k := 3) (by kernel_rfl) hput e3).symm.trans hv)⟩) ?_
        refine keeps3_cons (fun i a a' w_ w' hne hwt hs hput hr h => by
          by_cases e3 : i = 3
          · subst e3
            have hr' : (fun _ b' x x' => Below x.heap.size x x' ∧ ∀ v, b'.tmps[30]? = some v → ∀ g, v.ownBlock = some g → x.heap.size ≤ g ∧ g < x'.heap.size) a a' w_ w' := hr
            obtain ⟨v, h1, h0, h2⟩ := h
            exact ⟨v, (hs 38 (by kernel_rfl)).trans h1, fun e => h0 ((other_slot (d := 35) (k := 8) (by kernel_rfl) hput (by decide)).symm.trans e), own_to4 h2 hr'.1⟩
          by_cases e8 : i = 8
          · subst e8
            have hr' : (fun b b' x x' => b.tmps[35]? = some undef ∧ ¬ b'.tmps[35]? = some undef ∧ ∃ v, b.tmps[30]? = some v ∧ World.grownBy x x' (Value.ownBlock v) ∧ ∀ g, v.ownBlock = some g → w4.heap.size ≤ g) a a' w_ w' := hr
            obtain ⟨v, h1, h0, h2⟩ := h
            exact absurd hr'.1 h0
          by_cases e11 : i = 11
          · exact absurd e11 hne
          have hr' : Below w_.heap.size w_ w' := by simpa [e3, e8, e11] using hr
          obtain ⟨v, h1, h0, h2⟩ := h
          exact ⟨v, (hs 38 (by kernel_rfl)).trans h1, fun e => h0 ((other_slot (d := 35) (k := 8) (by kernel_rfl) hput e8).symm.trans e), own_to4 h2 hr'⟩) ?_
        refine keeps3_cons (fun i a a' w_ w' hne hwt hs hput hr h => by
          by_cases e3 : i = 3
          · subst e3
            have hr' : (fun _ b' x x' => Below x.heap.size x x' ∧ ∀ v, b'.tmps[30]? = some v → ∀ g, v.ownBlock = some g → x.heap.size ≤ g ∧ g < x'.heap.size) a a' w_ w' := hr
            obtain ⟨v, h1, h3, h0, h2⟩ := h
            exact ⟨v, (hs 38 (by kernel_rfl)).trans h1, (hs 2 (by kernel_rfl)).trans h3, fun e => h0 ((other_slot (d := 35) (k := 8) (by kernel_rfl) hput (by decide)).symm.trans e), own_to4 h2 hr'.1⟩
          by_cases e8 : i = 8
          · subst e8
            have hr' : (fun b b' x x' => b.tmps[35]? = some undef ∧ ¬ b'.tmps[35]? = some undef ∧ ∃ v, b.tmps[30]? = some v ∧ World.grownBy x x' (Value.ownBlock v) ∧ ∀ g, v.ownBlock = some g → w4.heap.size ≤ g) a a' w_ w' := hr
            obtain ⟨v, h1, h3, h0, h2⟩ := h
            exact absurd hr'.1 h0
          by_cases e11 : i = 11
          · subst e11
            exact absurd (hwt.symm.trans (show Region.waitsFor .any _ 12 11 = true by kernel_rfl)) (by decide)
          have hr' : Below w_.heap.size w_ w' := by simpa [e3, e8, e11] using hr
          obtain ⟨v, h1, h3, h0, h2⟩ := h
          exact ⟨v, (hs 38 (by kernel_rfl)).trans h1, (hs 2 (by kernel_rfl)).trans h3, fun e => h0 ((other_slot (d := 35) (k := 8) (by kernel_rfl) hput e8).symm.trans e), own_to4 h2 hr'⟩) ?_
        exact keeps3_nil
      case hN0 => exact pre0_cons (rfl) (pre0_cons (fun v hv g hg => by obtain rfl : undef = v := Option.some.inj hv; cases hg) (pre0_cons (rfl) (pre0_nil)))
      case hNst =>
        refine prek_cons3 (fun i a a' w_ w' hne hwt hr h hput => by
          by_cases e3 : i = 3
          · subst e3
            have hr' : (fun _ b' x x' => Below x.heap.size x x' ∧ ∀ v, b'.tmps[30]? = some v → ∀ g, v.ownBlock = some g → x.heap.size ≤ g ∧ g < x'.heap.size) a a' w_ w' := hr
            exact (other_slot (d := 35) (k := 8) (by kernel_rfl) hput (by decide)).trans h
          by_cases e8 : i = 8
          · exact absurd e8 hne
          by_cases e11 : i = 11
          · subst e11
            have hr' : (fun b b' x x' => ¬ b.tmps[35]? = some undef ∧ ¬ b'.tmps[38]? = some undef ∧ ∃ r, World.grownBy x x' r ∧ ∀ g, r = some g → w4.heap.size ≤ g) a a' w_ w' := hr
            exact (other_slot (d := 35) (k := 8) (by kernel_rfl) hput (by decide)).trans h
          have hr' : Below w_.heap.size w_ w' := by simpa [e3, e8, e11] using hr
          exact (other_slot (d := 35) (k := 8) (by kernel_rfl) hput e8).trans h) ?_
        refine prek_cons3 (fun i a a' w_ w' hne hwt hr h hput => by
          by_cases e3 : i = 3
          · subst e3
            have hr' : (fun _ b' x x' => Below x.heap.size x x' ∧ ∀ v, b'.tmps[30]? = some v → ∀ g, v.ownBlock = some g → x.heap.size ≤ g ∧ g < x'.heap.size) a a' w_ w' := hr
            exact fun v hv g hg => (hr'.2 v hv g hg).2
          by_cases e8 : i = 8
          · subst e8
            have hr' : (fun b b' x x' => b.tmps[35]? = some undef ∧ ¬ b'.tmps[35]? = some undef ∧ ∃ v, b.tmps[30]? = some v ∧ World.grownBy x x' (Value.ownBlock v) ∧ ∀ g, v.ownBlock = some g → w4.heap.size ≤ g) a a' w_ w' := hr
            obtain ⟨_, _, _, _, hgr, _⟩ := hr'
            exact fun v hv g hg => Nat.lt_of_lt_of_le (h v ((other_slot (d := 30) (k := 3) (by kernel_rfl) hput (by decide)).symm.trans hv) g hg) hgr.size
          by_cases e11 : i = 11
          · subst e11
            have hr' : (fun b b' x x' => ¬ b.tmps[35]? = some undef ∧ ¬ b'.tmps[38]? = some undef ∧ ∃ r, World.grownBy x x' r ∧ ∀ g, r = some g → w4.heap.size ≤ g) a a' w_ w' := hr
            obtain ⟨_, _, _, hgr, _⟩ := hr'
            exact fun v hv g hg => Nat.lt_of_lt_of_le (h v ((other_slot (d := 30) (k := 3) (by kernel_rfl) hput (by decide)).symm.trans hv) g hg) hgr.size
          have hr' : Below w_.heap.size w_ w' := by simpa [e3, e8, e11] using hr
          exact fun v hv g hg => Nat.lt_of_lt_of_le (h v ((other_slot (d := 30) (k := 3) (by kernel_rfl) hput e3).symm.trans hv) g hg) hr'.size) ?_
        refine prek_cons3 (fun i a a' w_ w' hne hwt hr h hput => by
          by_cases e3 : i = 3
          · subst e3
            have hr' : (fun _ b' x x' => Below x.heap.size x x' ∧ ∀ v, b'.tmps[30]? = some v → ∀ g, v.ownBlock = some g → x.heap.size ≤ g ∧ g < x'.heap.size) a a' w_ w' := hr
            exact (other_slot (d := 38) (k := 11) (by kernel_rfl) hput (by decide)).trans h
          by_cases e8 : i = 8
          · subst e8
            have hr' : (fun b b' x x' => b.tmps[35]? = some undef ∧ ¬ b'.tmps[35]? = some undef ∧ ∃ v, b.tmps[30]? = some v ∧ World.grownBy x x' (Value.ownBlock v) ∧ ∀ g, v.ownBlock = some g → w4.heap.size ≤ g) a a' w_ w' := hr
            exact (other_slot (d := 38) (k := 11) (by kernel_rfl) hput (by decide)).trans h
          by_cases e11 : i = 11
          · exact absurd e11 hne
          have hr' : Below w_.heap.size w_ w' := by simpa [e3, e8, e11] using hr
          exact (other_slot (d := 38) (k := 11) (by kernel_rfl) hput e11).trans h) ?_
        exact prek_nil3
      case hop =>
        refine ⟨?_, ?_, ?_, ?_, ?_, ?_, ?_, ?_, ?_, ?_, ?_, ?_, ?_, trivial⟩
        · intro a w_ K hw hS hd hN hK
          have s0 := hS.at 0 (by kernel_rfl) rfl
          rw [if_pos (want_free rfl)]
          go_simp
          exact hK _ _ (Below.refl _ _) (vok rfl) (facts_cons (fun h => absurd h (by decide)) (facts_cons (fun h => absurd h (by decide)) (facts_cons (fun h => absurd h (by decide)) (facts_cons (fun h => absurd h (by decide)) (facts_cons (fun h => absurd h (by decide)) (facts_cons (fun h => absurd h (by decide)) facts_nil))))))
        · intro a w_ K hw hS hd hN hK
          have s4 := hS.at 4 (by kernel_rfl) rfl
          rw [if_pos (want_free rfl)]
          go_simp
          exact hK _ _ (Below.refl _ _) (vok rfl) (facts_cons (fun h => absurd h (by decide)) (facts_cons (fun h => absurd h (by decide)) (facts_cons (fun h => absurd h (by decide)) (facts_cons (fun h => absurd h (by decide)) (facts_cons (fun h => absurd h (by decide)) (facts_cons (fun h => absurd h (by decide)) facts_nil))))))
        · intro a w_ K hw hS hd hN hK
          have s27 := (waits_on hd 0 (by kernel_rfl)).at (d := 27) rfl rfl rfl
          have s28 := (waits_on hd 1 (by kernel_rfl)).at (d := 28) rfl rfl rfl
          rw [if_pos (want_free rfl)]
          go_simp
          exact hK _ _ (Below.refl _ _) (vok rfl) (facts_cons (fun h => absurd h (by decide)) (facts_cons (fun h => absurd h (by decide)) (facts_cons (fun h => absurd h (by decide)) (facts_cons (fun h => absurd h (by decide)) (facts_cons (fun h => absurd h (by decide)) (facts_cons (fun h => absurd h (by decide)) facts_nil))))))
        · intro a w_ K hw hS hd hN hK
          have s29 := (waits_on hd 2 (by kernel_rfl)).at (d := 29) rfl rfl rfl
          rw [if_pos (want_free rfl)]
          go_simp
          refine (ih (ls.take k) _ w_ ((HS.out.take (k := k) (by omega) c (by omega)).to4 hw) (by rw [List.length_take]; omega) (by rw [List.length_take]; omega) (fun x h => HX.out x (List.mem_of_mem_take h))).mono ?_
          rintro e w' ⟨v30, rfl, ho, hb⟩
          have hp30 := hS.put_at (s := 30) (by kernel_rfl) v30
          exact hK _ _ ⟨hb, fun v hv g hg => by obtain rfl : v30 = v := Option.some.inj (hp30.symm.trans hv); exact own_blk_lt ho g hg⟩ (vfree rfl) (facts_cons (fun _ => ⟨v30, hp30, fun _ => own_less ho hw.size⟩) (facts_cons (fun h => absurd h (by decide)) (facts_cons (fun h => absurd h (by decide)) (facts_cons (fun h => absurd h (by decide)) (facts_cons (fun h => absurd h (by decide)) (facts_cons (fun h => absurd h (by decide)) facts_nil))))))
        · intro a w_ K hw hS hd hN hK
          have s0 := hS.at 0 (by kernel_rfl) rfl
          rw [if_pos (want_free rfl)]
          go_simp
          exact hK _ _ (Below.refl _ _) (vok rfl) (facts_cons (fun h => absurd h (by decide)) (facts_cons (fun h => absurd h (by decide)) (facts_cons (fun h => absurd h (by decide)) (facts_cons (fun h => absurd h (by decide)) (facts_cons (fun h => absurd h (by decide)) (facts_cons (fun h => absurd h (by decide)) facts_nil))))))
        · intro a w_ K hw hS hd hN hK
          have s4 := hS.at 4 (by kernel_rfl) rfl
          rw [if_pos (want_free rfl)]
          go_simp
          exact hK _ _ (Below.refl _ _) (vok rfl) (facts_cons (fun h => absurd h (by decide)) (facts_cons (fun h => absurd h (by decide)) (facts_cons (fun h => absurd h (by decide)) (facts_cons (fun h => absurd h (by decide)) (facts_cons (fun h => absurd h (by decide)) (facts_cons (fun h => absurd h (by decide)) facts_nil))))))
        · intro a w_ K hw hS hd hN hK
          have s31 := (waits_on hd 4 (by kernel_rfl)).at (d := 31) rfl rfl rfl
          have s32 := (waits_on hd 5 (by kernel_rfl)).at (d := 32) rfl rfl rfl
          rw [if_pos (want_free rfl)]
          go_simp
          exact hK _ _ (Below.refl _ _) (vok rfl) (facts_cons (fun h => absurd h (by decide)) (facts_cons (fun h => absurd h (by decide)) (facts_cons (fun h => absurd h (by decide)) (facts_cons (fun h => absurd h (by decide)) (facts_cons (fun h => absurd h (by decide)) (facts_cons (fun h => absurd h (by decide)) facts_nil))))))
        · intro a w_ K hw hS hd hN hK
          have s33 := (waits_on hd 6 (by kernel_rfl)).at (d := 33) rfl rfl rfl
          rw [if_pos (want_free rfl)]
          go_simp
          refine (ih (ls.drop k) _ w_ ((HS.out.drop (k := k) (by omega) (c - k) (by omega)).to4 hw) (by rw [List.length_drop]; omega) (by rw [List.length_drop]; omega) (fun x h => HX.out x (List.mem_of_mem_drop h))).mono ?_
          rintro e w' ⟨v34, rfl, ho, hb⟩
          exact hK _ _ hb (vfree rfl) (facts_cons (fun h => absurd h (by decide)) (facts_cons (fun _ => ⟨v34, hS.put_at (by kernel_rfl) _, fun _ => TextsAt.of_own ho⟩) (facts_cons (fun h => absurd h (by decide)) (facts_cons (fun h => absurd h (by decide)) (facts_cons (fun h => absurd h (by decide)) (facts_cons (fun h => absurd h (by decide)) facts_nil))))))
        · intro a w_ K hw hS hd hN hK
          obtain ⟨v30, s30, f30⟩ := (waits_on hd 3 (by kernel_rfl)).2 _ (List.mem_cons_self ..) rfl
          obtain ⟨v34, s34, f34⟩ := (waits_on hd 7 (by kernel_rfl)).2 _ (List.mem_cons_of_mem _ (List.mem_cons_self ..)) rfl
          have hu35 := hN _ (List.mem_cons_self ..) rfl
          rw [if_pos (want_free rfl)]
          have t1 := texts_le (ls.take k)
          have t2 := texts_le (ls.drop k)
          rw [List.length_take] at t1
          rw [List.length_drop] at t2
          refine wp_append_texts (.tmp 30) (.tmp 34) rfl w4.heap.size v30 (textsV (ls.take k)) (eval_at s30) (f30 hu35) v34 (textsV (ls.drop k)) (eval_at s34) (f34 hu35) (by omega) hw.size ?_
          intro v35 w' ho hg hne
          have hp35 := hS.put_at (s := 35) (by kernel_rfl) v35
          exact hK v35 w' ⟨hu35, fun e => hne (Option.some.inj (hp35.symm.trans e)), v30, s30, hg, fun g e => (own_blk_lt (f30 hu35) g e).1⟩ (vfree rfl) (facts_cons (fun h => absurd h (by decide)) (facts_cons (fun h => absurd h (by decide)) (facts_cons (fun _ => ⟨v35, hp35, hne, fun _ => ho⟩) (facts_cons (fun h => absurd h (by decide)) (facts_cons (fun h => absurd h (by decide)) (facts_cons (fun h => absurd h (by decide)) facts_nil))))))
        · intro a w_ K hw hS hd hN hK
          have s5 := hS.at 5 (by kernel_rfl) rfl
          rw [if_pos (want_free rfl)]
          go_simp
          exact hK _ _ (Below.refl _ _) (vok rfl) (facts_cons (fun h => absurd h (by decide)) (facts_cons (fun h => absurd h (by decide)) (facts_cons (fun h => absurd h (by decide)) (facts_cons (fun h => absurd h (by decide)) (facts_cons (fun h => absurd h (by decide)) (facts_cons (fun h => absurd h (by decide)) facts_nil))))))
        · intro a w_ K hw hS hd hN hK
          have s36 := (waits_on hd 9 (by kernel_rfl)).at (d := 36) rfl rfl rfl
          have hv30 := hN _ (List.mem_cons_of_mem _ (List.mem_cons_self ..)) rfl
          rw [if_pos (want_free rfl)]
          go_simp
          exact hK _ _ (below_one _ _) (vfree rfl) (facts_cons (fun h => absurd h (by decide)) (facts_cons (fun h => absurd h (by decide)) (facts_cons (fun h => absurd h (by decide)) (facts_cons (fun _ => ⟨w_.heap.size, hS.put_at (by kernel_rfl) _, by simp, fun _ => Blk.new _ _ _, fun v hv e => by have := hv30 v ((put_far (by decide)).symm.trans hv) w_.heap.size e; omega⟩) (facts_cons (fun h => absurd h (by decide)) (facts_cons (fun h => absurd h (by decide)) facts_nil))))))
        · intro a w_ K hw hS hd hN hK
          obtain ⟨v35, s35, n35, f35⟩ := (waits_on hd 8 (by kernel_rfl)).2 _ (List.mem_cons_of_mem _ (List.mem_cons_of_mem _ (List.mem_cons_self ..))) rfl
          obtain ⟨b37, s37, l37, f37, k37⟩ := (waits_on hd 10 (by kernel_rfl)).2 _ (List.mem_cons_of_mem _ (List.mem_cons_of_mem _ (List.mem_cons_of_mem _ (List.mem_cons_self ..)))) rfl
          have hu38 := hN _ (List.mem_cons_of_mem _ (List.mem_cons_of_mem _ (List.mem_cons_self ..))) rfl
          rw [if_pos (want_free rfl)]
          have t1 := texts_le (ls.take k)
          have t2 := texts_le (ls.drop k)
          rw [List.length_take] at t1
          rw [List.length_drop] at t2
          have hrow : TextsAt w_ (.slice (some ⟨b37, 0, none⟩) 1 1) [(joinD [nodeT, totalT (ls.take k), totalT (ls.drop k)])] := TextsAt.of_blk (ls := [(joinD [nodeT, totalT (ls.take k), totalT (ls.drop k)])]) (f37 hu38) rfl
          refine wp_append_texts (.tmp 35) (.tmp 37) rfl w4.heap.size v35 ((textsV (ls.take k)) ++ (textsV (ls.drop k))) (eval_at s35) (f35 hu38) (.slice (some ⟨b37, 0, none⟩) 1 1) [(joinD [nodeT, totalT (ls.take k), totalT (ls.drop k)])] (eval_at s37) hrow (by rw [List.length_append, List.length_singleton]; omega) hw.size ?_
          intro v38 w' ho hg hne
          have hp38 := hS.put_at (s := 38) (by kernel_rfl) v38
          have n35' : ¬ a.tmps[35]? = some undef := fun e => n35 (Option.some.inj (s35.symm.trans e))
          exact hK v38 w' ⟨n35', fun e => hne (Option.some.inj (hp38.symm.trans e)), _, hg, fun g e => (own_blk_lt (f35 hu38) g e).1⟩ (vfree rfl) (facts_cons (fun h => absurd h (by decide)) (facts_cons (fun h => absurd h (by decide)) (facts_cons (fun h => absurd h (by decide)) (facts_cons (fun h => absurd h (by decide)) (facts_cons (fun _ => ⟨v38, hp38, fun e => n35' ((put_far (by decide)).symm.trans e), ho⟩) (facts_cons (fun h => absurd h (by decide)) facts_nil))))))
        · intro a w_ K hw hS hd hN hK
          obtain ⟨v38, s38, n38, f38⟩ := (waits_on hd 11 (by kernel_rfl)).2 _ (List.mem_cons_of_mem _ (List.mem_cons_of_mem _ (List.mem_cons_of_mem _ (List.mem_cons_of_mem _ (List.mem_cons_self ..))))) rfl
          rw [if_pos (want_free rfl)]
          go_simp
          exact hK _ _ (Below.refl _ _) (vfree rfl) (facts_cons (fun h => absurd h (by decide)) (facts_cons (fun h => absurd h (by decide)) (facts_cons (fun h => absurd h (by decide)) (facts_cons (fun h => absurd h (by decide)) (facts_cons (fun h => absurd h (by decide)) (facts_cons (fun _ => ⟨v38, (put_far (by decide)).trans s38, hS.put_at (by kernel_rfl) _, fun e => n38 ((put_far (by decide)).symm.trans e), f38⟩) facts_nil))))))
      case hfin =>
        intro a w5 hw hS hk
        have s27 := (hk 0 (by decide)).at (d := 27) rfl rfl rfl
        have s28 := (hk 1 (by decide)).at (d := 28) rfl rfl rfl
        have s29 := (hk 2 (by decide)).at (d := 29) rfl rfl rfl
        obtain ⟨v30, s30, f30⟩ := (hk 3 (by decide)).2 _ (List.mem_cons_self ..) rfl
        have s31 := (hk 4 (by decide)).at (d := 31) rfl rfl rfl
        have s32 := (hk 5 (by decide)).at (d := 32) rfl rfl rfl
        have s33 := (hk 6 (by decide)).at (d := 33) rfl rfl rfl
        obtain ⟨v34, s34, f34⟩ := (hk 7 (by decide)).2 _ (List.mem_cons_of_mem _ (List.mem_cons_self ..)) rfl
        obtain ⟨v35, s35, n35, f35⟩ := (hk 8 (by decide)).2 _ (List.mem_cons_of_mem _ (List.mem_cons_of_mem _ (List.mem_cons_self ..))) rfl
        have s36 := (hk 9 (by decide)).at (d := 36) rfl rfl rfl
        obtain ⟨b37, s37, l37, f37, k37⟩ := (hk 10 (by decide)).2 _ (List.mem_cons_of_mem _ (List.mem_cons_of_mem _ (List.mem_cons_of_mem _ (List.mem_cons_self ..)))) rfl
        obtain ⟨v38, s38, n38, f38⟩ := (hk 11 (by decide)).2 _ (List.mem_cons_of_mem _ (List.mem_cons_of_mem _ (List.mem_cons_of_mem _ (List.mem_cons_of_mem _ (List.mem_cons_self ..))))) rfl
        obtain ⟨v2, s38', s2, n2, f2⟩ := (hk 12 (by decide)).2 _ (List.mem_cons_of_mem _ (List.mem_cons_of_mem _ (List.mem_cons_of_mem _ (List.mem_cons_of_mem _ (List.mem_cons_of_mem _ (List.mem_cons_self ..)))))) rfl
        have hlit := hS.lit _ (by kernel_rfl) (lits_cons s27 (lits_cons s28 (lits_cons s29 (lits_cons s30 (lits_cons s31 (lits_cons s32 (lits_cons s33 (lits_cons s34 (lits_cons s35 (lits_cons s36 (lits_cons s37 (lits_cons s38 (lits_cons s2 lits_nil)))))))))))))
        rw [hlit]
        clear hlit hk hS s27 s28 s29 s30 s31 s32 s33 s34 s35 s36 s37 s38 s38' f30 f34 f35 n35 f37 k37 f38 n38
        have HB5 := hide (below_to HB.out (Nat.le_refl _) hw)
        simp only [litT, List.setIfInBounds_toArray, List.set_cons_succ, List.set_cons_zero]
        go_wp2_with fail
        go_ret
        exact ⟨v2, rfl, by rw [HV.out]; exact own_less f2 HB.out.size, HB5.out⟩
theorem texts_all : ∀ f, TxOk f
  | 0 => fun ls v w hv hf hn hx => by
    obtain rfl : ls = [] := List.eq_nil_of_length_eq_zero (by omega)
    exact texts_nil v w hv
  | f + 1 => texts_step f (texts_all f)
theorem Texts_any (ls : List (List UInt8)) (v : Value) (w : World) (hv : TextsAt w v ls) (hn : ls.length ≤ 100000) (hx : ∀ x ∈ ls, x.length ≤ 1000000) : Calls Tryz.prog 37 #[v] w (LvR (textsV ls) w) := texts_all ls.length ls v w hv (Nat.le_refl _) hn hx
end Go.Proofs.YtnjlefggkfagmaaGreatDoor

/- Walks of the reference: Leaves, Digested. -/
set_option linter.unusedVariables false
set_option linter.unusedSimpArgs false
namespace Go.Proofs.YtnjlefggkfagmaaGreatDoor
open Go.RowKit

set_option maxRecDepth 100000 in
set_option maxHeartbeats 2000000 in
theorem rLeaves_any (items : List (List UInt8)) (hn : items.length ≤ 1000000) (hx : ∀ x ∈ items, x.length ≤ 100000) (v : Value) (w : World) (hv : TextsAt w v items) :
    Calls Tryz.prog 38 #[v] w (LvR (leavesV items) w) := by
  obtain ⟨A, c, rfl, _⟩ := hv.slice
  have HS := hide hv
  have HX := hide hx
  obtain ⟨i0, hi0, hz0, hz1, hz2⟩ := info_parts info_str
  clear hv hx
  go_enter Tryz.func38, Tryz.ntmps38
  go_wp2_with fail
  go_loopw [3, 4] (fun o i wr => ∃ k : Nat, i = .int .i64 (k : Int) ∧ k ≤ items.length ∧ Aside (OwnT wr w.heap.size o ((leavesV items).take k)) ∧ Aside (Below w.heap.size w wr)) (fun _ i _ => items.length - (intOf i).toNat)
  case atStart => exact ⟨0, rfl, by omega, World.ownsRow_nil _ _ _ _, Below.refl _ _⟩
  case round =>
    obtain ⟨k, rfl, hk, hO, hB⟩ := hrel
    have HO : Hid (OwnT wr w.heap.size _ ((leavesV items).take k)) := hO
    have HB : Hid (Below w.heap.size w wr) := hB
    have htl : ((leavesV items).take k).length = k := by rw [List.length_take]; simp [leavesV]; omega
    obtain ⟨Ao, co, rfl⟩ := own_sl4 hO
    clear hO hB
    rw [htl] at HO ⊢
    by_cases hlt : k < items.length
    · have e1 : decide ((k : Int) < (items.length : Int)) = true := decide_eq_true (by omega)
      obtain ⟨x, hx⟩ : ∃ x, items[k]? = some x := ⟨_, List.getElem?_eq_getElem hlt⟩
      obtain ⟨a, rfl, ha, c0⟩ := (HS.out.to HB.out).at_ hx
      have hxl := HX.out x (List.mem_of_getElem? hx)
      have CL := rLeaf_any x (by omega) wr
      have HSN : Hid ((leavesV items).take (k + 1) = (leavesV items).take k ++ [leafD x]) := by show _ = _; unfold leavesV; rw [List.take_add_one, List.getElem?_map, hx]; rfl
      have HO1 : Hid (wr.ownsRow w.heap.size 9 1 (.slice Ao k co) k (flatS ((leavesV items).take k))) := by
        have := HO.out
        unfold OwnT at this
        rw [htl] at this
        exact this
      generalize leafD x = d at *
      generalize (leavesV items).take k = L at *
      clear hx HO
      go_wp2_with fail
      refine CL.mono ?_
      rintro e w4 ⟨rfl, hb4⟩
      have HO4 := hide (own_to4 HO1.out hb4)
      have HB4 := hide (below_to HB.out (Nat.le_refl _) hb4)
      have HSZ : Hid (w.heap.size ≤ w4.heap.size) := HB4.out.size
      clear hb4 CL HO1
      go_wp2_with (at_builtin; refine wpList_append_own _ rfl (.tmp 11) (.tmp 17) _ rfl w.heap.size 9 i0 (.string ⟨#[]⟩) 1 16 Tryz.underlying22 hi0 hz0 hz1 hz2 rfl (by omega) _ k (flatS L) rfl ?c0 ⟨_, 0, none⟩ 1 1 [.string (bs d)] rfl rfl ?c1 ?c2 ?c4 ?c5 ?c3 ?_)
      case c0 => exact own_to4 HO4.out (below_one _ _)
      case c1 => exact cells_new4 (xs := [.string (bs d)]) (by simp)
      case c2 => intro u hu; simp only [List.mem_cons, List.not_mem_nil, or_false] at hu; rcases hu with rfl; rfl
      case c4 => simp only [maxLen]; omega
      case c5 => omega
      case c3 => have := HSZ.out; simp; omega
      intro v' w6 hown6 hgr6 _
      have HB6 := hide ((below_alloc HB4.out (Nat.le_refl _) _).grown hgr6 (by have := HSZ.out; simp; omega) (fun b hb => (HO4.out.lt b hb).1))
      have HO6 : Hid (OwnT w6 w.heap.size v' ((leavesV items).take (k + 1))) := by
        rw [HSN.out]
        show World.ownsRow _ _ _ _ _ _ _
        rw [flatS_snoc, List.length_append, htl]
        exact hown6
      clear hown6 hgr6
      go_wp2_with fail
      refine ⟨⟨k + 1, by go_num, by omega, HO6.out, HB6.out⟩, ?_⟩
      simp [intOf]; omega
    · obtain rfl : k = items.length := by omega
      have e1 : decide ((items.length : Int) < (items.length : Int)) = false := by simp
      go_wp2_with fail
      go_ret
      refine ⟨_, rfl, ?_, HB.out⟩
      have := HO.out
      rwa [List.take_of_length_le (by simp [leavesV])] at this
def leafJ (x : List UInt8) : List UInt8 := joinD [leafT, x]
/-- what is digested for the root of a log -/
def digestedV (items : List (List UInt8)) : List (List UInt8) := textsV (leavesV items) ++ items.map leafJ
theorem join_leafB {x : List UInt8} (hx : x.length ≤ 100000) (w : World) (g : Nat) (hv : Blk w g 9 #[.string ⟨#[108, 101, 97, 102]⟩, .string (bs x)]) : Calls Tryz.prog 39 #[.slice (some ⟨g, 0, none⟩) 2 2] w fun e w' => e = .returned (.string (bs (leafJ x))) ∧ Below w.heap.size w w' :=
  rJoined_any [leafT, x] (by simp) (by rw [lenS2]; simp [leafT]; omega) (join2 (by decide) (by omega)) _ w (TextsAt.of_blk (ls := [leafT, x]) (show Blk w g 9 (strC [leafT, x]) from hv) rfl)
set_option maxRecDepth 100000 in
set_option maxHeartbeats 2000000 in
theorem Digested_any (items : List (List UInt8)) (hn : items.length ≤ 1000) (hx : ∀ x ∈ items, x.length ≤ 100000) (v : Value) (w : World) (hv : TextsAt w v items) :
    Calls Tryz.prog 14 #[v] w (LvR (digestedV items) w) := by
  have CL := rLeaves_any items (by omega) hx v w hv
  unfold LvR at CL
  obtain ⟨A, c, rfl, _⟩ := hv.slice
  have HS := hide hv
  have HX := hide hx
  obtain ⟨i0, hi0, hz0, hz1, hz2⟩ := info_parts info_str
  have HLT := hide (texts_le (leavesV items))
  clear hv hx
  go_enter Tryz.func14, Tryz.ntmps14
  go_wp2_with fail
  refine CL.mono ?_
  rintro e w1 ⟨v1, rfl, ho, hb⟩
  have HB1 := hide hb
  have CT := Texts_any (leavesV items) v1 w1 (TextsAt.of_own ho) (by rw [leaves_len]; omega) (fun x hx => by obtain ⟨y, _, rfl⟩ := List.mem_map.1 hx; rw [isD_len (leaf_isD y)]; decide)
  unfold LvR at CT
  clear hb ho CL
  go_wp2_with fail
  refine CT.mono ?_
  rintro e w2 ⟨v2, rfl, ho, hb⟩
  have HB2 := hide (below_to HB1.out (Nat.le_refl _) hb)
  have HO2 : Hid (OwnT w2 w.heap.size v2 (textsV (leavesV items))) := own_less ho HB1.out.size
  rw [leaves_len] at HLT
  generalize hTX : textsV (leavesV items) = TX at *
  have HD : Hid (digestedV items = TX ++ items.map leafJ) := by show _ = _; rw [← hTX]; rfl
  clear hb ho CT HB1 hTX
  go_wp2_with fail
  go_loopw [3, 4] (fun o i wr => ∃ k : Nat, i = .int .i64 (k : Int) ∧ k ≤ items.length ∧ Aside (OwnT wr w.heap.size o (TX ++ (items.take k).map leafJ)) ∧ Aside (Below w.heap.size w wr)) (fun _ i _ => items.length - (intOf i).toNat)
  case atStart => exact ⟨0, rfl, by omega, by show OwnT _ _ _ _; rw [List.take_zero, List.map_nil, List.append_nil]; exact HO2.out, HB2.out⟩
  case round =>
    clear HO2 HB2
    obtain ⟨k, rfl, hk, hO, hB⟩ := hrel
    have HO : Hid (OwnT wr w.heap.size _ (TX ++ (items.take k).map leafJ)) := hO
    have HB : Hid (Below w.heap.size w wr) := hB
    have htl : (TX ++ (items.take k).map leafJ).length = TX.length + k := by rw [List.length_append, List.length_map, List.length_take]; omega
    have hTl := HLT.out
    obtain ⟨Ao, co, rfl⟩ := own_sl4 hO
    clear hO hB
    rw [htl] at HO ⊢
    by_cases hlt : k < items.length
    · have e1 : decide ((k : Int) < (items.length : Int)) = true := decide_eq_true (by omega)
      obtain ⟨x, hx⟩ : ∃ x, items[k]? = some x := ⟨_, List.getElem?_eq_getElem hlt⟩
      obtain ⟨a, rfl, ha, c0⟩ := (HS.out.to HB.out).at_ hx
      have hxl := HX.out x (List.mem_of_getElem? hx)
      have CJ := fun w' : World => join_leafB (x := x) hxl w'
      have HSN : Hid (TX ++ (items.take (k + 1)).map leafJ = (TX ++ (items.take k).map leafJ) ++ [leafJ x]) := by show _ = _; rw [List.take_add_one, hx]; simp
      have HO1 : Hid (wr.ownsRow w.heap.size 9 1 (.slice Ao (TX.length + k) co) (TX.length + k) (flatS (TX ++ (items.take k).map leafJ))) := by
        have := HO.out
        unfold OwnT at this
        rw [htl] at this
        exact this
      generalize leafJ x = d at *
      generalize TX ++ (items.take k).map leafJ = L at *
      clear hx HO
      have CJ := CJ (wr.alloc (.cells #[.string ⟨#[108, 101, 97, 102]⟩, .string (bs x)] 9)) wr.heap.size (Blk.new _ _ _)
      go_wp2_with fail
      refine CJ.mono ?_
      rintro e w4 ⟨rfl, hb4⟩
      have hb4' := below_to (below_one wr (.cells #[.string ⟨#[108, 101, 97, 102]⟩, .string (bs x)] 9)) (Nat.le_refl _) hb4
      have HO4 := hide (own_to4 HO1.out hb4')
      have HB4 := hide (below_to HB.out (Nat.le_refl _) hb4')
      have HSZ : Hid (w.heap.size ≤ w4.heap.size) := HB4.out.size
      clear hb4 hb4' CJ HO1
      go_wp2_with (at_builtin; refine wpList_append_own _ rfl (.tmp 14) (.tmp 21) _ rfl w.heap.size 9 i0 (.string ⟨#[]⟩) 1 16 Tryz.underlying22 hi0 hz0 hz1 hz2 rfl (by omega) _ (TX.length + k) (flatS L) rfl ?c0 ⟨_, 0, none⟩ 1 1 [.string (bs d)] rfl rfl ?c1 ?c2 ?c4 ?c5 ?c3 ?_)
      case c0 => exact own_to4 HO4.out (below_one _ _)
      case c1 => exact cells_new4 (xs := [.string (bs d)]) (by simp)
      case c2 => intro u hu; simp only [List.mem_cons, List.not_mem_nil, or_false] at hu; rcases hu with rfl; rfl
      case c4 => simp only [maxLen]; omega
      case c5 => omega
      case c3 => have := HSZ.out; simp; omega
      intro v' w6 hown6 hgr6 _
      have HB6 := hide ((below_alloc HB4.out (Nat.le_refl _) _).grown hgr6 (by have := HSZ.out; simp; omega) (fun b hb => (HO4.out.lt b hb).1))
      have HO6 : Hid (OwnT w6 w.heap.size v' (TX ++ (items.take (k + 1)).map leafJ)) := by
        rw [HSN.out]
        show World.ownsRow _ _ _ _ _ _ _
        rw [flatS_snoc, List.length_append, htl]
        exact hown6
      clear hown6 hgr6
      go_wp2_with fail
      refine ⟨⟨k + 1, by go_num, by omega, HO6.out, HB6.out⟩, ?_⟩
      simp [intOf]; omega
    · obtain rfl : k = items.length := by omega
      have e1 : decide ((items.length : Int) < (items.length : Int)) = false := by simp
      go_wp2_with fail
      go_ret
      refine ⟨_, rfl, ?_, HB.out⟩
      have := HO.out
      rwa [List.take_length, ← HD.out] at this
end Go.Proofs.YtnjlefggkfagmaaGreatDoor

/- Walks of the reference of layer 2: paths. -/
set_option linter.unusedVariables false
set_option linter.unusedSimpArgs false
namespace Go.Proofs.YtnjlefggkfagmaaGreatDoor
open Go.RowKit

theorem wpList_append_texts {ops : Array Oper} {rest : List Oper} {o : Oper} {a : Act} {w : World} {Q : Exit → Act → World → Prop} (hgd : o.guard = none) (s x : Operand) (hop : o.op = Op.call { callee := Callee.builtin Builtin.append, args := #[s, x], argTypes := #[22, 22] })
    (B : Nat) (v : Value) (L : List (List UInt8)) (hs : a.eval s = v) (hown : OwnT w B v L) (xv : Value) (q : List (List UInt8)) (hx : a.eval x = xv) (hq : TextsAt w xv q) (hn : L.length + q.length ≤ 1000000000) (hB : B ≤ w.heap.size)
    (h : ∀ v' w', OwnT w' B v' (L ++ q) → w.grownBy w' v.ownBlock → v' ≠ undef → wpList Tryz.prog ops Q rest (a.put o.dst v') w') : wpList Tryz.prog ops Q (o :: rest) a w :=
  wpList_plain hgd fun _ hK => wp_append_texts s x hop B v L hs hown xv q hx hq hn hB fun v' w' h1 h2 h3 => hK _ _ (h v' w' h1 h2 h3)
/-- a path's length -/
def lenF : Nat → Nat → Nat → Nat
  | 0, _, _ => 0
  | f + 1, n, i => if n = 1 then 0 else if i < halfN n then lenF f (halfN n) i + 1 else lenF f (n - halfN n) (i - halfN n) + 1
theorem lenF_one (f i : Nat) : lenF (f + 1) 1 i = 0 := by unfold lenF; rw [if_pos rfl]
theorem lenF_lt {f n i : Nat} (h : n ≠ 1) (hi : i < halfN n) : lenF (f + 1) n i = lenF f (halfN n) i + 1 := by
  show (if n = 1 then 0 else if i < halfN n then lenF f (halfN n) i + 1 else lenF f (n - halfN n) (i - halfN n) + 1) = _
  rw [if_neg h, if_pos hi]
theorem lenF_ge {f n i : Nat} (h : n ≠ 1) (hi : ¬ i < halfN n) : lenF (f + 1) n i = lenF f (n - halfN n) (i - halfN n) + 1 := by
  show (if n = 1 then 0 else if i < halfN n then lenF f (halfN n) i + 1 else lenF f (n - halfN n) (i - halfN n) + 1) = _
  rw [if_neg h, if_neg hi]
theorem lenF_le : ∀ (f n i : Nat), lenF f n i ≤ f
  | 0, n, i => Nat.le_refl _
  | f + 1, n, i => by
    unfold lenF
    split
    · omega
    · split
      · have := lenF_le f (halfN n) i; omega
      · have := lenF_le f (n - halfN n) (i - halfN n); omega
theorem upG_rest (leaf : List UInt8) : ∀ (f n i : Nat) (st : List (List UInt8)) (sh : Bool), 1 ≤ n → n ≤ f → i < n → (∀ d ∈ st, d ≠ []) → (upG leaf f n i st sh).2 = (st.drop (lenF f n i), sh || decide (st.length < lenF f n i)) := by
  intro f
  induction f with
  | zero => intro n i st sh h1 h2; omega
  | succ f ih =>
    intro n i st sh h1 h2 h3 hd
    by_cases hn : n = 1
    · subst hn
      rw [upG_one, lenF_one]; simp
    · obtain ⟨a, b⟩ := half_lt (n := n) (by omega)
      have tl : ∀ d ∈ st.tail, d ≠ [] := fun d h => hd d (List.mem_of_mem_tail h)
      have fin : ∀ L, (st.tail.drop L, nextS st sh || decide (st.tail.length < L)) = (st.drop (L + 1), sh || decide (st.length < L + 1)) := fun L => by
        match st, hd with
        | [], _ => simp [nextS]
        | x :: st, hd =>
          have hx : x ≠ [] := hd x (by simp)
          cases x with
          | nil => exact absurd rfl hx
          | cons y x =>
            refine Prod.ext rfl ?_
            show (sh || false || decide (st.length < L)) = (sh || decide (st.length + 1 < L + 1))
            rw [Bool.or_false]
            congr 1
            exact decide_eq_decide.2 (by omega)
      by_cases hi : i < halfN n
      · rw [upG_lt leaf hn hi, lenF_lt hn hi]
        show (upG leaf f (halfN n) i st.tail (nextS st sh)).2 = _
        rw [ih _ _ _ _ (by omega) (by omega) hi tl]
        exact fin _
      · rw [upG_ge leaf hn hi, lenF_ge hn hi]
        show (upG leaf f (n - halfN n) (i - halfN n) st.tail (nextS st sh)).2 = _
        rw [ih _ _ _ _ (by omega) (by omega) (by omega) tl]
        exact fin _
theorem upG_small {leaf : List UInt8} (hl : leaf.length ≤ 1000000) : ∀ (f n i : Nat) (st : List (List UInt8)) (sh : Bool), (upG leaf f n i st sh).1.length ≤ 1000000
  | 0, n, i, st, sh => hl
  | f + 1, n, i, st, sh => by
    unfold upG
    split
    · exact hl
    · split <;> exact Nat.le_trans (Nat.le_of_eq (nodeD_len _ _)) (by decide)
theorem proper_ne {p : List (List UInt8)} (h : properT p = true) : ∀ d ∈ p, d ≠ [] := fun d hd e => by
  unfold properT at h
  have := List.all_eq_true.1 h d hd
  rw [e] at this
  exact absurd this (by decide)
/-- the reference's way to say it -/
theorem checkV_ref (root leaf : List UInt8) (N I : Nat) (p : List (List UInt8)) (hN : N ≤ 1000000) (hI : I < N) : checkV root N I leaf p = (decide (p.length = lenF N N I) && (properT p && (isD leaf && decide ((upG leaf N N I p.reverse false).1 = root)))) := by
  unfold checkV
  cases hp : properT p with
  | false => rw [if_neg (by simp)]; simp
  | true =>
    cases hl : isD leaf with
    | false => rw [if_neg (by simp)]; simp
    | true =>
      rw [if_pos ⟨by omega, by omega, by omega, rfl, rfl⟩, Int.toNat_natCast, Int.toNat_natCast]
      unfold upV
      have hr := upG_rest leaf N N I p.reverse false (by omega) (Nat.le_refl _) hI (fun d hd => proper_ne hp d (by simpa using hd))
      rw [hr]
      simp only [Bool.false_or, List.length_reverse, Bool.true_and]
      rw [Bool.and_comm (decide (p.length = lenF N N I))]
      congr 1
      rw [Bool.eq_iff_iff]
      simp only [Bool.and_eq_true, Bool.not_eq_true', decide_eq_false_iff_not, List.isEmpty_iff, List.drop_eq_nil_iff, List.length_reverse, decide_eq_true_eq]
      omega
def RLenOk (f : Nat) : Prop := ∀ (n i : Nat) (w : World), 1 ≤ n → n ≤ f → i < n → f ≤ 1000000000 → Calls Tryz.prog 80 #[.int .i64 (n : Int), .int .i64 (i : Int)] w fun e w' => e = .returned (.int .i64 ((lenF f n i : Nat) : Int)) ∧ w' = w
set_option maxRecDepth 100000 in
set_option maxHeartbeats 1000000 in
theorem rlen_step (f : Nat) (ih : RLenOk f) : RLenOk (f + 1) := by
  intro n i w h1 h2 h3 h4
  by_cases hn : n = 1
  · subst hn
    rw [lenF_one]
    have e0 : (((1 : Nat) : Int) == 1) = true := rfl
    clear ih
    go_enter Tryz.func80, Tryz.ntmps80
    go_wp2_with fail
    go_ret
    exact ⟨rfl, rfl⟩
  · obtain ⟨a, b⟩ := half_lt (n := n) (by omega)
    have CH := fun w => rHalf_any n (by omega) w
    have e0 : ((n : Int) == 1) = false := by rw [beq_eq_false_iff_ne]; omega
    by_cases hi : i < halfN n
    · have HV := hide (lenF_lt (f := f) hn hi)
      have CR := ih (halfN n) i w (by omega) (by omega) hi (by omega)
      have hb := lenF_le f (halfN n) i
      generalize halfN n = k at *
      generalize lenF f k i = L at *
      have e1 : decide ((i : Int) < (k : Int)) = true := decide_eq_true (by omega)
      have e2 : decide (i < k) = true := decide_eq_true (by omega)
      clear ih hi
      go_enter Tryz.func80, Tryz.ntmps80
      go_wp2_with (first | ((with_reducible refine (CH _).mono ?_); rintro e w' ⟨rfl, rfl⟩) | ((with_reducible refine CR.mono ?_); rintro e w' ⟨rfl, rfl⟩))
      go_ret
      exact ⟨by rw [HV.out]; simp [Int.add_comm], rfl⟩
    · have HV := hide (lenF_ge (f := f) hn hi)
      have CR := ih (n - halfN n) (i - halfN n) w (by omega) (by omega) (by omega) (by omega)
      have hb := lenF_le f (n - halfN n) (i - halfN n)
      rw [show ((n - halfN n : Nat) : Int) = (n : Int) - (halfN n : Int) by omega, show ((i - halfN n : Nat) : Int) = (i : Int) - (halfN n : Int) by omega] at CR
      generalize lenF f (n - halfN n) (i - halfN n) = L at *
      generalize halfN n = k at *
      have e1 : decide ((i : Int) < (k : Int)) = false := decide_eq_false (by omega)
      have e2 : decide (i < k) = false := decide_eq_false (by omega)
      clear ih
      go_enter Tryz.func80, Tryz.ntmps80
      go_wp2_with (first | ((with_reducible refine (CH _).mono ?_); rintro e w' ⟨rfl, rfl⟩) | ((with_reducible refine CR.mono ?_); rintro e w' ⟨rfl, rfl⟩))
      go_ret
      exact ⟨by rw [HV.out]; simp [Int.add_comm], rfl⟩
theorem rlen_any : ∀ f, RLenOk f
  | 0 => fun n i w h1 h2 => absurd h1 (by omega)
  | f + 1 => rlen_step f (rlen_any f)
theorem last_of {p : List (List UInt8)} {m : Nat} (h : p.length = m + 1) : ∃ q x, p = q ++ [x] ∧ q.length = m := by
  have hne : p ≠ [] := by rintro rfl; simp at h
  exact ⟨p.dropLast, p.getLast hne, (List.dropLast_concat_getLast hne).symm, by rw [List.length_dropLast, h]; rfl⟩
def RUpOk (f : Nat) : Prop := ∀ (n i : Nat) (d : List UInt8) (p : List (List UInt8)) (v : Value) (w : World), 1 ≤ n → n ≤ f → i < n → f ≤ 1000000000 → p.length = lenF f n i → d.length ≤ 1000000 → (∀ x ∈ p, x.length ≤ 1000000) → TextsAt w v p →
  Calls Tryz.prog 82 #[.int .i64 (n : Int), .int .i64 (i : Int), .string (bs d), v] w fun e w' => e = .returned (.string (bs (upG d f n i p.reverse false).1)) ∧ Below w.heap.size w w'
set_option maxRecDepth 100000 in
set_option maxHeartbeats 1000000 in
theorem rup_step (f : Nat) (ih : RUpOk f) : RUpOk (f + 1) := by
  intro n i d p v w h1 h2 h3 h4 hp hd hx hv
  by_cases hn : n = 1
  · subst hn
    rw [upG_one]
    have e0 : (((1 : Nat) : Int) == 1) = true := rfl
    clear ih hv hx hp
    go_enter Tryz.func82, Tryz.ntmps82
    go_wp2_with fail
    go_ret
    exact ⟨rfl, Below.refl _ _⟩
  · obtain ⟨a, b⟩ := half_lt (n := n) (by omega)
    have CH := fun w => rHalf_any n (by omega) w
    have e0 : ((n : Int) == 1) = false := by rw [beq_eq_false_iff_ne]; omega
    by_cases hi : i < halfN n
    · rw [lenF_lt hn hi] at hp
      obtain ⟨q, x, rfl, hq⟩ := last_of hp
      have hql : q.length ≤ f := by have := lenF_le f (halfN n) i; omega
      rw [List.reverse_append, List.reverse_singleton, List.singleton_append]
      have HV := hide (congrArg Prod.fst (upG_lt d (f := f) hn hi (x :: q.reverse) false))
      simp only [List.tail_cons, List.headD_cons] at HV
      rw [upG_fst d f (halfN n) i q.reverse _ false] at HV
      obtain ⟨A, c, rfl, hc⟩ := hv.slice
      have HT : TextsAt w (.slice A q.length c) q := by have := hv.take (k := q.length) (by simp) c (by simp at hc; omega); rwa [List.take_left'  rfl] at this
      obtain ⟨ad, rfl, ha, c0⟩ := hv.at_ (k := q.length) (x := x) (by simp)
      have CR := ih (halfN n) i d q _ w (by omega) (by omega) hi (by omega) (by omega) hd (fun y hy => hx y (by simp [hy])) HT
      have hub := upG_small hd f (halfN n) i q.reverse false
      generalize (upG d f (halfN n) i q.reverse false).1 = U at *
      have CN := fun w' => rnode_any U x (by omega) (by have := hx x (by simp); omega) w'
      generalize halfN n = k at *
      have e1 : decide ((i : Int) < (k : Int)) = true := decide_eq_true (by omega)
      have e2 : decide (i < k) = true := decide_eq_true (by omega)
      have i0 : (0 : Int) ≤ (q.length : Int) := by omega
      have i1 : (q.length : Int) ≤ (c : Int) := by simp at hc; omega
      have hlen : (q ++ [x]).length = q.length + 1 := by simp
      rw [hlen] at *
      clear ih hi hv HT hx hp hq
      go_enter Tryz.func82, Tryz.ntmps82
      go_wp2_with (first | ((with_reducible refine (CH _).mono ?_); rintro e w' ⟨rfl, rfl⟩) | ((with_reducible refine CR.mono ?_); rintro e w2 ⟨rfl, hb2⟩; have HB2 := hide hb2; clear hb2) | ((with_reducible refine (CN _).mono ?_); rintro e w3 ⟨rfl, hb3⟩; have HB3 := hide hb3; clear hb3))
      go_ret
      exact ⟨by rw [HV.out]; rfl, below_to HB2.out (Nat.le_refl _) HB3.out⟩
    · rw [lenF_ge hn hi] at hp
      obtain ⟨q, x, rfl, hq⟩ := last_of hp
      have hql : q.length ≤ f := by have := lenF_le f (n - halfN n) (i - halfN n); omega
      rw [List.reverse_append, List.reverse_singleton, List.singleton_append]
      have HV := hide (congrArg Prod.fst (upG_ge d (f := f) hn hi (x :: q.reverse) false))
      simp only [List.tail_cons, List.headD_cons] at HV
      rw [upG_fst d f (n - halfN n) (i - halfN n) q.reverse _ false] at HV
      obtain ⟨A, c, rfl, hc⟩ := hv.slice
      have HT : TextsAt w (.slice A q.length c) q := by have := hv.take (k := q.length) (by simp) c (by simp at hc; omega); rwa [List.take_left'  rfl] at this
      obtain ⟨ad, rfl, ha, c0⟩ := hv.at_ (k := q.length) (x := x) (by simp)
      have CR := ih (n - halfN n) (i - halfN n) d q _ w (by omega) (by omega) (by omega) (by omega) (by omega) hd (fun y hy => hx y (by simp [hy])) HT
      have hub := upG_small hd f (n - halfN n) (i - halfN n) q.reverse false
      rw [show ((n - halfN n : Nat) : Int) = (n : Int) - (halfN n : Int) by omega, show ((i - halfN n : Nat) : Int) = (i : Int) - (halfN n : Int) by omega] at CR
      generalize (upG d f (n - halfN n) (i - halfN n) q.reverse false).1 = U at *
      have CN := fun w' => rnode_any x U (by have := hx x (by simp); omega) (by omega) w'
      have hik : halfN n ≤ i := by omega
      generalize halfN n = k at *
      have e1 : decide ((i : Int) < (k : Int)) = false := decide_eq_false (by omega)
      have e2 : decide (i < k) = false := decide_eq_false (by omega)
      have i0 : (0 : Int) ≤ (q.length : Int) := by omega
      have i1 : (q.length : Int) ≤ (c : Int) := by simp at hc; omega
      have hlen : (q ++ [x]).length = q.length + 1 := by simp
      rw [hlen] at *
      clear ih hi hv HT hx hp hq
      go_enter Tryz.func82, Tryz.ntmps82
      go_wp2_with (first | ((with_reducible refine (CH _).mono ?_); rintro e w' ⟨rfl, rfl⟩) | ((with_reducible refine CR.mono ?_); rintro e w2 ⟨rfl, hb2⟩; have HB2 := hide hb2; clear hb2) | ((with_reducible refine (CN _).mono ?_); rintro e w3 ⟨rfl, hb3⟩; have HB3 := hide hb3; clear hb3))
      go_ret
      exact ⟨by rw [HV.out]; rfl, below_to HB2.out (Nat.le_refl _) HB3.out⟩
theorem rup_any : ∀ f, RUpOk f
  | 0 => fun n i d p v w h1 h2 => absurd h1 (by omega)
  | f + 1 => rup_step f (rup_any f)
end Go.Proofs.YtnjlefggkfagmaaGreatDoor

/- Walks of the reference of layer 2: the texts of a path, Check; Begins; Shown. -/
set_option linter.unusedVariables false
set_option linter.unusedSimpArgs false
namespace Go.Proofs.YtnjlefggkfagmaaGreatDoor
open Go.RowKit

theorem ptx_len (d : List UInt8) : ∀ (f n i : Nat) (st : List (List UInt8)), (ptxF d f n i st).length ≤ f
  | 0, _, _, _ => Nat.le_refl _
  | f + 1, n, i, st => by
    unfold ptxF
    split
    · simp
    · split
      · have := ptx_len d f (halfN n) i st.tail; simp; omega
      · have := ptx_len d f (n - halfN n) (i - halfN n) st.tail; simp; omega
theorem ptx_one (d : List UInt8) (f i : Nat) (st : List (List UInt8)) : ptxF d (f + 1) 1 i st = [] := by unfold ptxF; rw [if_pos rfl]
theorem ptx_lt (d : List UInt8) {f n i : Nat} (h : n ≠ 1) (hi : i < halfN n) (st : List (List UInt8)) : ptxF d (f + 1) n i st = ptxF d f (halfN n) i st.tail ++ [joinD [nodeT, (upG d f (halfN n) i st.tail false).1, st.headD []]] := by
  conv => lhs; unfold ptxF
  rw [if_neg h, if_pos hi]
theorem ptx_ge (d : List UInt8) {f n i : Nat} (h : n ≠ 1) (hi : ¬ i < halfN n) (st : List (List UInt8)) : ptxF d (f + 1) n i st = ptxF d f (n - halfN n) (i - halfN n) st.tail ++ [joinD [nodeT, st.headD [], (upG d f (n - halfN n) (i - halfN n) st.tail false).1]] := by
  conv => lhs; unfold ptxF
  rw [if_neg h, if_neg hi]
def RPtOk (f : Nat) : Prop := ∀ (n i : Nat) (d : List UInt8) (p : List (List UInt8)) (v : Value) (w : World), 1 ≤ n → n ≤ f → i < n → f ≤ 100000000 → p.length = lenF f n i → d.length ≤ 1000000 → (∀ x ∈ p, x.length ≤ 1000000) → TextsAt w v p →
  Calls Tryz.prog 40 #[.int .i64 (n : Int), .int .i64 (i : Int), .string (bs d), v] w (LvR (ptxF d f n i p.reverse) w)
set_option maxRecDepth 100000 in
set_option maxHeartbeats 2000000 in
theorem rpt_step (f : Nat) (ih : RPtOk f) : RPtOk (f + 1) := by
  intro n i d p v w h1 h2 h3 h4 hp hd hx hv
  by_cases hn : n = 1
  · subst hn
    rw [ptx_one]
    have e0 : (((1 : Nat) : Int) == 1) = true := rfl
    clear ih hv hx hp
    go_enter Tryz.func40, Tryz.ntmps40
    go_wp2_with fail
    go_ret
    exact ⟨_, rfl, World.ownsRow_nil _ _ _ _, Below.refl _ _⟩
  · obtain ⟨a, b⟩ := half_lt (n := n) (by omega)
    have CH := fun w => rHalf_any n (by omega) w
    have e0 : ((n : Int) == 1) = false := by rw [beq_eq_false_iff_ne]; omega
    by_cases hi : i < halfN n
    · rw [lenF_lt hn hi] at hp
      obtain ⟨q, x, rfl, hq⟩ := last_of hp
      have hql : q.length ≤ f := by have := lenF_le f (halfN n) i; omega
      rw [List.reverse_append, List.reverse_singleton, List.singleton_append]
      have HV := hide (ptx_lt d (f := f) hn hi (x :: q.reverse))
      simp only [List.tail_cons, List.headD_cons] at HV
      obtain ⟨A, c, rfl, hc⟩ := hv.slice
      have HT : TextsAt w (.slice A q.length c) q := by have := hv.take (k := q.length) (by simp) c (by simp at hc; omega); rwa [List.take_left' rfl] at this
      obtain ⟨ad, rfl, ha, c0⟩ := hv.at_ (k := q.length) (x := x) (by simp)
      have CR := ih (halfN n) i d q _ w (by omega) (by omega) hi (by omega) (by omega) hd (fun y hy => hx y (by simp [hy])) HT
      unfold LvR at CR
      have CU := fun (w' : World) (hb : Below w.heap.size w w') => rup_any f (halfN n) i d q _ w' (by omega) (by omega) hi (by omega) (by omega) hd (fun y hy => hx y (by simp [hy])) (HT.to hb)
      have hub := upG_small hd f (halfN n) i q.reverse false
      have hpl := ptx_len d f (halfN n) i q.reverse
      have hxl := hx x (by simp)
      generalize (upG d f (halfN n) i q.reverse false).1 = U at *
      generalize ptxF d f (halfN n) i q.reverse = L at *
      have CJ := fun (w' : World) (g : Nat) => join_nodeB (a := U) (b := x) (by omega) (by omega) w' g
      generalize joinD [nodeT, U, x] = J at *
      have hik : halfN n ≤ i ∨ i < halfN n := by omega
      generalize halfN n = k at *
      have e1 : decide ((i : Int) < (k : Int)) = true := decide_eq_true (by omega)
      have e2 : decide (i < k) = true := decide_eq_true (by omega)
      have i0 : (0 : Int) ≤ (q.length : Int) := by omega
      have i1 : (q.length : Int) ≤ (c : Int) := by simp at hc; omega
      have hlen : (q ++ [x]).length = q.length + 1 := by simp
      rw [hlen] at *
      clear ih hv HT hx hp hq
      go_enter Tryz.func40, Tryz.ntmps40
      go_wp2_with (first | ((with_reducible refine (CH _).mono ?_); rintro e w' ⟨rfl, rfl⟩) | ((with_reducible refine CR.mono ?_); rintro e w2 ⟨v2, rfl, ho2, hb2⟩; have CU := CU _ hb2; have HB2 := hide hb2; have HO2 := hide ho2; clear hb2 ho2) | ((with_reducible refine CU.mono ?_); rintro e w3 ⟨rfl, hb3⟩; have HB3 := hide (below_to HB2.out (Nat.le_refl _) hb3); have HO3 := hide (own_to4 HO2.out hb3); clear hb3 HB2 HO2 CU CR))
      have CJ1 := CJ (w3.alloc (.cells #[.string ⟨#[110, 111, 100, 101]⟩, .string (bs U), .string (bs x)] 9)) w3.heap.size (Blk.new _ _ _)
      refine CJ1.mono ?_
      rintro e w4 ⟨rfl, hb⟩
      have hb4 := below_to (below_one w3 (.cells #[.string ⟨#[110, 111, 100, 101]⟩, .string (bs U), .string (bs x)] 9)) (Nat.le_refl _) hb
      have HB4 := hide (below_to HB3.out (Nat.le_refl _) hb4)
      have HO4 := hide (own_to4 HO3.out hb4)
      clear hb hb4 HB3 HO3 CJ1 CJ
      go_wp2_with (at_builtin; refine wpList_append_texts rfl (.tmp 34) (.tmp 43) rfl w'.heap.size v2 L rfl (own_to4 HO4.out (below_one w4 (.cells #[.string (bs J)] 9))) (.slice (some ⟨w4.heap.size, 0, none⟩) 1 1) [J] rfl (TextsAt.of_blk (ls := [J]) (Blk.new w4 9 #[.string (bs J)]) rfl) (by simp; omega) (by have := HB4.out.size; simp; omega) ?_)
      intro v5 w5 ho5 hg5 _
      have HB5 := hide ((below_alloc HB4.out (Nat.le_refl _) (.cells #[.string (bs J)] 9)).trans (below_grown hg5 (by have := HB4.out.size; simp; omega) (fun g e => (own_blk_lt HO4.out g e).1)))
      have HO5 := hide ho5
      clear ho5 hg5
      go_wp2_with fail
      go_ret
      exact ⟨v5, rfl, by rw [HV.out]; exact HO5.out, HB5.out⟩
    · rw [lenF_ge hn hi] at hp
      obtain ⟨q, x, rfl, hq⟩ := last_of hp
      have hql : q.length ≤ f := by have := lenF_le f (n - halfN n) (i - halfN n); omega
      rw [List.reverse_append, List.reverse_singleton, List.singleton_append]
      have HV := hide (ptx_ge d (f := f) hn hi (x :: q.reverse))
      simp only [List.tail_cons, List.headD_cons] at HV
      obtain ⟨A, c, rfl, hc⟩ := hv.slice
      have HT : TextsAt w (.slice A q.length c) q := by have := hv.take (k := q.length) (by simp) c (by simp at hc; omega); rwa [List.take_left' rfl] at this
      obtain ⟨ad, rfl, ha, c0⟩ := hv.at_ (k := q.length) (x := x) (by simp)
      have CR := ih (n - halfN n) (i - halfN n) d q _ w (by omega) (by omega) (by omega) (by omega) (by omega) hd (fun y hy => hx y (by simp [hy])) HT
      unfold LvR at CR
      rw [show ((n - halfN n : Nat) : Int) = (n : Int) - (halfN n : Int) by omega, show ((i - halfN n : Nat) : Int) = (i : Int) - (halfN n : Int) by omega] at CR
      have CU := fun (w' : World) (hb : Below w.heap.size w w') => rup_any f (n - halfN n) (i - halfN n) d q _ w' (by omega) (by omega) (by omega) (by omega) (by omega) hd (fun y hy => hx y (by simp [hy])) (HT.to hb)
      simp only [show ((n - halfN n : Nat) : Int) = (n : Int) - (halfN n : Int) by omega, show ((i - halfN n : Nat) : Int) = (i : Int) - (halfN n : Int) by omega] at CU
      have hub := upG_small hd f (n - halfN n) (i - halfN n) q.reverse false
      have hpl := ptx_len d f (n - halfN n) (i - halfN n) q.reverse
      have hxl := hx x (by simp)
      generalize (upG d f (n - halfN n) (i - halfN n) q.reverse false).1 = U at *
      generalize ptxF d f (n - halfN n) (i - halfN n) q.reverse = L at *
      have CJ := fun (w' : World) (g : Nat) => join_nodeB (a := x) (b := U) (by omega) (by omega) w' g
      generalize joinD [nodeT, x, U] = J at *
      have hik : halfN n ≤ i ∨ i < halfN n := by omega
      generalize halfN n = k at *
      have e1 : decide ((i : Int) < (k : Int)) = false := decide_eq_false (by omega)
      have e2 : decide (i < k) = false := decide_eq_false (by omega)
      have i0 : (0 : Int) ≤ (q.length : Int) := by omega
      have i1 : (q.length : Int) ≤ (c : Int) := by simp at hc; omega
      have hlen : (q ++ [x]).length = q.length + 1 := by simp
      rw [hlen] at *
      clear ih hv HT hx hp hq
      go_enter Tryz.func40, Tryz.ntmps40
      go_wp2_with (first | ((with_reducible refine (CH _).mono ?_); rintro e w' ⟨rfl, rfl⟩) | ((with_reducible refine CR.mono ?_); rintro e w2 ⟨v2, rfl, ho2, hb2⟩; have CU := CU _ hb2; have HB2 := hide hb2; have HO2 := hide ho2; clear hb2 ho2) | ((with_reducible refine CU.mono ?_); rintro e w3 ⟨rfl, hb3⟩; have HB3 := hide (below_to HB2.out (Nat.le_refl _) hb3); have HO3 := hide (own_to4 HO2.out hb3); clear hb3 HB2 HO2 CU CR))
      have CJ1 := CJ (w3.alloc (.cells #[.string ⟨#[110, 111, 100, 101]⟩, .string (bs x), .string (bs U)] 9)) w3.heap.size (Blk.new _ _ _)
      refine CJ1.mono ?_
      rintro e w4 ⟨rfl, hb⟩
      have hb4 := below_to (below_one w3 (.cells #[.string ⟨#[110, 111, 100, 101]⟩, .string (bs x), .string (bs U)] 9)) (Nat.le_refl _) hb
      have HB4 := hide (below_to HB3.out (Nat.le_refl _) hb4)
      have HO4 := hide (own_to4 HO3.out hb4)
      clear hb hb4 HB3 HO3 CJ1 CJ
      go_wp2_with (at_builtin; refine wpList_append_texts rfl (.tmp 53) (.tmp 66) rfl w'.heap.size v2 L rfl (own_to4 HO4.out (below_one w4 (.cells #[.string (bs J)] 9))) (.slice (some ⟨w4.heap.size, 0, none⟩) 1 1) [J] rfl (TextsAt.of_blk (ls := [J]) (Blk.new w4 9 #[.string (bs J)]) rfl) (by simp; omega) (by have := HB4.out.size; simp; omega) ?_)
      intro v5 w5 ho5 hg5 _
      have HB5 := hide ((below_alloc HB4.out (Nat.le_refl _) (.cells #[.string (bs J)] 9)).trans (below_grown hg5 (by have := HB4.out.size; simp; omega) (fun g e => (own_blk_lt HO4.out g e).1)))
      have HO5 := hide ho5
      clear ho5 hg5
      go_wp2_with fail
      go_ret
      exact ⟨v5, rfl, by rw [HV.out]; exact HO5.out, HB5.out⟩
theorem rpt_any : ∀ f, RPtOk f
  | 0 => fun n i d p v w h1 h2 => absurd h1 (by omega)
  | f + 1 => rpt_step f (rpt_any f)
set_option maxRecDepth 100000 in
set_option maxHeartbeats 2000000 in
theorem rCheck_any (root : List UInt8) (n i : Int) (leaf : List UInt8) (p : List (List UInt8)) (hl : leaf.length ≤ 1000000) (hp : p.length ≤ 1000000000) (hx : ∀ x ∈ p, x.length ≤ 1000000) (v : Value) (w : World) (hv : TextsAt w v p) :
    Calls Tryz.prog 34 #[.string (bs root), .int .i64 n, .int .i64 i, .string (bs leaf), v] w fun e w' => e = .returned (.bool (checkV root n i leaf p)) ∧ Below w.heap.size w w' := by
  obtain ⟨A, c, rfl, hc⟩ := hv.slice
  by_cases hA : n ≤ 1000000 ∧ 0 ≤ i ∧ i < n
  · obtain ⟨N, rfl⟩ : ∃ N : Nat, n = N := ⟨n.toNat, by omega⟩
    obtain ⟨I, rfl⟩ : ∃ I : Nat, i = I := ⟨i.toNat, by omega⟩
    obtain ⟨a1, a2, a3⟩ := hA
    rw [checkV_ref root leaf N I p (by omega) (by omega)]
    have CL := fun w => rlen_any N N I w (by omega) (Nat.le_refl _) (by omega) (by omega)
    have CD := fun (w' : World) (hb : Below w.heap.size w w') => rdigests_any p (by omega) (fun x h => Nat.le_trans (hx x h) (by decide)) _ w' (hv.to hb)
    have CI := fun w => rIs_any leaf (by omega) w
    have hll := lenF_le N N I
    have c1 : decide ((1000000 : Int) < (N : Int)) = false := decide_eq_false (by omega)
    have c1' : decide (1000000 < N) = false := decide_eq_false (by omega)
    have c2 : decide ((I : Int) < 0) = false := decide_eq_false (by omega)
    have c3 : decide ((N : Int) ≤ (I : Int)) = false := decide_eq_false (by omega)
    have c3' : decide (N ≤ I) = false := decide_eq_false (by omega)
    by_cases hlen : p.length = lenF N N I
    · have CU := fun (w' : World) (hb : Below w.heap.size w w') => rup_any N N I leaf p _ w' (by omega) (Nat.le_refl _) (by omega) (by omega) hlen hl hx (hv.to hb)
      have c4 : ((p.length : Int) != ((lenF N N I : Nat) : Int)) = false := by rw [hlen]; simp
      have c4' : (p.length != lenF N N I) = false := by rw [hlen]; simp
      rw [decide_eq_true hlen]
      generalize (upG leaf N N I p.reverse false).1 = U at *
      have q : ((bs U).toList == (bs root).toList) = decide (U = root) := by rw [bs_toList, bs_toList, Bool.eq_iff_iff]; simp
      generalize decide (U = root) = r at *
      generalize lenF N N I = L at *
      have CD := CD w (Below.refl _ _)
      have CU := CU w (Below.refl _ _)
      clear hv hx hlen
      generalize properT p = b1 at *
      generalize isD leaf = b2 at *
      cases b1
      rotate_left
      cases b2
      rotate_left
      all_goals
        go_enter Tryz.func34, Tryz.ntmps34
        go_wp2_with (first | ((with_reducible refine (CL _).mono ?_); rintro e w' ⟨rfl, rfl⟩) | ((with_reducible refine CD.mono ?_); rintro e w' ⟨rfl, rfl⟩) | ((with_reducible refine (CI _).mono ?_); rintro e w' ⟨rfl, rfl⟩) | ((with_reducible refine CU.mono ?_); rintro e w2 ⟨rfl, hb2⟩))
        go_ret
        first
          | exact ⟨rfl, Below.refl _ _⟩
          | exact ⟨ret_bool (by simp [q]), hb2⟩
    · have c4 : ((p.length : Int) != ((lenF N N I : Nat) : Int)) = true := by rw [bne_iff_ne]; omega
      have c4' : (p.length != lenF N N I) = true := by rw [bne_iff_ne]; omega
      rw [decide_eq_false hlen]
      generalize lenF N N I = L at *
      clear hv hx hlen CD CI
      go_enter Tryz.func34, Tryz.ntmps34
      go_wp2_with ((with_reducible refine (CL _).mono ?_); rintro e w' ⟨rfl, rfl⟩)
      go_ret
      exact ⟨rfl, Below.refl _ _⟩
  · rw [show checkV root n i leaf p = false by unfold checkV; rw [if_neg (fun h => hA ⟨h.1, h.2.1, h.2.2.1⟩)]]
    have hh : (decide (1000000 < n) || (decide (i < 0) || decide (n ≤ i))) = true := by simp only [Bool.or_eq_true, decide_eq_true_eq]; omega
    clear hA hv hx
    generalize c1 : decide (1000000 < n) = b1 at *
    generalize c2 : decide (i < 0) = b2 at *
    generalize c3 : decide (n ≤ i) = b3 at *
    cases b1 <;> cases b2 <;> cases b3 <;> (try cases hh)
    all_goals
      go_enter Tryz.func34, Tryz.ntmps34
      go_wp2_with fail
      go_ret
      exact ⟨rfl, Below.refl _ _⟩
def beginsV (l p : List (List UInt8)) : Bool := decide (p.length ≤ l.length) && decide (l.take p.length = p)
end Go.Proofs.YtnjlefggkfagmaaGreatDoor

/- Walks of the reference: Formed; Shown. -/
set_option linter.unusedVariables false
set_option linter.unusedSimpArgs false
namespace Go.Proofs.YtnjlefggkfagmaaGreatDoor
open Go.RowKit

def okUp (p : Pg) (k : Nat) : Prop := ∀ (j : Nat) (h : j < p.items.length), j < k → okPart p.items[j] (p.paths.getD j []) = true
theorem okUp_step {p : Pg} {k : Nat} {x : List UInt8} {q : List (List UInt8)} (h : okUp p k) (hx : p.items[k]? = some x) (hq : p.paths[k]? = some q) (ho : okPart x q = true) : okUp p (k + 1) := fun j hj hk => by
  rcases Nat.lt_or_ge j k with h1 | h1
  · exact h j hj h1
  · obtain rfl : j = k := by omega
    rw [List.getElem?_eq_getElem hj] at hx
    rw [Option.some.inj hx, List.getD_eq_getElem?_getD, hq]; exact ho
theorem okUp_all {p : Pg} (h : headB p = true) (ho : okUp p p.items.length) : formedB p = true := by
  unfold formedB
  rw [h, Bool.true_and]
  exact List.all_eq_true.2 fun k _ => ho k k.2 k.2
theorem okUp_no {p : Pg} {k : Nat} {x : List UInt8} {q : List (List UInt8)} (hx : p.items[k]? = some x) (hq : p.paths[k]? = some q) (ho : okPart x q = false) : formedB p = false := by
  unfold formedB
  rw [Bool.and_eq_false_iff]
  right
  rw [List.all_eq_false]
  have hk := (List.getElem?_eq_some_iff.1 hx).1
  refine ⟨⟨k, hk⟩, List.mem_finRange _, ?_⟩
  unfold Pg.okAt
  rw [List.getElem?_eq_getElem hk] at hx
  show ¬ okPart p.items[k] _ = true
  rw [Option.some.inj hx, List.getD_eq_getElem?_getD, hq]
  show ¬ okPart x q = true
  rw [ho]; simp
theorem part_yes {x : List UInt8} {q : List (List UInt8)} (h1 : x.length ≤ 20000) (h2 : q.length ≤ 20) (h3 : q.all isD = true) : okPart x q = true := by
  unfold okPart pathB
  simp only [Bool.and_eq_true, Bool.not_eq_true', List.any_eq_false, decide_eq_true_eq]
  exact ⟨⟨fun y hy => by rw [List.all_eq_true.1 h3 y hy]; simp, h2⟩, h1⟩
theorem part_no {x : List UInt8} {q : List (List UInt8)} (h : 20000 < x.length ∨ 20 < q.length ∨ q.all isD = false) : okPart x q = false := by
  cases ho : okPart x q with
  | false => rfl
  | true =>
    obtain ⟨h1, h2, h3⟩ := okPart_spec ho
    rcases h with h | h | h
    · omega
    · omega
    · rw [List.all_eq_true.2 h1] at h; cases h
set_option maxRecDepth 100000 in
set_option maxHeartbeats 4000000 in
theorem rFormed_no (p : Pg) (hl : p.root.length ≤ 100000) (h : headB p = false) (vi vp : Value) (w : World) (hvi : TextsAt w vi p.items) (hvp : PathsAt w vp p.paths) :
    Calls Tryz.prog 33 #[.agg (p.cs vi vp)] w fun e w' => e = .returned (.bool false) ∧ Below w.heap.size w w' := by
  have CI := fun w' : World => rIs_any p.root (by omega) w'
  obtain ⟨Ai, ci, rfl, hci⟩ := hvi.slice
  obtain ⟨Ap, cp, rfl, hcp⟩ := hvp.slice
  rw [conds_of] at h
  unfold conds at h
  simp only [List.any_cons, List.any_nil, id, Bool.or_false, Bool.not_eq_false'] at h
  unfold Pg.cs
  clear hvi hvp
  generalize c1 : decide (p.fr < 0) = b1 at *
  generalize c2 : decide (10000 < p.fr) = b2 at *
  generalize c3 : decide (p.size < 0) = b3 at *
  generalize c4 : decide (10000 < p.size) = b4 at *
  obtain ⟨b5, c5⟩ : ∃ b, isD p.root = !b := ⟨!isD p.root, by simp⟩
  rw [c5] at CI h
  rw [Bool.not_not] at h
  generalize c6 : decide (50 < (p.items.length : Int)) = b6 at *
  obtain ⟨b7, c7⟩ : ∃ b, decide (p.paths.length = p.items.length) = !b := ⟨!decide (p.paths.length = p.items.length), by simp⟩
  rw [c7, Bool.not_not] at h
  have c8 : ((p.paths.length : Int) != (p.items.length : Int)) = b7 := by
    rw [show ((p.paths.length : Int) != (p.items.length : Int)) = !decide (p.paths.length = p.items.length) from congrArg not (decide_eq_decide.2 (by omega)), c7, Bool.not_not]
  cases b1
  cases b2
  cases b3
  cases b4
  cases b5
  cases b6
  cases b7
  · cases h
  all_goals (try simp only [Bool.not_false, Bool.not_true] at CI)
  all_goals (try simp only [Bool.not_false, Bool.not_true] at c7)
  all_goals
    go_enter Tryz.func33, Tryz.ntmps33
    go_wp2_with ((with_reducible refine (CI _).mono ?_); rintro e w2 ⟨rfl, rfl⟩)
    go_ret
    exact ⟨rfl, below_one _ _⟩
set_option maxRecDepth 100000 in
set_option maxHeartbeats 4000000 in
theorem rFormed_in (p : Pg) (hl : p.root.length ≤ 100000) (hi : ∀ x ∈ p.items, x.length ≤ 100000) (hq' : ∀ q ∈ p.paths, q.length ≤ 200000 ∧ ∀ x ∈ q, x.length ≤ 100000) (h : headB p = true) (vi vp : Value) (w : World) (hvi : TextsAt w vi p.items) (hvp : PathsAt w vp p.paths) :
    Calls Tryz.prog 33 #[.agg (p.cs vi vp)] w fun e w' => e = .returned (.bool (formedB p)) ∧ Below w.heap.size w w' := by
  have CI := fun w' : World => rIs_any p.root (by omega) w'
  have HYes := hide (okUp_all (p := p) h)
  have HI := hide hi
  have HQ := hide hq'
  have hh := h
  unfold headB at hh
  simp only [Bool.and_eq_true, decide_eq_true_eq] at hh
  obtain ⟨h1, h2, h3, h4, h5⟩ := hh
  rw [h3] at CI
  obtain ⟨Ai, ci, rfl, hci⟩ := hvi.slice
  obtain ⟨Ap, cp, rfl, hcp⟩ := hvp.slice
  have hb0 := below_one w (.cells #[.int .i64 p.fr, .int .i64 p.size, .string (bs p.root), .slice Ai p.items.length ci, .slice Ap p.paths.length cp] 38)
  have HVI := hide (hvi.to hb0)
  have HVP := hide (hvp.to hb0)
  have HB := hide hb0
  obtain ⟨x0, x1, x2, x3, x4⟩ := page_cells (Blk.new w 38 (p.cs (.slice Ai p.items.length ci) (.slice Ap p.paths.length cp)))
  unfold Pg.cs at x0 x1 x2 x3 x4 ⊢
  have c1 : decide (p.fr < 0) = false := decide_eq_false (by omega)
  have c2 : decide (10000 < p.fr) = false := decide_eq_false (by omega)
  have c3 : decide (p.size < 0) = false := decide_eq_false (by omega)
  have c4 : decide (10000 < p.size) = false := decide_eq_false (by omega)
  have c6 : decide (50 < (p.items.length : Int)) = false := decide_eq_false (by omega)
  have c6' : decide (50 < p.items.length) = false := decide_eq_false (by omega)
  have HPL : Hid (p.paths.length = p.items.length) := h5
  have c8 : ((p.paths.length : Int) != (p.items.length : Int)) = false := by rw [h5]; simp
  have c9 : (p.paths.length != p.items.length) = false := by rw [h5]; simp
  clear hvi hvp hi hq' h hb0 h1 h2 h3 h5
  go_enter Tryz.func33, Tryz.ntmps33
  go_wp2_with ((with_reducible refine (CI _).mono ?_); rintro e w2 ⟨rfl, e9⟩; subst e9)
  generalize w.alloc (.cells #[.int .i64 p.fr, .int .i64 p.size, .string (bs p.root), .slice Ai p.items.length ci, .slice Ap p.paths.length cp] 38) = w1 at *
  clear CI
  go_loopw [3] (fun i wr => ∃ k : Nat, i = .int .i64 (k : Int) ∧ k ≤ p.items.length ∧ wr = w1 ∧ Aside (okUp p k)) (fun i _ => p.items.length - (intOf i).toNat)
  case atStart => exact ⟨0, rfl, by omega, rfl, fun j _ h => absurd h (by omega)⟩
  case round =>
    obtain ⟨k, rfl, hk, rfl, hO⟩ := hrel
    have HO : Hid (okUp p k) := hO
    clear hO
    by_cases hlt : k < p.items.length
    · have e1 : decide ((k : Int) < (p.items.length : Int)) = true := decide_eq_true (by omega)
      obtain ⟨x, hx⟩ : ∃ x, p.items[k]? = some x := ⟨_, List.getElem?_eq_getElem hlt⟩
      obtain ⟨q, hq⟩ : ∃ q, p.paths[k]? = some q := ⟨_, List.getElem?_eq_getElem (by have := HPL.out; omega)⟩
      obtain ⟨a, rfl, ha, c0⟩ := HVI.out.at_ hx
      obtain ⟨b, vq, rfl, hb, d0, htq⟩ := HVP.out.at_ hq
      obtain ⟨Aq, cq, rfl, hcq⟩ := htq.slice
      have HTQ := hide htq
      have hxl := HI.out x (List.mem_of_getElem? hx)
      have hql := (HQ.out q (List.mem_of_getElem? hq)).1
      have HQX := hide (HQ.out q (List.mem_of_getElem? hq)).2
      have hsz : (bs x).size = x.length := bs_size x
      have i0 : (0 : Int) ≤ (k : Int) := by omega
      have i1 : (k : Int) < (p.items.length : Int) := by omega
      have i2 : (k : Int) < (p.paths.length : Int) := by have := HPL.out; omega
      have HST := hide (okUp_step HO.out hx hq)
      have HNO := hide (okUp_no hx hq)
      clear hx hq htq
      by_cases hx2 : x.length ≤ 20000
      · have f1 : decide ((20000 : Int) < (x.length : Int)) = false := decide_eq_false (by omega)
        have f1' : decide (20000 < x.length) = false := decide_eq_false (by omega)
        by_cases hq2 : q.length ≤ 20
        · have f2 : decide ((20 : Int) < (q.length : Int)) = false := decide_eq_false (by omega)
          have f2' : decide (20 < q.length) = false := decide_eq_false (by omega)
          go_wp2_with fail
          go_loopw [4] (fun i wq => ∃ j : Nat, i = .int .i64 (j : Int) ∧ j ≤ q.length ∧ wq = wr ∧ Aside ((q.take j).all isD = true)) (fun i _ => q.length - (intOf i).toNat)
          case atStart => exact ⟨0, rfl, by omega, rfl, rfl⟩
          case round =>
            rename_i wr0
            obtain ⟨j, rfl, hj, hww, hA⟩ := hrel
            subst hww
            have HA : Hid ((q.take j).all isD = true) := hA
            clear hA
            by_cases hjl : j < q.length
            · have g1 : decide ((j : Int) < (q.length : Int)) = true := decide_eq_true (by omega)
              obtain ⟨y, hy⟩ : ∃ y, q[j]? = some y := ⟨_, List.getElem?_eq_getElem hjl⟩
              obtain ⟨aq, rfl, haq, y0⟩ := HTQ.out.at_ hy
              have j0 : (0 : Int) ≤ (j : Int) := by omega
              have j1 : (j : Int) < (q.length : Int) := by omega
              have CY := fun w => rIs_any y (Nat.le_trans (HQX.out y (List.mem_of_getElem? hy)) (by decide)) w
              cases hd : isD y with
              | true =>
                have HN : Hid ((q.take (j + 1)).all isD = true) := by show _ = _; rw [all_step hy, HA.out, hd]; rfl
                rw [hd] at CY
                clear hy hd
                go_wp2_with ((with_reducible refine (CY _).mono ?_); rintro e w9 ⟨rfl, e9⟩; subst e9)
                refine ⟨⟨j + 1, by go_num, by omega, trivial, HN.out⟩, ?_⟩
                simp [intOf]; omega
              | false =>
                have HN : Hid (formedB p = false) := HNO.out (part_no (.inr (.inr (all_no hy hd))))
                rw [hd] at CY
                clear hy hd
                go_wp2_with ((with_reducible refine (CY _).mono ?_); rintro e w9 ⟨rfl, e9⟩; subst e9)
                go_ret
                exact ⟨ret_bool (by rw [HN.out]), HB.out⟩
            · obtain rfl : j = q.length := by omega
              have g1 : decide ((q.length : Int) < (q.length : Int)) = false := by simp
              have HN : Hid (okUp p (k + 1)) := HST.out (part_yes hx2 hq2 (by have := HA.out; rwa [List.take_length] at this))
              go_wp2_with fail
              refine ⟨⟨k + 1, by go_num, by omega, trivial, HN.out⟩, ?_⟩
              simp [intOf]; omega
        · have f2 : decide ((20 : Int) < (q.length : Int)) = true := decide_eq_true (by omega)
          have f2' : decide (20 < q.length) = true := decide_eq_true (by omega)
          have HN : Hid (formedB p = false) := HNO.out (part_no (.inr (.inl (by omega))))
          go_wp2_with fail
          go_ret
          exact ⟨ret_bool (by rw [HN.out]), HB.out⟩
      · have f1 : decide ((20000 : Int) < (x.length : Int)) = true := decide_eq_true (by omega)
        have f1' : decide (20000 < x.length) = true := decide_eq_true (by omega)
        have HN : Hid (formedB p = false) := HNO.out (part_no (.inl (by omega)))
        go_wp2_with fail
        go_ret
        exact ⟨ret_bool (by rw [HN.out]), HB.out⟩
    · obtain rfl : k = p.items.length := by omega
      have e1 : decide ((p.items.length : Int) < (p.items.length : Int)) = false := by simp
      have HN := hide (HYes.out HO.out)
      go_wp2_with fail
      go_ret
      exact ⟨ret_bool (by rw [HN.out]), HB.out⟩
theorem rFormed_any (p : Pg) (hp : p.fit) (vi vp : Value) (w : World) (hvi : TextsAt w vi p.items) (hvp : PathsAt w vp p.paths) :
    Calls Tryz.prog 33 #[.agg (p.cs vi vp)] w fun e w' => e = .returned (.bool (formedB p)) ∧ Below w.heap.size w w' := by
  cases h : headB p with
  | true => exact rFormed_in p hp.lr hp.li (fun q hq => ⟨hp.nq q hq, hp.lq q hq⟩) h vi vp w hvi hvp
  | false => rw [show formedB p = false by unfold formedB; rw [h]; rfl]; exact rFormed_no p hp.lr h vi vp w hvi hvp
end Go.Proofs.YtnjlefggkfagmaaGreatDoor

/- The walk of the reference's Shown at a list that shows it. -/
set_option linter.unusedVariables false
set_option linter.unusedSimpArgs false
namespace Go.Proofs.YtnjlefggkfagmaaGreatDoor
open Go.RowKit

/-- two different texts of the list have one digest -/
def CollIn (l : List (List UInt8)) : Prop := Coll l l
def hitAt (l : List (List UInt8)) (i k : Nat) : Prop := ∃ x y, l[i]? = some x ∧ l[k]? = some y ∧ sumD x = sumD y ∧ x ≠ y
theorem coll_hit {l : List (List UInt8)} (h : CollIn l) : ∃ i k, k < i ∧ i < l.length ∧ hitAt l i k := by
  obtain ⟨s, hs, t, ht, hne, hd⟩ := h
  obtain ⟨a, ha, rfl⟩ := List.getElem_of_mem hs
  obtain ⟨b, hb, rfl⟩ := List.getElem_of_mem ht
  rcases Nat.lt_trichotomy a b with h | h | h
  · exact ⟨b, a, h, hb, _, _, List.getElem?_eq_getElem hb, List.getElem?_eq_getElem ha, hd.symm, fun e => hne e.symm⟩
  · subst h; exact absurd rfl hne
  · exact ⟨a, b, h, ha, _, _, List.getElem?_eq_getElem ha, List.getElem?_eq_getElem hb, hd, hne⟩
def noHit (l : List (List UInt8)) (i : Nat) : Prop := ∀ i', i' < i → ∀ k, k < i' → ¬ hitAt l i' k
def noHit2 (l : List (List UInt8)) (i k : Nat) : Prop := ∀ k', k' < k → ¬ hitAt l i k'
set_option maxRecDepth 100000 in
set_option maxHeartbeats 4000000 in
theorem Shown_yes (l : List (List UInt8)) (hn : l.length ≤ 1000000) (hx : ∀ x ∈ l, x.length ≤ 1000000) (h : CollIn l) (v : Value) (w : World) (hv : TextsAt w v l) :
    Calls Tryz.prog 13 #[v] w fun e w' => e = .returned (.bool true) ∧ Below w.heap.size w w' := by
  have HH := hide (coll_hit h)
  obtain ⟨A, c, rfl, _⟩ := hv.slice
  have HS := hide hv
  have HX := hide hx
  obtain ⟨i0, hi0, hz0, hz1, hz2⟩ := info_parts info_str
  clear hv hx h
  go_enter Tryz.func13, Tryz.ntmps13
  go_wp2_with fail
  go_loopw [3, 4] (fun o i wr => ∃ k : Nat, i = .int .i64 (k : Int) ∧ k ≤ l.length ∧ Aside (OwnT wr w.heap.size o ((l.map sumD).take k)) ∧ Aside (Below w.heap.size w wr)) (fun _ i _ => l.length - (intOf i).toNat)
  case atStart => exact ⟨0, rfl, by omega, World.ownsRow_nil _ _ _ _, Below.refl _ _⟩
  case round =>
    obtain ⟨k, rfl, hk, hO, hB⟩ := hrel
    have HO : Hid (OwnT wr w.heap.size _ ((l.map sumD).take k)) := hO
    have HB : Hid (Below w.heap.size w wr) := hB
    have htl : ((l.map sumD).take k).length = k := by rw [List.length_take, List.length_map]; omega
    obtain ⟨Ao, co, rfl⟩ := own_sl4 hO
    clear hO hB
    rw [htl] at HO ⊢
    by_cases hlt : k < l.length
    · have e1 : decide ((k : Int) < (l.length : Int)) = true := decide_eq_true (by omega)
      obtain ⟨x, hx⟩ : ∃ x, l[k]? = some x := ⟨_, List.getElem?_eq_getElem hlt⟩
      obtain ⟨a, rfl, ha, c0⟩ := (HS.out.to HB.out).at_ hx
      have hxl := HX.out x (List.mem_of_getElem? hx)
      have CL := fun w => rSum_any x (by omega) w
      have HSN : Hid ((l.map sumD).take (k + 1) = (l.map sumD).take k ++ [sumD x]) := by show _ = _; rw [List.take_add_one, List.getElem?_map, hx]; rfl
      have HO1 : Hid (wr.ownsRow w.heap.size 9 1 (.slice Ao k co) k (flatS ((l.map sumD).take k))) := by
        have := HO.out
        unfold OwnT at this
        rw [htl] at this
        exact this
      have HSZ : Hid (w.heap.size ≤ wr.heap.size) := HB.out.size
      generalize sumD x = d at *
      generalize (l.map sumD).take k = L at *
      clear hx HO
      go_wp2_with (first | ((with_reducible refine (CL _).mono ?_); rintro e w4 ⟨rfl, e9⟩; subst e9) | (at_builtin; refine wpList_append_own _ rfl (.tmp 13) (.tmp 19) _ rfl w.heap.size 9 i0 (.string ⟨#[]⟩) 1 16 Tryz.underlying22 hi0 hz0 hz1 hz2 rfl (by omega) _ k (flatS L) rfl ?c0 ⟨_, 0, none⟩ 1 1 [.string (bs d)] rfl rfl ?c1 ?c2 ?c4 ?c5 ?c3 ?_))
      case c0 => exact own_to4 HO1.out (below_one _ _)
      case c1 => exact cells_new4 (xs := [.string (bs d)]) (by simp)
      case c2 => intro u hu; simp only [List.mem_cons, List.not_mem_nil, or_false] at hu; rcases hu with rfl; rfl
      case c4 => simp only [maxLen]; omega
      case c5 => omega
      case c3 => have := HSZ.out; simp; omega
      intro v' w6 hown6 hgr6 _
      have HB6 := hide ((below_alloc HB.out (Nat.le_refl _) _).grown hgr6 (by have := HSZ.out; simp; omega) (fun b hb => (HO1.out.lt b hb).1))
      have HO6 : Hid (OwnT w6 w.heap.size v' ((l.map sumD).take (k + 1))) := by
        rw [HSN.out]
        show World.ownsRow _ _ _ _ _ _ _
        rw [flatS_snoc, List.length_append, htl]
        exact hown6
      clear hown6 hgr6
      go_wp2_with fail
      refine ⟨⟨k + 1, by go_num, by omega, HO6.out, HB6.out⟩, ?_⟩
      simp [intOf]; omega
    · obtain rfl : k = l.length := by omega
      have e1 : decide ((l.length : Int) < (l.length : Int)) = false := by simp
      have HT : Hid (TextsAt wr (.slice Ao l.length co) (l.map sumD)) := by
        have := TextsAt.of_own HO.out
        rwa [List.take_of_length_le (by simp)] at this
      clear HO hlt hk htl
      go_wp2_with fail
      generalize wr = w1 at *
      go_loopw [5] (fun i wr => ∃ k : Nat, i = .int .i64 (k : Int) ∧ k ≤ l.length ∧ Aside (noHit l k) ∧ Aside (Below w1.heap.size w1 wr)) (fun i _ => l.length - (intOf i).toNat)
      case atStart => exact ⟨0, rfl, by omega, fun i' h => absurd h (by omega), Below.refl _ _⟩
      case round =>
        obtain ⟨i, rfl, hi, hN, hB⟩ := hrel
        have HN : Hid (noHit l i) := hN
        have HBi : Hid (Below w1.heap.size w1 wr) := hB
        clear hN hB
        by_cases hlt : i < l.length
        · have e2 : decide ((i : Int) < (l.length : Int)) = true := decide_eq_true (by omega)
          obtain ⟨x, hx⟩ : ∃ x, l[i]? = some x := ⟨_, List.getElem?_eq_getElem hlt⟩
          have hxs : (l.map sumD)[i]? = some (sumD x) := by rw [List.getElem?_map, hx]; rfl
          go_wp2_with fail
          generalize wr = w2 at *
          go_loopw [6] (fun k wr => ∃ m : Nat, k = .int .i64 (m : Int) ∧ m ≤ i ∧ Aside (noHit2 l i m) ∧ Aside (Below w2.heap.size w2 wr)) (fun k _ => i - (intOf k).toNat)
          case atStart => exact ⟨0, rfl, by omega, fun i' h => absurd h (by omega), Below.refl _ _⟩
          case round =>
            obtain ⟨m, rfl, hm, hN, hB⟩ := hrel
            have HN2 : Hid (noHit2 l i m) := hN
            have HBw : Hid (Below w2.heap.size w2 wr) := hB
            have HBm : Hid (Below w1.heap.size w1 wr) := below_to HBi.out (Nat.le_refl _) hB
            clear hN hB
            by_cases hmi : m < i
            · have e3 : decide ((m : Int) < (i : Int)) = true := decide_eq_true (by omega)
              have e3' : decide (m < i) = true := decide_eq_true hmi
              obtain ⟨y, hy⟩ : ∃ y, l[m]? = some y := ⟨_, List.getElem?_eq_getElem (by omega)⟩
              have hys : (l.map sumD)[m]? = some (sumD y) := by rw [List.getElem?_map, hy]; rfl
              obtain ⟨a1, e9, _, x0⟩ := (HS.out.to (below_to HB.out (Nat.le_refl _) HBm.out)).at_ hx
              obtain ⟨a2, e8, _, y0⟩ := (HS.out.to (below_to HB.out (Nat.le_refl _) HBm.out)).at_ hy
              obtain ⟨a3, e7, _, x1⟩ := (HT.out.to HBm.out).at_ hxs
              obtain ⟨a4, e6, _, y1⟩ := (HT.out.to HBm.out).at_ hys
              subst e9
              obtain rfl := Option.some.inj e8
              subst e7
              obtain rfl := Option.some.inj e6
              clear e8 e6
              have j0 : (0 : Int) ≤ (i : Int) := by omega
              have j1 : (i : Int) < (l.length : Int) := by omega
              have j2 : (0 : Int) ≤ (m : Int) := by omega
              have j3 : (m : Int) < (l.length : Int) := by omega
              by_cases hd : sumD x = sumD y
              · have q1 : ((bs (sumD x)).toList == (bs (sumD y)).toList) = true := by rw [bs_toList, bs_toList, hd]; simp
                by_cases hxy : x = y
                · have q2 : ((bs x).toList == (bs y).toList) = true := by rw [hxy]; simp
                  have HN3 : Hid (noHit2 l i (m + 1)) := fun k' hk' hh => by
                    rcases Nat.lt_or_ge k' m with h1 | h1
                    · exact HN2.out k' h1 hh
                    · obtain rfl : k' = m := by omega
                      obtain ⟨x', y', h2, h3, h4, h5⟩ := hh
                      rw [hx] at h2; rw [hy] at h3
                      exact h5 ((Option.some.inj h2).symm.trans (hxy.trans (Option.some.inj h3)))
                  clear hx hy hxs hys hd hxy
                  go_wp2_with fail
                  go_quiet (fail)
                  go_wp2_with fail
                  all_goals first
                    | exact ⟨⟨m + 1, by go_num, by omega, HN3.out, below_drewN HBw.out _⟩, by simp [intOf]; omega⟩
                    | trace_state
                · have q2 : ((bs x).toList == (bs y).toList) = false := by rw [beq_eq_false_iff_ne, bs_toList, bs_toList]; exact hxy
                  clear hx hy hxs hys hd hxy
                  go_wp2_with fail
                  go_quiet (fail)
                  go_wp2_with fail
                  go_ret
                  exact ⟨rfl, below_drewN (below_to HB.out (Nat.le_refl _) HBm.out) _⟩
              · have q1 : ((bs (sumD x)).toList == (bs (sumD y)).toList) = false := by rw [beq_eq_false_iff_ne, bs_toList, bs_toList]; exact hd
                have HN3 : Hid (noHit2 l i (m + 1)) := fun k' hk' hh => by
                  rcases Nat.lt_or_ge k' m with h1 | h1
                  · exact HN2.out k' h1 hh
                  · obtain rfl : k' = m := by omega
                    obtain ⟨x', y', h2, h3, h4, h5⟩ := hh
                    rw [hx] at h2; rw [hy] at h3
                    rw [← Option.some.inj h2, ← Option.some.inj h3] at h4
                    exact hd h4
                clear hx hy hxs hys hd
                go_wp2_with fail
                go_quiet (fail)
                go_wp2_with fail
                all_goals first
                  | exact ⟨⟨m + 1, by go_num, by omega, HN3.out, below_drewN HBw.out _⟩, by simp [intOf]; omega⟩
                  | trace_state
            · obtain rfl : m = i := by omega
              have e3 : decide ((m : Int) < (m : Int)) = false := by simp
              have HN4 : Hid (noHit l (m + 1)) := fun i' hi' k' hk' hh => by
                rcases Nat.lt_or_ge i' m with h1 | h1
                · exact HN.out i' h1 k' hk' hh
                · obtain rfl : i' = m := by omega
                  exact HN2.out k' hk' hh
              go_wp2_with fail
              refine ⟨⟨m + 1, by go_num, by omega, HN4.out, HBm.out⟩, ?_⟩
              simp [intOf]; omega
        · obtain rfl : i = l.length := by omega
          obtain ⟨i', k', h1, h2, h3⟩ := HH.out
          exact absurd h3 (HN.out i' h2 k' h1)
end Go.Proofs.YtnjlefggkfagmaaGreatDoor

/- Walks of the reference: Holds, Checked, at a page that holds. -/
set_option linter.unusedVariables false
set_option linter.unusedSimpArgs false
namespace Go.Proofs.YtnjlefggkfagmaaGreatDoor
open Go.RowKit

theorem held_at {p : Pg} (hh : heldB p p.root p.size = true) {k : Nat} {x : List UInt8} {q : List (List UInt8)} (hx : p.items[k]? = some x) (hq : p.paths[k]? = some q) : checkV p.root p.size (p.fr + (k : Int)) (leafD x) q = true := by
  unfold heldB at hh
  rw [Bool.and_eq_true] at hh
  have hk := (List.getElem?_eq_some_iff.1 hx).1
  have h := List.all_eq_true.1 hh.2 ⟨k, hk⟩ (List.mem_finRange _)
  unfold Pg.checkAt at h
  rw [List.getElem?_eq_getElem hk] at hx
  have e : p.items[(⟨k, hk⟩ : Fin p.items.length)] = x := Option.some.inj hx
  rw [e, List.getD_eq_getElem?_getD, hq] at h
  exact h
theorem held_same {p : Pg} (hh : heldB p p.root p.size = true) : p.fr ≤ p.size - p.items.length := by
  unfold heldB sameB at hh
  simp only [Bool.and_eq_true, decide_eq_true_eq] at hh
  exact hh.1.2.2
theorem held_len {p : Pg} {N I k : Nat} {x : List UInt8} {q : List (List UInt8)} (h : checkV p.root p.size (p.fr + (k : Int)) (leafD x) q = true) (hN : p.size = N) (hI : p.fr + (k : Int) = I) : I < N ∧ N ≤ 1000000 ∧ q.length = lenF N N I ∧ properT q = true := by
  rw [hN, hI] at h
  have hb : (N : Int) ≤ 1000000 ∧ (I : Int) < (N : Int) := by
    unfold checkV at h
    split at h
    · rename_i hc; exact ⟨hc.1, hc.2.2.1⟩
    · cases h
  rw [checkV_ref _ _ _ _ _ (by omega) (by omega)] at h
  simp only [Bool.and_eq_true, decide_eq_true_eq] at h
  exact ⟨by omega, by omega, h.1, h.2.1⟩
def itemJ (p : Pg) (j : Nat) : List (List UInt8) := leafJ (p.items.getD j []) :: ptxF (leafD (p.items.getD j [])) p.size.toNat p.size.toNat (p.fr.toNat + j) (p.paths.getD j []).reverse
/-- what is digested to check the first k items of a page -/
def chkUp (p : Pg) (k : Nat) : List (List UInt8) := (List.range k).flatMap (itemJ p)
def checkedV (p : Pg) : List (List UInt8) := chkUp p p.items.length
theorem chk_step (p : Pg) (k : Nat) : chkUp p (k + 1) = chkUp p k ++ itemJ p k := by unfold chkUp; rw [List.range_succ, List.flatMap_append, List.flatMap_singleton]
theorem chk_at {p : Pg} {k : Nat} {x : List UInt8} {q : List (List UInt8)} (hx : p.items[k]? = some x) (hq : p.paths[k]? = some q) : itemJ p k = leafJ x :: ptxF (leafD x) p.size.toNat p.size.toNat (p.fr.toNat + k) q.reverse := by
  unfold itemJ; rw [List.getD_eq_getElem?_getD, List.getD_eq_getElem?_getD, hx, hq]; rfl
theorem chk_len (p : Pg) : ∀ k, (chkUp p k).length ≤ k * (p.size.toNat + 1)
  | 0 => by simp [chkUp]
  | k + 1 => by
    have := chk_len p k
    rw [chk_step, List.length_append, Nat.add_mul]
    have h2 : (itemJ p k).length ≤ p.size.toNat + 1 := by unfold itemJ; rw [List.length_cons]; exact Nat.succ_le_succ (ptx_len _ _ _ _ _)
    omega
/-- texts that lie behind a row are not touched when it grows -/
theorem sep_texts {w5 : World} {v5 : Value} {PX L : List (List UInt8)} {B : Nat} (h5 : OwnT w5 B v5 L) : ∀ (x x' : World) (v : Value), World.grownBy x x' v5.ownBlock → TextsAt x v PX → (∀ g, v.ownBlock = some g → w5.heap.size ≤ g) → TextsAt x' v PX := fun x x' v hg ht hl => by
  cases e : v5.ownBlock with
  | none =>
    rw [e] at hg
    exact ht.to ⟨hg.os, hg.tape, hg.output, hg.size, fun k hk => hg.block k hk (by simp)⟩
  | some r =>
    have hr := (own_blk_lt h5 r e).2
    have hne : v.ownBlock ≠ some r := fun e0 => by have := hl r e0; omega
    rw [e] at hg
    exact ht.two (p := r) (q := r) ⟨hg.os, hg.tape, hg.output, hg.size, fun k hk h1 _ => hg.block k hk (fun e0 => h1 (Option.some.inj e0))⟩ hne hne
set_option maxRecDepth 100000 in
set_option maxHeartbeats 4000000 in
theorem Holds_yes (p : Pg) (hp : p.fit) (hf : formedB p = true) (hh : heldB p p.root p.size = true) (vi vp : Value) (w : World) (hvi : TextsAt w vi p.items) (hvp : PathsAt w vp p.paths) :
    Calls Tryz.prog 12 #[.agg (p.cs vi vp)] w fun e w' => e = .returned (.bool true) ∧ Below w.heap.size w w' := by
  have HH := hide hh
  have HI := hide hp.li
  have HQ := hide (formed_len hf).1
  have hfs := (formed_spec hf).1
  have HPL : Hid (p.paths.length = p.items.length) := hfs.2.2.2.2
  have hfr := hfs.1
  have hsz := hfs.2.1
  have hil := hfs.2.2.2.1
  have HSM := hide (held_same hh)
  obtain ⟨Ai, ci, rfl, hci⟩ := hvi.slice
  obtain ⟨Ap, cp, rfl, hcp⟩ := hvp.slice
  have hb0 := below_one w (.cells #[.int .i64 p.fr, .int .i64 p.size, .string (bs p.root), .slice Ai p.items.length ci, .slice Ap p.paths.length cp] 38)
  have CF : Calls Tryz.prog 33 #[.agg #[.int .i64 p.fr, .int .i64 p.size, .string (bs p.root), .slice Ai p.items.length ci, .slice Ap p.paths.length cp]] (w.alloc (.cells #[.int .i64 p.fr, .int .i64 p.size, .string (bs p.root), .slice Ai p.items.length ci, .slice Ap p.paths.length cp] 38)) fun e w' => e = .returned (.bool true) ∧ Below (w.alloc (.cells #[.int .i64 p.fr, .int .i64 p.size, .string (bs p.root), .slice Ai p.items.length ci, .slice Ap p.paths.length cp] 38)).heap.size (w.alloc (.cells #[.int .i64 p.fr, .int .i64 p.size, .string (bs p.root), .slice Ai p.items.length ci, .slice Ap p.paths.length cp] 38)) w' := by
    have := rFormed_any p hp _ _ _ (hvi.to hb0) (hvp.to hb0)
    rw [hf] at this
    exact this
  have HVI := hide (hvi.to hb0)
  have HVP := hide (hvp.to hb0)
  have HB := hide hb0
  have HX := hide (Blk.new w 38 (p.cs (.slice Ai p.items.length ci) (.slice Ap p.paths.length cp)))
  have hsm := HSM.out
  have c1 : decide (p.size < p.fr) = false := decide_eq_false (by omega)
  have c2 : decide (p.size < p.fr + (p.items.length : Int)) = false := decide_eq_false (by omega)
  clear hvi hvp hb0 hf hh hfs
  unfold Pg.cs at HX ⊢
  go_enter Tryz.func12, Tryz.ntmps12
  go_wp2_with fail
  generalize w.alloc (.cells #[.int .i64 p.fr, .int .i64 p.size, .string (bs p.root), .slice Ai p.items.length ci, .slice Ap p.paths.length cp] 38) = w1 at *
  refine CF.mono ?_
  rintro e w2 ⟨rfl, hb⟩
  obtain ⟨x0, x1, x2, x3, x4⟩ := page_cells (HX.out.to hb)
  have HB2 := hide hb
  clear hb CF
  go_wp2_with fail
  clear x0 x1 x2 x3 x4
  go_loopw [3] (fun i wr => ∃ k : Nat, i = .int .i64 (k : Int) ∧ k ≤ p.items.length ∧ Aside (Below w1.heap.size w1 wr)) (fun i _ => p.items.length - (intOf i).toNat)
  case atStart => exact ⟨0, rfl, by omega, HB2.out⟩
  case round =>
    clear HB2
    obtain ⟨k, rfl, hk, hB⟩ := hrel
    have HBr : Hid (Below w1.heap.size w1 wr) := hB
    clear hB
    by_cases hlt : k < p.items.length
    · have e1 : decide ((k : Int) < (p.items.length : Int)) = true := decide_eq_true (by omega)
      obtain ⟨x, hx⟩ : ∃ x, p.items[k]? = some x := ⟨_, List.getElem?_eq_getElem hlt⟩
      obtain ⟨q, hq⟩ : ∃ q, p.paths[k]? = some q := ⟨_, List.getElem?_eq_getElem (by have := HPL.out; omega)⟩
      have hxl := HI.out x (List.mem_of_getElem? hx)
      have hql := HQ.out q (List.mem_of_getElem? hq)
      have HCK := hide (held_at HH.out hx hq)
      have i0 : (0 : Int) ≤ (k : Int) := by omega
      have i1 : (k : Int) < (p.items.length : Int) := by omega
      have i2 : (k : Int) < (p.paths.length : Int) := by have := HPL.out; omega
      have hwr : IntKind.i64.wrap (p.fr + (k : Int)) = p.fr + (k : Int) := IntWalk.i64_in _ (by omega)
      obtain ⟨a, e9, ha, c0⟩ := (HVI.out.to HBr.out).at_ hx
      obtain ⟨b, vq, e8, hb, d0, htq⟩ := (HVP.out.to HBr.out).at_ hq
      subst e9 e8
      obtain ⟨U, hU, g, u0, e7, hgu, hi⟩ := cls wr
      subst e7
      have CL := cls_call hgu hi (fun w hb => rLeaf_any x (by omega) w)
      have CC := cls_call hgu hi (fun w hb => rCheck_any p.root p.size (p.fr + (k : Int)) (leafD x) q (by rw [isD_len (leaf_isD x)]; decide) (by omega) (fun y hy => by rw [hql.2 y hy]; decide) vq w (htq.to hb))
      rw [HCK.out] at CC
      have X0 := blk_all hgu (HX.out.to HBr.out) 0 rfl
      have X1 := blk_all hgu (HX.out.to HBr.out) 1 rfl
      have X2 := blk_all hgu (HX.out.to HBr.out) 2 rfl
      have X3 := blk_all hgu (HX.out.to HBr.out) 3 rfl
      have X4 := blk_all hgu (HX.out.to HBr.out) 4 rfl
      have Y0 : ∀ u, (g u).cell? (a.add k) = some (.string (bs x)) := fun u => ((hgu u).cell (p := a.add k) (by rw [block_of_add]; exact ha)).trans c0
      have Y1 : ∀ u, (g u).cell? (b.add k) = some vq := fun u => ((hgu u).cell (p := b.add k) (by rw [block_of_add]; exact hb)).trans d0
      have HGU := hide hgu
      have HHI := hide hi
      clear hx hq hgu hi c0 d0 htq
      generalize leafD x = lx at *
      go_wp2_with fail
      refine wp_region_class g (by kernel_rfl) (by kernel_rfl) (HHI.out _ (HGU.out _).drew) ?_
      repeat (go_big_quiet_step (first | with_reducible exact CL _ | with_reducible exact CC _))
      refine wpQuiet_nil ?_
      intro w5 hw5
      obtain ⟨u, rfl⟩ := hw5
      go_wp2_with fail
      refine ⟨⟨k + 1, by go_num, by omega, below_to HBr.out (Nat.le_refl _) (HGU.out u)⟩, ?_⟩
      simp [intOf]; omega
    · obtain rfl : k = p.items.length := by omega
      have e1 : decide ((p.items.length : Int) < (p.items.length : Int)) = false := by simp
      obtain ⟨x0, x1, x2, x3, x4⟩ := page_cells (HX.out.to HBr.out)
      go_wp2_with fail
      go_ret
      exact ⟨rfl, below_to HB.out (Nat.le_refl _) HBr.out⟩
set_option maxRecDepth 100000 in
set_option maxHeartbeats 2000000 in
theorem Checked_any (p : Pg) (hp : p.fit) (hf : formedB p = true) (hh : heldB p p.root p.size = true) (vi vp : Value) (w : World) (hvi : TextsAt w vi p.items) (hvp : PathsAt w vp p.paths) :
    Calls Tryz.prog 15 #[.agg (p.cs vi vp)] w (LvR (checkedV p) w) := by
  have HH := hide hh
  have HI := hide hp.li
  have HQ := hide (formed_len hf).1
  have hfs := (formed_spec hf).1
  have HPL : Hid (p.paths.length = p.items.length) := hfs.2.2.2.2
  have hfr := hfs.1
  have hsz := hfs.2.1
  have hil := hfs.2.2.2.1
  have HSM := hide (held_same hh)
  obtain ⟨Ai, ci, rfl, hci⟩ := hvi.slice
  obtain ⟨Ap, cp, rfl, hcp⟩ := hvp.slice
  have hb0 := below_one w (.cells #[.int .i64 p.fr, .int .i64 p.size, .string (bs p.root), .slice Ai p.items.length ci, .slice Ap p.paths.length cp] 38)
  have HVI := hide (hvi.to hb0)
  have HVP := hide (hvp.to hb0)
  have HB := hide hb0
  have HX := hide (Blk.new w 38 (p.cs (.slice Ai p.items.length ci) (.slice Ap p.paths.length cp)))
  have hsm := HSM.out
  have HCL := hide (chk_len p)
  obtain ⟨N, hN⟩ : ∃ N : Nat, p.size = N := ⟨p.size.toNat, by omega⟩
  obtain ⟨F, hF⟩ : ∃ F : Nat, p.fr = F := ⟨p.fr.toNat, by omega⟩
  have hN1 : p.size.toNat = N := by omega
  have hF1 : p.fr.toNat = F := by omega
  have HN := hide hN
  have HF := hide hF
  have HN1 := hide hN1
  have HF1 := hide hF1
  have hNb : N ≤ 10000 := by omega
  clear hvi hvp hb0 hf hh hfs hN hF hN1 hF1
  unfold Pg.cs at HX ⊢
  go_enter Tryz.func15, Tryz.ntmps15
  go_wp2_with fail
  generalize w.alloc (.cells #[.int .i64 p.fr, .int .i64 p.size, .string (bs p.root), .slice Ai p.items.length ci, .slice Ap p.paths.length cp] 38) = w1 at *
  go_loopw [3, 4] (fun o i wr => ∃ k : Nat, i = .int .i64 (k : Int) ∧ k ≤ p.items.length ∧ Aside (OwnT wr w1.heap.size o (chkUp p k)) ∧ Aside (Below w1.heap.size w1 wr)) (fun _ i _ => p.items.length - (intOf i).toNat)
  case atStart => exact ⟨0, rfl, by omega, World.ownsRow_nil _ _ _ _, Below.refl _ _⟩
  case round =>
    obtain ⟨k, rfl, hk, hO, hB⟩ := hrel
    have HBr : Hid (Below w1.heap.size w1 wr) := hB
    have HO : Hid (OwnT wr w1.heap.size _ (chkUp p k)) := hO
    have hcl := HCL.out k
    rw [HN1.out] at hcl
    have hcl2 : (chkUp p k).length ≤ 50 * 10001 := Nat.le_trans hcl (Nat.mul_le_mul (by omega) (by omega))
    obtain ⟨Ao, co, rfl⟩ := own_sl4 hO
    clear hB hO hcl
    obtain ⟨x0, x1, x2, x3, x4⟩ := page_cells (HX.out.to HBr.out)
    by_cases hlt : k < p.items.length
    · have e1 : decide ((k : Int) < (p.items.length : Int)) = true := decide_eq_true (by omega)
      obtain ⟨x, hx⟩ : ∃ x, p.items[k]? = some x := ⟨_, List.getElem?_eq_getElem hlt⟩
      obtain ⟨q, hq⟩ : ∃ q, p.paths[k]? = some q := ⟨_, List.getElem?_eq_getElem (by have := HPL.out; omega)⟩
      have hxl := HI.out x (List.mem_of_getElem? hx)
      have hql := HQ.out q (List.mem_of_getElem? hq)
      have HCK := hide (held_at HH.out hx hq)
      have i0 : (0 : Int) ≤ (k : Int) := by omega
      have i1 : (k : Int) < (p.items.length : Int) := by omega
      have i2 : (k : Int) < (p.paths.length : Int) := by have := HPL.out; omega
      have hwr : IntKind.i64.wrap (p.fr + (k : Int)) = p.fr + (k : Int) := IntWalk.i64_in _ (by omega)
      have HCS := hide (chk_step p k)
      rw [chk_at hx hq, HN1.out, HF1.out] at HCS
      obtain ⟨hI1, hI2, hI3, hI4⟩ := held_len (I := F + k) HCK.out HN.out (by have := HF.out; omega)
      have hqx : ∀ y ∈ q, y.length ≤ 1000000 := fun y hy => by rw [hql.2 y hy]; decide
      have hlx : (leafD x).length ≤ 1000000 := by rw [isD_len (leaf_isD x)]; decide
      obtain ⟨a, e9, ha1, c01⟩ := HVI.out.at_ hx
      obtain ⟨b, vq, e8, hb1, d01, htq⟩ := HVP.out.at_ hq
      subst e9 e8
      have HC1 := hide (fun (W : World) (h : Below w1.heap.size w1 W) => (h.cell (p := a.add k) (by rw [block_of_add]; exact ha1)).trans c01)
      have HD1 := hide (fun (W : World) (h : Below w1.heap.size w1 W) => (h.cell (p := b.add k) (by rw [block_of_add]; exact hb1)).trans d01)
      have c0 := HC1.out wr HBr.out
      have d0 := HD1.out wr HBr.out
      have ha := Nat.lt_of_lt_of_le ha1 HBr.out.size
      have hb := Nat.lt_of_lt_of_le hb1 HBr.out.size
      have HTQ := hide htq
      have CJ := fun (w' : World) (g : Nat) => join_leafB (x := x) hxl w' g
      have CJ := CJ (wr.alloc (.cells #[.string ⟨#[108, 101, 97, 102]⟩, .string (bs x)] 9)) wr.heap.size (Blk.new _ _ _)
      have hpx := ptx_len (leafD x) N N (F + k) q.reverse
      have HP : Hid (∀ w', TextsAt w' vq q → Calls Tryz.prog 40 #[.int .i64 p.size, .int .i64 (p.fr + (k : Int)), .string (bs (leafD x)), vq] w' (LvR (ptxF (leafD x) N N (F + k) q.reverse) w')) := fun w' ht => by
        have := rpt_any N N (F + k) (leafD x) q vq w' (by omega) (Nat.le_refl _) hI1 (by omega) hI3 hlx hqx ht
        rwa [show ((N : Nat) : Int) = p.size by have := HN.out; omega, show ((F + k : Nat) : Int) = p.fr + (k : Int) by have := HF.out; omega] at this
      have HLf := hide (fun w : World => rLeaf_any x (by omega) w)
      clear hx hq htq hI3 hI4 hqx hlx c01 d01 ha1 hb1
      generalize leafJ x = J at *
      generalize leafD x = lx at *
      generalize ptxF lx N N (F + k) q.reverse = PX at *
      generalize chkUp p k = L at *
      go_wp2_with fail
      refine CJ.mono ?_
      rintro e w4 ⟨rfl, hb4⟩
      have hb4' := below_to (below_one wr (.cells #[.string ⟨#[108, 101, 97, 102]⟩, .string (bs x)] 9)) (Nat.le_refl _) hb4
      have HO4 := hide (own_to4 HO.out hb4')
      have HB4 := hide (below_to HBr.out (Nat.le_refl _) hb4')
      have y0 := (hb4'.cell (p := a.add k) (by rw [block_of_add]; exact ha)).trans c0
      have y1 := (hb4'.cell (p := b.add k) (by rw [block_of_add]; exact hb)).trans d0
      have ha4 := Nat.lt_of_lt_of_le ha hb4'.size
      have hbb4 := Nat.lt_of_lt_of_le hb hb4'.size
      clear hb4 hb4' CJ HO c0 d0 ha hb x0 x1 x2 x3 x4
      go_wp2_with (at_builtin; refine wpList_append_texts rfl (.tmp 12) (.tmp 20) rfl w1.heap.size _ L rfl (own_to4 HO4.out (below_one w4 (.cells #[.string (bs J)] 9))) (.slice (some ⟨w4.heap.size, 0, none⟩) 1 1) [J] rfl (TextsAt.of_blk (ls := [J]) (Blk.new w4 9 #[.string (bs J)]) rfl) (by simp; omega) (by have := HB4.out.size; simp; omega) ?_)
      intro v5 w5 ho5 hg5 _
      obtain ⟨A5, c5, rfl⟩ := own_sl4 ho5
      have HB5 := hide ((below_alloc HB4.out (Nat.le_refl _) (.cells #[.string (bs J)] 9)).trans (below_grown hg5 (by have := HB4.out.size; simp; omega) (fun g e => (own_blk_lt HO4.out g e).1)))
      have HO5 := hide ho5
      have hl5 : (L ++ [J]).length ≤ 50 * 10001 + 1 := by simp; omega
      generalize hL5 : L ++ [J] = L5 at *
      clear ho5 hg5 HO4 HB4 y0 y1 ha4 hbb4
      have HSEP := hide (sep_texts (w5 := w5) (v5 := .slice A5 L5.length c5) (PX := PX) (B := w1.heap.size) HO5.out)
      go_wp2_with fail
      apply wp_region_lo3 (C := fun W => Below w1.heap.size w1 W) (V := [some _, some _, some _, some _, some _, some _, some _, some _, some _, some _, some _, some _, some _, some _, some _, some _, some _, some _, none, none, none]) (Fs := [(18, fun a W => ∃ v, a.tmps[40]? = some v ∧ TextsAt W v PX ∧ ∀ g, v.ownBlock = some g → w5.heap.size ≤ g), (19, fun a W => ∃ v, a.tmps[41]? = some v ∧ OwnT W w1.heap.size v (L5 ++ PX)), (20, fun a W => ∃ v, a.tmps[41]? = some v ∧ a.tmps[3]? = some v ∧ OwnT W w1.heap.size v (L5 ++ PX))]) (Ns := [(0, fun a (_ : World) => a.tmps[3]? = some (.slice A5 L5.length c5)), (18, fun (_ : Act) W => w5.heap.size ≤ W.heap.size), (19, fun (_ : Act) W => OwnT W w1.heap.size (.slice A5 L5.length c5) L5)]) (Rel := fun i b b' x x' => if i = 19 then (fun _ _ x x' => World.grownBy x x' (Value.ownBlock (.slice A5 L5.length c5))) b b' x x' else if i = 20 then (fun _ _ x x' => Below x.heap.size x x') b b' x x' else Below x.heap.size x x')
      case hm => kernel_rfl
      case hB => kernel_rfl
      case hCw => exact HB5.out.drew
      case hC =>
        intro i a a' w_ w' hw hr
        by_cases e19 : i = 19
        · subst e19
          have hr' : (fun _ _ x x' => World.grownBy x x' (Value.ownBlock (.slice A5 L5.length c5))) a a' w_ w' := hr
          exact hw.trans (below_grown hr' hw.size (fun g e => (own_blk_lt HO5.out g e).1))
        by_cases e20 : i = 20
        · subst e20
          have hr' : (fun _ _ x x' => Below x.heap.size x x') a a' w_ w' := hr
          exact below_to hw (Nat.le_refl _) hr'
        have hr' : Below w_.heap.size w_ w' := by simpa [e19, e20] using hr
        exact below_to hw (Nat.le_refl _) hr'
      case hst =>
        refine keeps3_cons (fun i a a' w_ w' hne hwt hs hput hr h => by
          by_cases e19 : i = 19
          · subst e19
            have hr' : (fun _ _ x x' => World.grownBy x x' (Value.ownBlock (.slice A5 L5.length c5))) a a' w_ w' := hr
            obtain ⟨v, h1, h2, h3⟩ := h
            exact ⟨v, (hs 40 (by kernel_rfl)).trans h1, HSEP.out _ _ v hr' h2 h3, h3⟩
          by_cases e20 : i = 20
          · subst e20
            have hr' : (fun _ _ x x' => Below x.heap.size x x') a a' w_ w' := hr
            obtain ⟨v, h1, h2, h3⟩ := h
            exact ⟨v, (hs 40 (by kernel_rfl)).trans h1, h2.to hr', h3⟩
          have hr' : Below w_.heap.size w_ w' := by simpa [e19, e20] using hr
          obtain ⟨v, h1, h2, h3⟩ := h
          exact ⟨v, (hs 40 (by kernel_rfl)).trans h1, h2.to hr', h3⟩) ?_
        refine keeps3_cons (fun i a a' w_ w' hne hwt hs hput hr h => by
          by_cases e19 : i = 19
          · exact absurd e19 hne
          by_cases e20 : i = 20
          · subst e20
            have hr' : (fun _ _ x x' => Below x.heap.size x x') a a' w_ w' := hr
            obtain ⟨v, h1, h2⟩ := h
            exact ⟨v, (hs 41 (by kernel_rfl)).trans h1, own_to4 h2 hr'⟩
          have hr' : Below w_.heap.size w_ w' := by simpa [e19, e20] using hr
          obtain ⟨v, h1, h2⟩ := h
          exact ⟨v, (hs 41 (by kernel_rfl)).trans h1, own_to4 h2 hr'⟩) ?_
        refine keeps3_cons (fun i a a' w_ w' hne hwt hs hput hr h => by
          by_cases e19 : i = 19
          · subst e19
            exact absurd (hwt.symm.trans (show Region.waitsFor .any _ 20 19 = true by kernel_rfl)) (by decide)
          by_cases e20 : i = 20
          · exact absurd e20 hne
          have hr' : Below w_.heap.size w_ w' := by simpa [e19, e20] using hr
          obtain ⟨v, h1, h3, h2⟩ := h
          exact ⟨v, (hs 41 (by kernel_rfl)).trans h1, (hs 3 (by kernel_rfl)).trans h3, own_to4 h2 hr'⟩) ?_
        exact keeps3_nil
      case hN0 => exact pre0_cons (rfl) (pre0_cons (Nat.le_refl _) (pre0_cons (HO5.out) (pre0_nil)))
      case hNst =>
        refine prek_cons3 (fun i a a' w_ w' hne hwt hr h hput => by
          by_cases e19 : i = 19
          · subst e19
            have hr' : (fun _ _ x x' => World.grownBy x x' (Value.ownBlock (.slice A5 L5.length c5))) a a' w_ w' := hr
            exact (other_slot (d := 3) (k := 20) (by kernel_rfl) hput (by decide)).trans h
          by_cases e20 : i = 20
          · subst e20
            exact absurd (hwt.symm.trans (show waitsT .any _ _ 20 0 = true by kernel_rfl)) (by decide)
          have hr' : Below w_.heap.size w_ w' := by simpa [e19, e20] using hr
          exact (other_slot (d := 3) (k := 20) (by kernel_rfl) hput e20).trans h) ?_
        refine prek_cons3 (fun i a a' w_ w' hne hwt hr h hput => by
          by_cases e19 : i = 19
          · subst e19
            have hr' : (fun _ _ x x' => World.grownBy x x' (Value.ownBlock (.slice A5 L5.length c5))) a a' w_ w' := hr
            exact Nat.le_trans h hr'.size
          by_cases e20 : i = 20
          · subst e20
            have hr' : (fun _ _ x x' => Below x.heap.size x x') a a' w_ w' := hr
            exact Nat.le_trans h hr'.size
          have hr' : Below w_.heap.size w_ w' := by simpa [e19, e20] using hr
          exact Nat.le_trans h hr'.size) ?_
        refine prek_cons3 (fun i a a' w_ w' hne hwt hr h hput => by
          by_cases e19 : i = 19
          · exact absurd e19 hne
          by_cases e20 : i = 20
          · subst e20
            exact absurd (hwt.symm.trans (show waitsT .any _ _ 20 19 = true by kernel_rfl)) (by decide)
          have hr' : Below w_.heap.size w_ w' := by simpa [e19, e20] using hr
          exact own_to4 h hr') ?_
        exact prek_nil3
      case hop =>
        refine ⟨?_, ?_, ?_, ?_, ?_, ?_, ?_, ?_, ?_, ?_, ?_, ?_, ?_, ?_, ?_, ?_, ?_, ?_, ?_, ?_, ?_, trivial⟩
        · intro a w_ K hw hS hd hN hK
          have s3 := hN _ (List.mem_cons_self ..) rfl
          rw [if_pos (want_free rfl)]
          have s3 : a.tmps[3]? = some (.slice A5 L5.length c5) := s3
          go_simp
          exact hK _ _ (Below.refl _ _) (vok rfl) (facts_cons (fun h => absurd h (by decide)) (facts_cons (fun h => absurd h (by decide)) (facts_cons (fun h => absurd h (by decide)) facts_nil)))
        · intro a w_ K hw hS hd hN hK
          have s1 := hS.at 1 (by kernel_rfl) rfl
          rw [if_pos (want_free rfl)]
          go_simp
          exact hK _ _ (Below.refl _ _) (vok rfl) (facts_cons (fun h => absurd h (by decide)) (facts_cons (fun h => absurd h (by decide)) (facts_cons (fun h => absurd h (by decide)) facts_nil)))
        · intro a w_ K hw hS hd hN hK
          have s23 := (waits_on hd 1 (by kernel_rfl)).at (d := 23) rfl rfl rfl
          rw [if_pos (want_free rfl)]
          obtain ⟨x0, x1, x2, x3, x4⟩ := page_cells (HX.out.to hw)
          go_simp
          exact hK _ _ (Below.refl _ _) (vok rfl) (facts_cons (fun h => absurd h (by decide)) (facts_cons (fun h => absurd h (by decide)) (facts_cons (fun h => absurd h (by decide)) facts_nil)))
        · intro a w_ K hw hS hd hN hK
          have s1 := hS.at 1 (by kernel_rfl) rfl
          rw [if_pos (want_free rfl)]
          go_simp
          exact hK _ _ (Below.refl _ _) (vok rfl) (facts_cons (fun h => absurd h (by decide)) (facts_cons (fun h => absurd h (by decide)) (facts_cons (fun h => absurd h (by decide)) facts_nil)))
        · intro a w_ K hw hS hd hN hK
          have s25 := (waits_on hd 3 (by kernel_rfl)).at (d := 25) rfl rfl rfl
          rw [if_pos (want_free rfl)]
          obtain ⟨x0, x1, x2, x3, x4⟩ := page_cells (HX.out.to hw)
          go_simp
          exact hK _ _ (Below.refl _ _) (vok rfl) (facts_cons (fun h => absurd h (by decide)) (facts_cons (fun h => absurd h (by decide)) (facts_cons (fun h => absurd h (by decide)) facts_nil)))
        · intro a w_ K hw hS hd hN hK
          have s4 := hS.at 4 (by kernel_rfl) rfl
          rw [if_pos (want_free rfl)]
          go_simp
          exact hK _ _ (Below.refl _ _) (vok rfl) (facts_cons (fun h => absurd h (by decide)) (facts_cons (fun h => absurd h (by decide)) (facts_cons (fun h => absurd h (by decide)) facts_nil)))
        · intro a w_ K hw hS hd hN hK
          have s26 := (waits_on hd 4 (by kernel_rfl)).at (d := 26) rfl rfl rfl
          have s27 := (waits_on hd 5 (by kernel_rfl)).at (d := 27) rfl rfl rfl
          rw [if_pos (want_free rfl)]
          go_simp
          exact hK _ _ (Below.refl _ _) (vok rfl) (facts_cons (fun h => absurd h (by decide)) (facts_cons (fun h => absurd h (by decide)) (facts_cons (fun h => absurd h (by decide)) facts_nil)))
        · intro a w_ K hw hS hd hN hK
          have s1 := hS.at 1 (by kernel_rfl) rfl
          rw [if_pos (want_free rfl)]
          go_simp
          exact hK _ _ (Below.refl _ _) (vok rfl) (facts_cons (fun h => absurd h (by decide)) (facts_cons (fun h => absurd h (by decide)) (facts_cons (fun h => absurd h (by decide)) facts_nil)))
        · intro a w_ K hw hS hd hN hK
          have s29 := (waits_on hd 7 (by kernel_rfl)).at (d := 29) rfl rfl rfl
          rw [if_pos (want_free rfl)]
          obtain ⟨x0, x1, x2, x3, x4⟩ := page_cells (HX.out.to hw)
          go_simp
          exact hK _ _ (Below.refl _ _) (vok rfl) (facts_cons (fun h => absurd h (by decide)) (facts_cons (fun h => absurd h (by decide)) (facts_cons (fun h => absurd h (by decide)) facts_nil)))
        · intro a w_ K hw hS hd hN hK
          have s4 := hS.at 4 (by kernel_rfl) rfl
          rw [if_pos (want_free rfl)]
          go_simp
          exact hK _ _ (Below.refl _ _) (vok rfl) (facts_cons (fun h => absurd h (by decide)) (facts_cons (fun h => absurd h (by decide)) (facts_cons (fun h => absurd h (by decide)) facts_nil)))
        · intro a w_ K hw hS hd hN hK
          have s30 := (waits_on hd 8 (by kernel_rfl)).at (d := 30) rfl rfl rfl
          have s31 := (waits_on hd 9 (by kernel_rfl)).at (d := 31) rfl rfl rfl
          rw [if_pos (want_free rfl)]
          go_simp
          exact hK _ _ (Below.refl _ _) (vok rfl) (facts_cons (fun h => absurd h (by decide)) (facts_cons (fun h => absurd h (by decide)) (facts_cons (fun h => absurd h (by decide)) facts_nil)))
        · intro a w_ K hw hS hd hN hK
          have s32 := (waits_on hd 10 (by kernel_rfl)).at (d := 32) rfl rfl rfl
          rw [if_pos (want_free rfl)]
          have c0 := HC1.out w_ hw
          go_simp
          exact hK _ _ (Below.refl _ _) (vok rfl) (facts_cons (fun h => absurd h (by decide)) (facts_cons (fun h => absurd h (by decide)) (facts_cons (fun h => absurd h (by decide)) facts_nil)))
        · intro a w_ K hw hS hd hN hK
          have s33 := (waits_on hd 11 (by kernel_rfl)).at (d := 33) rfl rfl rfl
          rw [if_pos (want_free rfl)]
          go_simp
          with_reducible refine (HLf.out w_).mono ?_
          rintro e w' ⟨rfl, hb⟩
          exact hK _ _ hb (vok rfl) (facts_cons (fun h => absurd h (by decide)) (facts_cons (fun h => absurd h (by decide)) (facts_cons (fun h => absurd h (by decide)) facts_nil)))
        · intro a w_ K hw hS hd hN hK
          have s1 := hS.at 1 (by kernel_rfl) rfl
          rw [if_pos (want_free rfl)]
          go_simp
          exact hK _ _ (Below.refl _ _) (vok rfl) (facts_cons (fun h => absurd h (by decide)) (facts_cons (fun h => absurd h (by decide)) (facts_cons (fun h => absurd h (by decide)) facts_nil)))
        · intro a w_ K hw hS hd hN hK
          have s35 := (waits_on hd 13 (by kernel_rfl)).at (d := 35) rfl rfl rfl
          rw [if_pos (want_free rfl)]
          obtain ⟨x0, x1, x2, x3, x4⟩ := page_cells (HX.out.to hw)
          go_simp
          exact hK _ _ (Below.refl _ _) (vok rfl) (facts_cons (fun h => absurd h (by decide)) (facts_cons (fun h => absurd h (by decide)) (facts_cons (fun h => absurd h (by decide)) facts_nil)))
        · intro a w_ K hw hS hd hN hK
          have s4 := hS.at 4 (by kernel_rfl) rfl
          rw [if_pos (want_free rfl)]
          go_simp
          exact hK _ _ (Below.refl _ _) (vok rfl) (facts_cons (fun h => absurd h (by decide)) (facts_cons (fun h => absurd h (by decide)) (facts_cons (fun h => absurd h (by decide)) facts_nil)))
        · intro a w_ K hw hS hd hN hK
          have s36 := (waits_on hd 14 (by kernel_rfl)).at (d := 36) rfl rfl rfl
          have s37 := (waits_on hd 15 (by kernel_rfl)).at (d := 37) rfl rfl rfl
          rw [if_pos (want_free rfl)]
          go_simp
          exact hK _ _ (Below.refl _ _) (vok rfl) (facts_cons (fun h => absurd h (by decide)) (facts_cons (fun h => absurd h (by decide)) (facts_cons (fun h => absurd h (by decide)) facts_nil)))
        · intro a w_ K hw hS hd hN hK
          have s38 := (waits_on hd 16 (by kernel_rfl)).at (d := 38) rfl rfl rfl
          rw [if_pos (want_free rfl)]
          have d0 := HD1.out w_ hw
          go_simp
          exact hK _ _ (Below.refl _ _) (vok rfl) (facts_cons (fun h => absurd h (by decide)) (facts_cons (fun h => absurd h (by decide)) (facts_cons (fun h => absurd h (by decide)) facts_nil)))
        · intro a w_ K hw hS hd hN hK
          have s24 := (waits_on hd 2 (by kernel_rfl)).at (d := 24) rfl rfl rfl
          have s28 := (waits_on hd 6 (by kernel_rfl)).at (d := 28) rfl rfl rfl
          have s34 := (waits_on hd 12 (by kernel_rfl)).at (d := 34) rfl rfl rfl
          have s39 := (waits_on hd 17 (by kernel_rfl)).at (d := 39) rfl rfl rfl
          have hw5 := hN _ (List.mem_cons_of_mem _ (List.mem_cons_self ..)) rfl
          rw [if_pos (want_free rfl)]
          go_simp
          with_reducible refine (HP.out w_ (HTQ.out.to hw)).mono ?_
          rintro e w' ⟨v7, rfl, ho7, hb7⟩
          exact hK _ _ hb7 (vfree rfl) (facts_cons (fun _ => ⟨v7, hS.put_at (by kernel_rfl) _, TextsAt.of_own ho7, fun g e => Nat.le_trans hw5 (own_blk_lt ho7 g e).1⟩) (facts_cons (fun h => absurd h (by decide)) (facts_cons (fun h => absurd h (by decide)) facts_nil)))
        · intro a w_ K hw hS hd hN hK
          have s22 := (waits_on hd 0 (by kernel_rfl)).at (d := 22) rfl rfl rfl
          obtain ⟨v40, s40, t40, l40⟩ := (waits_on hd 18 (by kernel_rfl)).2 _ (List.mem_cons_self ..) rfl
          have hOwn := hN _ (List.mem_cons_of_mem _ (List.mem_cons_of_mem _ (List.mem_cons_self ..))) rfl
          rw [if_pos (want_free rfl)]
          refine wp_append_texts (.tmp 22) (.tmp 40) rfl w1.heap.size (.slice A5 L5.length c5) L5 (eval_at s22) hOwn v40 PX (eval_at s40) t40 (by omega) hw.size ?_
          intro v8 w' ho hg hne
          exact hK v8 w' hg (vfree rfl) (facts_cons (fun h => absurd h (by decide)) (facts_cons (fun _ => ⟨v8, hS.put_at (by kernel_rfl) _, ho⟩) (facts_cons (fun h => absurd h (by decide)) facts_nil)))
        · intro a w_ K hw hS hd hN hK
          obtain ⟨v41, s41, o41⟩ := (waits_on hd 19 (by kernel_rfl)).2 _ (List.mem_cons_of_mem _ (List.mem_cons_self ..)) rfl
          rw [if_pos (want_free rfl)]
          go_simp
          exact hK _ _ (Below.refl _ _) (vfree rfl) (facts_cons (fun h => absurd h (by decide)) (facts_cons (fun h => absurd h (by decide)) (facts_cons (fun _ => ⟨v41, (put_far (by decide)).trans s41, hS.put_at (by kernel_rfl) _, o41⟩) facts_nil)))
      case hfin =>
        intro a w8 hw hS hk
        have s22 := (hk 0 (by decide)).at (d := 22) rfl rfl rfl
        have s23 := (hk 1 (by decide)).at (d := 23) rfl rfl rfl
        have s24 := (hk 2 (by decide)).at (d := 24) rfl rfl rfl
        have s25 := (hk 3 (by decide)).at (d := 25) rfl rfl rfl
        have s26 := (hk 4 (by decide)).at (d := 26) rfl rfl rfl
        have s27 := (hk 5 (by decide)).at (d := 27) rfl rfl rfl
        have s28 := (hk 6 (by decide)).at (d := 28) rfl rfl rfl
        have s29 := (hk 7 (by decide)).at (d := 29) rfl rfl rfl
        have s30 := (hk 8 (by decide)).at (d := 30) rfl rfl rfl
        have s31 := (hk 9 (by decide)).at (d := 31) rfl rfl rfl
        have s32 := (hk 10 (by decide)).at (d := 32) rfl rfl rfl
        have s33 := (hk 11 (by decide)).at (d := 33) rfl rfl rfl
        have s34 := (hk 12 (by decide)).at (d := 34) rfl rfl rfl
        have s35 := (hk 13 (by decide)).at (d := 35) rfl rfl rfl
        have s36 := (hk 14 (by decide)).at (d := 36) rfl rfl rfl
        have s37 := (hk 15 (by decide)).at (d := 37) rfl rfl rfl
        have s38 := (hk 16 (by decide)).at (d := 38) rfl rfl rfl
        have s39 := (hk 17 (by decide)).at (d := 39) rfl rfl rfl
        obtain ⟨v40, s40, t40, l40⟩ := (hk 18 (by decide)).2 _ (List.mem_cons_self ..) rfl
        obtain ⟨v41, s41, o41⟩ := (hk 19 (by decide)).2 _ (List.mem_cons_of_mem _ (List.mem_cons_self ..)) rfl
        obtain ⟨v3, s41', s3, o3⟩ := (hk 20 (by decide)).2 _ (List.mem_cons_of_mem _ (List.mem_cons_of_mem _ (List.mem_cons_self ..))) rfl
        have hlit := hS.lit _ (by kernel_rfl) (lits_cons s22 (lits_cons s23 (lits_cons s24 (lits_cons s25 (lits_cons s26 (lits_cons s27 (lits_cons s28 (lits_cons s29 (lits_cons s30 (lits_cons s31 (lits_cons s32 (lits_cons s33 (lits_cons s34 (lits_cons s35 (lits_cons s36 (lits_cons s37 (lits_cons s38 (lits_cons s39 (lits_cons s40 (lits_cons s41 (lits_cons s3 lits_nil)))))))))))))))))))))
        rw [hlit]
        clear hlit hk hS t40 l40 o41 s41'
        have HB8 := hide hw
        have HO8 : Hid (OwnT w8 w1.heap.size v3 (chkUp p (k + 1))) := by
          rw [HCS.out]
          have := o3
          rw [← hL5, List.append_assoc, List.singleton_append] at this
          exact this
        clear o3 hw
        simp only [litT, List.setIfInBounds_toArray, List.set_cons_succ, List.set_cons_zero]
        go_wp2_with fail
        refine ⟨⟨k + 1, by go_num, by omega, HO8.out, HB8.out⟩, ?_⟩
        simp [intOf]; omega
    · obtain rfl : k = p.items.length := by omega
      have e1 : decide ((p.items.length : Int) < (p.items.length : Int)) = false := by simp
      go_wp2_with fail
      go_ret
      exact ⟨_, rfl, own_less HO.out HB.out.size, below_to HB.out (Nat.le_refl _) HBr.out⟩
end Go.Proofs.YtnjlefggkfagmaaGreatDoor

/- The plain laws of pages that are accepted: their items are those of the log, or two texts have one digest. -/
set_option linter.unusedVariables false
set_option linter.unusedSimpArgs false
namespace Go.Proofs.YtnjlefggkfagmaaGreatDoor
open Go.RowKit

theorem join3_len {a b c : List UInt8} (ha : a.length ≤ 1000) (hb : b.length ≤ 1000) (hc : c.length ≤ 1000) : (joinD [a, b, c]).length ≤ 4000 := by
  have := join_len [a, b, c] (by intro l hl; simp only [List.mem_cons, List.not_mem_nil, or_false] at hl; rcases hl with rfl | rfl | rfl <;> omega)
  simp at this; omega
theorem join2_len {a b : List UInt8} (ha : a.length ≤ 1000) (hb : b.length ≤ 1000) : (joinD [a, b]).length ≤ 4000 := by
  have := join_len [a, b] (by intro l hl; simp only [List.mem_cons, List.not_mem_nil, or_false] at hl; rcases hl with rfl | rfl <;> omega)
  simp at this; omega
theorem total_1000 {l : List (List UInt8)} (h : ∀ x ∈ l, x.length ≤ 1000) : (totalT l).length ≤ 1000 := by
  match l, h with
  | [], _ => exact Nat.le_of_lt (Nat.lt_of_le_of_lt (Nat.le_of_eq (isD_len (listD_isD _))) (by decide))
  | [x], h => rw [total_one]; exact h x (by simp)
  | x :: y :: l, _ => rw [total_two (by simp), nodeD_len]; decide
theorem texts_small : ∀ (f : Nat) (l : List (List UInt8)), (∀ x ∈ l, x.length ≤ 1000) → ∀ s ∈ textsF f l, s.length ≤ 4000
  | 0, l, h, s, hs => by cases hs
  | f + 1, l, h, s, hs => by
    unfold textsF at hs
    split at hs
    · rw [List.mem_singleton.1 hs]; decide +kernel
    · split at hs
      · cases hs
      · simp only [List.mem_append, List.mem_singleton] at hs
        rcases hs with (hs | hs) | hs
        · exact texts_small f _ (fun x hx => h x (List.mem_of_mem_take hx)) s hs
        · exact texts_small f _ (fun x hx => h x (List.mem_of_mem_drop hx)) s hs
        · rw [hs]; exact join3_len (by decide) (total_1000 fun x hx => h x (List.mem_of_mem_take hx)) (total_1000 fun x hx => h x (List.mem_of_mem_drop hx))
theorem up_1000 {leaf : List UInt8} (hl : leaf.length ≤ 1000) : ∀ (f n i : Nat) (st : List (List UInt8)) (sh : Bool), (upG leaf f n i st sh).1.length ≤ 1000
  | 0, n, i, st, sh => hl
  | f + 1, n, i, st, sh => by
    unfold upG
    split
    · exact hl
    · split <;> exact Nat.le_trans (Nat.le_of_eq (nodeD_len _ _)) (by decide)
theorem head_1000 {st : List (List UInt8)} (h : ∀ x ∈ st, x.length ≤ 1000) : (st.headD []).length ≤ 1000 := by
  cases st with
  | nil => simp
  | cons x l => exact h x (by simp)
theorem ptx_small {leaf : List UInt8} (hl : leaf.length ≤ 1000) : ∀ (f n i : Nat) (st : List (List UInt8)), (∀ x ∈ st, x.length ≤ 1000) → ∀ s ∈ ptxF leaf f n i st, s.length ≤ 4000
  | 0, n, i, st, h, s, hs => by cases hs
  | f + 1, n, i, st, h, s, hs => by
    unfold ptxF at hs
    have ht : ∀ x ∈ st.tail, x.length ≤ 1000 := fun x hx => h x (List.mem_of_mem_tail hx)
    split at hs
    · cases hs
    · split at hs
      · rcases List.mem_append.1 hs with hs | hs
        · exact ptx_small hl f _ _ _ ht s hs
        · rw [List.mem_singleton.1 hs]; exact join3_len (by decide) (up_1000 hl _ _ _ _ _) (head_1000 h)
      · rcases List.mem_append.1 hs with hs | hs
        · exact ptx_small hl f _ _ _ ht s hs
        · rw [List.mem_singleton.1 hs]; exact join3_len (by decide) (head_1000 h) (up_1000 hl _ _ _ _ _)
theorem dig_small {items : List (List UInt8)} (h : ∀ x ∈ items, x.length ≤ 1000) : ∀ s ∈ digestedV items, s.length ≤ 1000000 := fun s hs => by
  unfold digestedV at hs
  rcases List.mem_append.1 hs with hs | hs
  · have := texts_small _ _ (fun x hx => by obtain ⟨y, _, rfl⟩ := List.mem_map.1 hx; rw [isD_len (leaf_isD y)]; decide) s hs
    omega
  · obtain ⟨y, hy, rfl⟩ := List.mem_map.1 hs
    have : (leafJ y).length ≤ 4000 := join2_len (by decide) (h y hy)
    omega
theorem dig_len (items : List (List UInt8)) : (digestedV items).length ≤ 2 * items.length + 1 := by
  unfold digestedV
  have := texts_le (leavesV items)
  rw [leaves_len] at this
  rw [List.length_append, List.length_map]; omega
theorem chk_small {p : Pg} (hi : ∀ x ∈ p.items, x.length ≤ 1000) (hq : ∀ q ∈ p.paths, ∀ x ∈ q, x.length ≤ 1000) : ∀ s ∈ checkedV p, s.length ≤ 1000000 := fun s hs => by
  unfold checkedV chkUp at hs
  obtain ⟨j, hj, hs⟩ := List.mem_flatMap.1 hs
  unfold itemJ at hs
  have hx : (p.items.getD j []).length ≤ 1000 := by
    rw [List.getD_eq_getElem?_getD]
    cases e : p.items[j]? with
    | none => simp
    | some x => exact hi x (List.mem_of_getElem? e)
  rcases List.mem_cons.1 hs with rfl | hs
  · have : (leafJ (p.items.getD j [])).length ≤ 4000 := join2_len (by decide) hx
    omega
  · have := ptx_small (by rw [isD_len (leaf_isD _)]; decide) _ _ _ _ (fun x hx => by
      rw [List.mem_reverse, List.getD_eq_getElem?_getD] at hx
      cases e : p.paths[j]? with
      | none => rw [e] at hx; cases hx
      | some q => rw [e] at hx; exact hq q (List.mem_of_getElem? e) x hx) s hs
    omega
theorem item_mem {p : Pg} {k : Nat} {y : List UInt8} {q : List (List UInt8)} (hy : p.items[k]? = some y) (hq : p.paths[k]? = some q) : ∀ s ∈ leafJ y :: ptxF (leafD y) p.size.toNat p.size.toNat (p.fr.toNat + k) q.reverse, s ∈ checkedV p := fun s hs => by
  rw [← chk_at hy hq] at hs
  unfold checkedV chkUp
  exact List.mem_flatMap.2 ⟨k, List.mem_range.2 (List.getElem?_eq_some_iff.1 hy).1, hs⟩
/-- an item that is not the log's -/
theorem held_sound {items : List (List UInt8)} {p : Pg} (hf : formedB p = true) (hh : heldB p p.root p.size = true) (hr : p.root = rootL items) (hs : p.size = (items.length : Int)) {k : Nat} {x y : List UInt8} (hy : p.items[k]? = some y) (hx : items[p.fr.toNat + k]? = some x) (hne : x ≠ y) : Coll (digestedV items) (checkedV p) := by
  have hfs := (formed_spec hf).1
  obtain ⟨q, hq⟩ : ∃ q, p.paths[k]? = some q := ⟨_, List.getElem?_eq_getElem (by have := (List.getElem?_eq_some_iff.1 hy).1; omega)⟩
  have hc := held_at hh hy hq
  have hI : p.fr + (k : Int) = ((p.fr.toNat + k : Nat) : Int) := by omega
  obtain ⟨h1, h2, h3, h4⟩ := held_len hc hs hI
  rw [hs, hI, checkV_ref _ _ _ _ _ (by omega) (by omega)] at hc
  simp only [Bool.and_eq_true, decide_eq_true_eq] at hc
  have hu := hc.2.2.2
  have hN : p.size.toNat = items.length := by omega
  have hm := item_mem hy hq
  rw [hN] at hm
  have hxl : (leavesV items)[p.fr.toNat + k]? = some (leafD x) := by unfold leavesV; rw [List.getElem?_map, hx]; rfl
  rw [hr] at hu
  rcases up_sound (leafD y) items.length items.length (p.fr.toNat + k) q.reverse false (leavesV items) (leaves_len items) (Nat.le_refl _) h1 hu with h | h
  · rw [hxl] at h
    rcases leafD_sound (Option.some.inj h) with e | e
    · exact absurd e hne
    · refine e.mono (fun s hs => ?_) (fun s hs => ?_)
      · rw [List.mem_singleton.1 hs]
        unfold digestedV
        exact List.mem_append.2 (.inr (List.mem_map.2 ⟨x, List.mem_of_getElem? hx, rfl⟩))
      · rw [List.mem_singleton.1 hs]; exact hm _ (List.mem_cons_self ..)
  · exact h.mono (fun s hs => by unfold digestedV; exact List.mem_append.2 (.inl hs)) (fun s hs => hm s (List.mem_cons_of_mem _ hs))
theorem coll_in {a b : List (List UInt8)} (h : Coll a b) : CollIn (a ++ b) := h.mono (fun s hs => List.mem_append.2 (.inl hs)) (fun s hs => List.mem_append.2 (.inr hs))
/-- what an accepted page says of itself -/
theorem acc_facts {p : Pg} {items its : List (List UInt8)} (h : accE p (rootL items) items.length its = 0) : formedB p = true ∧ heldB p p.root p.size = true ∧ p.root = rootL items ∧ p.size = (items.length : Int) ∧ p.fr ≤ (its.length : Int) := by
  unfold accE at h
  split at h
  · rename_i hf
    split at h
    · rename_i hh
      split at h
      · cases h
      · rename_i hl
        have hh' := hh
        unfold heldB sameB at hh'
        simp only [Bool.and_eq_true, decide_eq_true_eq] at hh'
        obtain ⟨⟨h1, h2, h3⟩, h4⟩ := hh'
        exact ⟨hf, by rw [h1, h2]; exact hh, h1, h2, by omega⟩
    · cases h
  · cases h
end Go.Proofs.YtnjlefggkfagmaaGreatDoor

/- The plain law of a mirror that writes its pages: what it has behind them. No program in sight. -/
set_option linter.unusedVariables false
set_option linter.unusedSimpArgs false
namespace Go.Proofs.YtnjlefggkfagmaaGreatDoor
open Go

/-- how many items there are behind pages (from, most) of a log of n items -/
def repK (n : Nat) : List (Nat × Nat) → Nat → Nat
  | [], k => k
  | s :: r, k => repK n r (max k (min (s.1 + s.2) n))
/-- each page was taken over, and brought something new -/
def repOK (n : Nat) : List (Nat × Nat) → Nat → Prop
  | [], _ => True
  | s :: r, k => (s.1 ≤ k ∧ s.1 ≤ n ∧ s.2 ≤ 4 ∧ k < max k (min (s.1 + s.2) n)) ∧ repOK n r (max k (min (s.1 + s.2) n))
theorem repK_snoc (n : Nat) : ∀ (L : List (Nat × Nat)) (k : Nat) (s : Nat × Nat), repK n (L ++ [s]) k = max (repK n L k) (min (s.1 + s.2) n)
  | [], k, s => rfl
  | x :: L, k, s => repK_snoc n L _ s
theorem repOK_snoc (n : Nat) : ∀ (L : List (Nat × Nat)) (k : Nat) (s : Nat × Nat), repOK n L k → (s.1 ≤ repK n L k ∧ s.1 ≤ n ∧ s.2 ≤ 4 ∧ repK n L k < max (repK n L k) (min (s.1 + s.2) n)) → repOK n (L ++ [s]) k
  | [], k, s, _, h => ⟨h, trivial⟩
  | x :: L, k, s, hL, h => ⟨hL.1, repOK_snoc n L _ s hL.2 h⟩
theorem repK_le (n : Nat) : ∀ (L : List (Nat × Nat)) (k : Nat), k ≤ n → repK n L k ≤ n
  | [], k, h => h
  | x :: L, k, h => repK_le n L _ (by omega)
theorem rep_len (n : Nat) : ∀ (L : List (Nat × Nat)) (k : Nat), repOK n L k → L.length + k ≤ repK n L k
  | [], k, _ => by simp [repK]
  | x :: L, k, h => by
    have := rep_len n L _ h.2
    have h1 := h.1.2.2.2
    simp only [List.length_cons, repK]
    omega
def pgT (items : List (List UInt8)) (s : Nat × Nat) : List UInt8 := textPg (pageV items s.1 s.2)
def recsT (items : List (List UInt8)) (L : List (Nat × Nat)) : List (List UInt8) := L.map (pgT items)
theorem recsT_snoc (items : List (List UInt8)) (L : List (Nat × Nat)) (s : Nat × Nat) : recsT items (L ++ [s]) = recsT items L ++ [pgT items s] := by unfold recsT; simp
/-- sizes of a page of few items -/
theorem text_4 {p : Pg} (h : formedB p = true) (h6 : ∀ x ∈ p.items, x.length ≤ 60) (h4 : p.items.length ≤ 4) : (textPg p).length ≤ 2300 := by
  obtain ⟨⟨hf, hs, hr, hn, hl⟩, hp⟩ := formed_spec h
  obtain ⟨h1, h2⟩ := formed_len h
  unfold textPg
  rw [List.length_append]
  have e1 := flat_le p.line 500 (fun k => by
    unfold Pg.line
    have hk : (k : Nat) < p.paths.length := by have := k.2; omega
    rw [show p.paths.getD k [] = p.paths[(k : Nat)] by simp [hk]]
    have hq := h1 _ (List.getElem_mem hk)
    exact line_len60 _ _ (h6 _ (List.getElem_mem k.2)) hq.1 (fun y hy => by rw [hq.2 y hy]; exact Nat.le_refl _)) (List.finRange p.items.length)
  rw [List.length_finRange] at e1
  have e2 : p.items.length * 500 ≤ 4 * 500 := Nat.mul_le_mul h4 (Nat.le_refl _)
  have e3 : (headT p).length ≤ 200 := by
    unfold headT
    have a1 : (Lib.itoa p.fr).length ≤ 20 := by have := itoa_len p.fr.toNat (by omega); rwa [Int.toNat_of_nonneg hf.1] at this
    have a2 : (Lib.itoa p.size).length ≤ 20 := by have := itoa_len p.size.toNat (by omega); rwa [Int.toNat_of_nonneg hs.1] at this
    have a3 := itoa_len p.items.length (by omega)
    have a4 := isD_len hr
    rw [Lib.join_cons]
    have a5 := tail_len 20 [Lib.itoa p.fr, Lib.itoa p.size, p.root, Lib.itoa p.items.length] (by
      intro x hx
      simp only [List.mem_cons, List.not_mem_nil, or_false] at hx
      rcases hx with rfl | rfl | rfl | rfl <;> omega)
    simp only [List.length_append, List.length_cons, List.length_nil] at a5 ⊢
    omega
  omega
theorem pgT_len {items : List (List UInt8)} (h : Lg items) {s : Nat × Nat} (h1 : s.1 ≤ items.length) (h2 : s.2 ≤ 4) : (pgT items s).length ≤ 2300 := by
  refine text_4 (page_formed h h1 (by omega)) (fun x hx => h.lx x (List.mem_of_mem_drop (List.mem_of_mem_take hx))) ?_
  rw [page_ilen]; omega
theorem recs_ok {items : List (List UInt8)} (h : Lg items) : ∀ (L : List (Nat × Nat)) (k : Nat), repOK items.length L k → ∀ x ∈ recsT items L, x.length ≤ 2300
  | [], k, _, x, hx => by cases hx
  | s :: L, k, hL, x, hx => by
    rcases List.mem_cons.1 hx with rfl | hx
    · exact pgT_len h hL.1.2.1 hL.1.2.2.1
    · exact recs_ok h L _ hL.2 x hx
/-- the state behind i pages -/
theorem rep_at (n : Nat) : ∀ (L : List (Nat × Nat)) (k i : Nat) (s : Nat × Nat), repOK n L k → L[i]? = some s → s.1 ≤ repK n (L.take i) k ∧ s.1 ≤ n ∧ s.2 ≤ 4 ∧ repK n (L.take (i + 1)) k = max (repK n (L.take i) k) (min (s.1 + s.2) n)
  | [], k, i, s, _, h => by simp at h
  | x :: L, k, 0, s, hL, h => by
    simp at h
    subst h
    exact ⟨hL.1.1, hL.1.2.1, hL.1.2.2.1, rfl⟩
  | x :: L, k, i + 1, s, hL, h => rep_at n L _ i s hL.2 (by simpa using h)
theorem pg_parse {items : List (List UInt8)} (h : Lg items) {s : Nat × Nat} (h1 : s.1 ≤ items.length) (h2 : s.2 ≤ 4) : parseV (pgT items s) = pageV items s.1 s.2 ∧ parseE (pgT items s) = 0 := by
  have := parse_text (page_formed h h1 (M := s.2) (by omega))
  unfold parseV parseE pgT
  rw [this]; exact ⟨rfl, rfl⟩
/-- how many pieces the journal has -/
theorem pieces_60 {t : List UInt8} (h : t.length ≤ 2300) : (splitV (joinD [t])).length ≤ 60 ∧ (joinD [t]).length ≤ 2400 ∧ joinD [t] ≠ [] := by
  have h1 : (joinD [t]).length ≤ 2400 := by
    have := itoa_len t.length (by omega)
    unfold joinD
    simp only [List.flatMap_cons, List.flatMap_nil, List.append_nil, List.length_append, List.length_cons, List.length_nil]
    omega
  have h2 := splitJ_num (joinD [t]).length (joinD [t]) (Nat.le_refl _)
  refine ⟨by omega, h1, ?_⟩
  unfold joinD; simp
theorem joinD_snoc1 (rs : List (List UInt8)) (t : List UInt8) : joinD (rs ++ [t]) = joinD rs ++ joinD [t] := by unfold joinD; simp
end Go.Proofs.YtnjlefggkfagmaaGreatDoor

/- Walks of the statement's helpers: a journal is opened again, its pages are taken over. -/
set_option linter.unusedVariables false
set_option linter.unusedSimpArgs false
namespace Go.Proofs.YtnjlefggkfagmaaGreatDoor
open Go.RowKit

def ReoR (b sb ab N : Nat) (ps : List (List UInt8)) (items : List (List UInt8)) (L : List (Nat × Nat)) (ss : List (List UInt8)) (w : World) (e : Ending) (w' : World) : Prop :=
  ∃ jb vr cb vc m, e = .returned (.tuple #[.pointer (some ⟨jb, 0, none⟩), .pointer (some ⟨cb, 0, none⟩), .bool true]) ∧ w.heap.size ≤ jb ∧ jb < m ∧ (∀ g, vr.ownBlock = some g → jb < g ∧ g < m) ∧ m ≤ cb ∧ (∀ g, vc.ownBlock = some g → cb < g) ∧ JAt jb b N ps.length (recsT items L) false vr w' ∧
    CliAt cb (rootL items) items.length (items.take (repK items.length L 0)) vc w' ∧ DkAt b sb ab (.slice none 0 0) ⟨fixA ps.length ss, [], false, none⟩ w' ∧ Sav (DB b sb ab) w w'
set_option maxRecDepth 100000 in
set_option maxHeartbeats 4000000 in
theorem Reopen_any (b sb ab N : Nat) (ps ss items : List (List UInt8)) (hl : Lg items) (L : List (Nat × Nat)) (hL : repOK items.length L 0) (hR : RD N ps ss) (hf : ps.flatten = joinD (recsT items L)) (hN3 : 3 ≤ N) (w : World) (hg : Glob w) (hgs : Tryz.prog.globals.size ≤ sb)
    (hd : DkAt b sb ab (.slice none 0 0) ⟨ss, [], false, none⟩ w) (hab : ab < w.heap.size) :
    Calls Tryz.prog 8 #[dkP b, .string (bs (rootL items)), .int .i64 (items.length : Int)] w (ReoR b sb ab N ps items L ss w) := by
  have hLl := rep_len items.length L 0 hL
  have hLn := repK_le items.length L 0 (Nat.zero_le _)
  have hll := hl.len
  have hrl : (recsT items L).length = L.length := List.length_map _
  have hx := recs_ok hl L 0 hL
  have CO := Open_any b sb ab N ps (recsT items L) ss hR hf (by omega) (fun x h => by have := hx x h; omega) hN3 w hg hgs hd hab
  unfold OpenR dkP at CO
  have HG := hide hg
  have HL := hide hl
  have HOK := hide hL
  have hbl := hd.blk.lt
  have hsl := hd.st.lt
  have hord := hd.ord
  have hnd : ∀ x, w.heap.size ≤ x → ¬ DB b sb ab x := fun x hx h => by
    rcases h with h | h | ⟨h, _⟩ | h
    · omega
    · omega
    · omega
    · cases h
  have hG : ∀ W, Sav (DB b sb ab) w W → Glob W := fun W hS => hg.belowB (hS.below hg.top fun x hx h => by
    rcases h with h | h | ⟨h, _⟩ | h
    · omega
    · omega
    · omega
    · cases h) (Nat.le_refl _)
  have HGL := hide hG
  clear hR hf hd hL hx hg hG
  unfold dkP
  obtain ⟨RT, hRT⟩ : ∃ RT, rootL items = RT := ⟨_, rfl⟩
  have HRT := hide hRT
  have CNw := fun (W : World) (hg : Glob W) => NewL hl W hg
  rw [hRT] at CNw
  rw [hRT]
  clear hRT
  go_enter Tryz.func8, Tryz.ntmps8
  go_wp2_with fail
  refine CO.mono ?_
  rintro e w1 ⟨jb, vr, vl, rfl, hjw, hj, ho, hd1, hs1⟩
  have HJ := hide hj
  have HO := hide ho
  have HD1 := hide hd1
  have HS1 := hide hs1
  have CN := CNw w1 (HGL.out w1 hs1)
  clear hj ho hd1 hs1 CO CNw
  go_wp2_with fail
  refine CN.mono ?_
  rintro e w2 ⟨cb, rfl, hcb, hc, hb⟩
  have HI2 : Hid (CoI w1 cb items 0 (.slice none 0 0) w2) := ⟨hb, by rw [HRT.out, List.take_zero]; exact hc, hcb, Nat.zero_le _⟩
  obtain ⟨Al, cl, rfl⟩ := own_sl4 HO.out
  clear hc hb CN
  have hcl0 : ∀ g, (Value.slice none 0 0).ownBlock = some g → cb < g := fun g e => by cases e
  unfold cliP
  go_wp2_with fail
  go_loopw [14] (fun i wr => ∃ (n : Nat) (vc : Value), i = .int .i64 (n : Int) ∧ n ≤ L.length ∧ (∀ g, vc.ownBlock = some g → cb < g) ∧ Aside (CoI w1 cb items (repK items.length (L.take n) 0) vc wr)) (fun i _ => L.length - (intOf i).toNat)
  case atStart => exact ⟨0, _, rfl, Nat.zero_le _, hcl0, HI2.out⟩
  case round =>
    obtain ⟨n, vc, rfl, hn, hvc, hI⟩ := hrel
    have HI : Hid (CoI w1 cb items (repK items.length (L.take n) 0) vc wr) := hI
    clear hI
    have HVC := hide hvc
    clear hvc
    by_cases hlt : n < L.length
    · have e1 : decide ((n : Int) < (L.length : Int)) = true := decide_eq_true (by omega)
      have e1' : decide ((n : Int) < ((recsT items L).length : Int)) = true := decide_eq_true (by omega)
      obtain ⟨s, hs⟩ : ∃ s, L[n]? = some s := ⟨_, List.getElem?_eq_getElem hlt⟩
      obtain ⟨q1, q2, q3, q4⟩ := rep_at items.length L 0 n s HOK.out hs
      obtain ⟨p1, p2⟩ := pg_parse HL.out q2 q3
      have hrs : (recsT items L)[n]? = some (pgT items s) := by unfold recsT; rw [List.getElem?_map, hs]; rfl
      obtain ⟨a, rfl, ha, c0⟩ := ((TextsAt.of_own HO.out).to HI.out.bel).at_ hrs
      have hSr : Sav (DB b sb ab) w wr := HS1.out.to HI.out.bel
      have CP := Parse_any (pgT items s) (by have := pgT_len HL.out q2 q3; omega) wr (HGL.out wr hSr)
      unfold ParseR at CP
      rw [p1, p2] at CP
      unfold Pg.cs at CP
      have HSR := hide hSr
      clear p1 p2 hs hrs hSr
      go_wp2_with fail
      refine CP.mono ?_
      rintro e w3 ⟨vi, vp, rfl, hti, htp, hb, hvi⟩
      have HI3 := hide (HI.out.to hb)
      have hb4 := below_one w3 (.cells #[.int .i64 (pageV items s.1 s.2).fr, .int .i64 (pageV items s.1 s.2).size, .string (bs (pageV items s.1 s.2).root), vi, vp] 38)
      have HE4 := hide (Blk.new w3 38 #[.int .i64 (pageV items s.1 s.2).fr, .int .i64 (pageV items s.1 s.2).size, .string (bs (pageV items s.1 s.2).root), vi, vp])
      have HI4 := hide (HI3.out.to hb4)
      have hlr := HI.out.cli.blk.lt
      have hlv := HI.out.cli.lt
      have CA := Accept_any cb (rootL items) items.length (items.take (repK items.length (L.take n) 0)) (by have := HL.out.len; rw [List.length_take]; omega) vc (pageV items s.1 s.2) (page_fit HL.out q2 (by omega)) vi vp _ (HGL.out _ ((HSR.out.to hb).to hb4)) HI4.out.cli (hti.to hb4) (htp.to hb4) (fun _ e => by have := hvi cb e; omega) (fun g e _ e2 => by have := hvi g e2; have := (hlv g e).2; omega)
      rw [page_accE HL.out q2 (by omega) HI.out.le, page_accV HL.out q2 (by omega) HI.out.le, if_neg (by omega), if_neg (by omega)] at CA
      unfold Pg.cs cliP at CA
      have HQ4 := hide q4
      obtain ⟨Ai, ci, rfl, _⟩ := hti.slice
      obtain ⟨Ap, cp, rfl, _⟩ := htp.slice
      clear q1 q2 q3 q4 hti htp hb hvi hb4 CP HI3 c0 HSR
      go_wp2_with fail
      refine CA.mono ?_
      rintro e w5 ⟨v', rfl, hc, hT, _⟩
      have hk' := repK_le items.length (L.take (n + 1)) 0 (Nat.zero_le _)
      have HI5 : Hid (CoI w1 cb items (repK items.length (L.take (n + 1)) 0) v' w5) := HI4.out.acc hT (by rw [HQ4.out]; exact hc) hk'
      have hvc5 : ∀ g, v'.ownBlock = some g → cb < g := fun g e => by have := (hc.lt g e).1; omega
      have HLT := hide hlt
      clear hc hT CA HI4 HE4
      go_wp2_with fail
      refine ⟨⟨n + 1, v', by go_num, by have := HLT.out; omega, hvc5, HI5.out⟩, ?_⟩
      have := HLT.out
      simp [intOf]; omega
    · obtain rfl : n = L.length := by omega
      have e1 : decide ((L.length : Int) < (L.length : Int)) = false := by simp
      rw [List.take_length] at HI
      have hjlt := HJ.out.blk.lt
      have hres : ReoR b sb ab N ps items L ss w (.returned (.tuple #[.pointer (some ⟨jb, 0, none⟩), .pointer (some ⟨cb, 0, none⟩), .bool true])) wr :=
        ⟨jb, vr, cb, vc, w1.heap.size, rfl, hjw, hjlt, fun g e => by have := HJ.out.lt g e; omega, hcb, HVC.out, HJ.out.to HI.out.bel, HI.out.cli, HD1.out.to HI.out.bel, HS1.out.to HI.out.bel⟩
      go_wp2_with fail
      go_ret3
      exact hres
end Go.Proofs.YtnjlefggkfagmaaGreatDoor

/- The mirror between its steps: disk, journal, client. -/
set_option linter.unusedVariables false
set_option linter.unusedSimpArgs false
namespace Go.Proofs.YtnjlefggkfagmaaGreatDoor
open Go.RowKit

theorem wrAll_noarm : ∀ (l : List (List UInt8)) (k : Nat) (d : Dk), d.arm = none → (wrAll d k l).1 = 0 ∧ (wrAll d k l).2.arm = none
  | [], k, d, h => by
    have e : dCount d = (0, d) := by unfold dCount; rw [h]
    have e2 : dSync d = (0, dDone d) := by unfold dSync; rw [e]; rfl
    show (dSync d).1 = 0 ∧ (dSync d).2.arm = none
    rw [e2]
    exact ⟨rfl, h⟩
  | t :: l, k, d, h => by
    have e : dWrite d k t = (0, { d with q := d.q ++ [(k, t)] }) := by unfold dWrite dCount; rw [show ({ d with q := d.q ++ [(k, t)] } : Dk).arm = none from h]
    unfold wrAll
    rw [e, if_pos rfl]
    exact wrAll_noarm l (k + 1) _ h
theorem wrSteps_noarm : ∀ (l : List (Nat × List (List UInt8))) (d : Dk), d.arm = none → (wrSteps d l).1 = 0 ∧ (wrSteps d l).2.arm = none
  | [], d, h => ⟨rfl, h⟩
  | s :: l, d, h => by
    have e := wrAll_noarm s.2 s.1 d h
    unfold wrSteps
    rw [if_pos e.1]
    exact wrSteps_noarm l _ e.2
theorem wr_000 (ss qs : List (List UInt8)) (c : Nat) (hq : qs ≠ []) : wrSteps ⟨ss, [], false, some (0, 0, 0)⟩ (stepsV c qs) = (21, ⟨ss, [], true, none⟩) := by
  obtain ⟨q, qs, rfl⟩ : ∃ x r, qs = x :: r := by
    cases qs with
    | nil => exact absurd rfl hq
    | cons x r => exact ⟨x, r, rfl⟩
  have e : dWrite ⟨ss, [], false, some (0, 0, 0)⟩ (2 + c) zeroV = (21, ⟨ss, [], true, none⟩) := by
    have : tornS ss (some (2 + c, zeroV)) 0 = ss := setS_nil ss (2 + c)
    unfold dWrite dCount dFail
    show ((21 : Int), (⟨tornS ss (some (2 + c, zeroV)) 0, [], true, none⟩ : Dk)) = _
    rw [this]
  unfold stepsV
  show (if (wrAll ⟨ss, [], false, some (0, 0, 0)⟩ (2 + c) (zeroV :: List.replicate qs.length zeroV)).1 = 0 then _ else wrAll ⟨ss, [], false, some (0, 0, 0)⟩ (2 + c) (zeroV :: List.replicate qs.length zeroV)) = _
  have e2 : wrAll ⟨ss, [], false, some (0, 0, 0)⟩ (2 + c) (zeroV :: List.replicate qs.length zeroV) = (21, ⟨ss, [], true, none⟩) := by
    unfold wrAll
    exact (by rw [e]; exact if_neg (show ¬ ((21 : Int) = 0) by decide))
  rw [e2]
  exact if_neg (show ¬ ((21 : Int) = 0) by decide)
theorem jd_new {n : Nat} (h : 2 ≤ n) (h4 : n ≤ 4000) : JD n [] (newD n).ss := by
  have g : ∀ p, p < 2 → goodH 0 p ((newD n).ss.getD p []) = true := fun p hp => by
    have : (newD n).ss.getD p [] = zeroV := by
      unfold newD zeroV
      rw [List.getD_eq_getElem?_getD, List.getElem?_replicate, if_pos (by omega)]; rfl
    rw [this]
    unfold goodH
    simp
  refine ⟨⟨List.length_replicate, fun s hs => by rw [List.eq_of_mem_replicate hs]; exact List.length_replicate, by simpa using h, h4, fun p hp => absurd hp (by simp), fun i p hp => by simp at hp⟩, g 0 (by decide), g 1 (by decide)⟩

structure LwS (w : World) (N : Nat) (items : List (List UInt8)) (b sb ab jb cb : Nat) (vr vc : Value) (ss ps rs : List (List UInt8)) (k : Nat) (m : Option (Int × Int × Int)) (W : World) : Prop where
  bel : Below w.heap.size w W
  sbw : w.heap.size ≤ sb
  abl : ab < W.heap.size
  dk : DkAt b sb ab (.slice none 0 0) ⟨ss, [], false, m⟩ W
  jd : JD N ps ss
  fl : ps.flatten = joinD rs
  j : JAt jb b N ps.length rs false vr W
  c : CliAt cb (rootL items) items.length (items.take k) vc W
  kl : k ≤ items.length
  jw : w.heap.size ≤ jb
  cw : w.heap.size ≤ cb
  s1 : ¬ DB b sb ab jb
  s2 : ∀ g, vr.ownBlock = some g → ¬ DB b sb ab g
  s3 : ¬ DB b sb ab cb
  s4 : ∀ g, vc.ownBlock = some g → ¬ DB b sb ab g
  s5 : cb ≠ jb
  s6 : vr.ownBlock ≠ some cb
  s7 : vc.ownBlock ≠ some jb
  s8 : ∀ g, vr.ownBlock = some g → vc.ownBlock ≠ some g
theorem DkAt.savB {F : Nat → Prop} {b sb ab : Nat} {d : Dk} {W W' : World} (h : DkAt b sb ab (.slice none 0 0) d W) (hs : Sav F W W') (hF : ∀ k, DB b sb ab k → ¬ F k) : DkAt b sb ab (.slice none 0 0) d W' := by
  refine ⟨hs.blk h.blk (hF b (.inl rfl)), hs.blk h.st (hF sb (.inr (.inl rfl))), fun a n c e => ?_, h.ord, hs.own h.q (fun g e => by cases e), h.l64, h.qk, h.few⟩
  obtain ⟨g1, g2, g3, g4⟩ := h.al a n c e
  exact ⟨hs.blk g1 (hF ab (.inr (.inr (.inl ⟨rfl, g2⟩)))), g2, g3, g4⟩
section
variable {w W W' : World} {N b sb ab jb cb k : Nat} {items ss ps rs : List (List UInt8)} {vr vc : Value} {m : Option (Int × Int × Int)}
theorem LwS.to (h : LwS w N items b sb ab jb cb vr vc ss ps rs k m W) (hb : Below W.heap.size W W') : LwS w N items b sb ab jb cb vr vc ss ps rs k m W' :=
  ⟨below_to h.bel (Nat.le_refl _) hb, h.sbw, Nat.lt_of_lt_of_le h.abl hb.size, h.dk.to hb, h.jd, h.fl, h.j.to hb, h.c.to hb, h.kl, h.jw, h.cw, h.s1, h.s2, h.s3, h.s4, h.s5, h.s6, h.s7, h.s8⟩
theorem LwS.dblt (h : LwS w N items b sb ab jb cb vr vc ss ps rs k m W) : ∀ x, DB b sb ab x → w.heap.size ≤ x ∧ x < W.heap.size := fun x hx => by
  have h1 := h.dk.ord
  have h2 := h.dk.blk.lt
  have h3 := h.abl
  have h4 := h.sbw
  rcases hx with hx | hx | ⟨hx, hx'⟩ | hx
  · omega
  · omega
  · omega
  · cases hx
theorem LwS.glob (h : LwS w N items b sb ab jb cb vr vc ss ps rs k m W) (hg : Glob w) : Glob W := hg.to h.bel
theorem LwS.rlt (h : LwS w N items b sb ab jb cb vr vc ss ps rs k m W) : ∀ g, vr.ownBlock = some g → w.heap.size ≤ g ∧ g < W.heap.size := fun g e => by
  have := h.j.lt g e
  have := h.jw
  omega
theorem LwS.clt (h : LwS w N items b sb ab jb cb vr vc ss ps rs k m W) : ∀ g, vc.ownBlock = some g → w.heap.size ≤ g ∧ g < W.heap.size := fun g e => by
  have := h.c.lt g e
  have := h.cw
  omega
theorem LwS.next (h : LwS w N items b sb ab jb cb vr vc ss ps rs k m W) (hl : Lg items) : Calls Tryz.prog 9 #[.pointer (some ⟨cb, 0, none⟩)] W fun e w' => e = .returned (.int .i64 (k : Int)) ∧ Below W.heap.size W w' := by
  have := Next_any cb _ _ (items.take k) (by have := hl.big.1; rw [List.length_take]; omega) vc W h.c
  rw [List.length_take, Nat.min_eq_left h.kl] at this
  exact this
theorem LwS.its (h : LwS w N items b sb ab jb cb vr vc ss ps rs k m W) (hl : Lg items) : Calls Tryz.prog 21 #[.pointer (some ⟨cb, 0, none⟩)] W (ItemsR (items.take k) W) :=
  Items_any cb _ _ (items.take k) (by have := hl.big.1; rw [List.length_take]; omega) vc W h.c
/-- the client takes a page over, or does not -/
theorem LwS.acc (h : LwS w N items b sb ab jb cb vr vc ss ps rs k m W) {k' : Nat} {v' : Value} (hc : CliAt cb (rootL items) items.length (items.take k') v' W') (hT : Two cb (rowOr vc cb) W W') (hv : v'.ownBlock = vc.ownBlock ∨ ∃ g, v'.ownBlock = some g ∧ W.heap.size ≤ g) (hk : k' ≤ items.length) :
    LwS w N items b sb ab jb cb vr v' ss ps rs k' m W' := by
  have hr : rowOr vc cb = cb ∨ vc.ownBlock = some (rowOr vc cb) := rowOr_cases vc cb
  have hrw : w.heap.size ≤ rowOr vc cb := by
    rcases hr with e | e
    · rw [e]; exact h.cw
    · exact (h.clt _ e).1
  have hS := sav_two hT
  have hjl := h.j.blk.lt
  have new : ∀ g, v'.ownBlock = some g → vc.ownBlock = some g ∨ W.heap.size ≤ g := fun g e => by
    rcases hv with hv | ⟨g', hv, hg⟩
    · exact .inl (hv.symm.trans e)
    · rw [hv] at e
      have := Option.some.inj e
      exact .inr (by omega)
  refine ⟨h.bel.trans (hT.below h.bel.size h.cw hrw), h.sbw, Nat.lt_of_lt_of_le h.abl hT.size, h.dk.savB hS fun x hx hF => ?_, h.jd, h.fl, h.j.sav hS (fun hF => ?_) (fun g e hF => ?_), hc, hk, h.jw, h.cw, h.s1, h.s2, h.s3, fun g e hx => ?_, h.s5, h.s6, fun e => ?_, fun g e e2 => ?_⟩
  · rcases hF with hF | hF
    · exact h.s3 (hF ▸ hx)
    · rcases hr with e | e
      · exact h.s3 (by rw [← e, ← hF]; exact hx)
      · exact h.s4 _ e (by rw [← hF]; exact hx)
  · rcases hF with hF | hF
    · exact h.s5 hF.symm
    · rcases hr with e | e
      · exact h.s5 (e.symm.trans hF.symm)
      · exact h.s7 (by rw [hF]; exact e)
  · rcases hF with hF | hF
    · exact h.s6 (by rw [← hF]; exact e)
    · rcases hr with e2 | e2
      · exact h.s6 (by rw [← e2, ← hF]; exact e)
      · exact h.s8 g e (by rw [hF]; exact e2)
  · rcases new g e with e2 | e2
    · exact h.s4 g e2 hx
    · have := (h.dblt g hx).2; omega
  · rcases new jb e with e2 | e2
    · exact h.s7 e2
    · omega
  · rcases new g e2 with e3 | e3
    · exact h.s8 g e e3
    · have := (h.rlt g e).2; omega
/-- the alarm is set -/
theorem LwS.armed (h : LwS w N items b sb ab jb cb vr vc ss ps rs k m W) (a n c : Int) (ha : a ≤ 9223372036854775807) :
    Calls Tryz.prog 17 #[.pointer (some ⟨b, 0, none⟩), .int .i64 a, .int .i64 n, .int .i64 c] W fun e W' => e = .returned (.tuple #[]) ∧ ∃ ab', LwS w N items b sb ab' jb cb vr vc ss ps rs k (if 0 ≤ a then some (a, n, c) else none) W' := by
  refine (Arm_any b sb ab ⟨ss, [], false, m⟩ rfl a n c ha W h.dk).mono ?_
  rintro e W' ⟨rfl, ab', hab, hd, hS⟩
  have hS : Sav (DB b sb ab) W W' := hS
  refine ⟨rfl, ab', ?_⟩
  have hnew : ∀ x, DB b sb ab' x → DB b sb ab x ∨ W.heap.size ≤ x := fun x hx => by
    rcases hx with hx | hx | ⟨hx, hx'⟩ | hx
    · exact .inl (.inl hx)
    · exact .inl (.inr (.inl hx))
    · rcases hab with e | e
      · exact .inl (.inr (.inr (.inl ⟨by rw [hx, e], by rw [← e]; exact hx'⟩)))
      · exact .inr (by omega)
    · cases hx
  have hjl := h.j.blk.lt
  have hcl := h.c.blk.lt
  refine ⟨h.bel.trans (hS.below h.bel.size fun x hx hF => by have := (h.dblt x hF).1; omega), h.sbw, ?_, hd, h.jd, h.fl, h.j.sav hS h.s1 h.s2, ⟨hS.blk h.c.blk h.s3, hS.own h.c.own h.s4⟩, h.kl, h.jw, h.cw, fun hx => ?_, fun g e hx => ?_, fun hx => ?_, fun g e hx => ?_, h.s5, h.s6, h.s7, h.s8⟩
  · rcases hab with e | e
    · rw [e]; exact Nat.lt_of_lt_of_le h.abl hS.size
    · exact e.2
  · rcases hnew _ hx with e | e
    · exact h.s1 e
    · omega
  · rcases hnew _ hx with e2 | e2
    · exact h.s2 g e e2
    · have := (h.rlt g e).2; omega
  · rcases hnew _ hx with e | e
    · exact h.s3 e
    · omega
  · rcases hnew _ hx with e2 | e2
    · exact h.s4 g e e2
    · have := (h.clt g e).2; omega
/-- the power has failed: what is left -/
structure LwF (w : World) (N : Nat) (items : List (List UInt8)) (b sb ab cb : Nat) (vc : Value) (ss ps qs rs : List (List UInt8)) (t : List UInt8) (k : Nat) (off : Bool) (W : World) : Prop where
  bel : Below w.heap.size w W
  sbw : w.heap.size ≤ sb
  abl : ab < W.heap.size
  dk : DkAt b sb ab (.slice none 0 0) ⟨ss, [], off, none⟩ W
  rd : RD N ps ss ∨ RD N (ps ++ qs) ss
  fl : ps.flatten = joinD rs
  fq : (ps ++ qs).flatten = joinD (rs ++ [t])
  c : CliAt cb (rootL items) items.length (items.take k) vc W
  kl : k ≤ items.length
  s3 : ¬ DB b sb ab cb
  s4 : ∀ g, vc.ownBlock = some g → ¬ DB b sb ab g
theorem LwF.to {qs : List (List UInt8)} {t : List UInt8} {off : Bool} (h : LwF w N items b sb ab cb vc ss ps qs rs t k off W) (hb : Below W.heap.size W W') : LwF w N items b sb ab cb vc ss ps qs rs t k off W' :=
  ⟨below_to h.bel (Nat.le_refl _) hb, h.sbw, Nat.lt_of_lt_of_le h.abl hb.size, h.dk.to hb, h.rd, h.fl, h.fq, h.c.to hb, h.kl, h.s3, h.s4⟩
theorem LwF.next {qs : List (List UInt8)} {t : List UInt8} {off : Bool} (h : LwF w N items b sb ab cb vc ss ps qs rs t k off W) (hl : Lg items) : Calls Tryz.prog 9 #[.pointer (some ⟨cb, 0, none⟩)] W fun e w' => e = .returned (.int .i64 (k : Int)) ∧ Below W.heap.size W w' := by
  have := Next_any cb _ _ (items.take k) (by have := hl.big.1; rw [List.length_take]; omega) vc W h.c
  rw [List.length_take, Nat.min_eq_left h.kl] at this
  exact this
theorem LwF.start {qs : List (List UInt8)} {t : List UInt8} {off : Bool} (h : LwF w N items b sb ab cb vc ss ps qs rs t k off W) :
    Calls Tryz.prog 19 #[.pointer (some ⟨b, 0, none⟩)] W fun e W' => e = .returned (.tuple #[]) ∧ LwF w N items b sb ab cb vc ss ps qs rs t k false W' := by
  refine (Start_any b sb ab (.slice none 0 0) ⟨ss, [], off, none⟩ W h.dk).mono ?_
  rintro e W' ⟨rfl, hd, hS⟩
  have hS : Sav (DB b sb ab) W W' := hS
  have h1 := h.dk.ord
  have h4 := h.sbw
  refine ⟨rfl, ⟨h.bel.trans (hS.below h.bel.size fun x hx hF => ?_), h.sbw, Nat.lt_of_lt_of_le h.abl hS.size, hd, h.rd, h.fl, h.fq, ⟨hS.blk h.c.blk h.s3, hS.own h.c.own h.s4⟩, h.kl, h.s3, h.s4⟩⟩
  rcases hF with hF | hF | ⟨hF, hx'⟩ | hF
  · omega
  · omega
  · omega
  · cases hF
/-- a record is written -/
theorem LwS.append (h : LwS w N items b sb ab jb cb vr vc ss ps rs k m W) (hg : Glob w) (t : List UInt8) (ht : t.length ≤ 2300) (hrl : rs.length ≤ 1000) (hfit : 2 + ps.length + (splitV (joinD [t])).length ≤ N) (v : Value) (hv : TextsAt W v [t]) (hvn : ∀ g, v.ownBlock = some g → ¬ DB b sb ab g ∧ g ≠ jb ∧ vr.ownBlock ≠ some g) :
    Calls Tryz.prog 18 #[.pointer (some ⟨jb, 0, none⟩), v] W fun e W' =>
      (e = .returned (.int .i64 0) ∧ ∃ vr' ss' m', LwS w N items b sb ab jb cb vr' vc ss' (ps ++ splitV (joinD [t])) (rs ++ [t]) k m' W' ∧ (m = none → m' = none) ∧ m ≠ some (0, 0, 0)) ∨
      (e = .returned (.int .i64 21) ∧ m ≠ none ∧ ∃ ss', LwF w N items b sb ab cb vc ss' ps (splitV (joinD [t])) rs t k true W' ∧ (m = some (0, 0, 0) → ss' = ss)) := by
  obtain ⟨_, hjl, hjn⟩ := pieces_60 ht
  have hqn : splitV (joinD [t]) ≠ [] := fun e => hjn (by have := splitJ_flat (joinD [t]).length (joinD [t]) (Nat.le_refl _); rw [e] at this; exact this.symm)
  have hno : m = none → (wrSteps ⟨ss, [], false, m⟩ (stepsV ps.length (splitV (joinD [t])))).1 = 0 ∧ (wrSteps ⟨ss, [], false, m⟩ (stepsV ps.length (splitV (joinD [t])))).2.arm = none := fun e => wrSteps_noarm _ _ e
  have h00 : m = some (0, 0, 0) → wrSteps ⟨ss, [], false, m⟩ (stepsV ps.length (splitV (joinD [t]))) = (21, ⟨ss, [], true, none⟩) := fun e => by rw [e]; exact wr_000 _ _ _ hqn
  have hsb : Tryz.prog.globals.size ≤ sb := Nat.le_trans hg.top h.sbw
  have hjb : Tryz.prog.globals.size ≤ jb := Nat.le_trans hg.top h.jw
  have C := Append_any jb b sb ab N ps.length rs [t] vr ⟨ss, [], false, m⟩ rfl rfl h.jd.bd.len (by simp) (by simp) (fun x hx => by rw [List.mem_singleton.1 hx]; omega) (by omega) hfit v W (h.glob hg) hsb hjb h.j h.dk hv h.s1 h.s2 hvn hrl h.abl
  refine C.mono ?_
  rintro e W' ⟨he, hd, hS, hj⟩
  have hfq : (ps ++ splitV (joinD [t])).flatten = joinD (rs ++ [t]) := by rw [List.flatten_append, h.fl, splitJ_flat _ _ (Nat.le_refl _), joinD_snoc1]
  have hB : Below w.heap.size w W' := h.bel.trans (hS.below h.bel.size fun x hx hF => by
    rcases hF with hF | hF | hF
    · have := (h.dblt x hF).1; omega
    · have := h.jw; omega
    · have := (h.rlt x hF).1; omega)
  have hc : CliAt cb (rootL items) items.length (items.take k) vc W' := ⟨hS.blk h.c.blk (fun hF => by
    rcases hF with hF | hF | hF
    · exact h.s3 hF
    · exact h.s5 hF
    · exact h.s6 hF), hS.own h.c.own fun g e hF => by
    rcases hF with hF | hF | hF
    · exact h.s4 g e hF
    · exact h.s7 (by rw [← hF]; exact e)
    · exact h.s8 g hF e⟩
  have hal := Nat.lt_of_lt_of_le h.abl hS.size
  rcases append_out h.jd (splitJ_len _ _ (Nat.le_refl _)) hfit m with ⟨h0, ss', a, h2, hJ⟩ | ⟨h0, ss', h2, hR⟩
  · left
    have f1 : m = none → a = none := fun e => by have := (hno e).2; rw [h2] at this; exact this
    have f2 : m ≠ some (0, 0, 0) := fun e => by have := h00 e; rw [this] at h0; exact absurd h0 (show ¬ ((21 : Int) = 0) by decide)
    rw [h0] at he
    rw [h2] at hd
    obtain ⟨vr', hj', hvr⟩ := hj h0
    refine ⟨he, vr', ss', a, ⟨hB, h.sbw, hal, hd, hJ, hfq, by rw [List.length_append]; exact hj', hc, h.kl, h.jw, h.cw, h.s1, fun g e hx => ?_, h.s3, h.s4, h.s5, fun e => ?_, h.s7, fun g e e2 => ?_⟩, f1, f2⟩
    · rcases hvr with hvr | ⟨g', hvr, hg'⟩
      · exact h.s2 g (hvr.symm.trans e) hx
      · rw [hvr] at e
        have := Option.some.inj e
        have := (h.dblt g hx).2
        omega
    · rcases hvr with hvr | ⟨g', hvr, hg'⟩
      · exact h.s6 (hvr.symm.trans e)
      · rw [hvr] at e
        have := Option.some.inj e
        have := h.c.blk.lt
        omega
    · rcases hvr with hvr | ⟨g', hvr, hg'⟩
      · exact h.s8 g (hvr.symm.trans e) e2
      · rw [hvr] at e
        have := Option.some.inj e
        have := (h.clt g e2).2
        omega
  · right
    have f1 : m ≠ none := fun e => by have := (hno e).1; rw [h0] at this; exact absurd this (by decide)
    have f2 : m = some (0, 0, 0) → ss' = ss := fun e => by have := h00 e; rw [this] at h2; exact (Dk.mk.inj h2).1.symm
    rw [h0] at he
    rw [h2] at hd
    exact ⟨he, f1, ss', ⟨hB, h.sbw, hal, hd, hR, h.fl, hfq, hc, h.kl, h.s3, h.s4⟩, f2⟩
end
/-- the journal is opened again -/
theorem reopen_lw {w : World} {items : List (List UInt8)} (hl : Lg items) (hg : Glob w) (b sb ab N : Nat) (ps ss : List (List UInt8)) (L : List (Nat × Nat)) (hL : repOK items.length L 0) (hR : RD N ps ss) (hf : ps.flatten = joinD (recsT items L)) (hN3 : 3 ≤ N) (W : World)
    (hB : Below w.heap.size w W) (hsb : w.heap.size ≤ sb) (hab : ab < W.heap.size) (hd : DkAt b sb ab (.slice none 0 0) ⟨ss, [], false, none⟩ W) :
    Calls Tryz.prog 8 #[dkP b, .string (bs (rootL items)), .int .i64 (items.length : Int)] W fun e W' =>
      ∃ jb cb vr vc, e = .returned (.tuple #[.pointer (some ⟨jb, 0, none⟩), .pointer (some ⟨cb, 0, none⟩), .bool true]) ∧ LwS w N items b sb ab jb cb vr vc (fixA ps.length ss) ps (recsT items L) (repK items.length L 0) none W' := by
  have C := Reopen_any b sb ab N ps ss items hl L hL hR hf hN3 W (hg.to hB) (Nat.le_trans hg.top hsb) hd hab
  refine C.mono ?_
  rintro e W' ⟨jb, vr, cb, vc, m, rfl, hjw, hjm, hvr, hmc, hvc, hj, hc, hd', hS⟩
  have h1 := hd.ord
  have h2 := hd.blk.lt
  have h3 := hd.st.lt
  have hw := hB.size
  have hlt : ∀ x, DB b sb ab x → w.heap.size ≤ x ∧ x < W.heap.size := fun x hx => by
    rcases hx with hx | hx | ⟨hx, hx'⟩ | hx
    · omega
    · omega
    · omega
    · cases hx
  refine ⟨jb, cb, vr, vc, rfl, ⟨hB.trans (hS.below hB.size fun x hx hF => ?_), hsb, Nat.lt_of_lt_of_le hab hS.size, hd', fixA_jd hR.bd, hf, hj, hc, repK_le _ _ _ (Nat.zero_le _), by omega, by omega, fun hx => ?_, fun g e hx => ?_, fun hx => ?_, fun g e hx => ?_, by omega, fun e => ?_, fun e => ?_, fun g e e2 => ?_⟩⟩
  · have := (hlt x hF).1; omega
  · have := (hlt _ hx).2; omega
  · have := (hlt _ hx).2; have := hvr g e; omega
  · have := (hlt _ hx).2; omega
  · have := (hlt _ hx).2; have := hvc g e; omega
  · have := hvr _ e; omega
  · have := hvc _ e; omega
  · have := hvr _ e; have := hvc _ e2; omega
end Go.Proofs.YtnjlefggkfagmaaGreatDoor

/- Laws of the mirror's steps; the walk of w09Pages. -/
set_option linter.unusedVariables false
set_option linter.unusedSimpArgs false
namespace Go.Proofs.YtnjlefggkfagmaaGreatDoor
open Go.RowKit

section
variable {w W : World} {N b sb ab jb cb k : Nat} {items ss ps rs : List (List UInt8)} {vr vc : Value} {m : Option (Int × Int × Int)}
/-- the client is given a page of the log -/
theorem LwS.accept (h : LwS w N items b sb ab jb cb vr vc ss ps rs k m W) (hl : Lg items) (hg : Glob w) {F M lo hi : Nat} {vi vp : Value} (hF : F ≤ items.length) (h2 : M ≤ 50) (hp : PgAt lo hi W vi vp (pageV items F M)) (hlo : cb < lo) (hv : ∀ g, vc.ownBlock = some g → g < lo) :
    Calls Tryz.prog 11 #[.pointer (some ⟨cb, 0, none⟩), .agg ((pageV items F M).cs vi vp)] W fun e W' => ∃ v', e = .returned (.int .i64 (if k < F then 13 else 0)) ∧ LwS w N items b sb ab jb cb vr v' ss ps rs (if k < F then k else max k (min (F + M) items.length)) m W' ∧ Two cb (rowOr vc cb) W W' := by
  have C := Accept_any cb (rootL items) items.length (items.take k) (by have := hl.big.1; rw [List.length_take]; omega) vc (pageV items F M) (page_fit hl hF h2) vi vp W (h.glob hg) h.c hp.ti hp.tp (fun _ e => by have := hp.bi cb e; omega) (fun g e _ e2 => by have := hp.bi g e2; have := hv g e; omega)
  rw [page_accE hl hF h2 h.kl, page_accV hl hF h2 h.kl] at C
  refine C.mono ?_
  rintro e W' ⟨v', h1, h2, h3, h4⟩
  exact ⟨v', h1, h.acc h2 h3 h4 (by have := h.kl; split <;> omega), h3⟩
theorem LwS.rowlt (h : LwS w N items b sb ab jb cb vr vc ss ps rs k m W) : rowOr vc cb < W.heap.size := by
  rcases rowOr_cases vc cb with e | e
  · rw [e]; exact h.c.blk.lt
  · exact (h.clt _ e).2
/-- a record in a row made for it -/
theorem LwS.append1 (h : LwS w N items b sb ab jb cb vr vc ss ps rs k m W) (hg : Glob w) (t : List UInt8) (ht : t.length ≤ 2300) (hrl : rs.length ≤ 1000) (hfit : 2 + ps.length + (splitV (joinD [t])).length ≤ N) :
    Calls Tryz.prog 18 #[.pointer (some ⟨jb, 0, none⟩), .slice (some ⟨W.heap.size, 0, none⟩) 1 1] (W.alloc (.cells #[.string (bs t)] 9)) fun e W' =>
      (e = .returned (.int .i64 0) ∧ ∃ vr' ss' m', LwS w N items b sb ab jb cb vr' vc ss' (ps ++ splitV (joinD [t])) (rs ++ [t]) k m' W' ∧ (m = none → m' = none) ∧ m ≠ some (0, 0, 0)) ∨
      (e = .returned (.int .i64 21) ∧ m ≠ none ∧ ∃ ss', LwF w N items b sb ab cb vc ss' ps (splitV (joinD [t])) rs t k true W' ∧ (m = some (0, 0, 0) → ss' = ss)) :=
  (h.to (below_one _ _)).append hg t ht hrl hfit _ (rows_newS W _ [t] _ rfl 1 rfl) fun g e => by
    have e : W.heap.size = g := Option.some.inj e
    have hj := h.j.blk.lt
    exact ⟨fun hx => by have := (h.dblt g hx).2; omega, by omega, fun e2 => by have := (h.rlt g e2).2; omega⟩
end
theorem text_page {items : List (List UInt8)} (h : Lg items) {F M : Nat} (hF : F ≤ items.length) (h2 : M ≤ 50) : textV (pageV items F M) = pgT items (F, M) ∧ textE (pageV items F M) = 0 := by
  have := page_formed h hF h2
  unfold textV textE pgT
  rw [this]; exact ⟨rfl, rfl⟩
theorem pieces_18 {t : List UInt8} (h : t.length ≤ 700) : (splitV (joinD [t])).length ≤ 18 := by
  have h1 : (joinD [t]).length ≤ 728 := by
    have := itoa_len t.length (by omega)
    unfold joinD
    simp only [List.flatMap_cons, List.flatMap_nil, List.append_nil, List.length_append, List.length_cons, List.length_nil]
    omega
  have h2 := splitJ_num (joinD [t]).length (joinD [t]) (Nat.le_refl _)
  omega
theorem pgT_1 {items : List (List UInt8)} (h : Lg items) : (pgT items (0, 1)).length ≤ 700 := by
  have hf := page_formed h (F := 0) (M := 1) (Nat.zero_le _) (by decide)
  have h6 : ∀ x ∈ (pageV items 0 1).items, x.length ≤ 60 := fun x hx => h.lx x (List.mem_of_mem_drop (List.mem_of_mem_take hx))
  have hi := page_ilen items 0 1
  unfold pgT
  generalize pageV items 0 1 = p at *
  have hi1 : p.items.length ≤ 1 := by omega
  obtain ⟨⟨hf1, hs, hr, hn, hl⟩, hp⟩ := formed_spec hf
  obtain ⟨h1, h2⟩ := formed_len hf
  unfold textPg
  rw [List.length_append]
  have e1 := flat_le p.line 500 (fun k => by
    unfold Pg.line
    have hk : (k : Nat) < p.paths.length := by have := k.2; omega
    rw [show p.paths.getD k [] = p.paths[(k : Nat)] by simp [hk]]
    have hq := h1 _ (List.getElem_mem hk)
    exact line_len60 _ _ (h6 _ (List.getElem_mem k.2)) hq.1 (fun y hy => by rw [hq.2 y hy]; exact Nat.le_refl _)) (List.finRange p.items.length)
  rw [List.length_finRange] at e1
  have e2 : p.items.length * 500 ≤ 1 * 500 := Nat.mul_le_mul hi1 (Nat.le_refl _)
  have e3 : (headT p).length ≤ 200 := by
    unfold headT
    have a1 : (Lib.itoa p.fr).length ≤ 20 := by have := itoa_len p.fr.toNat (by omega); rwa [Int.toNat_of_nonneg hf1.1] at this
    have a2 : (Lib.itoa p.size).length ≤ 20 := by have := itoa_len p.size.toNat (by omega); rwa [Int.toNat_of_nonneg hs.1] at this
    have a3 := itoa_len p.items.length (by omega)
    have a4 := isD_len hr
    rw [Lib.join_cons]
    have a5 := tail_len 20 [Lib.itoa p.fr, Lib.itoa p.size, p.root, Lib.itoa p.items.length] (by
      intro x hx
      simp only [List.mem_cons, List.not_mem_nil, or_false] at hx
      rcases hx with rfl | rfl | rfl | rfl <;> omega)
    simp only [List.length_append, List.length_cons, List.length_nil] at a5 ⊢
    omega
  omega

set_option maxRecDepth 100000 in
set_option maxHeartbeats 2000000 in
theorem w09Pages_any (w : World) (hg : Glob w) : Calls Tryz.prog 4 #[] w fun e w' => e = .returned (.bool true) ∧ Below w.heap.size w w' := by
  obtain ⟨items, hit⟩ : ∃ i : List (List UInt8), i = [[97], [98]] := ⟨_, rfl⟩
  have hl : Lg items := by rw [hit]; exact ⟨by decide, by decide⟩
  have hn : items.length = 2 := by rw [hit]; rfl
  have HT := hide (fun W => by rw [hit]; exact rows_newS W 9 [[97], [98]] #[.string (bs [97]), .string (bs [98])] rfl 2 rfl : ∀ W : World, TextsAt (W.alloc (.cells #[.string (bs [97]), .string (bs [98])] 9)) (.slice (some ⟨W.heap.size, 0, none⟩) 2 2) items)
  have HK1 : Hid (items.take 1 = [[97]]) := by show _ = _; rw [hit]; rfl
  have HG := hide hg
  have HL := hide hl
  have HN := hide hn
  have HW : Hid (w.heap.size ≤ w.heap.size) := Nat.le_refl _
  clear hit hg hl hn
  go_enter Tryz.func4, Tryz.ntmps4
  go_wp2_with fail
  have HV : Hid (TextsAt (w.alloc (.cells #[.string ⟨#[97]⟩, .string ⟨#[98]⟩] 9)) (.slice (some ⟨w.heap.size, 0, none⟩) 2 2) items) := HT.out w
  have HB1 := hide (below_one w (.cells #[.string ⟨#[97]⟩, .string ⟨#[98]⟩] 9))
  generalize w.alloc (.cells #[.string ⟨#[97]⟩, .string ⟨#[98]⟩] 9) = w1 at *
  generalize hvs : Value.slice (some ⟨w.heap.size, 0, none⟩) 2 2 = vs at *
  have HG1 := hide (HG.out.to HB1.out)
  clear hvs HG HT
  have C1 := diskNew_any 40 (by decide) (by decide) w1
  unfold NewDR dkP at C1
  refine C1.mono ?_
  rintro e w2 ⟨b, sb, rfl, hsb, hd, hb⟩
  have HB2 := hide hb
  have HD2 := hide hd
  clear hb hd C1
  go_wp2_with fail
  have C2 := w09Root_any items HL.out.big.1 HL.out.big.2 vs w2 (HV.out.to HB2.out) (HG1.out.to HB2.out)
  refine C2.mono ?_
  rintro e w3 ⟨rfl, hb⟩
  have HB3 := hide (below_to HB2.out (Nat.le_refl _) hb)
  have HD3 := hide (HD2.out.to hb)
  clear hb C2 HB2 HD2
  go_wp2_with fail
  have C3 := reopen_lw HL.out HG1.out b sb b 40 [] (newD 40).ss [] trivial (jd_new (by decide) (by decide)).rd rfl (by decide) w3 HB3.out hsb HD3.out.blk.lt HD3.out
  rw [HN.out] at C3
  unfold dkP rootL at C3
  refine C3.mono ?_
  rintro e w4 ⟨jb, cb, vr, vc, rfl, hS⟩
  have HS4 : Hid (LwS w1 40 items b sb b jb cb vr vc (fixA 0 (newD 40).ss) [] [] 0 none w4) := hS
  generalize fixA 0 (newD 40).ss = ss at *
  clear hS C3 HD3 HB3
  go_wp2_with fail
  have C4 := Serve_yes items HL.out.big.1 HL.out.big.2 0 1 (serve_yes HL.out (by omega) (by decide) (by decide)) vs w4 (HS4.out.glob HG1.out) (HV.out.to HS4.out.bel)
  unfold ServeR at C4
  refine C4.mono ?_
  rintro e w5 ⟨vi, vp, rfl, hpg, hb⟩
  have HS5 := hide (HS4.out.to hb)
  have HP5 := hide hpg
  have hlo : cb < w4.heap.size := HS4.out.c.blk.lt
  have hvl := hide (fun g e => (HS4.out.clt g e).2)
  have hrow := HS4.out.rowlt
  have hpf := page_fit HL.out (F := 0) (M := 1) (Nat.zero_le _) (by decide)
  obtain ⟨tx1, tx2⟩ := text_page HL.out (F := 0) (M := 1) (Nat.zero_le _) (by decide)
  have HPF := hide hpf
  have HTX1 := hide tx1
  have HTX2 := hide tx2
  have hw45 := hb.size
  obtain ⟨Ai, ci, rfl, _⟩ := hpg.ti.slice
  obtain ⟨Ap, cp, rfl, _⟩ := hpg.tp.slice
  clear hb hpg C4 HS4 hpf tx1 tx2
  have hb6 := below_one w5 (.cells ((pageV items 0 1).cs (.slice Ai (pageV items 0 1).items.length ci) (.slice Ap (pageV items 0 1).paths.length cp)) 38)
  have HX6 := hide (Blk.new w5 38 ((pageV items 0 1).cs (.slice Ai (pageV items 0 1).items.length ci) (.slice Ap (pageV items 0 1).paths.length cp)))
  have HS6 := hide (HS5.out.to hb6)
  have HP6 := hide (HP5.out.to hb6)
  clear HS5 HP5 hb6
  unfold Pg.cs at HX6 HS6 HP6 ⊢
  go_wp2_with fail
  generalize w5.alloc (.cells #[.int .i64 (pageV items 0 1).fr, .int .i64 (pageV items 0 1).size, .string (bs (pageV items 0 1).root), .slice Ai (pageV items 0 1).items.length ci, .slice Ap (pageV items 0 1).paths.length cp] 38) = w6 at *
  obtain ⟨x0, x1, x2, x3, x4⟩ := page_cells (p := pageV items 0 1) HX6.out
  have C6 := Text_any (pageV items 0 1) HPF.out _ _ w6 (HS6.out.glob HG1.out) HP6.out.ti HP6.out.tp
  unfold Pg.cs at C6
  rw [HTX1.out, HTX2.out] at C6
  have HT1 := hide (pgT_1 HL.out)
  have HPT : Hid (recsT items [(0, 1)] = [pgT items (0, 1)]) := rfl
  generalize pgT items (0, 1) = t at *
  go_wp2_with fail
  refine C6.mono ?_
  rintro e w7 ⟨rfl, hb⟩
  have HS7 := hide (HS6.out.to hb)
  have HP7 := hide (HP6.out.to hb)
  have HX7 := hide (HX6.out.to hb)
  clear hb C6 HS6 HP6 HX6 x0 x1 x2 x3 x4
  obtain ⟨x0, x1, x2, x3, x4⟩ := page_cells (p := pageV items 0 1) HX7.out
  have C7 := HS7.out.accept HL.out HG1.out (F := 0) (M := 1) (Nat.zero_le _) (by decide) HP7.out hlo hvl.out
  rw [if_neg (by decide), if_neg (by decide), HN.out, show max 0 (min (0 + 1) 2) = 1 from rfl] at C7
  unfold Pg.cs at C7
  go_wp2_with fail
  refine C7.mono ?_
  rintro e w8 ⟨v8, rfl, hS, hT⟩
  have HS8 := hide hS
  clear hS hT C7 HS7 HP7 HX7 x0 x1 x2 x3 x4
  have hpc := pieces_18 HT1.out
  have C8 := HS8.out.append1 HG1.out t (by have := HT1.out; omega) (by decide) (by simp only [List.length_nil]; omega)
  go_wp2_with fail
  refine C8.mono ?_
  rintro e w9 h9
  rcases h9 with ⟨rfl, vr9, ss9, m9, hS, hm, _⟩ | ⟨_, hm, _⟩
  case inr => exact absurd rfl hm
  obtain rfl := hm trivial
  have HS9 : Hid (LwS w1 40 items b sb b jb cb vr9 v8 ss9 (splitV (joinD [t])) [t] 1 none w9) := hS
  clear hS hm C8 HS8
  go_wp2_with fail
  have C9 := HS9.out.armed 0 0 0 (by decide)
  rw [if_pos (by decide)] at C9
  refine C9.mono ?_
  rintro e w10 ⟨rfl, ab, hS⟩
  have HS10 := hide hS
  clear hS C9 HS9
  have C10 := HS10.out.append1 HG1.out [120] (by decide) (by simp) (by have := pieces_18 (t := [120]) (by decide); omega)
  go_wp2_with fail
  refine C10.mono ?_
  rintro e w11 h9
  rcases h9 with ⟨_, _, _, _, _, _, hm⟩ | ⟨rfl, _, ss11, hF, hm⟩
  case inl => exact absurd rfl hm
  obtain rfl := hm trivial
  have HF11 := hide hF
  have HRD : Hid (RD 40 (splitV (joinD [t])) ss11) := HS10.out.jd.rd
  clear hF hm C10 HS10
  go_wp2_with fail
  have C11 := HF11.out.start
  refine C11.mono ?_
  rintro e w12 ⟨rfl, hF⟩
  have HF12 := hide hF
  clear hF C11 HF11
  go_wp2_with fail
  have C12 := w09Root_any items HL.out.big.1 HL.out.big.2 vs w12 (HV.out.to HF12.out.bel) (HG1.out.to HF12.out.bel)
  refine C12.mono ?_
  rintro e w13 ⟨rfl, hb⟩
  have HF13 := hide (HF12.out.to hb)
  clear hb C12 HF12
  go_wp2_with fail
  have C13 := reopen_lw HL.out HG1.out b sb ab 40 (splitV (joinD [t])) ss11 [(0, 1)] ⟨⟨Nat.zero_le _, Nat.zero_le _, by decide, by rw [HN.out]; decide⟩, trivial⟩ HRD.out (by rw [HPT.out]; exact HF13.out.fl) (by decide) w13 HF13.out.bel hsb HF13.out.abl HF13.out.dk
  rw [show repK items.length [(0, 1)] 0 = 1 by rw [HN.out]; rfl, HN.out] at C13
  unfold dkP rootL at C13
  refine C13.mono ?_
  rintro e w14 ⟨jb14, cb14, vr14, vc14, rfl, hS⟩
  have HS14 := hide hS
  clear hS C13 HF13
  go_wp2_with fail
  have C14 := HS14.out.its HL.out
  rw [HK1.out] at C14
  unfold ItemsR at C14
  refine C14.mono ?_
  rintro e w15 ⟨v15, rfl, ho, hb⟩
  have HB15 := hide (below_to HS14.out.bel (Nat.le_refl _) hb)
  have HO15 := hide ho
  clear ho hb C14 HS14
  have hb16 := below_one w15 (.cells #[.string (bs [97])] 9)
  have C15 := Same_any [[97]] [[97]] (by decide) (by decide) v15 (.slice (some ⟨w15.heap.size, 0, none⟩) 1 1) (w15.alloc (.cells #[.string (bs [97])] 9)) ((TextsAt.of_own HO15.out).to hb16) (rows_newS w15 _ [[97]] _ rfl 1 rfl)
  rw [decide_eq_true rfl] at C15
  have HB16 := hide (below_to HB15.out (Nat.le_refl _) hb16)
  clear hb16 HB15
  go_wp2_with fail
  refine C15.mono ?_
  rintro e w16 ⟨rfl, hb⟩
  have HB17 := hide (below_to HB16.out (Nat.le_refl _) hb)
  clear hb C15
  go_wp2_with fail
  go_ret
  exact ⟨rfl, below_to HB1.out (Nat.le_refl _) HB17.out⟩
end Go.Proofs.YtnjlefggkfagmaaGreatDoor

/- The plain law of pages with one item changed. -/
set_option linter.unusedVariables false
set_option linter.unusedSimpArgs false
namespace Go.Proofs.YtnjlefggkfagmaaGreatDoor
open Go.RowKit

/-- a page with its item j changed -/
def chP (p : Pg) (j : Nat) : Pg := { p with items := p.items.set j ((p.items.getD j []) ++ [120]) }
theorem chP_len (p : Pg) (j : Nat) : (chP p j).items.length = p.items.length := by unfold chP; simp
theorem chP_at {p : Pg} {j : Nat} {x : List UInt8} (h : p.items[j]? = some x) : (chP p j).items[j]? = some (x ++ [120]) := by
  have hj := (List.getElem?_eq_some_iff.1 h).1
  unfold chP
  show (p.items.set j _)[j]? = _
  rw [List.getElem?_set_self hj, List.getD_eq_getElem?_getD, h]; rfl
theorem ch_ne (x : List UInt8) : x ≠ x ++ [120] := fun e => by have := congrArg List.length e; simp at this
theorem chP_fit {p : Pg} (h : p.fit) (hx : ∀ x ∈ p.items, x.length ≤ 1000) (j : Nat) : (chP p j).fit := by
  refine ⟨by rw [chP_len]; exact h.ni, fun x hm => ?_, h.np, h.nq, h.lq, h.lr, h.f0, h.s0⟩
  rcases List.mem_or_eq_of_mem_set hm with hm | rfl
  · have := hx x hm; omega
  · rw [List.length_append, List.getD_eq_getElem?_getD]
    cases e : p.items[j]? with
    | none => simp
    | some y => have := hx y (List.mem_of_getElem? e); simp; omega
theorem chP_small {p : Pg} (hx : ∀ x ∈ p.items, x.length ≤ 60) (j : Nat) : ∀ x ∈ (chP p j).items, x.length ≤ 1000 := fun x hm => by
  rcases List.mem_or_eq_of_mem_set hm with hm | rfl
  · have := hx x hm; omega
  · rw [List.length_append, List.getD_eq_getElem?_getD]
    cases e : p.items[j]? with
    | none => simp
    | some y => have := hx y (List.mem_of_getElem? e); simp; omega
theorem page_small {items : List (List UInt8)} (h : Lg items) (F M : Nat) : ∀ x ∈ (pageV items F M).items, x.length ≤ 60 := fun x hx => h.lx x (List.mem_of_mem_drop (List.mem_of_mem_take hx))
/-- a changed page that a client takes over shows two texts with one digest -/
theorem changed_coll {items its : List (List UInt8)} (h : Lg items) {F M j : Nat} (hF : F ≤ items.length) (hj : j < (pageV items F M).items.length) (ha : accE (chP (pageV items F M) j) (rootL items) items.length its = 0) : Coll (digestedV items) (checkedV (chP (pageV items F M) j)) := by
  obtain ⟨hf, hh, hr, hs, _⟩ := acc_facts ha
  have hx := page_at hj
  refine held_sound hf hh hr hs (k := j) (x := (pageV items F M).items[j]) (y := (pageV items F M).items[j] ++ [120]) (chP_at (List.getElem?_eq_getElem hj)) ?_ (ch_ne _)
  have : (chP (pageV items F M) j).fr.toNat = F := rfl
  rw [this]; exact hx
theorem accV_no {p : Pg} {r : List UInt8} {s : Int} {its : List (List UInt8)} (h : accE p r s its ≠ 0) : accV p r s its = its := by unfold accV; rw [if_neg h]
/-- an element of a row of one's own is stored -/
theorem own_set {W : World} {B g n c J : Nat} {ls : List (List UInt8)} (h : OwnT W B (.slice (some ⟨g, 0, none⟩) n c) ls) (hn : n = ls.length) (hJ : J < n) (y : List UInt8) : TextsAt (W.setCell ⟨g, J, none⟩ (.string (bs y))) (.slice (some ⟨g, 0, none⟩) n c) (ls.set J y) := by
  subst hn
  obtain ⟨g', e, _, cur, hblk, hsz, ht⟩ := own_blk4 h (by omega)
  obtain rfl : g = g' := by injection e with e; injection e
  rw [Nat.mul_one] at hsz ht
  have hc : ls.length ≤ c := by
    rcases h.2 with ⟨h1, h2⟩ | ⟨_, cap, _, h1, _, _, h5, _⟩
    · cases h1
    · injection h1 with _ _ e3; omega
  refine RowsAt.of_blk (hblk.set_ J _) (by rw [List.length_map, List.length_set]) hc (fun x hx => by obtain ⟨z, _, rfl⟩ := List.mem_map.1 hx; rfl) fun k x hx j u hu => ?_
  rw [List.getElem?_map, Option.map_eq_some_iff] at hx
  obtain ⟨z, hz, rfl⟩ := hx
  have hj : j = 0 := by
    rcases Nat.eq_zero_or_pos j with h0 | h0
    · exact h0
    · rw [List.getElem?_eq_none (by simp only [strV, List.length_cons, List.length_nil]; omega)] at hu; cases hu
  subst hj
  simp only [strV, List.getElem?_cons_zero, Option.some.injEq] at hu
  subst hu
  rw [Nat.mul_one, Nat.add_zero, Array.getElem?_setIfInBounds]
  by_cases hk : J = k
  · subst hk
    rw [if_pos rfl, if_pos (by omega)]
    rw [List.getElem?_set_self hJ] at hz
    rw [Option.some.inj hz]
  · rw [if_neg hk]
    rw [List.getElem?_set_ne hk] at hz
    have hkl := (List.getElem?_eq_some_iff.1 hz).1
    have h1 : (flatS ls)[k]? = some (.string (bs z)) := by unfold flatS; rw [List.getElem?_map, hz]; rfl
    rw [← ht, List.getElem?_take_of_lt hkl] at h1
    simpa using h1
end Go.Proofs.YtnjlefggkfagmaaGreatDoor

/- What the walk of TopRestarts leans on. -/
set_option linter.unusedVariables false
set_option linter.unusedSimpArgs false
namespace Go.Proofs.YtnjlefggkfagmaaGreatDoor
open Go.RowKit

section
variable {w W W' : World} {N b sb ab jb cb k : Nat} {items ss ps rs : List (List UInt8)} {vr vc : Value} {m : Option (Int × Int × Int)}
/-- a block that is none of the mirror's -/
def FarS (b sb ab jb cb : Nat) (vr vc : Value) (p : Nat) : Prop := ¬ DB b sb ab p ∧ p ≠ jb ∧ vr.ownBlock ≠ some p ∧ p ≠ cb ∧ vc.ownBlock ≠ some p
theorem LwS.fresh (h : LwS w N items b sb ab jb cb vr vc ss ps rs k m W) {p : Nat} (hp : W.heap.size ≤ p) : FarS b sb ab jb cb vr vc p := by
  have h1 := h.j.blk.lt
  have h2 := h.c.blk.lt
  exact ⟨fun hx => by have := (h.dblt p hx).2; omega, by omega, fun e => by have := (h.rlt p e).2; omega, by omega, fun e => by have := (h.clt p e).2; omega⟩
theorem LwS.far (h : LwS w N items b sb ab jb cb vr vc ss ps rs k m W) {p i : Nat} (hf : FarS b sb ab jb cb vr vc p) (hw : w.heap.size ≤ p) (u : Value) : LwS w N items b sb ab jb cb vr vc ss ps rs k m (W.setCell ⟨p, i, none⟩ u) := by
  obtain ⟨f1, f2, f3, f4, f5⟩ := hf
  have hS : Sav (fun x => x = p) W (W.setCell ⟨p, i, none⟩ u) := Sav.set_ (Sav.refl (fun x => x = p) W) (p := ⟨p, i, none⟩) (fun _ => rfl) u
  exact ⟨h.bel.setCell (p := ⟨p, i, none⟩) hw u, h.sbw, Nat.lt_of_lt_of_le h.abl hS.size, h.dk.savB hS fun x hx hF => f1 (hF ▸ hx), h.jd, h.fl, h.j.sav hS (fun e => f2 e.symm) (fun g e e2 => f3 (by rw [e, e2])), ⟨hS.blk h.c.blk (fun e => f4 e.symm), hS.own h.c.own (fun g e e2 => f5 (by rw [e, e2]))⟩, h.kl, h.jw, h.cw, h.s1, h.s2, h.s3, h.s4, h.s5, h.s6, h.s7, h.s8⟩
/-- the client is given any page -/
theorem LwS.accX (h : LwS w N items b sb ab jb cb vr vc ss ps rs k m W) (hl : Lg items) (hg : Glob w) {p : Pg} {vi vp : Value} (hp : p.fit) (hti : TextsAt W vi p.items) (htp : PathsAt W vp p.paths) (h1 : vi.ownBlock ≠ some cb) (h2 : ∀ g, vc.ownBlock = some g → vi.ownBlock ≠ some g) :
    Calls Tryz.prog 11 #[.pointer (some ⟨cb, 0, none⟩), .agg (p.cs vi vp)] W fun e W' => ∃ v', e = .returned (.int .i64 (accE p (rootL items) items.length (items.take k))) ∧
      (accE p (rootL items) items.length (items.take k) ≠ 0 → LwS w N items b sb ab jb cb vr v' ss ps rs k m W') ∧ Two cb (rowOr vc cb) W W' ∧ Below w.heap.size w W' := by
  have C := Accept_any cb (rootL items) items.length (items.take k) (by have := hl.big.1; rw [List.length_take]; omega) vc p hp vi vp W (h.glob hg) h.c hti htp (fun _ => h1) (fun g e _ => h2 g e)
  refine C.mono ?_
  rintro e W' ⟨v', h1, h2, h3, h4⟩
  have hr : rowOr vc cb = cb ∨ vc.ownBlock = some (rowOr vc cb) := rowOr_cases vc cb
  have hrw : w.heap.size ≤ rowOr vc cb := by
    rcases hr with e | e
    · rw [e]; exact h.cw
    · exact (h.clt _ e).1
  exact ⟨v', h1, fun hne => h.acc (by rw [accV_no hne] at h2; exact h2) h3 h4 h.kl, h3, h.bel.trans (h3.below h.bel.size h.cw hrw)⟩
end
/-- behind a failure the journal has the record, or has it not -/
theorem reopen_or {w W : World} {N b sb ab cb k : Nat} {items ss ps qs : List (List UInt8)} {vc : Value} {L : List (Nat × Nat)} {s : Nat × Nat} (hl : Lg items) (hg : Glob w) (hL : repOK items.length L 0) (hL' : repOK items.length (L ++ [s]) 0) (hN3 : 3 ≤ N)
    (h : LwF w N items b sb ab cb vc ss ps qs (recsT items L) (pgT items s) k false W) :
    Calls Tryz.prog 8 #[dkP b, .string (bs (rootL items)), .int .i64 (items.length : Int)] W fun e W' =>
      ∃ jb cb vr vc ss' ps' L', e = .returned (.tuple #[.pointer (some ⟨jb, 0, none⟩), .pointer (some ⟨cb, 0, none⟩), .bool true]) ∧ (L' = L ∧ ps' = ps ∨ L' = L ++ [s] ∧ ps' = ps ++ qs) ∧ LwS w N items b sb ab jb cb vr vc ss' ps' (recsT items L') (repK items.length L' 0) none W' := by
  rcases h.rd with hr | hr
  · refine (reopen_lw hl hg b sb ab N ps ss L hL hr h.fl hN3 W h.bel h.sbw h.abl h.dk).mono ?_
    rintro e W' ⟨jb, cb, vr, vc, rfl, hS⟩
    exact ⟨jb, cb, vr, vc, _, _, L, rfl, .inl ⟨rfl, rfl⟩, hS⟩
  · refine (reopen_lw hl hg b sb ab N (ps ++ qs) ss (L ++ [s]) hL' hr (by rw [recsT_snoc]; exact h.fq) hN3 W h.bel h.sbw h.abl h.dk).mono ?_
    rintro e W' ⟨jb, cb, vr, vc, rfl, hS⟩
    exact ⟨jb, cb, vr, vc, _, _, L ++ [s], rfl, .inr ⟨rfl, rfl⟩, hS⟩
/-- a step -/
structure Stp where
  f : Nat
  m : Nat
  c : Nat
  a : Int
  n : Int
  b : Int
def stpV (s : Stp) : List Value := [.int .u8 (s.f : Int), .int .u8 (s.m : Int), .int .u8 (s.c : Int), .int .i64 s.a, .int .i64 s.n, .int .i64 s.b]
structure Stp.fit (s : Stp) : Prop where
  f : s.f ≤ 255
  m : s.m ≤ 255
  c : s.c ≤ 255
  a : s.a ≤ 9223372036854775807
def StpsAt (w : World) (v : Value) (l : List Stp) : Prop := RowsAt w 6 v (l.map stpV)
theorem StpsAt.to {w w' : World} {v : Value} {l : List Stp} (h : StpsAt w v l) (hb : Below w.heap.size w w') : StpsAt w' v l := RowsAt.to h hb
theorem StpsAt.slice {w : World} {v : Value} {l : List Stp} (h : StpsAt w v l) : ∃ A c, v = .slice A l.length c := by
  obtain ⟨A, c, h1, _⟩ := h
  exact ⟨A, c, by rw [h1, List.length_map]⟩
theorem StpsAt.at_ {w : World} {A : Option Addr} {n c : Nat} {l : List Stp} (h : StpsAt w (.slice A n c) l) {k : Nat} {s : Stp} (hs : l[k]? = some s) : ∃ a, A = some a ∧ a.block < w.heap.size ∧
    w.cell? (a.add (k * 6)) = some (.int .u8 (s.f : Int)) ∧ w.cell? ⟨(a.add (k * 6)).block, (a.add (k * 6)).off + 1, none⟩ = some (.int .u8 (s.m : Int)) ∧ w.cell? ⟨(a.add (k * 6)).block, (a.add (k * 6)).off + 2, none⟩ = some (.int .u8 (s.c : Int)) ∧ w.cell? ⟨(a.add (k * 6)).block, (a.add (k * 6)).off + 3, none⟩ = some (.int .i64 s.a) ∧ w.cell? ⟨(a.add (k * 6)).block, (a.add (k * 6)).off + 4, none⟩ = some (.int .i64 s.n) ∧ w.cell? ⟨(a.add (k * 6)).block, (a.add (k * 6)).off + 5, none⟩ = some (.int .i64 s.b) := by
  obtain ⟨a, c', h1, _, h3, _, h5⟩ := RowsAt.at_ h (k := k) (x := stpV s) (by rw [List.getElem?_map, hs]; rfl)
  injection h1 with e1
  refine ⟨a, e1, h3, ?_, h5 1 _ rfl, h5 2 _ rfl, h5 3 _ rfl, h5 4 _ rfl, h5 5 _ rfl⟩
  have := h5 0 _ rfl
  rwa [show (a.add (k * 6)).add 0 = a.add (k * 6) by rw [add_of_add, Nat.add_zero]] at this
/-- what a mirror is between two steps -/
structure MS (w : World) (items : List (List UInt8)) (b sb ab jb cb : Nat) (vr vc : Value) (ss ps : List (List UInt8)) (L : List (Nat × Nat)) (W : World) : Prop where
  lw : LwS w 600 items b sb ab jb cb vr vc ss ps (recsT items L) (repK items.length L 0) none W
  ok : repOK items.length L 0
  pl : ps.length ≤ 60 * L.length
/-- behind the writing of a record -/
def AfterA (w : World) (items : List (List UInt8)) (b sb ab jb cb : Nat) (vc : Value) (ps rs : List (List UInt8)) (t : List UInt8) (k : Nat) (code : Int) (W : World) : Prop :=
  (code = 0 ∧ ∃ vr ss m, LwS w 600 items b sb ab jb cb vr vc ss (ps ++ splitV (joinD [t])) (rs ++ [t]) k m W) ∨ (code = 21 ∧ ∃ ss, LwF w 600 items b sb ab cb vc ss ps (splitV (joinD [t])) rs t k true W)
theorem AfterA.to {w W W' : World} {items : List (List UInt8)} {b sb ab jb cb : Nat} {vc : Value} {ps rs : List (List UInt8)} {t : List UInt8} {k : Nat} {code : Int} (h : AfterA w items b sb ab jb cb vc ps rs t k code W) (hb : Below W.heap.size W W') : AfterA w items b sb ab jb cb vc ps rs t k code W' := by
  rcases h with ⟨h1, vr, ss, m, h2⟩ | ⟨h1, ss, h2⟩
  · exact .inl ⟨h1, vr, ss, m, h2.to hb⟩
  · exact .inr ⟨h1, ss, h2.to hb⟩
theorem AfterA.next {w W : World} {items : List (List UInt8)} {b sb ab jb cb : Nat} {vc : Value} {ps rs : List (List UInt8)} {t : List UInt8} {k : Nat} {code : Int} (h : AfterA w items b sb ab jb cb vc ps rs t k code W) (hl : Lg items) : Calls Tryz.prog 9 #[.pointer (some ⟨cb, 0, none⟩)] W fun e w' => e = .returned (.int .i64 (k : Int)) ∧ Below W.heap.size W w' := by
  rcases h with ⟨h1, vr, ss, m, h2⟩ | ⟨h1, ss, h2⟩
  · exact h2.next hl
  · exact h2.next hl
theorem shown_app {D K : List (List UInt8)} (hc : CollIn (D ++ K)) (hn : D.length + K.length ≤ 1000000) (hD : ∀ s ∈ D, s.length ≤ 1000000) (hK : ∀ s ∈ K, s.length ≤ 1000000) (w : World) (v : Value) (hv : TextsAt w v (D ++ K)) : Calls Tryz.prog 13 #[v] w fun e w' => e = .returned (.bool true) ∧ Below w.heap.size w w' :=
  Shown_yes (D ++ K) (by rw [List.length_append]; exact hn) (fun x hx => (List.mem_append.1 hx).elim (hD x) (hK x)) hc v w hv
theorem chP_items {p : Pg} {j : Nat} {x : List UInt8} (h : p.items[j]? = some x) : (chP p j).items = p.items.set j (x ++ [120]) := by
  unfold chP; show p.items.set j _ = _; rw [List.getD_eq_getElem?_getD, h]; rfl
theorem own_empty {w : World} {B : Nat} (hB : B ≤ w.heap.size) : OwnT (w.alloc (.cells #[] 9)) B (.slice (some ⟨w.heap.size, 0, none⟩) 0 0) [] :=
  ⟨rfl, .inr ⟨w.heap.size, 0, #[], rfl, hB, Blk.new _ _ _, Nat.le_refl _, by decide, rfl, rfl⟩⟩
theorem fewT_lg {items : List (List UInt8)} (h8 : items.length ≤ 8) (h : fewT items 40 = true) : Lg items := by
  unfold fewT at h
  simp only [Bool.and_eq_true, decide_eq_true_eq, List.all_eq_true] at h
  exact ⟨by omega, fun x hx => by have := h.1 x hx; omega⟩
end Go.Proofs.YtnjlefggkfagmaaGreatDoor
