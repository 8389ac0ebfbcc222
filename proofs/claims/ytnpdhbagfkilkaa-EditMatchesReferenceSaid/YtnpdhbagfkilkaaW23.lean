/- Walks: EditWeights. -/
import Derived.Test.YtnpdhbagfkilkaaW20
import Derived.Test.YtnpdhbagfkilkaaW19
import Derived.OwnWalk
import Derived.Maps.AppendAt
import Derived.Deep.DeepCutAuto
import Derived.Deep.DrawnRows
set_option linter.unusedVariables false
set_option linter.unusedSimpArgs false
namespace Go.Proofs.Ytnpdhbagfkilkaa
open Go.RowKit

/-- the law's own copy of the weights, in a block behind the box -/
structure Own (w wc : World) (W V : Wt) (A A' : Option Addr) (n c n' c' b : Nat) : Prop where
  law : LawS w wc W A n c
  blk : Blk wc b 24 (wCells V A' n' c')
  far : w.heap.size < b
section
variable {w wc w' : World} {W V : Wt} {A A' : Option Addr} {n c n' c' b : Nat}
theorem Own.next (h : Own w wc W V A A' n c n' c' b) (hb : Below wc.heap.size wc w') : Own w w' W V A A' n c n' c' b :=
  ⟨h.law.next hb, h.blk.below hb h.blk.lt, h.far⟩
theorem Own.start (h : LawS w wc W A n c) : Own w (wc.alloc (.cells #[.int .i64 W.ins, .int .i64 W.del, .int .i64 W.chg, .int .i64 W.swp, .slice A n c] 24)) W W A A n c n c wc.heap.size :=
  ⟨h.alloc _, Blk.new _ _ _, h.box.blk.lt⟩
theorem Own.facts (h : Own w wc W V A A' n c n' c' b) : wc.cell? ⟨b, 0, none⟩ = some (.int .i64 V.ins) ∧ wc.cell? ⟨b, 1, none⟩ = some (.int .i64 V.del) ∧ wc.cell? ⟨b, 2, none⟩ = some (.int .i64 V.chg) ∧ wc.cell? ⟨b, 3, none⟩ = some (.int .i64 V.swp) ∧ wc.cell? ⟨b, 4, none⟩ = some (.slice A' n' c') :=
  ⟨h.blk.cell 0, h.blk.cell 1, h.blk.cell 2, h.blk.cell 3, h.blk.cell 4⟩
theorem Own.put {A'' : Option Addr} {n'' c'' : Nat} (h : Own w wc W V A A' n c n' c' b) (j : Nat) (u : Value) (V' : Wt) (hv : (wCells V A' n' c').setIfInBounds j u = wCells V' A'' n'' c'') : Own w (wc.setCell ⟨b, j, none⟩ u) W V' A A'' n c n'' c'' b :=
  ⟨h.law.setFar (p := ⟨b, j, none⟩) h.far u, by rw [← hv]; exact h.blk.set_ j u, h.far⟩
/-- the copy, as it is when the switch is over -/
def OwnF (w wc : World) (W V : Wt) (A : Option Addr) (n c b : Nat) (A' : Option Addr) (n' c' : Nat) : Prop := Own w wc W V A A' n c n' c' b ∧ Near wc wc.heap.size A' n' V.near ∧ n' ≤ 140737488355328
theorem OwnF.of (h : Own w wc W V A A n c n c b) (hv : V.near = W.near) (hn : n ≤ 140737488355328) : OwnF w wc W V A n c b A n c := ⟨h, by rw [hv]; exact h.law.near.more h.law.bel.size, hn⟩
theorem OwnF.next {b : Nat} (h : OwnF w wc W V A n c b A' n' c') (hb : Below wc.heap.size wc w') : OwnF w w' W V A n c b A' n' c' := ⟨h.1.next hb, (h.2.1.below hb (Nat.le_refl _)).more hb.size, h.2.2⟩
theorem of_dist {b : Nat} (h : OwnF w wc W V A n c b A' n' c') (x y : ByteArray) (hx : x.size ≤ maxLen) (hy : y.size ≤ maxLen) :
    Calls Try.prog 12 #[wval V A' n' c', .string x, .string y] wc fun e w' => e = .returned (.tuple #[.int .i64 (dist V x.data.toList y.data.toList), .int .i64 (errn (ok3 V x.data.toList y.data.toList))]) ∧ OwnF w w' W V A n c b A' n' c' :=
  (distance_any V A' n' c' wc.heap.size x y wc h.2.1 (Nat.le_refl _) h.2.2 hx hy).mono fun _ _ ⟨h1, h2⟩ => ⟨h1, h.next h2⟩
theorem of_valid {b : Nat} (h : OwnF w wc W V A n c b A' n' c') :
    Calls Try.prog 20 #[wval V A' n' c'] wc fun e w' => e = .returned (.bool V.valid) ∧ OwnF w w' W V A n c b A' n' c' :=
  (valid_try V A' n' c' wc.heap.size wc h.2.1 (Nat.le_refl _) h.2.2).mono fun _ _ ⟨h1, h2⟩ => ⟨h1, h.next h2⟩
end

/-- append at a step of a region that draws, whatever many are appended -/
theorem step_append_more {P : Program} (w : World) {ops : Array Oper} {o : Oper} {a : Act} {K : Act → World → Prop} {Q : Exit → Act → World → Prop} {E : Prop} (hgd : o.guard = none) (s x : Operand) (t : TypeId)
    (ho : o.op = .call { callee := .builtin .append, args := #[s, x], argTypes := #[t, t] })
    (base : Nat) (e : TypeId) (i : TypeInfo) (z : Value) (size bytes : Nat) (ht : P.underlying t = some (.slice e)) (hi : P.info? e = some i) (hz : i.zero = some z)
    (hsize : i.size = size) (hby : i.bytes = bytes) (hzs : z.cells.size = size) (hsz : 0 < size)
    (v : Value) (n : Nat) (xs : List Value) (hs : a.eval s = v) (hown : w.ownsRow base e size v n xs)
    (ad : Addr) (m c : Nat) (news : List Value) (hx : a.eval x = .slice (some ad) m c) (hl : news.length = m * size) (hnews : ∀ j u, news[j]? = some u → w.cell? (ad.add j) = some u) (h1 : ∀ u ∈ news, u.oneCell' = true)
    (h63 : n + m ≤ maxLen) (hbytes : (n + m) * bytes ≤ 140737488355328) (hbase : base ≤ w.heap.size)
    (h : ∀ v' w', w'.ownsRow base e size v' (n + m) (xs ++ news) → w.grownBy w' v.ownBlock → K (a.put o.dst v') w') :
    if Region.wanted o (yielded ops a.tmps) = true then Oper.wp P o a w K Q else E := by
  have hw : Region.wanted o (yielded ops a.tmps) = true := by simp [Region.wanted, hgd]
  rw [if_pos hw]
  obtain ⟨v', w', hr, h2, h3, _, _⟩ := run_append_own_at (P := P) w base t o.type e i z size bytes ht hi hz hsize hby hzs hsz v n xs hown ad m c news hl hnews h1 h63 hbytes hbase
  unfold Oper.wp execOp
  simp only [ho, resolve, invoke, builtin, Sem.run_bind, Sem.run_pure, Result.andThen_ok, List.map_toArray, List.map_cons, List.map_nil, hs, hx, hr]
  exact h v' w' h2 h3

theorem nearCells_one (l : List (Int × Int × Int)) : ∀ u ∈ nearCells l, u.oneCell' = true := by
  intro u hu
  simp only [nearCells, List.mem_flatMap, List.mem_cons, List.not_mem_nil, or_false] at hu
  obtain ⟨z, _, rfl | rfl | rfl⟩ := hu <;> rfl
theorem own_far {w : World} {base : Nat} {e : TypeId} {size : Nat} {v : Value} {n : Nat} {xs : List Value} (h : w.ownsRow base e size v n xs) {k : Nat} (hk : k < base) : some k ≠ v.ownBlock := by
  rcases h.2 with ⟨rfl, _⟩ | ⟨g, cap, cur, rfl, hb, _⟩
  · simp [Value.ownBlock]
  · simp [Value.ownBlock]; omega
theorem own_form {w : World} {base : Nat} {e : TypeId} {size : Nat} {v : Value} {n : Nat} {xs : List Value} (h : w.ownsRow base e size v n xs) : ∃ A c, v = .slice A n c := by
  rcases h.2 with ⟨rfl, rfl⟩ | ⟨g, cap, cur, rfl, hb, _⟩
  · exact ⟨none, 0, rfl⟩
  · exact ⟨_, cap, rfl⟩
theorem own_reads {w : World} {base : Nat} {e : TypeId} {size : Nat} {A : Option Addr} {c : Nat} {n : Nat} {xs : List Value} (h : w.ownsRow base e size (.slice A n c) n xs) : Reads w w.heap.size size A n xs := by
  refine ⟨h.1, fun h0 => ?_⟩
  rcases h.2 with ⟨_, h1⟩ | ⟨g, cap, cur, hv, hb, hg, _, _, _, hx⟩
  · omega
  · simp only [Value.slice.injEq] at hv
    obtain ⟨rfl, _, rfl⟩ := hv
    have hlt : g < w.heap.size := by
      rcases Nat.lt_or_ge g w.heap.size with h | h
      · exact h
      · rw [Array.getElem?_eq_none h] at hg; cases hg
    refine ⟨⟨g, 0, none⟩, rfl, hlt, fun j u hu => ?_⟩
    have e1 : (⟨g, 0, none⟩ : Addr).add j = ⟨g, j, none⟩ := by unfold Addr.add; split <;> simp_all
    rw [e1, cell_of_row w g j cur e (0, 0) hg]
    rw [← hx, List.getElem?_take] at hu
    split at hu
    · simpa using hu
    · cases hu
theorem own_set {w : World} {base : Nat} {e : TypeId} {size : Nat} {v : Value} {n : Nat} {xs : List Value} (h : w.ownsRow base e size v n xs) {p : Addr} (hp : p.block < base) (u : Value) : (w.setCell p u).ownsRow base e size v n xs := by
  refine ⟨h.1, ?_⟩
  rcases h.2 with h1 | ⟨g, cap, cur, hv, hb, hg, hr⟩
  · exact .inl h1
  · exact .inr ⟨g, cap, cur, hv, hb, (Below.heap_setCell _ _ _ _ (by omega)).trans hg, hr⟩
theorem nearCells_cut (l : List (Int × Int × Int)) (k : Nat) : nearCells (l.take k ++ l.drop (k + 1)) = (nearCells l).take (k * 3) ++ (nearCells l).drop ((k + 1) * 3) := by
  have ht : ∀ (l : List (Int × Int × Int)) (k : Nat), nearCells (l.take k) = (nearCells l).take (k * 3) ∧ nearCells (l.drop k) = (nearCells l).drop (k * 3) := by
    intro l
    induction l with
    | nil => intro k; simp [nearCells]
    | cons a l ih =>
      intro k
      cases k with
      | zero => simp [nearCells]
      | succ k =>
        obtain ⟨h1, h2⟩ := ih k
        have e : (k + 1) * 3 = k * 3 + 3 := by omega
        simp only [nearCells, List.take_succ_cons, List.drop_succ_cons, List.flatMap_cons] at h1 h2 ⊢
        rw [e]
        simp only [List.cons_append, List.nil_append, List.take_succ_cons, List.drop_succ_cons]
        exact ⟨by rw [h1], h2⟩
  have ha : ∀ l m : List (Int × Int × Int), nearCells (l ++ m) = nearCells l ++ nearCells m := fun l m => by simp [nearCells]
  rw [ha, (ht l k).1, (ht l (k + 1)).2]
theorem infoNear : (Try.prog.info? 63).map (fun i => (i.zero, i.size, i.bytes)) = some (some (.agg #[.int .i64 0, .int .i64 0, .int .i64 0]), 3, 24) := by kernel_rfl

set_option maxHeartbeats 2000000 in
set_option maxRecDepth 100000 in
theorem weights_law (W : Wt) (A : Option Addr) (n c : Nat) (x y : ByteArray) (q by_ : Nat) (w : World) (hN : Near w w.heap.size A n W.near) (hn : n ≤ 140737488355328) (hx : x.size ≤ maxLen) (hy : y.size ≤ maxLen) (hq : q ≤ 255) (hby : by_ ≤ 255) (hnc : n ≤ c) :
    Calls Try.prog 9 #[wval W A n c, .string x, .string y, .int .u8 q, .int .u8 by_] w fun e w' => e = .returned (.bool true) ∧ Below w.heap.size w w' := by
  have H0 := hide (LawS.start (c := c) hN)
  clear hN
  cases hf : fewB [x, y] n
  · go_enter Try.func9, Try.ntmps9
    unfold wval
    go_wp2_with fail
    refine (lw_head H0.out).mono ?_
    rintro e w1 ⟨rfl, hs⟩
    have H1 := hide hs; clear hs H0
    obtain ⟨d0, d1, d2, d3, d4⟩ := H1.out.facts
    go_wp2_with fail
    refine (lw_few2 H1.out hn x y hx hy _ rfl).mono ?_
    rintro e w2 ⟨rfl, hs⟩
    have H2 := hide hs; clear hs H1 d0 d1 d2 d3 d4
    rw [hf]
    go_wp2_with fail
    go_ret
    exact ⟨rfl, H2.out.bel⟩
  obtain ⟨_, hn300⟩ := fewB_size hf
  obtain ⟨v1, V1⟩ : ∃ v, Hid (errn (ok3 W x.data.toList y.data.toList) = v) := ⟨_, rfl⟩
  obtain ⟨D1, E1⟩ : ∃ v, Hid (dist W x.data.toList y.data.toList = v) := ⟨_, rfl⟩
  go_enter Try.func9, Try.ntmps9
  unfold wval
  go_wp2_with fail
  refine (lw_head H0.out).mono ?_
  rintro e w1 ⟨rfl, hs⟩
  have H1 := hide hs; clear hs H0
  obtain ⟨d0, d1, d2, d3, d4⟩ := H1.out.facts
  go_wp2_with fail
  refine (lw_few2 H1.out hn x y hx hy _ rfl).mono ?_
  rintro e w2 ⟨rfl, hs⟩
  have H2 := hide hs; clear hs H1 d0 d1 d2 d3 d4
  rw [hf]
  obtain ⟨d0, d1, d2, d3, d4⟩ := H2.out.facts
  go_wp2_with fail
  refine (lw_dist H2.out hn x y hx hy).mono ?_
  rintro e w3 ⟨rfl, _, hs⟩
  have H3 := hide hs; clear hs H2 d0 d1 d2 d3 d4
  rw [V1.out, E1.out]
  cases hok : ok3 W x.data.toList y.data.toList
  · obtain rfl : v1 = 1 := by have := V1.out; rw [hok] at this; exact this.symm
    go_wp2_with fail
    go_ret
    exact ⟨rfl, H3.out.bel⟩
  obtain rfl : v1 = 0 := by have := V1.out; rw [hok] at this; exact this.symm
  obtain ⟨v1, v2, v3, v4, v5, v6, v7, v8⟩ := Wt.valid_num (ok3_valid hok)
  have HOK := hide hok
  clear hok
  obtain ⟨d0, d1, d2, d3, d4⟩ := H3.out.facts
  go_upto_region 8 with fail
  have HO := hide (Own.start H3.out)
  clear H3 d0 d1 d2 d3 d4
  generalize w3.heap.size = b at HO ⊢
  generalize w3.alloc _ = w4 at HO ⊢
  obtain ⟨k0, k1, k2, k3, k4⟩ := HO.out.facts
  obtain ⟨d0, d1, d2, d3, d4⟩ := HO.out.law.facts
  have f0 : w4.frozen? ⟨b, 0, none⟩ = false := HO.out.blk.frozen 0
  have f1 : w4.frozen? ⟨b, 1, none⟩ = false := HO.out.blk.frozen 1
  have f2 : w4.frozen? ⟨b, 2, none⟩ = false := HO.out.blk.frozen 2
  have f3 : w4.frozen? ⟨b, 3, none⟩ = false := HO.out.blk.frozen 3
  have f4 : w4.frozen? ⟨b, 4, none⟩ = false := HO.out.blk.frozen 4
  have hq5 : q % 5 < 5 := Nat.mod_lt _ (by omega)
  have hfin : ∀ V, V = W.turned (q % 5) by_ → (V.valid = false ∧ errn (ok3 V x.data.toList y.data.toList) = 1) ∨ (V.valid = true ∧ errn (ok3 V x.data.toList y.data.toList) = 0 ∧ D1 ≤ dist V x.data.toList y.data.toList) := by
    rintro V rfl
    have e := ok3_other (V := W.turned (q % 5) by_) HOK.out
    rw [e]
    cases hv : (W.turned (q % 5) by_).valid
    · exact .inl ⟨rfl, rfl⟩
    · refine .inr ⟨rfl, rfl, ?_⟩
      rw [← E1.out]
      exact turned_dist _ _ HOK.out (by rw [e]; exact hv)
  have HFi := hide hfin
  clear hfin V1 E1 HOK
  have hcs : (q % 5 = 0 ∨ q % 5 = 1 ∨ q % 5 = 2 ∨ q % 5 = 3) ∨ q % 5 = 4 := by omega
  rcases hcs with (h | h | h | h) | h
  · have hq5i : (q : Int) % 5 = 0 := by omega
    go_upto_region 21 with fail
    have HF : Hid (OwnF w (w4.setCell ⟨b, 0, none⟩ (.int .i64 (W.ins + by_))) W (W.turned (q % 5) by_) A n c b A n c) := by
      rw [h]
      exact OwnF.of (HO.out.put 0 (.int .i64 (W.ins + by_)) (W.turned 0 by_) rfl) rfl hn
    generalize w4.setCell _ _ = w5 at HF ⊢
    have HT := hide (HFi.out _ rfl)
    clear HFi HO k0 k1 k2 k3 k4 d0 d1 d2 d3 d4 f0 f1 f2 f3 f4
    generalize W.turned (q % 5) by_ = V at HF HT
    obtain ⟨k0, k1, k2, k3, k4⟩ := HF.out.1.facts
    go_wp2_with fail
    refine (of_dist HF.out x y hx hy).mono ?_
    rintro e w6 ⟨rfl, hs⟩
    have HG := hide hs
    clear hs HF k0 k1 k2 k3 k4
    obtain ⟨k0, k1, k2, k3, k4⟩ := HG.out.1.facts
    go_wp2_with fail
    refine (of_valid HG.out).mono ?_
    rintro e w7 ⟨rfl, hs⟩
    have HG' := hide hs.1.law.bel
    clear hs HG k0 k1 k2 k3 k4
    rcases HT.out with ⟨hv, he⟩ | ⟨hv, he, hd⟩
    · rw [hv, he]
      clear hv he HT
      go_wp2_with fail
      go_ret
      exact ⟨rfl, HG'.out⟩
    · rw [hv, he]
      generalize dist V x.data.toList y.data.toList = D2 at hd ⊢
      clear hv he HT
      go_wp2_with fail
      go_ret
      exact ⟨rfl, HG'.out⟩
  · have hq5i : (q : Int) % 5 = 1 := by omega
    go_upto_region 21 with fail
    have HF : Hid (OwnF w (w4.setCell ⟨b, 1, none⟩ (.int .i64 (W.del + by_))) W (W.turned (q % 5) by_) A n c b A n c) := by
      rw [h]
      exact OwnF.of (HO.out.put 1 (.int .i64 (W.del + by_)) (W.turned 1 by_) rfl) rfl hn
    generalize w4.setCell _ _ = w5 at HF ⊢
    have HT := hide (HFi.out _ rfl)
    clear HFi HO k0 k1 k2 k3 k4 d0 d1 d2 d3 d4 f0 f1 f2 f3 f4
    generalize W.turned (q % 5) by_ = V at HF HT
    obtain ⟨k0, k1, k2, k3, k4⟩ := HF.out.1.facts
    go_wp2_with fail
    refine (of_dist HF.out x y hx hy).mono ?_
    rintro e w6 ⟨rfl, hs⟩
    have HG := hide hs
    clear hs HF k0 k1 k2 k3 k4
    obtain ⟨k0, k1, k2, k3, k4⟩ := HG.out.1.facts
    go_wp2_with fail
    refine (of_valid HG.out).mono ?_
    rintro e w7 ⟨rfl, hs⟩
    have HG' := hide hs.1.law.bel
    clear hs HG k0 k1 k2 k3 k4
    rcases HT.out with ⟨hv, he⟩ | ⟨hv, he, hd⟩
    · rw [hv, he]
      clear hv he HT
      go_wp2_with fail
      go_ret
      exact ⟨rfl, HG'.out⟩
    · rw [hv, he]
      generalize dist V x.data.toList y.data.toList = D2 at hd ⊢
      clear hv he HT
      go_wp2_with fail
      go_ret
      exact ⟨rfl, HG'.out⟩
  · have hq5i : (q : Int) % 5 = 2 := by omega
    go_upto_region 21 with fail
    have HF : Hid (OwnF w (w4.setCell ⟨b, 2, none⟩ (.int .i64 (W.chg + by_))) W (W.turned (q % 5) by_) A n c b A n c) := by
      rw [h]
      exact OwnF.of (HO.out.put 2 (.int .i64 (W.chg + by_)) (W.turned 2 by_) rfl) rfl hn
    generalize w4.setCell _ _ = w5 at HF ⊢
    have HT := hide (HFi.out _ rfl)
    clear HFi HO k0 k1 k2 k3 k4 d0 d1 d2 d3 d4 f0 f1 f2 f3 f4
    generalize W.turned (q % 5) by_ = V at HF HT
    obtain ⟨k0, k1, k2, k3, k4⟩ := HF.out.1.facts
    go_wp2_with fail
    refine (of_dist HF.out x y hx hy).mono ?_
    rintro e w6 ⟨rfl, hs⟩
    have HG := hide hs
    clear hs HF k0 k1 k2 k3 k4
    obtain ⟨k0, k1, k2, k3, k4⟩ := HG.out.1.facts
    go_wp2_with fail
    refine (of_valid HG.out).mono ?_
    rintro e w7 ⟨rfl, hs⟩
    have HG' := hide hs.1.law.bel
    clear hs HG k0 k1 k2 k3 k4
    rcases HT.out with ⟨hv, he⟩ | ⟨hv, he, hd⟩
    · rw [hv, he]
      clear hv he HT
      go_wp2_with fail
      go_ret
      exact ⟨rfl, HG'.out⟩
    · rw [hv, he]
      generalize dist V x.data.toList y.data.toList = D2 at hd ⊢
      clear hv he HT
      go_wp2_with fail
      go_ret
      exact ⟨rfl, HG'.out⟩
  · have hq5i : (q : Int) % 5 = 3 := by omega
    go_upto_region 21 with fail
    have HF : Hid (OwnF w (w4.setCell ⟨b, 3, none⟩ (.int .i64 (W.swp + by_))) W (W.turned (q % 5) by_) A n c b A n c) := by
      rw [h]
      exact OwnF.of (HO.out.put 3 (.int .i64 (W.swp + by_)) (W.turned 3 by_) rfl) rfl hn
    generalize w4.setCell _ _ = w5 at HF ⊢
    have HT := hide (HFi.out _ rfl)
    clear HFi HO k0 k1 k2 k3 k4 d0 d1 d2 d3 d4 f0 f1 f2 f3 f4
    generalize W.turned (q % 5) by_ = V at HF HT
    obtain ⟨k0, k1, k2, k3, k4⟩ := HF.out.1.facts
    go_wp2_with fail
    refine (of_dist HF.out x y hx hy).mono ?_
    rintro e w6 ⟨rfl, hs⟩
    have HG := hide hs
    clear hs HF k0 k1 k2 k3 k4
    obtain ⟨k0, k1, k2, k3, k4⟩ := HG.out.1.facts
    go_wp2_with fail
    refine (of_valid HG.out).mono ?_
    rintro e w7 ⟨rfl, hs⟩
    have HG' := hide hs.1.law.bel
    clear hs HG k0 k1 k2 k3 k4
    rcases HT.out with ⟨hv, he⟩ | ⟨hv, he, hd⟩
    · rw [hv, he]
      clear hv he HT
      go_wp2_with fail
      go_ret
      exact ⟨rfl, HG'.out⟩
    · rw [hv, he]
      generalize dist V x.data.toList y.data.toList = D2 at hd ⊢
      clear hv he HT
      go_wp2_with fail
      go_ret
      exact ⟨rfl, HG'.out⟩
  · have hq5i : (q : Int) % 5 = 4 := by omega
    have hnl : W.near.length = n := HO.out.law.near.1
    by_cases hn0 : n ≤ 0
    · have hni : ¬ (0 : Int) < (n : Int) := by omega
      go_upto_region 21 with fail
      have HF : Hid (OwnF w w4 W (W.turned (q % 5) by_) A n c b A n c) := by
        have e : W.turned (q % 5) by_ = W := by
          rw [h]
          show (if 0 < W.near.length then _ else W) = W
          rw [if_neg (by omega)]
        rw [e]
        exact OwnF.of HO.out rfl hn
      have HT := hide (HFi.out _ rfl)
      clear HFi HO k0 k1 k2 k3 k4 d0 d1 d2 d3 d4 f0 f1 f2 f3 f4
      generalize W.turned (q % 5) by_ = V at HF HT
      obtain ⟨k0, k1, k2, k3, k4⟩ := HF.out.1.facts
      go_wp2_with fail
      refine (of_dist HF.out x y hx hy).mono ?_
      rintro e w6 ⟨rfl, hs⟩
      have HG := hide hs
      clear hs HF k0 k1 k2 k3 k4
      obtain ⟨k0, k1, k2, k3, k4⟩ := HG.out.1.facts
      go_wp2_with fail
      refine (of_valid HG.out).mono ?_
      rintro e w7 ⟨rfl, hs⟩
      have HG' := hide hs.1.law.bel
      clear hs HG k0 k1 k2 k3 k4
      rcases HT.out with ⟨hv, he⟩ | ⟨hv, he, hd⟩
      · rw [hv, he]
        clear hv he HT
        go_wp2_with fail
        go_ret
        exact ⟨rfl, HG'.out⟩
      · rw [hv, he]
        generalize dist V x.data.toList y.data.toList = D2 at hd ⊢
        clear hv he HT
        go_wp2_with fail
        go_ret
        exact ⟨rfl, HG'.out⟩
    · have hn1 : 0 < n := by omega
      have hni : (0 : Int) < (n : Int) := by omega
      have hk : (by_ : Int) % (n : Int) = ((by_ % n : Nat) : Int) := by simp
      have hkn : by_ % n < n := Nat.mod_lt _ hn1
      obtain ⟨ad, eA, hab, hac⟩ := HO.out.law.near.2.2 hn1
      subst eA
      have HAC := hide hac
      clear hac
      go_upto_region 20 with fail
      rw [hk]
      have HKE : ∃ k, Hid (by_ % n = k) := ⟨_, rfl⟩
      obtain ⟨k, HKE⟩ := HKE
      rw [HKE.out] at hkn ⊢
      clear hk
      have g1 : (0 : Int) ≤ (k : Int) := by omega
      have g2 : (k : Int) ≤ (c : Int) := by omega
      have g3 : (k : Int) + 1 ≤ (n : Int) := by omega
      have g4 : (n : Int) ≤ (c : Int) := by omega
      have s1 : IntKind.i64.wrap ((k : Int) + 1) = (k : Int) + 1 := IntWalk.i64_in _ (by omega)
      have s2 : ((k : Int) + 1).toNat = k + 1 := by omega
      have s3 : (0 : Int) ≤ (k : Int) + 1 := by omega
      have hbw : b < w4.heap.size := HO.out.blk.lt
      have fz : (w4.alloc (Obj.cells #[] 63)).drew.frozen? ⟨b, 4, none⟩ = false := by
        rw [World.frozen?_drew]
        exact (World.frozen?_of_block (w := w4) (Below.heap_alloc w4 _ b hbw)).trans f4
      have hww : w.heap.size < w4.heap.size := HO.out.law.box.blk.lt
      obtain ⟨i0, hi0, hz0, hz1, hz2⟩ := info_parts infoNear
      have wu : Try.prog.underlying 22 = some (.slice 63) := Try.underlying22
      have o0 : Hid (World.ownsRow (w4.alloc (Obj.cells #[] 63)).drew w4.heap.size 63 3 (.slice (some ⟨w4.heap.size, 0, none⟩) 0 0) 0 []) :=
        ⟨rfl, .inr ⟨w4.heap.size, 0, #[], rfl, Nat.le_refl _, heap_alloc_new w4 _, Nat.le_refl _, by omega, rfl, rfl⟩⟩
      have hnc3 := nearCells_len W.near
      have l1 : Hid (((nearCells W.near).take (k * 3)).length = k * 3) := by show _ = _; rw [List.length_take]; omega
      have l2 : Hid (((nearCells W.near).drop ((k + 1) * 3)).length = (n - (k + 1)) * 3) := by show _ = _; rw [List.length_drop]; omega
      have one1 : Hid (∀ u ∈ (nearCells W.near).take (k * 3), u.oneCell' = true) := fun u hu => nearCells_one _ u (List.mem_of_mem_take hu)
      have one2 : Hid (∀ u ∈ (nearCells W.near).drop ((k + 1) * 3), u.oneCell' = true) := fun u hu => nearCells_one _ u (List.mem_of_mem_drop hu)
      have n1 : Hid (∀ j u, ((nearCells W.near).take (k * 3))[j]? = some u → (w4.alloc (Obj.cells #[] 63)).drew.cell? (ad.add j) = some u) := fun j u hu => by
        rw [World.cell?_drew, World.cell?_alloc_lt w4 _ _ (by rw [block_of_add]; omega)]
        refine HAC.out j u ?_
        rw [List.getElem?_take] at hu
        split at hu
        · exact hu
        · cases hu
      obtain ⟨ad2, hif, hb2, hn2⟩ : ∃ ad2 : Addr, (if c = k + 1 then some ad else some (ad.add ((k + 1) * 3))) = some ad2 ∧ ad2.block = ad.block ∧ ∀ j u, ((nearCells W.near).drop ((k + 1) * 3))[j]? = some u → (nearCells W.near)[(k + 1) * 3 + j]? = some u ∧ ad2.add j = ad.add ((k + 1) * 3 + j) := by
        by_cases hc : c = k + 1
        · refine ⟨ad, if_pos hc, rfl, fun j u hu => ?_⟩
          have := (List.getElem?_eq_some_iff.1 hu).1
          rw [l2.out] at this
          omega
        · refine ⟨ad.add ((k + 1) * 3), if_neg hc, block_of_add _ _, fun j u hu => ?_⟩
          rw [List.getElem?_drop] at hu
          exact ⟨hu, add_of_add _ _ _⟩
      have n2 : Hid (∀ wa : World, World.grownBy (w4.alloc (Obj.cells #[] 63)).drew wa (some w4.heap.size) → ∀ j u, ((nearCells W.near).drop ((k + 1) * 3))[j]? = some u → wa.cell? (ad2.add j) = some u) := fun wa hg j u hu => by
        obtain ⟨q1, q2⟩ := hn2 j u hu
        rw [q2, hg.cell_far _ (by rw [block_of_add]; simp; omega) (by rw [block_of_add]; simp; omega), World.cell?_drew, World.cell?_alloc_lt w4 _ _ (by rw [block_of_add]; omega)]
        exact HAC.out _ u q1
      clear hn2
      clear hnc3
      have hfar : w.heap.size < b := HO.out.far
      have hlow : ∀ wa : World, World.grownBy (w4.alloc (Obj.cells #[] 63)).drew wa (some w4.heap.size) → wa.cell? ⟨b, 4, none⟩ = some (.slice (some ad) n c) ∧ wa.frozen? ⟨b, 4, none⟩ = false ∧ wa.cell? ⟨w.heap.size, 4, none⟩ = some (.slice (some ad) n c) ∧ w4.heap.size < wa.heap.size := fun wa hg => by
        have h1 := hg.size
        simp at h1
        refine ⟨?_, ?_, ?_, by omega⟩
        · rw [hg.cell_far _ (by simp; omega) (by simp; omega), World.cell?_drew, World.cell?_alloc_lt w4 _ _ (by simp; omega)]; exact k4
        · rw [hg.frozen_far _ (by simp; omega) (by simp; omega)]; exact fz
        · rw [hg.cell_far _ (by simp; omega) (by simp; omega), World.cell?_drew, World.cell?_alloc_lt w4 _ _ (by simp; omega)]; exact d4
      have HL := hide hlow
      clear hlow
      go_region_held3 (fun w' => w'.cell? ⟨w.heap.size, 4, none⟩ = some (.slice (some ad) n c))
        (first
          | go_keep
          | assumption
          | exact (World.cell?_of_block (w := wb) (Below.heap_setCell _ _ _ _ (by simp; omega))).trans (by assumption))
        ((first
          | (refine step_append_more _ (by rfl) _ _ _ (by rfl) w4.heap.size 63 i0 _ 3 24 wu hi0 hz0 hz1 hz2 rfl (by omega) (.slice (some ⟨w4.heap.size, 0, none⟩) 0 0) 0 [] (by rfl) o0.out ad k c ((nearCells W.near).take (k * 3)) (by rfl) l1.out n1.out one1.out (by unfold maxLen; omega) (by omega) (by simp) ?_; intro v1 wa hown1 hgrow1; obtain ⟨p1, p2, p3, p4⟩ := HL.out wa hgrow1)
          | (refine step_append_more _ (by rfl) _ _ _ (by rfl) w4.heap.size 63 i0 _ 3 24 wu hi0 hz0 hz1 hz2 rfl (by omega) v1 (0 + k) ([] ++ (nearCells W.near).take (k * 3)) (by rfl) hown1 ad2 (n - (k + 1)) (c - (k + 1)) ((nearCells W.near).drop ((k + 1) * 3)) (by rfl) l2.out (n2.out wa hgrow1) one2.out (by unfold maxLen; omega) (by omega) (by omega) ?_; intro v2 wb hown2 hgrow2; obtain ⟨A2, c2, rfl⟩ := own_form hown2; have o1 : wb.cell? ⟨b, 4, none⟩ = some (.slice (some ad) n c) := (hgrow2.cell_far _ (by simp; omega) (own_far hown1 (by simp; omega))).trans p1; have o2 : wb.frozen? ⟨b, 4, none⟩ = false := (hgrow2.frozen_far _ (by simp; omega) (own_far hown1 (by simp; omega))).trans p2; have o3 : wb.cell? ⟨w.heap.size, 4, none⟩ = some (.slice (some ad) n c) := (hgrow2.cell_far _ (by simp; omega) (own_far hown1 (by simp; omega))).trans p3; have o4 := hgrow2.size)))
      have hbw4 : Below w4.heap.size w4 wb := by
        refine Below.grown (Below.grown ((Below.refl _ _).alloc (Nat.le_refl _) (Obj.cells #[] 63)).drew hgrow1 (by simp) (fun q' e => ?_)) hgrow2 (by omega) (fun q' e => ?_)
        · simp [Value.ownBlock] at e; omega
        · have := own_far hown1 (k := q')
          rcases Nat.lt_or_ge q' w4.heap.size with h1 | h1
          · exact absurd e.symm (this h1)
          · exact h1
      have HF : Hid (OwnF w (wb.setCell ⟨b, 4, none⟩ (.slice A2 (k + (n - (k + 1))) c2)) W (W.turned (q % 5) by_) (some ad) n c b A2 (k + (n - (k + 1))) c2) := by
        have e : W.turned (q % 5) by_ = W.less k := by
          rw [h]
          show (if 0 < W.near.length then W.less (by_ % W.near.length) else W) = W.less k
          rw [if_pos (by omega), hnl, HKE.out]
        rw [e]
        refine ⟨(HO.out.next hbw4).put 4 (.slice A2 (k + (n - (k + 1))) c2) (W.less k) rfl, ⟨?_, ?_⟩, by omega⟩
        · show (W.near.take k ++ W.near.drop (k + 1)).length = _
          rw [List.length_append, List.length_take, List.length_drop]; omega
        · have h1 := own_reads (own_set hown2 (p := ⟨b, 4, none⟩) hbw (.slice A2 (k + (n - (k + 1))) c2))
          simp only [Nat.zero_add, List.nil_append] at h1
          rw [← nearCells_cut] at h1
          exact h1
      clear HAC HKE l1 l2 one1 one2 n1 n2 HL o0 hown1 hown2 hgrow1 hgrow2 p1 p2 p3 p4 o1 o2 o3 o4 hbw4 wu hif hb2 hfar fz s1 s2 s3 g1 g2 g3 g4 hi0 hz0 hz1 hz2
      generalize wb.setCell _ _ = w5 at HF ⊢
      have HT := hide (HFi.out _ rfl)
      clear HFi HO k0 k1 k2 k3 k4 d0 d1 d2 d3 d4 f0 f1 f2 f3 f4
      generalize W.turned (q % 5) by_ = V at HF HT
      obtain ⟨k0, k1, k2, k3, k4⟩ := HF.out.1.facts
      go_wp2_with fail
      refine (of_dist HF.out x y hx hy).mono ?_
      rintro e w6 ⟨rfl, hs⟩
      have HG := hide hs
      clear hs HF k0 k1 k2 k3 k4
      obtain ⟨k0, k1, k2, k3, k4⟩ := HG.out.1.facts
      go_wp2_with fail
      refine (of_valid HG.out).mono ?_
      rintro e w7 ⟨rfl, hs⟩
      have HG' := hide hs.1.law.bel
      clear hs HG k0 k1 k2 k3 k4
      rcases HT.out with ⟨hv, he⟩ | ⟨hv, he, hd⟩
      · rw [hv, he]
        clear hv he HT
        go_wp2_with fail
        go_ret
        exact ⟨rfl, HG'.out⟩
      · rw [hv, he]
        generalize dist V x.data.toList y.data.toList = D2 at hd ⊢
        clear hv he HT
        go_wp2_with fail
        go_ret
        exact ⟨rfl, HG'.out⟩
end Go.Proofs.Ytnpdhbagfkilkaa
