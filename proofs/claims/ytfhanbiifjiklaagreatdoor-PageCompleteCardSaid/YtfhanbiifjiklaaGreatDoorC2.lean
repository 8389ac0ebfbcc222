/- Serve. -/
import Derived.Test.YtfhanbiifjiklaaGreatDoorC1
import Derived.Laws.MakeOwn
set_option linter.unusedVariables false
set_option linter.unusedSimpArgs false
namespace Go.Proofs.YtfhanbiifjiklaaGreatDoor
open Go.RowKit

theorem run_make_any {P : Program} {t e : TypeId} {z : Value} {sz : Nat} (ht : P.underlying t = some (.slice e)) (hinfo : (P.info? e).map (fun i => (i.zero, i.size, i.bytes)) = some (some z, 1, sz)) (hz : z.cells = #[z]) {N : Int} {n : Nat} (hN : N = n) (hn : n * sz ≤ 281474976710656) (hn2 : n ≤ 9223372036854775807) (w : World) :
    (Instr.makeSlice t (.int .i64 N) (.int .i64 N)).run P w = .ok (.slice (some ⟨w.heap.size, 0, none⟩) n n) (w.alloc (.cells (madeCells #[z] n) e)) := by
  subst hN
  obtain ⟨i0, hi, hz0, hz1, hz2⟩ := info_parts hinfo
  have hb : (i0.bytes : Int) * (n : Int) ≤ 281474976710656 := by
    have h : ((n * sz : Nat) : Int) ≤ 281474976710656 := by omega
    rwa [Int.natCast_mul, Int.mul_comm, ← hz2] at h
  have h := run_make (P := P) w t e i0 z ht hi hz0 .i64 .i64 (n : Int) (n : Int) (by omega) (by omega) hb (by omega)
  simp only [Int.toNat_natCast, hz1, Nat.mul_one, hz] at h
  exact h
/-- the leaves' array when k are laid -/
def lvL (items : List (List UInt8)) (k : Nat) : List (List UInt8) := (leavesV items).take k ++ List.replicate (items.length - k) []
theorem lvL_made (items : List (List UInt8)) : madeCells #[Value.string ⟨#[]⟩] items.length = strC (lvL items 0) := by
  apply Array.ext_getElem?
  intro i
  simp only [madeCells, strC, lvL, List.take_zero, List.nil_append, Nat.sub_zero, Array.getElem?_map, List.getElem?_toArray, List.getElem?_map, List.map_replicate]
  by_cases h : i < items.length
  · simp [h, Nat.mod_one]; rfl
  · simp [h]
theorem lvL_set (items : List (List UInt8)) {k : Nat} {x : List UInt8} (h : items[k]? = some x) : (strC (lvL items k)).setIfInBounds k (.string (bs (leafD x))) = strC (lvL items (k + 1)) := by
  have hk : k < items.length := (List.getElem?_eq_some_iff.1 h).1
  unfold strC
  rw [List.setIfInBounds_toArray, show Value.string (bs (leafD x)) = (fun l => Value.string (bs l)) (leafD x) from rfl, ← List.map_set]
  congr 2
  unfold lvL leavesV
  rw [List.set_append_right _ _ (by simp; omega)]
  have e1 : k - ((items.map leafD).take k).length = 0 := by simp; omega
  rw [e1, show items.length - k = (items.length - (k + 1)) + 1 by omega, List.replicate_succ, List.set_cons_zero, List.take_add_one]
  simp [h]
theorem lvL_all (items : List (List UInt8)) : lvL items items.length = leavesV items := by
  unfold lvL leavesV
  rw [List.take_of_length_le (by simp), Nat.sub_self]
  simp
theorem lvL_len (items : List (List UInt8)) {k : Nat} (h : k ≤ items.length) : (lvL items k).length = items.length := by unfold lvL leavesV; simp; omega
theorem lvL_at (items : List (List UInt8)) {k : Nat} (h : k < items.length) : (strC (lvL items k))[k]? = some (.string ⟨#[]⟩) := by
  unfold strC lvL leavesV
  have e : k - ((items.map leafD).take k).length = 0 := by simp; omega
  rw [List.getElem?_toArray, List.getElem?_map, List.getElem?_append_right (by simp; omega), e, show items.length - k = (items.length - (k + 1)) + 1 by omega, List.replicate_succ]
  rfl
theorem TextsAt.of_blk {w : World} {b n : Nat} {t : TypeId} {ls : List (List UInt8)} (h : Blk w b t (strC ls)) (hn : n = ls.length) : TextsAt w (.slice (some ⟨b, 0, none⟩) n n) ls := by
  refine RowsAt.of_blk h (by rw [List.length_map]; exact hn) (Nat.le_refl _) (by simp [strV]) fun k x hx j u hu => ?_
  have := flat_at (size := 1) (ls.map strV) (by simp [strV]) k x j u hx hu
  unfold strC
  rw [List.getElem?_toArray, ← this, flatS_eq]
  rfl
theorem leaves_ok (items : List (List UInt8)) : properT (leavesV items) = true ∧ (∀ x ∈ leavesV items, x.length ≤ 100000000000) ∧ (leavesV items).length = items.length := by
  refine ⟨?_, fun x hx => ?_, by simp [leavesV]⟩
  · unfold properT leavesV
    rw [List.all_eq_true]
    intro x hx
    obtain ⟨y, hy, e⟩ := List.mem_map.1 hx
    rw [← e]
    exact leaf_isD y
  · obtain ⟨y, _, rfl⟩ := List.mem_map.1 hx
    rw [isD_len (leaf_isD y)]
    decide
theorem root_leaves (items : List (List UInt8)) (hn : items.length ≤ 1000) (v : Value) (w : World) (hv : TextsAt w v (leavesV items)) (hg : Glob w) :
    Calls Tryz.prog 45 #[v] w fun e w' => e = .returned (.tuple #[.string (bs (totalT (leavesV items))), .int .i64 0]) ∧ Below w.heap.size w w' := by
  obtain ⟨h1, h2, h3⟩ := leaves_ok items
  have := tRoot_any (leavesV items) (by omega) h2 v w hv hg
  unfold rootV rootE at this
  rw [h1] at this
  exact this
/-- while the leaves are laid -/
structure SvI (w : World) (b : Nat) (items : List (List UInt8)) (k : Nat) (W : World) : Prop where
  bel : Below w.heap.size w W
  res : Blk W w.heap.size 25 noCs
  lv : Blk W b 9 (strC (lvL items k))
/-- while the paths are laid: k of them -/
structure SvJ (w : World) (b2 b5 : Nat) (items I : List (List UInt8)) (F : Nat) (vi vp : Value) (B4 k : Nat) (pvs : List Value) (W : World) : Prop where
  bel : Below w.heap.size w W
  res : Blk W w.heap.size 25 noCs
  out : Blk W b5 25 #[.int .i64 (F : Int), .int .i64 (items.length : Int), .string (bs (totalT (leavesV items))), vi, vp]
  lv : TextsAt W (.slice (some ⟨b2, 0, none⟩) items.length items.length) (leavesV items)
  oi : W.ownsRow B4 9 1 vi I.length (flatS I)
  op : W.ownsRow (b5 + 1) 22 1 vp k pvs
  at_ : ∀ j : Nat, j < k → ∃ pv : Value, pvs[j]? = some pv ∧ TextsAt W pv (pathV (leavesV items) (F + j)) ∧ InB (w.heap.size + 1) W.heap.size pv ∧ ∀ g, pv.ownBlock = some g → g ≠ b5 ∧ vp.ownBlock ≠ some g
  ord : w.heap.size < b2 ∧ b2 < B4 ∧ B4 ≤ b5
theorem SvJ.to {w W W' : World} {b2 b5 : Nat} {items I : List (List UInt8)} {F : Nat} {vi vp : Value} {B4 k : Nat} {pvs : List Value} (h : SvJ w b2 b5 items I F vi vp B4 k pvs W) (hb : Below W.heap.size W W') : SvJ w b2 b5 items I F vi vp B4 k pvs W' :=
  ⟨below_to h.bel (Nat.le_refl _) hb, h.res.to hb, h.out.to hb, h.lv.to hb, ownsRow_to h.oi hb, ownsRow_to h.op hb, fun j hj => by
    obtain ⟨pv, h1, h2, h3, h4⟩ := h.at_ j hj
    exact ⟨pv, h1, h2.to hb, h3.mono (Nat.le_refl _) hb.size, h4⟩, h.ord⟩
theorem SvJ.grow {w W W' : World} {b2 b5 : Nat} {items I : List (List UInt8)} {F : Nat} {vi vp v' : Value} {B4 k : Nat} {pvs : List Value} (h : SvJ w b2 b5 items I F vi vp B4 k pvs W) (hg : W.grownBy W' vp.ownBlock)
    (pv : Value) (hO : W'.ownsRow (b5 + 1) 22 1 v' (k + 1) (pvs ++ [pv])) (hv : v'.ownBlock = vp.ownBlock ∨ ∃ g, v'.ownBlock = some g ∧ W.heap.size ≤ g)
    (hq : TextsAt W pv (pathV (leavesV items) (F + k))) (hI : InB (w.heap.size + 1) W.heap.size pv) (hne : ∀ g, pv.ownBlock = some g → g ≠ b5 ∧ vp.ownBlock ≠ some g) :
    SvJ w b2 b5 items I F vi v' B4 (k + 1) (pvs ++ [pv]) (W'.setCell ⟨b5, 4, none⟩ v') := by
  have hlo : ∀ g, vp.ownBlock = some g → b5 + 1 ≤ g := fun g e => (World.ownsRow.lt h.op g e).1
  have hN : ∀ g, g ≤ b5 → some g ≠ vp.ownBlock := fun g hg e => by have := hlo g e.symm; omega
  have hord := h.ord
  have hs := hg.size
  have hT : Two b5 (rowOr vp b5) W (W'.setCell ⟨b5, 4, none⟩ v') := (Two.grown hg).trans ((Two.refl b5 (rowOr vp b5) W').set1 4 v')
  have hsz : (W'.setCell ⟨b5, 4, none⟩ v').heap.size = W'.heap.size := by simp [World.setCell]
  have hrow : ∀ g, vp.ownBlock ≠ some g → b5 ≠ g → some g ≠ some (rowOr vp b5) := fun g h1 h2 => rowOr_ne h1 h2
  have hall : ∀ (pv : Value) (q : List (List UInt8)), TextsAt W pv q → InB (w.heap.size + 1) W.heap.size pv → (∀ g, pv.ownBlock = some g → g ≠ b5 ∧ vp.ownBlock ≠ some g) →
      TextsAt (W'.setCell ⟨b5, 4, none⟩ v') pv q ∧ InB (w.heap.size + 1) (W'.setCell ⟨b5, 4, none⟩ v').heap.size pv ∧ ∀ g, pv.ownBlock = some g → g ≠ b5 ∧ v'.ownBlock ≠ some g := fun pv q h1 h2 h3 => by
    refine ⟨h1.two hT (fun e => (h3 _ e).1 rfl) ?_, h2.mono (Nat.le_refl _) (by rw [hsz]; exact hs), fun g e => ⟨(h3 g e).1, ?_⟩⟩
    · cases hp : pv.ownBlock with
      | none => simp
      | some g => exact hrow g (h3 g hp).2 (fun e => (h3 g hp).1 e.symm)
    · rcases hv with hv | ⟨g', hv, hg'⟩
      · rw [hv]; exact (h3 g e).2
      · rw [hv]; intro e2; cases e2; have := (h2 g e).2; omega
  have hpl : pvs.length = k := by have := h.op.1; omega
  refine ⟨h.bel.trans (Two.below hT h.bel.size (by omega) ?_), ?_, ?_, ?_, ?_, ?_, fun j hj => ?_, hord⟩
  · unfold rowOr
    cases hp : vp.ownBlock with
    | none => show _ ≤ b5; omega
    | some g => have := hlo g hp; show _ ≤ g; omega
  · exact Blk.far ((hg.block w.heap.size h.res.lt (hN _ (by omega))).trans h.res) (p := ⟨b5, 4, none⟩) (by show w.heap.size ≠ b5; omega) v'
  · exact Blk.set_ ((hg.block b5 h.out.lt (hN _ (Nat.le_refl _))).trans h.out) 4 v'
  · exact h.lv.two hT (fun e => by have : b2 = b5 := Option.some.inj e; omega) (show some b2 ≠ some (rowOr vp b5) from hrow b2 (fun e => hN b2 (by omega) e.symm) (by omega))
  · cases hvi : vi.ownBlock with
    | none => exact ownsRow_two h.oi hT (by rw [hvi]; simp) (by rw [hvi]; simp)
    | some g =>
      have hx : vp.ownBlock ≠ some g := by
        intro e
        rcases ownsRow_apart h.oi h.op (by decide) with h1 | h1
        · exact h1 (by rw [e, hvi])
        · rw [h1] at hvi; cases hvi
      have h5 : g ≠ b5 := by
        rintro rfl
        rcases h.oi.2 with ⟨rfl, _⟩ | ⟨g', cap, cur, rfl, _, hgg, _⟩
        · cases hvi
        · cases hvi
          have h6 := h.out
          unfold Blk at h6
          rw [h6] at hgg
          cases hgg
      exact ownsRow_two h.oi hT (by rw [hvi]; intro e; cases e; exact h5 rfl) (by rw [hvi]; exact hrow g hx (fun e => h5 e.symm))
  · exact ownsRow_set hO (fun e => by have := (World.ownsRow.lt hO _ e).1; omega)
  · rcases Nat.lt_or_ge j k with hj2 | hj2
    · obtain ⟨pv', h1, h2, h3, h4⟩ := h.at_ j hj2
      exact ⟨pv', by rw [List.getElem?_append_left (by omega)]; exact h1, hall pv' _ h2 h3 h4⟩
    · obtain rfl : j = k := by omega
      exact ⟨pv, by rw [List.getElem?_append_right (by omega), hpl]; simp, hall pv _ hq hI hne⟩
theorem SvJ.page {w W : World} {b2 b5 : Nat} {items I : List (List UInt8)} {F : Nat} {vi vp : Value} {B4 : Nat} {pvs : List Value} (h : SvJ w b2 b5 items I F vi vp B4 I.length pvs W) :
    PgAt (w.heap.size + 1) W.heap.size W vi vp ⟨F, items.length, totalT (leavesV items), I, (List.range I.length).map fun i => pathV (leavesV items) (F + i)⟩ := by
  have hord := h.ord
  have hpl := h.op.1
  have hat : ∀ k q, ((List.range I.length).map fun i => pathV (leavesV items) (F + i))[k]? = some q → k < I.length ∧ q = pathV (leavesV items) (F + k) := fun k q hq => by
    rw [List.getElem?_map] at hq
    obtain ⟨i, hi, rfl⟩ := Option.map_eq_some_iff.1 hq
    obtain ⟨h1, h2⟩ := List.getElem?_eq_some_iff.1 hi
    simp at h1 h2
    subst h2
    exact ⟨h1, rfl⟩
  rcases h.op.2 with ⟨e, h0⟩ | ⟨g, cap, cur, e, hb, hg, h1, h2, h3, h4⟩
  · subst e
    have hI : I = [] := List.eq_nil_of_length_eq_zero h0
    subst hI
    exact ⟨TextsAt.of_own h.oi, PathsAt.nil W, (fun g e => ⟨by have := (World.ownsRow.lt h.oi g e).1; omega, (World.ownsRow.lt h.oi g e).2⟩), (fun g e => by cases e), (fun k q hq => by simp at hq)⟩
  · subst e
    have hcell : ∀ k pv, pvs[k]? = some pv → W.cell? ((⟨g, 0, none⟩ : Addr).add k) = some pv := fun k pv hk => h.op.cells (g := g) rfl k pv hk
    refine ⟨TextsAt.of_own h.oi, ⟨some ⟨g, 0, none⟩, cap, by simp, by simpa using h1, fun k q hq => ?_⟩, fun g e => ⟨by have := (World.ownsRow.lt h.oi g e).1; omega, (World.ownsRow.lt h.oi g e).2⟩, fun g e => ⟨by have := (World.ownsRow.lt h.op g e).1; omega, (World.ownsRow.lt h.op g e).2⟩, fun k q hq => ?_⟩
    · obtain ⟨hk, rfl⟩ := hat k q hq
      obtain ⟨pv, q1, q2, q3, _⟩ := h.at_ k hk
      exact ⟨⟨g, 0, none⟩, pv, rfl, (Array.getElem?_eq_some_iff.1 hg).1, hcell k pv q1, q2⟩
    · obtain ⟨hk, rfl⟩ := hat k q hq
      obtain ⟨pv, q1, q2, q3, _⟩ := h.at_ k hk
      have : vpsOf W (.slice (some ⟨g, 0, none⟩) I.length cap) k = pv := by unfold vpsOf; simp only [hcell k pv q1]; rfl
      rw [this]
      exact q3
set_option maxRecDepth 100000 in
set_option maxHeartbeats 4000000 in
theorem Serve_yes (items : List (List UInt8)) (hn : items.length ≤ 1000) (hx : ∀ x ∈ items, x.length ≤ 100000) (F M : Nat) (h : serveB items F M = true) (v : Value) (w : World) (hg : Glob w) (hv : TextsAt w v items) :
    Calls Tryz.prog 14 #[v, .int .i64 (F : Int), .int .i64 (M : Int)] w (ServeR (pageV items F M) 0 w) := by
  have CL := isLog_any items hn hx v (w.alloc (.cells noCs 25)) (hv.to (below_one _ _))
  have hh : logB items = true ∧ (F ≤ items.length) ∧ 1 ≤ M ∧ M ≤ 50 := by
    unfold serveB at h
    simp only [Bool.and_eq_true, decide_eq_true_eq] at h
    exact ⟨h.1, by omega, by omega, by omega⟩
  obtain ⟨h1, hF, hM1, hM2⟩ := hh
  rw [h1] at CL
  have HV := hide hv
  have HX := hide hx
  have HG := hide hg
  obtain ⟨A, c, rfl, hc⟩ := hv.slice
  have q1 : decide ((F : Int) < 0) = false := decide_eq_false (by omega)
  have q2 : decide ((items.length : Int) < (F : Int)) = false := decide_eq_false (by omega)
  have q2' : decide (items.length < F) = false := decide_eq_false (by omega)
  have q3 : decide ((M : Int) < 1) = false := decide_eq_false (by omega)
  have q4 : decide (50 < (M : Int)) = false := decide_eq_false (by omega)
  have hmk := fun w => run_make_any (P := Tryz.prog) Tryz.underlying22 info_str rfl (N := (items.length : Int)) (n := items.length) rfl (by omega) (by omega) w
  clear hv h h1 hx hg
  unfold noCs at CL
  go_enter Tryz.func14, Tryz.ntmps14
  go_wp2_with fail
  refine CL.mono ?_
  rintro e w2 ⟨rfl, hb⟩
  have HB2 := hide (below_to (below_one w (.cells noCs 25)) (Nat.le_refl _) hb)
  have HR2 := hide ((Blk.new w 25 noCs).to hb)
  clear hb CL
  go_wp2_with fail
  have HI0 : Hid (SvI w w2.heap.size items 0 (w2.alloc (.cells (madeCells #[Value.string ⟨#[]⟩] items.length) 9))) := ⟨below_alloc HB2.out (Nat.le_refl _) _, HR2.out.alloc _, by rw [lvL_made]; exact Blk.new _ _ _⟩
  have hsw : w.heap.size < w2.heap.size := HR2.out.lt
  clear HB2 HR2 hmk
  go_loopw [44] (fun i wr => ∃ k : Nat, i = .int .i64 (k : Int) ∧ k ≤ items.length ∧ Aside (SvI w w2.heap.size items k wr)) (fun i _ => items.length - (intOf i).toNat)
  case atStart => exact ⟨0, rfl, Nat.zero_le _, HI0.out⟩
  case round =>
    obtain ⟨k, rfl, hk, hI⟩ := hrel
    have HI : Hid (SvI w w2.heap.size items k wr) := hI
    clear hI HI0
    by_cases hlt : k < items.length
    · have e1 : decide ((k : Int) < (items.length : Int)) = true := decide_eq_true (by omega)
      obtain ⟨x, hx⟩ : ∃ x, items[k]? = some x := ⟨_, List.getElem?_eq_getElem hlt⟩
      obtain ⟨a, rfl, ha, c0⟩ := (HV.out.to HI.out.bel).at_ hx
      have hxl := HX.out x (List.mem_of_getElem? hx)
      have HS := hide (lvL_set items hx)
      have CL := Leaf_any x (by omega) wr (HG.out.to HI.out.bel)
      have hAt := lvL_at items hlt
      clear hx
      go_wp2_with ((with_reducible refine CL.mono ?_); rintro e w4 ⟨rfl, hb4⟩; have x0 := ((HI.out.lv.to hb4).cell k).trans hAt; have f0 := (HI.out.lv.to hb4).frozen k; have HB4 := hide (below_to HI.out.bel (Nat.le_refl _) hb4); have HR4 := hide (HI.out.res.to hb4); have HL4 := hide (HI.out.lv.to hb4); clear hb4)
      refine ⟨⟨k + 1, by go_num, by omega, HB4.out.setCell (p := ⟨w2.heap.size, k, none⟩) (Nat.le_of_lt hsw) _, HR4.out.far (p := ⟨w2.heap.size, k, none⟩) (Nat.ne_of_lt hsw) _, by rw [← HS.out]; exact HL4.out.set_ k _⟩, ?_⟩
      simp [intOf]; omega
    · obtain rfl : k = items.length := by omega
      have e1 : decide ((items.length : Int) < (items.length : Int)) = false := by simp
      have HLV : Hid (TextsAt wr (.slice (some ⟨w2.heap.size, 0, none⟩) items.length items.length) (leavesV items)) := by
        have := HI.out.lv
        rw [lvL_all] at this
        exact TextsAt.of_blk this (by simp [leavesV])
      have HB3 := hide HI.out.bel
      have HR3 := hide HI.out.res
      have hlw : w2.heap.size < wr.heap.size := HI.out.lv.lt
      have CR := root_leaves items hn (.slice (some ⟨w2.heap.size, 0, none⟩) items.length items.length) wr HLV.out (HG.out.to HB3.out)
      clear HI
      go_wp2_with fail
      refine CR.mono ?_
      rintro e w4 ⟨rfl, hb⟩
      have HB4 := hide (below_to HB3.out (Nat.le_refl _) hb)
      have HR4 := hide (HR3.out.to hb)
      have HLV4 := hide (HLV.out.to hb)
      have hsw4 : w2.heap.size < w4.heap.size := Nat.lt_of_lt_of_le hlw hb.size
      have hmN : Hid (((min (items.length : Int) ((F : Int) + (M : Int))).toNat - F) = ((items.drop F).take M).length) := by show _ = _; rw [List.length_take, List.length_drop]; omega
      have HVS : ∀ (A' : Option Addr) (c' : Nat), A' = (if c = F then A else A.map fun x => x.add F) → c' = c - F → Hid (TextsAt w4 (.slice A' ((items.drop F).take M).length c') ((items.drop F).take M)) := by
        rintro A' c' rfl rfl
        have h0 := HV.out.to HB4.out
        cases A with
        | none =>
          have h1 : items = [] := h0.none_nil
          subst h1
          have hF0 : F = 0 := by simpa using hF
          subst hF0
          refine ⟨none, c - 0, ?_, ?_, ?_⟩
          · show Value.slice _ _ _ = .slice _ _ _
            congr 1
            · split <;> rfl
            · simp
          · simp
          · exact ⟨by simp, fun k p hp => by simp at hp⟩
        | some a =>
          by_cases hcF : c = F
          · have h1 : (items.drop F).take M = [] := by rw [List.drop_of_length_le (by omega), List.take_nil]
            rw [h1, if_pos hcF]
            exact ⟨some a, c - F, rfl, Nat.zero_le _, by simp, fun k p hp => by simp at hp⟩
          · rw [if_neg hcF]
            exact (h0.drop hF (c - F) (by omega)).take (k := ((items.drop F).take M).length) (by simp; omega) (c - F) (by simp; omega) |> fun h => by
              rwa [show (items.drop F).take ((items.drop F).take M).length = (items.drop F).take M by rw [List.length_take, List.take_eq_take_iff]; simp] at h
      clear hb CR HB3 HR3 HLV
      have hIl : ((items.drop F).take M).length ≤ 50 := by rw [List.length_take]; omega
      have hIF : F + ((items.drop F).take M).length ≤ items.length := by rw [List.length_take, List.length_drop]; omega
      obtain ⟨I, HI⟩ : ∃ I, Hid ((items.drop F).take M = I) := ⟨_, rfl⟩
      rw [HI.out] at hmN HVS hIl hIF
      go_wp2_with fail
      all_goals rw [hmN.out]
      have hS : TextsAt w4 (.slice A I.length 0) I := (HVS A 0 (by rw [if_pos (by assumption)]) (by omega)).out
      rename_i h
      clear h
      rotate_left
      have hS : TextsAt w4 (.slice (A.map fun x => x.add F) I.length (c - F)) I := (HVS (A.map fun x => x.add F) (c - F) (by rw [if_neg (by assumption)]) rfl).out
      rename_i h
      clear h
      all_goals
        have CC := Clone_any I (by omega) _ w4 hS
        unfold CloneR at CC
        refine CC.mono ?_
        rintro e w5 ⟨vc, rfl, ho, hb⟩
        have HO5 := hide ho
        have HB5 := hide (below_to HB4.out (Nat.le_refl _) hb)
        have HR5 := hide (HR4.out.to hb)
        have HLV5 := hide (HLV4.out.to hb)
        have hs45 := hb.size
        obtain ⟨Ac, cc, rfl⟩ := own_sl4 ho
        clear hb CC HVS hS HB4 HR4 HLV4 ho hmN
        go_wp2_with fail
        have HJ0 : Hid (SvJ w w2.heap.size w5.heap.size items I F (.slice Ac I.length cc) (.slice none 0 0) w4.heap.size 0 [] (w5.alloc (.cells #[.int .i64 (F : Int), .int .i64 (items.length : Int), .string (bs (totalT (leavesV items))), .slice Ac I.length cc, .slice none 0 0] 25))) :=
          ⟨below_alloc HB5.out (Nat.le_refl _) _, HR5.out.alloc _, Blk.new _ _ _, HLV5.out.to (below_one _ _), ownsRow_to HO5.out (below_one _ _), World.ownsRow_nil _ _ _ _, fun j hj => absurd hj (Nat.not_lt_zero _), ⟨hsw, hsw4, hs45⟩⟩
        clear HB5 HR5 HLV5 HO5
        have hs5 : w.heap.size < w5.heap.size := by omega
        go_loopw [78] (fun i wr5 => ∃ (k : Nat) (vp : Value) (pvs : List Value), i = .int .i64 (k : Int) ∧ k ≤ I.length ∧ Aside (SvJ w w2.heap.size w5.heap.size items I F (.slice Ac I.length cc) vp w4.heap.size k pvs wr5)) (fun i _ => I.length - (intOf i).toNat)
        case atStart => exact ⟨0, _, _, rfl, Nat.zero_le _, HJ0.out⟩
        case round =>
          obtain ⟨k, vp, pvs, rfl, hkI, hJ⟩ := hrel
          have HJ : Hid (SvJ w w2.heap.size w5.heap.size items I F (.slice Ac I.length cc) vp w4.heap.size k pvs _) := hJ
          clear hJ HJ0
          obtain ⟨Ap, cp, rfl⟩ := own_sl4 HJ.out.op
          by_cases hkl : k < I.length
          · have e3 : decide ((k : Int) < (I.length : Int)) = true := decide_eq_true (by omega)
            obtain ⟨hl1, hl2, hl3⟩ := leaves_ok items
            have CP := Path_own (leavesV items) (by omega) hl1 hl2 (F + k) (by omega) (.slice (some ⟨w2.heap.size, 0, none⟩) (leavesV items).length items.length) wr (by rw [hl3]; exact HJ.out.lv) (HG.out.to HJ.out.bel)
            rw [hl3, show ((F + k : Nat) : Int) = (F : Int) + (k : Int) by omega] at CP
            unfold PathO at CP
            clear hl1 hl2 hl3
            go_wp2_with fail
            refine CP.mono ?_
            rintro e w6 ⟨pv, rfl, hpt, hb, hpo⟩
            have HJ6 := hide (HJ.out.to hb)
            have HPT := hide hpt
            have HPO := hide hpo
            have HSZ := hide hb.size
            obtain ⟨Aq, cq, rfl, _⟩ := hpt.slice
            have x4 := (HJ6.out.out.cell 4).trans (show _ = some (Value.slice Ap k cp) from rfl)
            obtain ⟨i0, hi0, hz0, hz1, hz2⟩ := info_parts info_sl
            have hpl := HJ6.out.op.1
            have HJ7 := hide (HJ6.out.to (below_one w6 (.cells #[.slice Aq (pathV (leavesV items) (F + k)).length cq] 22)))
            have hc1 := cells_new4 (W := w6) (xs := [Value.slice Aq (pathV (leavesV items) (F + k)).length cq]) (ty := 22) (b := w6.heap.size) rfl
            have hc2 : ∀ u ∈ [Value.slice Aq (pathV (leavesV items) (F + k)).length cq], u.oneCell' = true := by intro u hu; simp only [List.mem_cons, List.not_mem_nil, or_false] at hu; rcases hu with rfl; rfl
            have hc4 : k + 1 ≤ maxLen := by simp only [maxLen]; omega
            have hc5 : (k + 1) * 24 ≤ 140737488355328 := by omega
            have hc3 : w5.heap.size + 1 ≤ (w6.alloc (.cells #[.slice Aq (pathV (leavesV items) (F + k)).length cq] 22)).heap.size := by have := HJ6.out.out.lt; simp; omega
            have HC1 := hide hc1
            clear hpt hb hpo CP hc1
            go_wp2_with (at_builtin; refine wpList_append_keep _ rfl (.tmp 90) (.tmp 92) _ rfl (w5.heap.size + 1) 22 i0 (.slice none 0 0) 1 24 Tryz.underlying23 hi0 hz0 hz1 hz2 rfl (by omega) _ k pvs rfl HJ7.out.op ⟨_, 0, none⟩ 1 1 [.slice Aq (pathV (leavesV items) (F + k)).length cq] rfl rfl HC1.out hc2 hc4 hc5 hc3 ?_)
            intro v' w7 ho7 hg7 hk7 hv7
            have hlo : some w5.heap.size ≠ (Value.slice Ap k cp).ownBlock := fun e => by have := (World.ownsRow.lt HJ7.out.op _ e.symm).1; omega
            have hb7 : Blk w7 w5.heap.size 25 _ := (hg7.block w5.heap.size HJ7.out.out.lt hlo).trans HJ7.out.out
            have y4 := (hb7.cell 4).trans (show _ = some (Value.slice Ap k cp) from rfl)
            have yf := hb7.frozen 4
            have HG7 : Hid (SvJ w w2.heap.size w5.heap.size items I F (.slice Ac I.length cc) v' w4.heap.size (k + 1) (pvs ++ [.slice Aq (pathV (leavesV items) (F + k)).length cq]) (w7.setCell ⟨w5.heap.size, 4, none⟩ v')) := by
              have hfr : ∀ g, (Value.slice Aq (pathV (leavesV items) (F + k)).length cq).ownBlock = some g → wr.heap.size ≤ g ∧ g < w6.heap.size := HPO.out
              refine SvJ.grow HJ7.out hg7 _ ho7 (hv7.imp id fun ⟨g, e, h⟩ => ⟨g, e, by rw [World.size_alloc]; exact h⟩) (HPT.out.to (below_one _ _)) (fun g e => ?_) (fun g e => ?_)
              · have := hfr g e
                have := HJ.out.out.lt
                exact ⟨by omega, by rw [World.size_alloc]; omega⟩
              · have := hfr g e
                have := HJ.out.out.lt
                refine ⟨by omega, fun e2 => ?_⟩
                have := (World.ownsRow.lt HJ.out.op g e2).2
                omega
            obtain ⟨A7, c7, rfl⟩ := own_sl4 ho7
            clear ho7 hg7 hk7 hv7 HJ7 hlo hb7 HPT HPO x4
            go_wp2_with fail
            refine ⟨⟨k + 1, _, _, by go_num, by omega, HG7.out⟩, ?_⟩
            simp [intOf]; omega
          · obtain rfl : k = I.length := by omega
            have e3 : decide ((I.length : Int) < (I.length : Int)) = false := by simp
            have x0 := (HJ.out.out.cell 0).trans (show _ = some (Value.int .i64 (F : Int)) from rfl)
            have x1 := (HJ.out.out.cell 1).trans (show _ = some (Value.int .i64 (items.length : Int)) from rfl)
            have x2 := (HJ.out.out.cell 2).trans (show _ = some (Value.string (bs (totalT (leavesV items)))) from rfl)
            have x3 := (HJ.out.out.cell 3).trans (show _ = some (Value.slice Ac I.length cc) from rfl)
            have x4 := (HJ.out.out.cell 4).trans (show _ = some (Value.slice Ap I.length cp) from rfl)
            have y0 := (HJ.out.res.cell 0).trans (show _ = some (Value.int .i64 0) from rfl)
            have y1 := (HJ.out.res.cell 1).trans (show _ = some (Value.int .i64 0) from rfl)
            have y2 := (HJ.out.res.cell 2).trans (show _ = some (Value.string ⟨#[]⟩) from rfl)
            have y3 := (HJ.out.res.cell 3).trans (show _ = some (Value.slice none 0 0) from rfl)
            have y4 := (HJ.out.res.cell 4).trans (show _ = some (Value.slice none 0 0) from rfl)
            have f0 := HJ.out.res.frozen 0
            have f1 := HJ.out.res.frozen 1
            have f2 := HJ.out.res.frozen 2
            have f3 := HJ.out.res.frozen 3
            have f4 := HJ.out.res.frozen 4
            go_wp2_with fail
            have hT := (((((Two.refl w.heap.size w.heap.size wr).set1 0 (.int .i64 (F : Int))).set1 1 (.int .i64 (items.length : Int))).set1 2 (.string (bs (totalT (leavesV items))))).set1 3 (.slice Ac I.length cc)).set1 4 (.slice Ap I.length cp)
            refine bodyPost_ret (results_page rfl _ _ w.heap.size rfl _ _ rfl (((((HJ.out.res.set_ 0 (.int .i64 (F : Int))).set_ 1 (.int .i64 (items.length : Int))).set_ 2 (.string (bs (totalT (leavesV items))))).set_ 3 (.slice Ac I.length cc)).set_ 4 (.slice Ap I.length cp)) rfl) rfl ?_
            refine ⟨.slice Ac I.length cc, .slice Ap I.length cp, rfl, ?_, HJ.out.bel.trans (hT.below HJ.out.bel.size (Nat.le_refl _) (Nat.le_refl _))⟩
            have hp := (HJ.out.page.two hT (.inl (Nat.lt_succ_self _)) (.inl (Nat.lt_succ_self _))).mono (lo' := w.heap.size) (Nat.le_succ _) hT.size
            unfold pageV
            rw [HI.out]
            exact hp
theorem Serve_any (items : List (List UInt8)) (hn : items.length ≤ 1000) (hx : ∀ x ∈ items, x.length ≤ 100000) (fr most : Int) (v : Value) (w : World) (hg : Glob w) (hv : TextsAt w v items) :
    Calls Tryz.prog 14 #[v, .int .i64 fr, .int .i64 most] w (ServeR (serveV items fr most) (serveE items fr most) w) := by
  unfold serveV serveE
  cases h : serveB items fr most with
  | false => exact Serve_no items hn hx fr most h v w hv
  | true =>
    have hh : 0 ≤ fr ∧ 0 ≤ most := by
      unfold serveB at h
      simp only [Bool.and_eq_true, decide_eq_true_eq] at h
      omega
    obtain ⟨F, rfl⟩ : ∃ F : Nat, fr = F := ⟨fr.toNat, by omega⟩
    obtain ⟨M, rfl⟩ : ∃ M : Nat, most = M := ⟨most.toNat, by omega⟩
    exact Serve_yes items hn hx F M h v w hg hv
end Go.Proofs.YtfhanbiifjiklaaGreatDoor
