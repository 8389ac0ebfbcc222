/- Several texts as one, in build order. -/
import Derived.Test.YtfhanbiifjiklaaGreatDoorMB
import Derived.Laws.MakeOwn
import Derived.BigQuiet
import Derived.Test.YtfhanbiifjiklaaGreatDoorMA
/- Serve. -/
set_option linter.unusedVariables false
set_option linter.unusedSimpArgs false
namespace Go.Proofs.YtfhanbiifjiklaaGreatDoor
open Go.RowKit

theorem run_make_any {P : Program} {t e : TypeId} {z : Value} {sz : Nat} (ht : P.underlying t = some (.slice e)) (hinfo : (P.info? e).map (fun i => (i.zero, i.size, i.bytes)) = some (some z, 1, sz)) (hz : z.cells = #[z]) {N : Int} {n : Nat} (hN : N = n) (hn : n * sz ≤ 281474976710656) (hn2 : n ≤ 9223372036854775807) (w : World) :
    (Instr.makeSlice t (.int .i64 N) (.int .i64 N)).run P w = .ok (.slice (some ⟨w.heap.size, 0, none⟩) n n) (w.alloc (.cells (madeCells #[z] n) e)) := by
  subst hN
  obtain ⟨i0, hi, hz0, hz1, hz2⟩ := info_parts hinfo
  have hb : (i0.bytes : Int) * (n : Int) ≤ 281474976710656 := by
    have h : ((n * sz : Nat) : Int) ≤ 281474976710656 := by omega
    rwa [Int.natCast_mul, Int.mul_comm, ← hz2] at h
  have h := run_make (P := P) w t e i0 z ht hi hz0 .i64 .i64 (n : Int) (n : Int) (by omega) (by omega) hb (by omega)
  simp only [Int.toNat_natCast, hz1, Nat.mul_one, hz] at h
  exact h
/-- the leaves' array when k are laid -/
def lvL (items : List (List UInt8)) (k : Nat) : List (List UInt8) := (leavesV items).take k ++ List.replicate (items.length - k) []
theorem lvL_made (items : List (List UInt8)) : madeCells #[Value.string ⟨#[]⟩] items.length = strC (lvL items 0) := by
  apply Array.ext_getElem?
  intro i
  simp only [madeCells, strC, lvL, List.take_zero, List.nil_append, Nat.sub_zero, Array.getElem?_map, List.getElem?_toArray, List.getElem?_map, List.map_replicate]
  by_cases h : i < items.length
  · simp [h, Nat.mod_one]; rfl
  · simp [h]
theorem lvL_set (items : List (List UInt8)) {k : Nat} {x : List UInt8} (h : items[k]? = some x) : (strC (lvL items k)).setIfInBounds k (.string (bs (leafD x))) = strC (lvL items (k + 1)) := by
  have hk : k < items.length := (List.getElem?_eq_some_iff.1 h).1
  unfold strC
  rw [List.setIfInBounds_toArray, show Value.string (bs (leafD x)) = (fun l => Value.string (bs l)) (leafD x) from rfl, ← List.map_set]
  congr 2
  unfold lvL leavesV
  rw [List.set_append_right _ _ (by simp; omega)]
  have e1 : k - ((items.map leafD).take k).length = 0 := by simp; omega
  rw [e1, show items.length - k = (items.length - (k + 1)) + 1 by omega, List.replicate_succ, List.set_cons_zero, List.take_add_one]
  simp [h]
theorem lvL_all (items : List (List UInt8)) : lvL items items.length = leavesV items := by
  unfold lvL leavesV
  rw [List.take_of_length_le (by simp), Nat.sub_self]
  simp
theorem lvL_len (items : List (List UInt8)) {k : Nat} (h : k ≤ items.length) : (lvL items k).length = items.length := by unfold lvL leavesV; simp; omega
theorem lvL_at (items : List (List UInt8)) {k : Nat} (h : k < items.length) : (strC (lvL items k))[k]? = some (.string ⟨#[]⟩) := by
  unfold strC lvL leavesV
  have e : k - ((items.map leafD).take k).length = 0 := by simp; omega
  rw [List.getElem?_toArray, List.getElem?_map, List.getElem?_append_right (by simp; omega), e, show items.length - k = (items.length - (k + 1)) + 1 by omega, List.replicate_succ]
  rfl
theorem TextsAt.of_blk {w : World} {b n : Nat} {t : TypeId} {ls : List (List UInt8)} (h : Blk w b t (strC ls)) (hn : n = ls.length) : TextsAt w (.slice (some ⟨b, 0, none⟩) n n) ls := by
  refine RowsAt.of_blk h (by rw [List.length_map]; exact hn) (Nat.le_refl _) (by simp [strV]) fun k x hx j u hu => ?_
  have := flat_at (size := 1) (ls.map strV) (by simp [strV]) k x j u hx hu
  unfold strC
  rw [List.getElem?_toArray, ← this, flatS_eq]
  rfl
theorem leaves_ok (items : List (List UInt8)) : properT (leavesV items) = true ∧ (∀ x ∈ leavesV items, x.length ≤ 100000000000) ∧ (leavesV items).length = items.length := by
  refine ⟨?_, fun x hx => ?_, by simp [leavesV]⟩
  · unfold properT leavesV
    rw [List.all_eq_true]
    intro x hx
    obtain ⟨y, hy, e⟩ := List.mem_map.1 hx
    rw [← e]
    exact leaf_isD y
  · obtain ⟨y, _, rfl⟩ := List.mem_map.1 hx
    rw [isD_len (leaf_isD y)]
    decide
theorem root_leaves (items : List (List UInt8)) (hn : items.length ≤ 1000) (v : Value) (w : World) (hv : TextsAt w v (leavesV items)) (hg : Glob w) :
    Calls Tryz.prog 45 #[v] w fun e w' => e = .returned (.tuple #[.string (bs (totalT (leavesV items))), .int .i64 0]) ∧ Below w.heap.size w w' := by
  obtain ⟨h1, h2, h3⟩ := leaves_ok items
  have := tRoot_any (leavesV items) (by omega) h2 v w hv hg
  unfold rootV rootE at this
  rw [h1] at this
  exact this
/-- while the leaves are laid -/
structure SvI (w : World) (b : Nat) (items : List (List UInt8)) (k : Nat) (W : World) : Prop where
  bel : Below w.heap.size w W
  res : Blk W w.heap.size 25 noCs
  lv : Blk W b 9 (strC (lvL items k))
/-- while the paths are laid: k of them -/
structure SvJ (w : World) (b2 b5 : Nat) (items I : List (List UInt8)) (F : Nat) (vi vp : Value) (B4 k : Nat) (pvs : List Value) (W : World) : Prop where
  bel : Below w.heap.size w W
  res : Blk W w.heap.size 25 noCs
  out : Blk W b5 25 #[.int .i64 (F : Int), .int .i64 (items.length : Int), .string (bs (totalT (leavesV items))), vi, vp]
  lv : TextsAt W (.slice (some ⟨b2, 0, none⟩) items.length items.length) (leavesV items)
  oi : W.ownsRow B4 9 1 vi I.length (flatS I)
  op : W.ownsRow (b5 + 1) 22 1 vp k pvs
  at_ : ∀ j : Nat, j < k → ∃ pv : Value, pvs[j]? = some pv ∧ TextsAt W pv (pathV (leavesV items) (F + j)) ∧ InB (w.heap.size + 1) W.heap.size pv ∧ ∀ g, pv.ownBlock = some g → g ≠ b5 ∧ vp.ownBlock ≠ some g
  ord : w.heap.size < b2 ∧ b2 < B4 ∧ B4 ≤ b5
theorem SvJ.to {w W W' : World} {b2 b5 : Nat} {items I : List (List UInt8)} {F : Nat} {vi vp : Value} {B4 k : Nat} {pvs : List Value} (h : SvJ w b2 b5 items I F vi vp B4 k pvs W) (hb : Below W.heap.size W W') : SvJ w b2 b5 items I F vi vp B4 k pvs W' :=
  ⟨below_to h.bel (Nat.le_refl _) hb, h.res.to hb, h.out.to hb, h.lv.to hb, ownsRow_to h.oi hb, ownsRow_to h.op hb, fun j hj => by
    obtain ⟨pv, h1, h2, h3, h4⟩ := h.at_ j hj
    exact ⟨pv, h1, h2.to hb, h3.mono (Nat.le_refl _) hb.size, h4⟩, h.ord⟩
theorem SvJ.grow {w W W' : World} {b2 b5 : Nat} {items I : List (List UInt8)} {F : Nat} {vi vp v' : Value} {B4 k : Nat} {pvs : List Value} (h : SvJ w b2 b5 items I F vi vp B4 k pvs W) (hg : W.grownBy W' vp.ownBlock)
    (pv : Value) (hO : W'.ownsRow (b5 + 1) 22 1 v' (k + 1) (pvs ++ [pv])) (hv : v'.ownBlock = vp.ownBlock ∨ ∃ g, v'.ownBlock = some g ∧ W.heap.size ≤ g)
    (hq : TextsAt W pv (pathV (leavesV items) (F + k))) (hI : InB (w.heap.size + 1) W.heap.size pv) (hne : ∀ g, pv.ownBlock = some g → g ≠ b5 ∧ vp.ownBlock ≠ some g) :
    SvJ w b2 b5 items I F vi v' B4 (k + 1) (pvs ++ [pv]) (W'.setCell ⟨b5, 4, none⟩ v') := by
  have hlo : ∀ g, vp.ownBlock = some g → b5 + 1 ≤ g := fun g e => (World.ownsRow.lt h.op g e).1
  have hN : ∀ g, g ≤ b5 → some g ≠ vp.ownBlock := fun g hg e => by have := hlo g e.symm; omega
  have hord := h.ord
  have hs := hg.size
  have hT : Two b5 (rowOr vp b5) W (W'.setCell ⟨b5, 4, none⟩ v') := (Two.grown hg).trans ((Two.refl b5 (rowOr vp b5) W').set1 4 v')
  have hsz : (W'.setCell ⟨b5, 4, none⟩ v').heap.size = W'.heap.size := by simp [World.setCell]
  have hrow : ∀ g, vp.ownBlock ≠ some g → b5 ≠ g → some g ≠ some (rowOr vp b5) := fun g h1 h2 => rowOr_ne h1 h2
  have hall : ∀ (pv : Value) (q : List (List UInt8)), TextsAt W pv q → InB (w.heap.size + 1) W.heap.size pv → (∀ g, pv.ownBlock = some g → g ≠ b5 ∧ vp.ownBlock ≠ some g) →
      TextsAt (W'.setCell ⟨b5, 4, none⟩ v') pv q ∧ InB (w.heap.size + 1) (W'.setCell ⟨b5, 4, none⟩ v').heap.size pv ∧ ∀ g, pv.ownBlock = some g → g ≠ b5 ∧ v'.ownBlock ≠ some g := fun pv q h1 h2 h3 => by
    refine ⟨h1.two hT (fun e => (h3 _ e).1 rfl) ?_, h2.mono (Nat.le_refl _) (by rw [hsz]; exact hs), fun g e => ⟨(h3 g e).1, ?_⟩⟩
    · cases hp : pv.ownBlock with
      | none => simp
      | some g => exact hrow g (h3 g hp).2 (fun e => (h3 g hp).1 e.symm)
    · rcases hv with hv | ⟨g', hv, hg'⟩
      · rw [hv]; exact (h3 g e).2
      · rw [hv]; intro e2; cases e2; have := (h2 g e).2; omega
  have hpl : pvs.length = k := by have := h.op.1; omega
  refine ⟨h.bel.trans (Two.below hT h.bel.size (by omega) ?_), ?_, ?_, ?_, ?_, ?_, fun j hj => ?_, hord⟩
  · unfold rowOr
    cases hp : vp.ownBlock with
    | none => show _ ≤ b5; omega
    | some g => have := hlo g hp; show _ ≤ g; omega
  · exact Blk.far ((hg.block w.heap.size h.res.lt (hN _ (by omega))).trans h.res) (p := ⟨b5, 4, none⟩) (by show w.heap.size ≠ b5; omega) v'
  · exact Blk.set_ ((hg.block b5 h.out.lt (hN _ (Nat.le_refl _))).trans h.out) 4 v'
  · exact h.lv.two hT (fun e => by have : b2 = b5 := Option.some.inj e; omega) (show some b2 ≠ some (rowOr vp b5) from hrow b2 (fun e => hN b2 (by omega) e.symm) (by omega))
  · cases hvi : vi.ownBlock with
    | none => exact ownsRow_two h.oi hT (by rw [hvi]; simp) (by rw [hvi]; simp)
    | some g =>
      have hx : vp.ownBlock ≠ some g := by
        intro e
        rcases ownsRow_apart h.oi h.op (by decide) with h1 | h1
        · exact h1 (by rw [e, hvi])
        · rw [h1] at hvi; cases hvi
      have h5 : g ≠ b5 := by
        rintro rfl
        rcases h.oi.2 with ⟨rfl, _⟩ | ⟨g', cap, cur, rfl, _, hgg, _⟩
        · cases hvi
        · cases hvi
          have h6 := h.out
          unfold Blk at h6
          rw [h6] at hgg
          cases hgg
      exact ownsRow_two h.oi hT (by rw [hvi]; intro e; cases e; exact h5 rfl) (by rw [hvi]; exact hrow g hx (fun e => h5 e.symm))
  · exact ownsRow_set hO (fun e => by have := (World.ownsRow.lt hO _ e).1; omega)
  · rcases Nat.lt_or_ge j k with hj2 | hj2
    · obtain ⟨pv', h1, h2, h3, h4⟩ := h.at_ j hj2
      exact ⟨pv', by rw [List.getElem?_append_left (by omega)]; exact h1, hall pv' _ h2 h3 h4⟩
    · obtain rfl : j = k := by omega
      exact ⟨pv, by rw [List.getElem?_append_right (by omega), hpl]; simp, hall pv _ hq hI hne⟩
theorem SvJ.page {w W : World} {b2 b5 : Nat} {items I : List (List UInt8)} {F : Nat} {vi vp : Value} {B4 : Nat} {pvs : List Value} (h : SvJ w b2 b5 items I F vi vp B4 I.length pvs W) :
    PgAt (w.heap.size + 1) W.heap.size W vi vp ⟨F, items.length, totalT (leavesV items), I, (List.range I.length).map fun i => pathV (leavesV items) (F + i)⟩ := by
  have hord := h.ord
  have hpl := h.op.1
  have hat : ∀ k q, ((List.range I.length).map fun i => pathV (leavesV items) (F + i))[k]? = some q → k < I.length ∧ q = pathV (leavesV items) (F + k) := fun k q hq => by
    rw [List.getElem?_map] at hq
    obtain ⟨i, hi, rfl⟩ := Option.map_eq_some_iff.1 hq
    obtain ⟨h1, h2⟩ := List.getElem?_eq_some_iff.1 hi
    simp at h1 h2
    subst h2
    exact ⟨h1, rfl⟩
  rcases h.op.2 with ⟨e, h0⟩ | ⟨g, cap, cur, e, hb, hg, h1, h2, h3, h4⟩
  · subst e
    have hI : I = [] := List.eq_nil_of_length_eq_zero h0
    subst hI
    exact ⟨TextsAt.of_own h.oi, PathsAt.nil W, (fun g e => ⟨by have := (World.ownsRow.lt h.oi g e).1; omega, (World.ownsRow.lt h.oi g e).2⟩), (fun g e => by cases e), (fun k q hq => by simp at hq)⟩
  · subst e
    have hcell : ∀ k pv, pvs[k]? = some pv → W.cell? ((⟨g, 0, none⟩ : Addr).add k) = some pv := fun k pv hk => h.op.cells (g := g) rfl k pv hk
    refine ⟨TextsAt.of_own h.oi, ⟨some ⟨g, 0, none⟩, cap, by simp, by simpa using h1, fun k q hq => ?_⟩, fun g e => ⟨by have := (World.ownsRow.lt h.oi g e).1; omega, (World.ownsRow.lt h.oi g e).2⟩, fun g e => ⟨by have := (World.ownsRow.lt h.op g e).1; omega, (World.ownsRow.lt h.op g e).2⟩, fun k q hq => ?_⟩
    · obtain ⟨hk, rfl⟩ := hat k q hq
      obtain ⟨pv, q1, q2, q3, _⟩ := h.at_ k hk
      exact ⟨⟨g, 0, none⟩, pv, rfl, (Array.getElem?_eq_some_iff.1 hg).1, hcell k pv q1, q2⟩
    · obtain ⟨hk, rfl⟩ := hat k q hq
      obtain ⟨pv, q1, q2, q3, _⟩ := h.at_ k hk
      have : vpsOf W (.slice (some ⟨g, 0, none⟩) I.length cap) k = pv := by unfold vpsOf; simp only [hcell k pv q1]; rfl
      rw [this]
      exact q3
set_option maxRecDepth 100000 in
set_option maxHeartbeats 4000000 in
theorem Serve_yes (items : List (List UInt8)) (hn : items.length ≤ 1000) (hx : ∀ x ∈ items, x.length ≤ 100000) (F M : Nat) (h : serveB items F M = true) (v : Value) (w : World) (hg : Glob w) (hv : TextsAt w v items) :
    Calls Tryz.prog 14 #[v, .int .i64 (F : Int), .int .i64 (M : Int)] w (ServeR (pageV items F M) 0 w) := by
  have CL := isLog_any items hn hx v (w.alloc (.cells noCs 25)) (hv.to (below_one _ _))
  have hh : logB items = true ∧ (F ≤ items.length) ∧ 1 ≤ M ∧ M ≤ 50 := by
    unfold serveB at h
    simp only [Bool.and_eq_true, decide_eq_true_eq] at h
    exact ⟨h.1, by omega, by omega, by omega⟩
  obtain ⟨h1, hF, hM1, hM2⟩ := hh
  rw [h1] at CL
  have HV := hide hv
  have HX := hide hx
  have HG := hide hg
  obtain ⟨A, c, rfl, hc⟩ := hv.slice
  have q1 : decide ((F : Int) < 0) = false := decide_eq_false (by omega)
  have q2 : decide ((items.length : Int) < (F : Int)) = false := decide_eq_false (by omega)
  have q2' : decide (items.length < F) = false := decide_eq_false (by omega)
  have q3 : decide ((M : Int) < 1) = false := decide_eq_false (by omega)
  have q4 : decide (50 < (M : Int)) = false := decide_eq_false (by omega)
  have hmk := fun w => run_make_any (P := Tryz.prog) Tryz.underlying22 info_str rfl (N := (items.length : Int)) (n := items.length) rfl (by omega) (by omega) w
  clear hv h h1 hx hg
  unfold noCs at CL
  go_enter Tryz.func14, Tryz.ntmps14
  go_wp2_with fail
  refine CL.mono ?_
  rintro e w2 ⟨rfl, hb⟩
  have HB2 := hide (below_to (below_one w (.cells noCs 25)) (Nat.le_refl _) hb)
  have HR2 := hide ((Blk.new w 25 noCs).to hb)
  clear hb CL
  go_wp2_with fail
  have HI0 : Hid (SvI w w2.heap.size items 0 (w2.alloc (.cells (madeCells #[Value.string ⟨#[]⟩] items.length) 9))) := ⟨below_alloc HB2.out (Nat.le_refl _) _, HR2.out.alloc _, by rw [lvL_made]; exact Blk.new _ _ _⟩
  have hsw : w.heap.size < w2.heap.size := HR2.out.lt
  clear HB2 HR2 hmk
  go_loopw [44] (fun i wr => ∃ k : Nat, i = .int .i64 (k : Int) ∧ k ≤ items.length ∧ Aside (SvI w w2.heap.size items k wr)) (fun i _ => items.length - (intOf i).toNat)
  case atStart => exact ⟨0, rfl, Nat.zero_le _, HI0.out⟩
  case round =>
    obtain ⟨k, rfl, hk, hI⟩ := hrel
    have HI : Hid (SvI w w2.heap.size items k wr) := hI
    clear hI HI0
    by_cases hlt : k < items.length
    · have e1 : decide ((k : Int) < (items.length : Int)) = true := decide_eq_true (by omega)
      obtain ⟨x, hx⟩ : ∃ x, items[k]? = some x := ⟨_, List.getElem?_eq_getElem hlt⟩
      obtain ⟨a, rfl, ha, c0⟩ := (HV.out.to HI.out.bel).at_ hx
      have hxl := HX.out x (List.mem_of_getElem? hx)
      have HS := hide (lvL_set items hx)
      have CL := Leaf_any x (by omega) wr (HG.out.to HI.out.bel)
      have hAt := lvL_at items hlt
      clear hx
      go_wp2_with ((with_reducible refine CL.mono ?_); rintro e w4 ⟨rfl, hb4⟩; have x0 := ((HI.out.lv.to hb4).cell k).trans hAt; have f0 := (HI.out.lv.to hb4).frozen k; have HB4 := hide (below_to HI.out.bel (Nat.le_refl _) hb4); have HR4 := hide (HI.out.res.to hb4); have HL4 := hide (HI.out.lv.to hb4); clear hb4)
      refine ⟨⟨k + 1, by go_num, by omega, HB4.out.setCell (p := ⟨w2.heap.size, k, none⟩) (Nat.le_of_lt hsw) _, HR4.out.far (p := ⟨w2.heap.size, k, none⟩) (Nat.ne_of_lt hsw) _, by rw [← HS.out]; exact HL4.out.set_ k _⟩, ?_⟩
      simp [intOf]; omega
    · obtain rfl : k = items.length := by omega
      have e1 : decide ((items.length : Int) < (items.length : Int)) = false := by simp
      have HLV : Hid (TextsAt wr (.slice (some ⟨w2.heap.size, 0, none⟩) items.length items.length) (leavesV items)) := by
        have := HI.out.lv
        rw [lvL_all] at this
        exact TextsAt.of_blk this (by simp [leavesV])
      have HB3 := hide HI.out.bel
      have HR3 := hide HI.out.res
      have hlw : w2.heap.size < wr.heap.size := HI.out.lv.lt
      have CR := root_leaves items hn (.slice (some ⟨w2.heap.size, 0, none⟩) items.length items.length) wr HLV.out (HG.out.to HB3.out)
      clear HI
      go_wp2_with fail
      refine CR.mono ?_
      rintro e w4 ⟨rfl, hb⟩
      have HB4 := hide (below_to HB3.out (Nat.le_refl _) hb)
      have HR4 := hide (HR3.out.to hb)
      have HLV4 := hide (HLV.out.to hb)
      have hsw4 : w2.heap.size < w4.heap.size := Nat.lt_of_lt_of_le hlw hb.size
      have hmN : Hid (((min (items.length : Int) ((F : Int) + (M : Int))).toNat - F) = ((items.drop F).take M).length) := by show _ = _; rw [List.length_take, List.length_drop]; omega
      have HVS : ∀ (A' : Option Addr) (c' : Nat), A' = (if c = F then A else A.map fun x => x.add F) → c' = c - F → Hid (TextsAt w4 (.slice A' ((items.drop F).take M).length c') ((items.drop F).take M)) := by
        rintro A' c' rfl rfl
        have h0 := HV.out.to HB4.out
        cases A with
        | none =>
          have h1 : items = [] := h0.none_nil
          subst h1
          have hF0 : F = 0 := by simpa using hF
          subst hF0
          refine ⟨none, c - 0, ?_, ?_, ?_⟩
          · show Value.slice _ _ _ = .slice _ _ _
            congr 1
            · split <;> rfl
            · simp
          · simp
          · exact ⟨by simp, fun k p hp => by simp at hp⟩
        | some a =>
          by_cases hcF : c = F
          · have h1 : (items.drop F).take M = [] := by rw [List.drop_of_length_le (by omega), List.take_nil]
            rw [h1, if_pos hcF]
            exact ⟨some a, c - F, rfl, Nat.zero_le _, by simp, fun k p hp => by simp at hp⟩
          · rw [if_neg hcF]
            exact (h0.drop hF (c - F) (by omega)).take (k := ((items.drop F).take M).length) (by simp; omega) (c - F) (by simp; omega) |> fun h => by
              rwa [show (items.drop F).take ((items.drop F).take M).length = (items.drop F).take M by rw [List.length_take, List.take_eq_take_iff]; simp] at h
      clear hb CR HB3 HR3 HLV
      have hIl : ((items.drop F).take M).length ≤ 50 := by rw [List.length_take]; omega
      have hIF : F + ((items.drop F).take M).length ≤ items.length := by rw [List.length_take, List.length_drop]; omega
      obtain ⟨I, HI⟩ : ∃ I, Hid ((items.drop F).take M = I) := ⟨_, rfl⟩
      rw [HI.out] at hmN HVS hIl hIF
      go_wp2_with fail
      all_goals rw [hmN.out]
      have hS : TextsAt w4 (.slice A I.length 0) I := (HVS A 0 (by rw [if_pos (by assumption)]) (by omega)).out
      rename_i h
      clear h
      rotate_left
      have hS : TextsAt w4 (.slice (A.map fun x => x.add F) I.length (c - F)) I := (HVS (A.map fun x => x.add F) (c - F) (by rw [if_neg (by assumption)]) rfl).out
      rename_i h
      clear h
      all_goals
        have CC := Clone_any I (by omega) _ w4 hS
        unfold CloneR at CC
        refine CC.mono ?_
        rintro e w5 ⟨vc, rfl, ho, hb⟩
        have HO5 := hide ho
        have HB5 := hide (below_to HB4.out (Nat.le_refl _) hb)
        have HR5 := hide (HR4.out.to hb)
        have HLV5 := hide (HLV4.out.to hb)
        have hs45 := hb.size
        obtain ⟨Ac, cc, rfl⟩ := own_sl4 ho
        clear hb CC HVS hS HB4 HR4 HLV4 ho hmN
        go_wp2_with fail
        have HJ0 : Hid (SvJ w w2.heap.size w5.heap.size items I F (.slice Ac I.length cc) (.slice none 0 0) w4.heap.size 0 [] (w5.alloc (.cells #[.int .i64 (F : Int), .int .i64 (items.length : Int), .string (bs (totalT (leavesV items))), .slice Ac I.length cc, .slice none 0 0] 25))) :=
          ⟨below_alloc HB5.out (Nat.le_refl _) _, HR5.out.alloc _, Blk.new _ _ _, HLV5.out.to (below_one _ _), ownsRow_to HO5.out (below_one _ _), World.ownsRow_nil _ _ _ _, fun j hj => absurd hj (Nat.not_lt_zero _), ⟨hsw, hsw4, hs45⟩⟩
        clear HB5 HR5 HLV5 HO5
        have hs5 : w.heap.size < w5.heap.size := by omega
        go_loopw [78] (fun i wr5 => ∃ (k : Nat) (vp : Value) (pvs : List Value), i = .int .i64 (k : Int) ∧ k ≤ I.length ∧ Aside (SvJ w w2.heap.size w5.heap.size items I F (.slice Ac I.length cc) vp w4.heap.size k pvs wr5)) (fun i _ => I.length - (intOf i).toNat)
        case atStart => exact ⟨0, _, _, rfl, Nat.zero_le _, HJ0.out⟩
        case round =>
          obtain ⟨k, vp, pvs, rfl, hkI, hJ⟩ := hrel
          have HJ : Hid (SvJ w w2.heap.size w5.heap.size items I F (.slice Ac I.length cc) vp w4.heap.size k pvs _) := hJ
          clear hJ HJ0
          obtain ⟨Ap, cp, rfl⟩ := own_sl4 HJ.out.op
          by_cases hkl : k < I.length
          · have e3 : decide ((k : Int) < (I.length : Int)) = true := decide_eq_true (by omega)
            obtain ⟨hl1, hl2, hl3⟩ := leaves_ok items
            have CP := Path_own (leavesV items) (by omega) hl1 hl2 (F + k) (by omega) (.slice (some ⟨w2.heap.size, 0, none⟩) (leavesV items).length items.length) wr (by rw [hl3]; exact HJ.out.lv) (HG.out.to HJ.out.bel)
            rw [hl3, show ((F + k : Nat) : Int) = (F : Int) + (k : Int) by omega] at CP
            unfold PathO at CP
            clear hl1 hl2 hl3
            go_wp2_with fail
            refine CP.mono ?_
            rintro e w6 ⟨pv, rfl, hpt, hb, hpo⟩
            have HJ6 := hide (HJ.out.to hb)
            have HPT := hide hpt
            have HPO := hide hpo
            have HSZ := hide hb.size
            obtain ⟨Aq, cq, rfl, _⟩ := hpt.slice
            have x4 := (HJ6.out.out.cell 4).trans (show _ = some (Value.slice Ap k cp) from rfl)
            obtain ⟨i0, hi0, hz0, hz1, hz2⟩ := info_parts info_sl
            have hpl := HJ6.out.op.1
            have HJ7 := hide (HJ6.out.to (below_one w6 (.cells #[.slice Aq (pathV (leavesV items) (F + k)).length cq] 22)))
            have hc1 := cells_new4 (W := w6) (xs := [Value.slice Aq (pathV (leavesV items) (F + k)).length cq]) (ty := 22) (b := w6.heap.size) rfl
            have hc2 : ∀ u ∈ [Value.slice Aq (pathV (leavesV items) (F + k)).length cq], u.oneCell' = true := by intro u hu; simp only [List.mem_cons, List.not_mem_nil, or_false] at hu; rcases hu with rfl; rfl
            have hc4 : k + 1 ≤ maxLen := by simp only [maxLen]; omega
            have hc5 : (k + 1) * 24 ≤ 140737488355328 := by omega
            have hc3 : w5.heap.size + 1 ≤ (w6.alloc (.cells #[.slice Aq (pathV (leavesV items) (F + k)).length cq] 22)).heap.size := by have := HJ6.out.out.lt; simp; omega
            have HC1 := hide hc1
            clear hpt hb hpo CP hc1
            go_wp2_with (at_builtin; refine wpList_append_keep _ rfl (.tmp 90) (.tmp 92) _ rfl (w5.heap.size + 1) 22 i0 (.slice none 0 0) 1 24 Tryz.underlying23 hi0 hz0 hz1 hz2 rfl (by omega) _ k pvs rfl HJ7.out.op ⟨_, 0, none⟩ 1 1 [.slice Aq (pathV (leavesV items) (F + k)).length cq] rfl rfl HC1.out hc2 hc4 hc5 hc3 ?_)
            intro v' w7 ho7 hg7 hk7 hv7
            have hlo : some w5.heap.size ≠ (Value.slice Ap k cp).ownBlock := fun e => by have := (World.ownsRow.lt HJ7.out.op _ e.symm).1; omega
            have hb7 : Blk w7 w5.heap.size 25 _ := (hg7.block w5.heap.size HJ7.out.out.lt hlo).trans HJ7.out.out
            have y4 := (hb7.cell 4).trans (show _ = some (Value.slice Ap k cp) from rfl)
            have yf := hb7.frozen 4
            have HG7 : Hid (SvJ w w2.heap.size w5.heap.size items I F (.slice Ac I.length cc) v' w4.heap.size (k + 1) (pvs ++ [.slice Aq (pathV (leavesV items) (F + k)).length cq]) (w7.setCell ⟨w5.heap.size, 4, none⟩ v')) := by
              have hfr : ∀ g, (Value.slice Aq (pathV (leavesV items) (F + k)).length cq).ownBlock = some g → wr.heap.size ≤ g ∧ g < w6.heap.size := HPO.out
              refine SvJ.grow HJ7.out hg7 _ ho7 (hv7.imp id fun ⟨g, e, h⟩ => ⟨g, e, by rw [World.size_alloc]; exact h⟩) (HPT.out.to (below_one _ _)) (fun g e => ?_) (fun g e => ?_)
              · have := hfr g e
                have := HJ.out.out.lt
                exact ⟨by omega, by rw [World.size_alloc]; omega⟩
              · have := hfr g e
                have := HJ.out.out.lt
                refine ⟨by omega, fun e2 => ?_⟩
                have := (World.ownsRow.lt HJ.out.op g e2).2
                omega
            obtain ⟨A7, c7, rfl⟩ := own_sl4 ho7
            clear ho7 hg7 hk7 hv7 HJ7 hlo hb7 HPT HPO x4
            go_wp2_with fail
            refine ⟨⟨k + 1, _, _, by go_num, by omega, HG7.out⟩, ?_⟩
            simp [intOf]; omega
          · obtain rfl : k = I.length := by omega
            have e3 : decide ((I.length : Int) < (I.length : Int)) = false := by simp
            have x0 := (HJ.out.out.cell 0).trans (show _ = some (Value.int .i64 (F : Int)) from rfl)
            have x1 := (HJ.out.out.cell 1).trans (show _ = some (Value.int .i64 (items.length : Int)) from rfl)
            have x2 := (HJ.out.out.cell 2).trans (show _ = some (Value.string (bs (totalT (leavesV items)))) from rfl)
            have x3 := (HJ.out.out.cell 3).trans (show _ = some (Value.slice Ac I.length cc) from rfl)
            have x4 := (HJ.out.out.cell 4).trans (show _ = some (Value.slice Ap I.length cp) from rfl)
            have y0 := (HJ.out.res.cell 0).trans (show _ = some (Value.int .i64 0) from rfl)
            have y1 := (HJ.out.res.cell 1).trans (show _ = some (Value.int .i64 0) from rfl)
            have y2 := (HJ.out.res.cell 2).trans (show _ = some (Value.string ⟨#[]⟩) from rfl)
            have y3 := (HJ.out.res.cell 3).trans (show _ = some (Value.slice none 0 0) from rfl)
            have y4 := (HJ.out.res.cell 4).trans (show _ = some (Value.slice none 0 0) from rfl)
            have f0 := HJ.out.res.frozen 0
            have f1 := HJ.out.res.frozen 1
            have f2 := HJ.out.res.frozen 2
            have f3 := HJ.out.res.frozen 3
            have f4 := HJ.out.res.frozen 4
            go_wp2_with fail
            have hT := (((((Two.refl w.heap.size w.heap.size wr).set1 0 (.int .i64 (F : Int))).set1 1 (.int .i64 (items.length : Int))).set1 2 (.string (bs (totalT (leavesV items))))).set1 3 (.slice Ac I.length cc)).set1 4 (.slice Ap I.length cp)
            refine bodyPost_ret (results_page rfl _ _ w.heap.size rfl _ _ rfl (((((HJ.out.res.set_ 0 (.int .i64 (F : Int))).set_ 1 (.int .i64 (items.length : Int))).set_ 2 (.string (bs (totalT (leavesV items))))).set_ 3 (.slice Ac I.length cc)).set_ 4 (.slice Ap I.length cp)) rfl) rfl ?_
            refine ⟨.slice Ac I.length cc, .slice Ap I.length cp, rfl, ?_, HJ.out.bel.trans (hT.below HJ.out.bel.size (Nat.le_refl _) (Nat.le_refl _))⟩
            have hp := (HJ.out.page.two hT (.inl (Nat.lt_succ_self _)) (.inl (Nat.lt_succ_self _))).mono (lo' := w.heap.size) (Nat.le_succ _) hT.size
            unfold pageV
            rw [HI.out]
            exact hp
theorem Serve_any (items : List (List UInt8)) (hn : items.length ≤ 1000) (hx : ∀ x ∈ items, x.length ≤ 100000) (fr most : Int) (v : Value) (w : World) (hg : Glob w) (hv : TextsAt w v items) :
    Calls Tryz.prog 14 #[v, .int .i64 fr, .int .i64 most] w (ServeR (serveV items fr most) (serveE items fr most) w) := by
  unfold serveV serveE
  cases h : serveB items fr most with
  | false => exact Serve_no items hn hx fr most h v w hv
  | true =>
    have hh : 0 ≤ fr ∧ 0 ≤ most := by
      unfold serveB at h
      simp only [Bool.and_eq_true, decide_eq_true_eq] at h
      omega
    obtain ⟨F, rfl⟩ : ∃ F : Nat, fr = F := ⟨fr.toNat, by omega⟩
    obtain ⟨M, rfl⟩ : ∃ M : Nat, most = M := ⟨most.toNat, by omega⟩
    exact Serve_yes items hn hx F M h v w hg hv
end Go.Proofs.YtfhanbiifjiklaaGreatDoor

/- A client: New, Next, Items. -/
set_option linter.unusedVariables false
set_option linter.unusedSimpArgs false
namespace Go.Proofs.YtfhanbiifjiklaaGreatDoor
open Go.RowKit

/-- a client in memory: its block b, its items in a row of its own -/
structure CliAt (b : Nat) (root : List UInt8) (size : Int) (its : List (List UInt8)) (v : Value) (W : World) : Prop where
  blk : Blk W b 94 #[.string (bs root), .int .i64 size, v]
  own : W.ownsRow (b + 1) 9 1 v its.length (flatS its)
theorem CliAt.to {b : Nat} {root : List UInt8} {size : Int} {its : List (List UInt8)} {v : Value} {W W' : World} (h : CliAt b root size its v W) (hb : Below W.heap.size W W') : CliAt b root size its v W' := ⟨h.blk.to hb, ownsRow_to h.own hb⟩
theorem CliAt.texts {b : Nat} {root : List UInt8} {size : Int} {its : List (List UInt8)} {v : Value} {W : World} (h : CliAt b root size its v W) : TextsAt W v its := TextsAt.of_own h.own
theorem CliAt.lt {b : Nat} {root : List UInt8} {size : Int} {its : List (List UInt8)} {v : Value} {W : World} (h : CliAt b root size its v W) : ∀ g, v.ownBlock = some g → b + 1 ≤ g ∧ g < W.heap.size := World.ownsRow.lt h.own
def cliP (b : Nat) : Value := .pointer (some ⟨b, 0, none⟩)
def emptyR : List UInt8 := listD [emptyT]
def newB (root : List UInt8) (size : Int) : Bool := isD root && (decide (0 ≤ size) && (decide (size ≤ 10000) && !(decide (size = 0) && !decide (root = emptyR))))
def NewR (root : List UInt8) (size : Int) (w : World) (e : Ending) (w' : World) : Prop :=
  (if newB root size then ∃ b, e = .returned (.tuple #[cliP b, .int .i64 0]) ∧ w.heap.size ≤ b ∧ CliAt b root size [] (.slice none 0 0) w' else e = .returned (.tuple #[.pointer none, .int .i64 1])) ∧ Below w.heap.size w w'
set_option maxRecDepth 100000 in
set_option maxHeartbeats 2000000 in
theorem New_any (root : List UInt8) (hr : root.length ≤ 100000) (size : Int) (w : World) (hg : Glob w) :
    Calls Tryz.prog 21 #[.string (bs root), .int .i64 size] w (NewR root size w) := by
  have CR : Calls Tryz.prog 45 #[.slice none 0 0] w fun e w' => e = .returned (.tuple #[.string (bs emptyR), .int .i64 0]) ∧ Below w.heap.size w w' := by
    have := tRoot_any [] (by simp) (by simp) (.slice none 0 0) w (TextsAt.nil w) hg
    exact this
  have CI := fun w' : World => Is_any root (by omega) w'
  have HE := emptyR.length
  unfold NewR
  have hnb : newB root size = !(!isD root || (decide (size < 0) || (decide (10000 < size) || (decide (size = 0) && !decide (root = emptyR))))) := by
    unfold newB
    generalize isD root = x
    generalize decide (root = emptyR) = y
    rw [show decide (0 ≤ size) = !decide (size < 0) by rw [← decide_not]; exact decide_eq_decide.2 (by omega), show decide (size ≤ 10000) = !decide (10000 < size) by rw [← decide_not]; exact decide_eq_decide.2 (by omega)]
    cases x <;> cases y <;> simp
  rw [hnb]
  clear hnb HE hg
  have h0 : (size == 0) = decide (size = 0) := rfl
  obtain ⟨b0, c0⟩ : ∃ b, isD root = !b := ⟨!isD root, by simp⟩
  rw [c0] at CI
  rw [c0, Bool.not_not]
  clear c0
  generalize c1 : decide (size < 0) = b1 at *
  generalize c2 : decide (10000 < size) = b2 at *
  generalize c3 : decide (size = 0) = b3 at *
  obtain ⟨b4, c4⟩ : ∃ b, ((bs root).toList == (bs emptyR).toList) = !b := ⟨!((bs root).toList == (bs emptyR).toList), by simp⟩
  have c5 : (!decide (root = emptyR)) = b4 := by
    rw [bs_toList, bs_toList] at c4
    rw [← Bool.not_not b4, ← c4]
    congr 1
    rw [Bool.eq_iff_iff]; simp
  rw [c5]
  generalize emptyR = ER at *
  clear c5
  cases b0
  cases b1
  cases b2
  cases b3
  rotate_left
  cases b4
  all_goals (try simp only [Bool.not_false, Bool.not_true] at CI c4)
  all_goals
    go_enter Tryz.func21, Tryz.ntmps21
    go_wp2_with fail
    refine CR.mono ?_
    rintro e w2 ⟨rfl, hb2⟩
    have HB := hide hb2
    clear hb2 CR
    go_wp2_with ((with_reducible refine (CI _).mono ?_); rintro e w3 ⟨rfl, hb3⟩; have HB3 := hide hb3; clear hb3)
    go_ret2
    first
      | exact ⟨rfl, below_to HB.out (Nat.le_refl _) HB3.out⟩
      | exact ⟨⟨w3.heap.size, rfl, Nat.le_trans HB.out.size HB3.out.size, Blk.new _ _ _, World.ownsRow_nil _ _ _ _⟩, below_alloc (below_to HB.out (Nat.le_refl _) HB3.out) (Nat.le_refl _) _⟩
def ItemsR (its : List (List UInt8)) (w : World) (e : Ending) (w' : World) : Prop := ∃ v', e = .returned v' ∧ OwnT w' w.heap.size v' its ∧ Below w.heap.size w w'
set_option maxRecDepth 100000 in
set_option maxHeartbeats 1000000 in
theorem Items_any (b : Nat) (root : List UInt8) (size : Int) (its : List (List UInt8)) (hl : its.length ≤ 1000000000) (v : Value) (w : World) (h : CliAt b root size its v w) :
    Calls Tryz.prog 26 #[cliP b] w (ItemsR its w) := by
  have CC := Clone_any its hl v w h.texts
  unfold CloneR at CC
  obtain ⟨A, c, rfl⟩ := own_sl4 h.own
  have x2 := (h.blk.cell 2).trans (show _ = some (Value.slice A its.length c) from rfl)
  unfold cliP
  clear h
  go_enter Tryz.func26, Tryz.ntmps26
  go_wp2_with fail
  refine CC.mono ?_
  rintro e w2 ⟨v', rfl, ho, hb⟩
  go_wp2_with fail
  go_ret
  exact ⟨v', rfl, ho, hb⟩
set_option maxRecDepth 100000 in
set_option maxHeartbeats 1000000 in
theorem Next_any (b : Nat) (root : List UInt8) (size : Int) (its : List (List UInt8)) (hl : its.length ≤ 1000000000) (v : Value) (w : World) (h : CliAt b root size its v w) :
    Calls Tryz.prog 23 #[cliP b] w fun e w' => e = .returned (.int .i64 (its.length : Int)) ∧ Below w.heap.size w w' := by
  have CI := Items_any b root size its hl v w h
  unfold ItemsR at CI
  clear h
  go_enter Tryz.func23, Tryz.ntmps23
  go_wp2_with fail
  refine CI.mono ?_
  rintro e w2 ⟨v', rfl, ho, hb⟩
  obtain ⟨A, c, rfl⟩ := own_sl4 ho
  go_wp2_with fail
  go_ret
  exact ⟨rfl, hb⟩
set_option maxHeartbeats 1000000 in
theorem Items_none (w : World) : Calls Tryz.prog 26 #[.pointer none] w fun e w' => e = .returned (.slice none 0 0) ∧ w' = w := by
  go_enter Tryz.func26, Tryz.ntmps26
  go_wp2_with fail
  go_ret
  exact ⟨rfl, rfl⟩
end Go.Proofs.YtfhanbiifjiklaaGreatDoor

/- A client: Accept, what it says and keeps. -/
set_option linter.unusedVariables false
set_option linter.unusedSimpArgs false
namespace Go.Proofs.YtfhanbiifjiklaaGreatDoor
open Go.RowKit Go.Shelf
attribute [local go_sem] Oper.semAt_some

def Pg.checkAt (p : Pg) (root : List UInt8) (size : Int) (k : Fin p.items.length) : Bool := checkV root size (p.fr + (k : Nat)) (leafD p.items[k]) (p.paths.getD k [])
def sameB (p : Pg) (root : List UInt8) (size : Int) : Bool := decide (p.root = root) && (decide (p.size = size) && decide (p.fr ≤ p.size - p.items.length))
def heldB (p : Pg) (root : List UInt8) (size : Int) : Bool := sameB p root size && (List.finRange p.items.length).all (p.checkAt root size)
def accE (p : Pg) (root : List UInt8) (size : Int) (its : List (List UInt8)) : Int := if formedB p then (if heldB p root size then (if (its.length : Int) < p.fr then 13 else 0) else 17) else 1
def accV (p : Pg) (root : List UInt8) (size : Int) (its : List (List UInt8)) : List (List UInt8) := if accE p root size its = 0 then its ++ p.items.drop (its.length - p.fr.toNat) else its
def AcceptR (b : Nat) (root : List UInt8) (size : Int) (k : Int) (its : List (List UInt8)) (v : Value) (w : World) (e : Ending) (w' : World) : Prop := ∃ v', e = .returned (.int .i64 k) ∧ CliAt b root size its v' w' ∧ Two b (rowOr v b) w w' ∧ (v'.ownBlock = v.ownBlock ∨ ∃ g, v'.ownBlock = some g ∧ w.heap.size ≤ g)
theorem results_errno {fn : Func} {p : Tmp} (h : fn.results = #[.cell p 29]) (tmps : Array Value) (w : World) (g : Nat) (v : Value) (hp : tmps[p]? = some (.pointer (some ⟨g, 0, none⟩))) (hc : Blk w g 29 #[v]) :
    (results fn tmps).run Tryz.prog w = .ok v w := by
  have hp' : tmps[p]?.getD undef = .pointer (some ⟨g, 0, none⟩) := by rw [hp]; rfl
  have hc' := (hc.cell 0).trans (show _ = some v from rfl)
  simp [results, h, hp', go_sem, hc']
/-- nothing was taken over -/
theorem accept_same {b : Nat} {root : List UInt8} {size k : Int} {its : List (List UInt8)} {v : Value} {w w' : World} (h : CliAt b root size its v w) (hb : Below w.heap.size w w') : AcceptR b root size k its v w (.returned (.int .i64 k)) w' :=
  ⟨v, rfl, h.to hb, Two.of hb, .inl rfl⟩
set_option maxRecDepth 100000 in
set_option maxHeartbeats 2000000 in
theorem Accept_no (b : Nat) (root : List UInt8) (size : Int) (its : List (List UInt8)) (v : Value) (p : Pg) (hp : p.fit) (hf : formedB p = false) (vi vp : Value) (w : World) (hcl : CliAt b root size its v w) (hvi : TextsAt w vi p.items) (hvp : PathsAt w vp p.paths) :
    Calls Tryz.prog 24 #[cliP b, .agg (p.cs vi vp)] w (AcceptR b root size 1 its v w) := by
  have hq := fun q hq => (⟨hp.nq q hq, hp.lq q hq⟩ : q.length ≤ 200000 ∧ ∀ x ∈ q, x.length ≤ 100000)
  have CF := fun w' (hb : Below w.heap.size w w') => formed_any p hp.lr hp.li hq vi vp w' (hvi.to hb) (hvp.to hb)
  rw [hf] at CF
  obtain ⟨Ai, ci, rfl, hci⟩ := hvi.slice
  obtain ⟨Ap, cp, rfl, hcp⟩ := hvp.slice
  have HC := hide hcl
  clear hvi hvp hcl hq hf
  unfold Pg.cs at CF ⊢
  unfold cliP
  have hb0 : Below w.heap.size w (((w.alloc (.cells #[.pointer (some ⟨b, 0, none⟩)] 38)).alloc (.cells #[.int .i64 p.fr, .int .i64 p.size, .string (bs p.root), .slice Ai p.items.length ci, .slice Ap p.paths.length cp] 25)).alloc (.cells #[.int .i64 0] 29)) := (((Below.refl _ w).alloc (Nat.le_refl _) _).alloc (by simp) _).alloc (by simp; omega) _
  have he := Blk.new ((w.alloc (.cells #[.pointer (some ⟨b, 0, none⟩)] 38)).alloc (.cells #[.int .i64 p.fr, .int .i64 p.size, .string (bs p.root), .slice Ai p.items.length ci, .slice Ap p.paths.length cp] 25)) 29 #[.int .i64 0]
  rw [World.size_alloc, World.size_alloc] at he
  have HB0 := hide hb0
  have HE := hide he
  clear hb0 he
  go_enter Tryz.func24, Tryz.ntmps24
  go_wp2_with ((with_reducible refine (CF _ HB0.out).mono ?_); rintro e w2 ⟨rfl, hb2⟩; have HB2 := hide hb2; have y := HE.out.to hb2; have y0 := (y.cell 0).trans (show _ = some (Value.int .i64 0) from rfl); have yf := y.frozen 0; have HY := hide y; clear hb2 y)
  refine bodyPost_ret (results_errno rfl _ _ (w.heap.size + 1 + 1) _ rfl (HY.out.set_ 0 (.int .i64 1))) rfl (accept_same HC.out ?_)
  exact (below_to HB0.out (Nat.le_refl _) HB2.out).setCell (p := ⟨w.heap.size + 1 + 1, 0, none⟩) (by show _ ≤ w.heap.size + 1 + 1; omega) _
end Go.Proofs.YtfhanbiifjiklaaGreatDoor

/- A client: Accept, pages of another log. -/
set_option linter.unusedVariables false
set_option linter.unusedSimpArgs false
namespace Go.Proofs.YtfhanbiifjiklaaGreatDoor
open Go.RowKit Go.Shelf
attribute [local go_sem] Oper.semAt_some

set_option maxRecDepth 100000 in
set_option maxHeartbeats 400000 in
theorem Accept_root (b : Nat) (root : List UInt8) (size : Int) (its : List (List UInt8)) (v : Value) (p : Pg) (hp : p.fit) (hf : formedB p = true) (hh : ¬ p.root = root) (vi vp : Value) (w : World) (hcl : CliAt b root size its v w) (hvi : TextsAt w vi p.items) (hvp : PathsAt w vp p.paths) :
    Calls Tryz.prog 24 #[cliP b, .agg (p.cs vi vp)] w (AcceptR b root size 17 its v w) := by
  have hq := fun q hq => (⟨hp.nq q hq, hp.lq q hq⟩ : q.length ≤ 200000 ∧ ∀ x ∈ q, x.length ≤ 100000)
  have CF := fun w' (hb : Below w.heap.size w w') => formed_any p hp.lr hp.li hq vi vp w' (hvi.to hb) (hvp.to hb)
  rw [hf] at CF
  obtain ⟨Ai, ci, rfl, hci⟩ := hvi.slice
  obtain ⟨Ap, cp, rfl, hcp⟩ := hvp.slice
  obtain ⟨⟨hfr, hsz, _, hn50, hpl⟩, _⟩ := formed_spec hf
  have HC := hide hcl
  have HVI := hide hvi
  have HVP := hide hvp
  clear hvi hvp hcl hq
  unfold Pg.cs at CF ⊢
  unfold cliP
  have hb0 : Below w.heap.size w (((w.alloc (.cells #[.pointer (some ⟨b, 0, none⟩)] 38)).alloc (.cells #[.int .i64 p.fr, .int .i64 p.size, .string (bs p.root), .slice Ai p.items.length ci, .slice Ap p.paths.length cp] 25)).alloc (.cells #[.int .i64 0] 29)) := (((Below.refl _ w).alloc (Nat.le_refl _) _).alloc (by simp) _).alloc (by simp; omega) _
  have he := Blk.new ((w.alloc (.cells #[.pointer (some ⟨b, 0, none⟩)] 38)).alloc (.cells #[.int .i64 p.fr, .int .i64 p.size, .string (bs p.root), .slice Ai p.items.length ci, .slice Ap p.paths.length cp] 25)) 29 #[.int .i64 0]
  rw [World.size_alloc, World.size_alloc] at he
  have hb1 := (Blk.new (w.alloc (.cells #[.pointer (some ⟨b, 0, none⟩)] 38)) 25 #[.int .i64 p.fr, .int .i64 p.size, .string (bs p.root), .slice Ai p.items.length ci, .slice Ap p.paths.length cp]).alloc (.cells #[.int .i64 0] 29)
  rw [World.size_alloc] at hb1
  have hb2 := ((Blk.new w 38 #[.pointer (some ⟨b, 0, none⟩)]).alloc (.cells #[.int .i64 p.fr, .int .i64 p.size, .string (bs p.root), .slice Ai p.items.length ci, .slice Ap p.paths.length cp] 25)).alloc (.cells #[.int .i64 0] 29)
  have HB0 := hide hb0
  have HE := hide he
  have HP1 := hide hb1
  have HP0 := hide hb2
  have HPL := hide hpl
  clear hb0 he hb1 hb2 hpl
  have e1 : ((bs p.root).toList == (bs root).toList) = false := by rw [beq_eq_false_iff_ne, bs_toList, bs_toList]; exact hh
  clear hh hf
  go_enter Tryz.func24, Tryz.ntmps24
  go_wp2_with fail
  refine (CF _ HB0.out).mono ?_
  rintro e w2 ⟨rfl, hb2⟩
  have HB2 := hide hb2
  have HEw := hide (HE.out.to hb2)
  have HP1w := hide (HP1.out.to hb2)
  have HP0w := hide (HP0.out.to hb2)
  have HBw := hide (below_to HB0.out (Nat.le_refl _) hb2)
  clear hb2 CF
  go_wp2_with fail
  have HC2 := hide (HC.out.to HBw.out)
  obtain ⟨Av, cv, rfl⟩ := own_sl4 HC.out.own
  obtain ⟨U, hU, g, u0, rfl, hgu, hi⟩ := cls w2
  have k0 := fun u => ((HP0w.out.to (hgu u)).cell 0).trans (show _ = some (Value.pointer (some ⟨b, 0, none⟩)) from rfl)
  have p0 := fun u => ((HP1w.out.to (hgu u)).cell 0).trans (show _ = some (Value.int .i64 p.fr) from rfl)
  have p1 := fun u => ((HP1w.out.to (hgu u)).cell 1).trans (show _ = some (Value.int .i64 p.size) from rfl)
  have p2 := fun u => ((HP1w.out.to (hgu u)).cell 2).trans (show _ = some (Value.string (bs p.root)) from rfl)
  have p3 := fun u => ((HP1w.out.to (hgu u)).cell 3).trans (show _ = some (Value.slice Ai p.items.length ci) from rfl)
  have z0 := fun u => ((HC2.out.blk.to (hgu u)).cell 0).trans (show _ = some (Value.string (bs root)) from rfl)
  have z1 := fun u => ((HC2.out.blk.to (hgu u)).cell 1).trans (show _ = some (Value.int .i64 size) from rfl)
  have z2 := fun u => ((HC2.out.blk.to (hgu u)).cell 2).trans (show _ = some (Value.slice Av its.length cv) from rfl)
  apply wp_region_looseG g (V := [some _, some _, some _, some _, some _, some _, some _, some _, some _, some _, some _, some _, some _, some _, some _, some _, some _, some _, some _, some _, some _, some _, some _, some _, some _, some _, some _]) (Fs := []) (Rel := fun _ w w' => Below w.heap.size w w')
  case hm => kernel_rfl
  case hB => kernel_rfl
  case hCw => exact hi _ (hgu _).drew
  case hC =>
    rintro i uq w' hr
    exact hi _ (below_to (hgu uq) (Nat.le_refl _) hr)
  case hst =>
    exact keeps_nil
  case hop =>
    refine ⟨?_, ?_, ?_, ?_, ?_, ?_, ?_, ?_, ?_, ?_, ?_, ?_, ?_, ?_, ?_, ?_, ?_, ?_, ?_, ?_, ?_, ?_, ?_, ?_, ?_, ?_, ?_, trivial⟩
    · intro a uq K hS hd hK
      have s3 := hS.at 3 (by kernel_rfl) rfl
      rw [if_pos (want_free rfl)]
      go_simp
      exact hK _ _ (Below.refl _ _) (vok rfl) facts_nil
    · intro a uq K hS hd hK
      have s14 := (waits_on hd 0 (by kernel_rfl)).at (d := 14) rfl rfl rfl
      rw [if_pos (want_free rfl)]
      have c := p2 uq
      go_simp
      exact hK _ _ (Below.refl _ _) (vok rfl) facts_nil
    · intro a uq K hS hd hK
      have s2 := hS.at 2 (by kernel_rfl) rfl
      rw [if_pos (want_free rfl)]
      have c := k0 uq
      go_simp
      exact hK _ _ (Below.refl _ _) (vok rfl) facts_nil
    · intro a uq K hS hd hK
      have s16 := (waits_on hd 2 (by kernel_rfl)).at (d := 16) rfl rfl rfl
      rw [if_pos (want_free rfl)]
      go_simp
      exact hK _ _ (Below.refl _ _) (vok rfl) facts_nil
    · intro a uq K hS hd hK
      have s17 := (waits_on hd 3 (by kernel_rfl)).at (d := 17) rfl rfl rfl
      rw [if_pos (want_free rfl)]
      go_simp
      exact hK _ _ (Below.refl _ _) (vok rfl) facts_nil
    · intro a uq K hS hd hK
      have s18 := (waits_on hd 4 (by kernel_rfl)).at (d := 18) rfl rfl rfl
      rw [if_pos (want_free rfl)]
      have c := z0 uq
      go_simp
      exact hK _ _ (Below.refl _ _) (vok rfl) facts_nil
    · intro a uq K hS hd hK
      have s15 := (waits_on hd 1 (by kernel_rfl)).at (d := 15) rfl rfl rfl
      have s19 := (waits_on hd 5 (by kernel_rfl)).at (d := 19) rfl rfl rfl
      rw [if_pos (want_free rfl)]
      go_simp
      exact hK _ _ (Below.refl _ _) (vok rfl) facts_nil
    · intro a uq K hS hd hK
      have s20 := (waits_on hd 6 (by kernel_rfl)).at (d := 20) rfl rfl rfl
      rw [if_pos (want_free rfl)]
      go_simp
      exact hK _ _ (Below.refl _ _) (vok rfl) facts_nil
    · intro a uq K hS hd hK
      have s21 := (waits_on hd 7 (by kernel_rfl)).at (d := 21) rfl rfl rfl
      rw [if_neg (want_no rfl rfl rfl s21 rfl)]
      exact hK _ _ (Below.refl _ _) (vok rfl) facts_nil
    · intro a uq K hS hd hK
      have s21 := (waits_on hd 7 (by kernel_rfl)).at (d := 21) rfl rfl rfl
      rw [if_neg (want_no rfl rfl rfl s21 rfl)]
      exact hK _ _ (Below.refl _ _) (vok rfl) facts_nil
    · intro a uq K hS hd hK
      have s21 := (waits_on hd 7 (by kernel_rfl)).at (d := 21) rfl rfl rfl
      rw [if_neg (want_no rfl rfl rfl s21 rfl)]
      exact hK _ _ (Below.refl _ _) (vok rfl) facts_nil
    · intro a uq K hS hd hK
      have s21 := (waits_on hd 7 (by kernel_rfl)).at (d := 21) rfl rfl rfl
      rw [if_neg (want_no rfl rfl rfl s21 rfl)]
      exact hK _ _ (Below.refl _ _) (vok rfl) facts_nil
    · intro a uq K hS hd hK
      have s21 := (waits_on hd 7 (by kernel_rfl)).at (d := 21) rfl rfl rfl
      rw [if_neg (want_no rfl rfl rfl s21 rfl)]
      exact hK _ _ (Below.refl _ _) (vok rfl) facts_nil
    · intro a uq K hS hd hK
      have s21 := (waits_on hd 7 (by kernel_rfl)).at (d := 21) rfl rfl rfl
      rw [if_neg (want_no rfl rfl rfl s21 rfl)]
      exact hK _ _ (Below.refl _ _) (vok rfl) facts_nil
    · intro a uq K hS hd hK
      have s21 := (waits_on hd 7 (by kernel_rfl)).at (d := 21) rfl rfl rfl
      rw [if_neg (want_no rfl rfl rfl s21 rfl)]
      exact hK _ _ (Below.refl _ _) (vok rfl) facts_nil
    · intro a uq K hS hd hK
      have s21 := (waits_on hd 7 (by kernel_rfl)).at (d := 21) rfl rfl rfl
      have s28 := (waits_on hd 14 (by kernel_rfl)).at (d := 28) rfl rfl rfl
      rw [if_pos (want_free rfl)]
      go_simp
      exact hK _ _ (Below.refl _ _) (vok rfl) facts_nil
    · intro a uq K hS hd hK
      have s29 := (waits_on hd 15 (by kernel_rfl)).at (d := 29) rfl rfl rfl
      rw [if_pos (want_free rfl)]
      go_simp
      exact hK _ _ (Below.refl _ _) (vok rfl) facts_nil
    · intro a uq K hS hd hK
      have s30 := (waits_on hd 16 (by kernel_rfl)).at (d := 30) rfl rfl rfl
      rw [if_neg (want_no rfl rfl rfl s30 rfl)]
      exact hK _ _ (Below.refl _ _) (vok rfl) facts_nil
    · intro a uq K hS hd hK
      have s30 := (waits_on hd 16 (by kernel_rfl)).at (d := 30) rfl rfl rfl
      rw [if_neg (want_no rfl rfl rfl s30 rfl)]
      exact hK _ _ (Below.refl _ _) (vok rfl) facts_nil
    · intro a uq K hS hd hK
      have s30 := (waits_on hd 16 (by kernel_rfl)).at (d := 30) rfl rfl rfl
      rw [if_neg (want_no rfl rfl rfl s30 rfl)]
      exact hK _ _ (Below.refl _ _) (vok rfl) facts_nil
    · intro a uq K hS hd hK
      have s30 := (waits_on hd 16 (by kernel_rfl)).at (d := 30) rfl rfl rfl
      rw [if_neg (want_no rfl rfl rfl s30 rfl)]
      exact hK _ _ (Below.refl _ _) (vok rfl) facts_nil
    · intro a uq K hS hd hK
      have s30 := (waits_on hd 16 (by kernel_rfl)).at (d := 30) rfl rfl rfl
      rw [if_neg (want_no rfl rfl rfl s30 rfl)]
      exact hK _ _ (Below.refl _ _) (vok rfl) facts_nil
    · intro a uq K hS hd hK
      have s30 := (waits_on hd 16 (by kernel_rfl)).at (d := 30) rfl rfl rfl
      rw [if_neg (want_no rfl rfl rfl s30 rfl)]
      exact hK _ _ (Below.refl _ _) (vok rfl) facts_nil
    · intro a uq K hS hd hK
      have s30 := (waits_on hd 16 (by kernel_rfl)).at (d := 30) rfl rfl rfl
      rw [if_neg (want_no rfl rfl rfl s30 rfl)]
      exact hK _ _ (Below.refl _ _) (vok rfl) facts_nil
    · intro a uq K hS hd hK
      have s30 := (waits_on hd 16 (by kernel_rfl)).at (d := 30) rfl rfl rfl
      rw [if_neg (want_no rfl rfl rfl s30 rfl)]
      exact hK _ _ (Below.refl _ _) (vok rfl) facts_nil
    · intro a uq K hS hd hK
      have s30 := (waits_on hd 16 (by kernel_rfl)).at (d := 30) rfl rfl rfl
      rw [if_neg (want_no rfl rfl rfl s30 rfl)]
      exact hK _ _ (Below.refl _ _) (vok rfl) facts_nil
    · intro a uq K hS hd hK
      have s30 := (waits_on hd 16 (by kernel_rfl)).at (d := 30) rfl rfl rfl
      have s39 := (waits_on hd 25 (by kernel_rfl)).at (d := 39) rfl rfl rfl
      rw [if_pos (want_free rfl)]
      go_simp
      exact hK _ _ (Below.refl _ _) (vok rfl) facts_nil
  case hfin =>
    intro a uq hS hk
    have s14 := (hk 0 (by decide)).at (d := 14) rfl rfl rfl
    have s15 := (hk 1 (by decide)).at (d := 15) rfl rfl rfl
    have s16 := (hk 2 (by decide)).at (d := 16) rfl rfl rfl
    have s17 := (hk 3 (by decide)).at (d := 17) rfl rfl rfl
    have s18 := (hk 4 (by decide)).at (d := 18) rfl rfl rfl
    have s19 := (hk 5 (by decide)).at (d := 19) rfl rfl rfl
    have s20 := (hk 6 (by decide)).at (d := 20) rfl rfl rfl
    have s21 := (hk 7 (by decide)).at (d := 21) rfl rfl rfl
    have s22 := (hk 8 (by decide)).at (d := 22) rfl rfl rfl
    have s23 := (hk 9 (by decide)).at (d := 23) rfl rfl rfl
    have s24 := (hk 10 (by decide)).at (d := 24) rfl rfl rfl
    have s25 := (hk 11 (by decide)).at (d := 25) rfl rfl rfl
    have s26 := (hk 12 (by decide)).at (d := 26) rfl rfl rfl
    have s27 := (hk 13 (by decide)).at (d := 27) rfl rfl rfl
    have s28 := (hk 14 (by decide)).at (d := 28) rfl rfl rfl
    have s29 := (hk 15 (by decide)).at (d := 29) rfl rfl rfl
    have s30 := (hk 16 (by decide)).at (d := 30) rfl rfl rfl
    have s31 := (hk 17 (by decide)).at (d := 31) rfl rfl rfl
    have s32 := (hk 18 (by decide)).at (d := 32) rfl rfl rfl
    have s33 := (hk 19 (by decide)).at (d := 33) rfl rfl rfl
    have s34 := (hk 20 (by decide)).at (d := 34) rfl rfl rfl
    have s35 := (hk 21 (by decide)).at (d := 35) rfl rfl rfl
    have s36 := (hk 22 (by decide)).at (d := 36) rfl rfl rfl
    have s37 := (hk 23 (by decide)).at (d := 37) rfl rfl rfl
    have s38 := (hk 24 (by decide)).at (d := 38) rfl rfl rfl
    have s39 := (hk 25 (by decide)).at (d := 39) rfl rfl rfl
    have s40 := (hk 26 (by decide)).at (d := 40) rfl rfl rfl
    have hlit := hS.lit _ (by kernel_rfl) (lits_cons s14 (lits_cons s15 (lits_cons s16 (lits_cons s17 (lits_cons s18 (lits_cons s19 (lits_cons s20 (lits_cons s21 (lits_cons s22 (lits_cons s23 (lits_cons s24 (lits_cons s25 (lits_cons s26 (lits_cons s27 (lits_cons s28 (lits_cons s29 (lits_cons s30 (lits_cons s31 (lits_cons s32 (lits_cons s33 (lits_cons s34 (lits_cons s35 (lits_cons s36 (lits_cons s37 (lits_cons s38 (lits_cons s39 (lits_cons s40 lits_nil)))))))))))))))))))))))))))
    rw [hlit]
    clear hlit hk hS s14 s15 s16 s17 s18 s19 s20 s21 s22 s23 s24 s25 s26 s27 s28 s29 s30 s31 s32 s33 s34 s35 s36 s37 s38 s39 s40
    have HEu := hide (HEw.out.to (hgu uq))
    have HBu := hide (below_to HBw.out (Nat.le_refl _) (hgu uq))
    have y0 := (HEu.out.cell 0).trans (show _ = some (Value.int .i64 0) from rfl)
    have yf := HEu.out.frozen 0
    simp only [litT, List.setIfInBounds_toArray, List.set_cons_succ, List.set_cons_zero]
    clear k0 p0 p1 p2 p3 z0 z1 z2
    go_wp2_with fail
    refine bodyPost_ret (results_errno rfl _ _ (w.heap.size + 1 + 1) _ rfl (HEu.out.set_ 0 (.int .i64 17))) rfl (accept_same HC.out ?_)
    exact HBu.out.setCell (p := ⟨w.heap.size + 1 + 1, 0, none⟩) (by show _ ≤ w.heap.size + 1 + 1; omega) _
set_option maxRecDepth 100000 in
set_option maxHeartbeats 400000 in
theorem Accept_size (b : Nat) (root : List UInt8) (size : Int) (its : List (List UInt8)) (v : Value) (p : Pg) (hp : p.fit) (hf : formedB p = true) (hh : p.root = root ∧ ¬ p.size = size) (vi vp : Value) (w : World) (hcl : CliAt b root size its v w) (hvi : TextsAt w vi p.items) (hvp : PathsAt w vp p.paths) :
    Calls Tryz.prog 24 #[cliP b, .agg (p.cs vi vp)] w (AcceptR b root size 17 its v w) := by
  have hq := fun q hq => (⟨hp.nq q hq, hp.lq q hq⟩ : q.length ≤ 200000 ∧ ∀ x ∈ q, x.length ≤ 100000)
  have CF := fun w' (hb : Below w.heap.size w w') => formed_any p hp.lr hp.li hq vi vp w' (hvi.to hb) (hvp.to hb)
  rw [hf] at CF
  obtain ⟨Ai, ci, rfl, hci⟩ := hvi.slice
  obtain ⟨Ap, cp, rfl, hcp⟩ := hvp.slice
  obtain ⟨⟨hfr, hsz, _, hn50, hpl⟩, _⟩ := formed_spec hf
  have HC := hide hcl
  have HVI := hide hvi
  have HVP := hide hvp
  clear hvi hvp hcl hq
  unfold Pg.cs at CF ⊢
  unfold cliP
  have hb0 : Below w.heap.size w (((w.alloc (.cells #[.pointer (some ⟨b, 0, none⟩)] 38)).alloc (.cells #[.int .i64 p.fr, .int .i64 p.size, .string (bs p.root), .slice Ai p.items.length ci, .slice Ap p.paths.length cp] 25)).alloc (.cells #[.int .i64 0] 29)) := (((Below.refl _ w).alloc (Nat.le_refl _) _).alloc (by simp) _).alloc (by simp; omega) _
  have he := Blk.new ((w.alloc (.cells #[.pointer (some ⟨b, 0, none⟩)] 38)).alloc (.cells #[.int .i64 p.fr, .int .i64 p.size, .string (bs p.root), .slice Ai p.items.length ci, .slice Ap p.paths.length cp] 25)) 29 #[.int .i64 0]
  rw [World.size_alloc, World.size_alloc] at he
  have hb1 := (Blk.new (w.alloc (.cells #[.pointer (some ⟨b, 0, none⟩)] 38)) 25 #[.int .i64 p.fr, .int .i64 p.size, .string (bs p.root), .slice Ai p.items.length ci, .slice Ap p.paths.length cp]).alloc (.cells #[.int .i64 0] 29)
  rw [World.size_alloc] at hb1
  have hb2 := ((Blk.new w 38 #[.pointer (some ⟨b, 0, none⟩)]).alloc (.cells #[.int .i64 p.fr, .int .i64 p.size, .string (bs p.root), .slice Ai p.items.length ci, .slice Ap p.paths.length cp] 25)).alloc (.cells #[.int .i64 0] 29)
  have HB0 := hide hb0
  have HE := hide he
  have HP1 := hide hb1
  have HP0 := hide hb2
  have HPL := hide hpl
  clear hb0 he hb1 hb2 hpl
  have e1 : ((bs p.root).toList == (bs root).toList) = true := by rw [beq_iff_eq, bs_toList, bs_toList]; exact hh.1
  have e2 : (p.size == size) = false := by rw [beq_eq_false_iff_ne]; exact hh.2
  have e3 : (p.size != size) = true := by rw [bne_iff_ne]; exact hh.2
  clear hh hf
  go_enter Tryz.func24, Tryz.ntmps24
  go_wp2_with fail
  refine (CF _ HB0.out).mono ?_
  rintro e w2 ⟨rfl, hb2⟩
  have HB2 := hide hb2
  have HEw := hide (HE.out.to hb2)
  have HP1w := hide (HP1.out.to hb2)
  have HP0w := hide (HP0.out.to hb2)
  have HBw := hide (below_to HB0.out (Nat.le_refl _) hb2)
  clear hb2 CF
  go_wp2_with fail
  have HC2 := hide (HC.out.to HBw.out)
  obtain ⟨Av, cv, rfl⟩ := own_sl4 HC.out.own
  obtain ⟨U, hU, g, u0, rfl, hgu, hi⟩ := cls w2
  have k0 := fun u => ((HP0w.out.to (hgu u)).cell 0).trans (show _ = some (Value.pointer (some ⟨b, 0, none⟩)) from rfl)
  have p0 := fun u => ((HP1w.out.to (hgu u)).cell 0).trans (show _ = some (Value.int .i64 p.fr) from rfl)
  have p1 := fun u => ((HP1w.out.to (hgu u)).cell 1).trans (show _ = some (Value.int .i64 p.size) from rfl)
  have p2 := fun u => ((HP1w.out.to (hgu u)).cell 2).trans (show _ = some (Value.string (bs p.root)) from rfl)
  have p3 := fun u => ((HP1w.out.to (hgu u)).cell 3).trans (show _ = some (Value.slice Ai p.items.length ci) from rfl)
  have z0 := fun u => ((HC2.out.blk.to (hgu u)).cell 0).trans (show _ = some (Value.string (bs root)) from rfl)
  have z1 := fun u => ((HC2.out.blk.to (hgu u)).cell 1).trans (show _ = some (Value.int .i64 size) from rfl)
  have z2 := fun u => ((HC2.out.blk.to (hgu u)).cell 2).trans (show _ = some (Value.slice Av its.length cv) from rfl)
  apply wp_region_looseG g (V := [some _, some _, some _, some _, some _, some _, some _, some _, some _, some _, some _, some _, some _, some _, some _, some _, some _, some _, some _, some _, some _, some _, some _, some _, some _, some _, some _]) (Fs := []) (Rel := fun _ w w' => Below w.heap.size w w')
  case hm => kernel_rfl
  case hB => kernel_rfl
  case hCw => exact hi _ (hgu _).drew
  case hC =>
    rintro i uq w' hr
    exact hi _ (below_to (hgu uq) (Nat.le_refl _) hr)
  case hst =>
    exact keeps_nil
  case hop =>
    refine ⟨?_, ?_, ?_, ?_, ?_, ?_, ?_, ?_, ?_, ?_, ?_, ?_, ?_, ?_, ?_, ?_, ?_, ?_, ?_, ?_, ?_, ?_, ?_, ?_, ?_, ?_, ?_, trivial⟩
    · intro a uq K hS hd hK
      have s3 := hS.at 3 (by kernel_rfl) rfl
      rw [if_pos (want_free rfl)]
      go_simp
      exact hK _ _ (Below.refl _ _) (vok rfl) facts_nil
    · intro a uq K hS hd hK
      have s14 := (waits_on hd 0 (by kernel_rfl)).at (d := 14) rfl rfl rfl
      rw [if_pos (want_free rfl)]
      have c := p2 uq
      go_simp
      exact hK _ _ (Below.refl _ _) (vok rfl) facts_nil
    · intro a uq K hS hd hK
      have s2 := hS.at 2 (by kernel_rfl) rfl
      rw [if_pos (want_free rfl)]
      have c := k0 uq
      go_simp
      exact hK _ _ (Below.refl _ _) (vok rfl) facts_nil
    · intro a uq K hS hd hK
      have s16 := (waits_on hd 2 (by kernel_rfl)).at (d := 16) rfl rfl rfl
      rw [if_pos (want_free rfl)]
      go_simp
      exact hK _ _ (Below.refl _ _) (vok rfl) facts_nil
    · intro a uq K hS hd hK
      have s17 := (waits_on hd 3 (by kernel_rfl)).at (d := 17) rfl rfl rfl
      rw [if_pos (want_free rfl)]
      go_simp
      exact hK _ _ (Below.refl _ _) (vok rfl) facts_nil
    · intro a uq K hS hd hK
      have s18 := (waits_on hd 4 (by kernel_rfl)).at (d := 18) rfl rfl rfl
      rw [if_pos (want_free rfl)]
      have c := z0 uq
      go_simp
      exact hK _ _ (Below.refl _ _) (vok rfl) facts_nil
    · intro a uq K hS hd hK
      have s15 := (waits_on hd 1 (by kernel_rfl)).at (d := 15) rfl rfl rfl
      have s19 := (waits_on hd 5 (by kernel_rfl)).at (d := 19) rfl rfl rfl
      rw [if_pos (want_free rfl)]
      go_simp
      exact hK _ _ (Below.refl _ _) (vok rfl) facts_nil
    · intro a uq K hS hd hK
      have s20 := (waits_on hd 6 (by kernel_rfl)).at (d := 20) rfl rfl rfl
      rw [if_pos (want_free rfl)]
      go_simp
      exact hK _ _ (Below.refl _ _) (vok rfl) facts_nil
    · intro a uq K hS hd hK
      have s21 := (waits_on hd 7 (by kernel_rfl)).at (d := 21) rfl rfl rfl
      have s3 := hS.at 3 (by kernel_rfl) rfl
      rw [if_pos (want_yes rfl rfl rfl s21)]
      go_simp
      exact hK _ _ (Below.refl _ _) (vok rfl) facts_nil
    · intro a uq K hS hd hK
      have s21 := (waits_on hd 7 (by kernel_rfl)).at (d := 21) rfl rfl rfl
      have s22 := (waits_on hd 8 (by kernel_rfl)).at (d := 22) rfl rfl rfl
      rw [if_pos (want_yes rfl rfl rfl s21)]
      have c := p1 uq
      go_simp
      exact hK _ _ (Below.refl _ _) (vok rfl) facts_nil
    · intro a uq K hS hd hK
      have s21 := (waits_on hd 7 (by kernel_rfl)).at (d := 21) rfl rfl rfl
      have s2 := hS.at 2 (by kernel_rfl) rfl
      rw [if_pos (want_yes rfl rfl rfl s21)]
      have c := k0 uq
      go_simp
      exact hK _ _ (Below.refl _ _) (vok rfl) facts_nil
    · intro a uq K hS hd hK
      have s21 := (waits_on hd 7 (by kernel_rfl)).at (d := 21) rfl rfl rfl
      have s24 := (waits_on hd 10 (by kernel_rfl)).at (d := 24) rfl rfl rfl
      rw [if_pos (want_yes rfl rfl rfl s21)]
      go_simp
      exact hK _ _ (Below.refl _ _) (vok rfl) facts_nil
    · intro a uq K hS hd hK
      have s21 := (waits_on hd 7 (by kernel_rfl)).at (d := 21) rfl rfl rfl
      have s25 := (waits_on hd 11 (by kernel_rfl)).at (d := 25) rfl rfl rfl
      rw [if_pos (want_yes rfl rfl rfl s21)]
      go_simp
      exact hK _ _ (Below.refl _ _) (vok rfl) facts_nil
    · intro a uq K hS hd hK
      have s21 := (waits_on hd 7 (by kernel_rfl)).at (d := 21) rfl rfl rfl
      have s26 := (waits_on hd 12 (by kernel_rfl)).at (d := 26) rfl rfl rfl
      rw [if_pos (want_yes rfl rfl rfl s21)]
      have c := z1 uq
      go_simp
      exact hK _ _ (Below.refl _ _) (vok rfl) facts_nil
    · intro a uq K hS hd hK
      have s21 := (waits_on hd 7 (by kernel_rfl)).at (d := 21) rfl rfl rfl
      have s23 := (waits_on hd 9 (by kernel_rfl)).at (d := 23) rfl rfl rfl
      have s27 := (waits_on hd 13 (by kernel_rfl)).at (d := 27) rfl rfl rfl
      rw [if_pos (want_yes rfl rfl rfl s21)]
      go_simp
      exact hK _ _ (Below.refl _ _) (vok rfl) facts_nil
    · intro a uq K hS hd hK
      have s21 := (waits_on hd 7 (by kernel_rfl)).at (d := 21) rfl rfl rfl
      have s28 := (waits_on hd 14 (by kernel_rfl)).at (d := 28) rfl rfl rfl
      rw [if_pos (want_free rfl)]
      go_simp
      exact hK _ _ (Below.refl _ _) (vok rfl) facts_nil
    · intro a uq K hS hd hK
      have s29 := (waits_on hd 15 (by kernel_rfl)).at (d := 29) rfl rfl rfl
      rw [if_pos (want_free rfl)]
      go_simp
      exact hK _ _ (Below.refl _ _) (vok rfl) facts_nil
    · intro a uq K hS hd hK
      have s30 := (waits_on hd 16 (by kernel_rfl)).at (d := 30) rfl rfl rfl
      rw [if_neg (want_no rfl rfl rfl s30 rfl)]
      exact hK _ _ (Below.refl _ _) (vok rfl) facts_nil
    · intro a uq K hS hd hK
      have s30 := (waits_on hd 16 (by kernel_rfl)).at (d := 30) rfl rfl rfl
      rw [if_neg (want_no rfl rfl rfl s30 rfl)]
      exact hK _ _ (Below.refl _ _) (vok rfl) facts_nil
    · intro a uq K hS hd hK
      have s30 := (waits_on hd 16 (by kernel_rfl)).at (d := 30) rfl rfl rfl
      rw [if_neg (want_no rfl rfl rfl s30 rfl)]
      exact hK _ _ (Below.refl _ _) (vok rfl) facts_nil
    · intro a uq K hS hd hK
      have s30 := (waits_on hd 16 (by kernel_rfl)).at (d := 30) rfl rfl rfl
      rw [if_neg (want_no rfl rfl rfl s30 rfl)]
      exact hK _ _ (Below.refl _ _) (vok rfl) facts_nil
    · intro a uq K hS hd hK
      have s30 := (waits_on hd 16 (by kernel_rfl)).at (d := 30) rfl rfl rfl
      rw [if_neg (want_no rfl rfl rfl s30 rfl)]
      exact hK _ _ (Below.refl _ _) (vok rfl) facts_nil
    · intro a uq K hS hd hK
      have s30 := (waits_on hd 16 (by kernel_rfl)).at (d := 30) rfl rfl rfl
      rw [if_neg (want_no rfl rfl rfl s30 rfl)]
      exact hK _ _ (Below.refl _ _) (vok rfl) facts_nil
    · intro a uq K hS hd hK
      have s30 := (waits_on hd 16 (by kernel_rfl)).at (d := 30) rfl rfl rfl
      rw [if_neg (want_no rfl rfl rfl s30 rfl)]
      exact hK _ _ (Below.refl _ _) (vok rfl) facts_nil
    · intro a uq K hS hd hK
      have s30 := (waits_on hd 16 (by kernel_rfl)).at (d := 30) rfl rfl rfl
      rw [if_neg (want_no rfl rfl rfl s30 rfl)]
      exact hK _ _ (Below.refl _ _) (vok rfl) facts_nil
    · intro a uq K hS hd hK
      have s30 := (waits_on hd 16 (by kernel_rfl)).at (d := 30) rfl rfl rfl
      rw [if_neg (want_no rfl rfl rfl s30 rfl)]
      exact hK _ _ (Below.refl _ _) (vok rfl) facts_nil
    · intro a uq K hS hd hK
      have s30 := (waits_on hd 16 (by kernel_rfl)).at (d := 30) rfl rfl rfl
      have s39 := (waits_on hd 25 (by kernel_rfl)).at (d := 39) rfl rfl rfl
      rw [if_pos (want_free rfl)]
      go_simp
      exact hK _ _ (Below.refl _ _) (vok rfl) facts_nil
  case hfin =>
    intro a uq hS hk
    have s14 := (hk 0 (by decide)).at (d := 14) rfl rfl rfl
    have s15 := (hk 1 (by decide)).at (d := 15) rfl rfl rfl
    have s16 := (hk 2 (by decide)).at (d := 16) rfl rfl rfl
    have s17 := (hk 3 (by decide)).at (d := 17) rfl rfl rfl
    have s18 := (hk 4 (by decide)).at (d := 18) rfl rfl rfl
    have s19 := (hk 5 (by decide)).at (d := 19) rfl rfl rfl
    have s20 := (hk 6 (by decide)).at (d := 20) rfl rfl rfl
    have s21 := (hk 7 (by decide)).at (d := 21) rfl rfl rfl
    have s22 := (hk 8 (by decide)).at (d := 22) rfl rfl rfl
    have s23 := (hk 9 (by decide)).at (d := 23) rfl rfl rfl
    have s24 := (hk 10 (by decide)).at (d := 24) rfl rfl rfl
    have s25 := (hk 11 (by decide)).at (d := 25) rfl rfl rfl
    have s26 := (hk 12 (by decide)).at (d := 26) rfl rfl rfl
    have s27 := (hk 13 (by decide)).at (d := 27) rfl rfl rfl
    have s28 := (hk 14 (by decide)).at (d := 28) rfl rfl rfl
    have s29 := (hk 15 (by decide)).at (d := 29) rfl rfl rfl
    have s30 := (hk 16 (by decide)).at (d := 30) rfl rfl rfl
    have s31 := (hk 17 (by decide)).at (d := 31) rfl rfl rfl
    have s32 := (hk 18 (by decide)).at (d := 32) rfl rfl rfl
    have s33 := (hk 19 (by decide)).at (d := 33) rfl rfl rfl
    have s34 := (hk 20 (by decide)).at (d := 34) rfl rfl rfl
    have s35 := (hk 21 (by decide)).at (d := 35) rfl rfl rfl
    have s36 := (hk 22 (by decide)).at (d := 36) rfl rfl rfl
    have s37 := (hk 23 (by decide)).at (d := 37) rfl rfl rfl
    have s38 := (hk 24 (by decide)).at (d := 38) rfl rfl rfl
    have s39 := (hk 25 (by decide)).at (d := 39) rfl rfl rfl
    have s40 := (hk 26 (by decide)).at (d := 40) rfl rfl rfl
    have hlit := hS.lit _ (by kernel_rfl) (lits_cons s14 (lits_cons s15 (lits_cons s16 (lits_cons s17 (lits_cons s18 (lits_cons s19 (lits_cons s20 (lits_cons s21 (lits_cons s22 (lits_cons s23 (lits_cons s24 (lits_cons s25 (lits_cons s26 (lits_cons s27 (lits_cons s28 (lits_cons s29 (lits_cons s30 (lits_cons s31 (lits_cons s32 (lits_cons s33 (lits_cons s34 (lits_cons s35 (lits_cons s36 (lits_cons s37 (lits_cons s38 (lits_cons s39 (lits_cons s40 lits_nil)))))))))))))))))))))))))))
    rw [hlit]
    clear hlit hk hS s14 s15 s16 s17 s18 s19 s20 s21 s22 s23 s24 s25 s26 s27 s28 s29 s30 s31 s32 s33 s34 s35 s36 s37 s38 s39 s40
    have HEu := hide (HEw.out.to (hgu uq))
    have HBu := hide (below_to HBw.out (Nat.le_refl _) (hgu uq))
    have y0 := (HEu.out.cell 0).trans (show _ = some (Value.int .i64 0) from rfl)
    have yf := HEu.out.frozen 0
    simp only [litT, List.setIfInBounds_toArray, List.set_cons_succ, List.set_cons_zero]
    clear k0 p0 p1 p2 p3 z0 z1 z2
    go_wp2_with fail
    refine bodyPost_ret (results_errno rfl _ _ (w.heap.size + 1 + 1) _ rfl (HEu.out.set_ 0 (.int .i64 17))) rfl (accept_same HC.out ?_)
    exact HBu.out.setCell (p := ⟨w.heap.size + 1 + 1, 0, none⟩) (by show _ ≤ w.heap.size + 1 + 1; omega) _
set_option maxRecDepth 100000 in
set_option maxHeartbeats 400000 in
theorem Accept_far (b : Nat) (root : List UInt8) (size : Int) (its : List (List UInt8)) (v : Value) (p : Pg) (hp : p.fit) (hf : formedB p = true) (hh : p.root = root ∧ p.size = size ∧ ¬ p.fr ≤ p.size - p.items.length) (vi vp : Value) (w : World) (hcl : CliAt b root size its v w) (hvi : TextsAt w vi p.items) (hvp : PathsAt w vp p.paths) :
    Calls Tryz.prog 24 #[cliP b, .agg (p.cs vi vp)] w (AcceptR b root size 17 its v w) := by
  have hq := fun q hq => (⟨hp.nq q hq, hp.lq q hq⟩ : q.length ≤ 200000 ∧ ∀ x ∈ q, x.length ≤ 100000)
  have CF := fun w' (hb : Below w.heap.size w w') => formed_any p hp.lr hp.li hq vi vp w' (hvi.to hb) (hvp.to hb)
  rw [hf] at CF
  obtain ⟨Ai, ci, rfl, hci⟩ := hvi.slice
  obtain ⟨Ap, cp, rfl, hcp⟩ := hvp.slice
  obtain ⟨⟨hfr, hsz, _, hn50, hpl⟩, _⟩ := formed_spec hf
  have HC := hide hcl
  have HVI := hide hvi
  have HVP := hide hvp
  clear hvi hvp hcl hq
  unfold Pg.cs at CF ⊢
  unfold cliP
  have hb0 : Below w.heap.size w (((w.alloc (.cells #[.pointer (some ⟨b, 0, none⟩)] 38)).alloc (.cells #[.int .i64 p.fr, .int .i64 p.size, .string (bs p.root), .slice Ai p.items.length ci, .slice Ap p.paths.length cp] 25)).alloc (.cells #[.int .i64 0] 29)) := (((Below.refl _ w).alloc (Nat.le_refl _) _).alloc (by simp) _).alloc (by simp; omega) _
  have he := Blk.new ((w.alloc (.cells #[.pointer (some ⟨b, 0, none⟩)] 38)).alloc (.cells #[.int .i64 p.fr, .int .i64 p.size, .string (bs p.root), .slice Ai p.items.length ci, .slice Ap p.paths.length cp] 25)) 29 #[.int .i64 0]
  rw [World.size_alloc, World.size_alloc] at he
  have hb1 := (Blk.new (w.alloc (.cells #[.pointer (some ⟨b, 0, none⟩)] 38)) 25 #[.int .i64 p.fr, .int .i64 p.size, .string (bs p.root), .slice Ai p.items.length ci, .slice Ap p.paths.length cp]).alloc (.cells #[.int .i64 0] 29)
  rw [World.size_alloc] at hb1
  have hb2 := ((Blk.new w 38 #[.pointer (some ⟨b, 0, none⟩)]).alloc (.cells #[.int .i64 p.fr, .int .i64 p.size, .string (bs p.root), .slice Ai p.items.length ci, .slice Ap p.paths.length cp] 25)).alloc (.cells #[.int .i64 0] 29)
  have HB0 := hide hb0
  have HE := hide he
  have HP1 := hide hb1
  have HP0 := hide hb2
  have HPL := hide hpl
  clear hb0 he hb1 hb2 hpl
  have e1 : ((bs p.root).toList == (bs root).toList) = true := by rw [beq_iff_eq, bs_toList, bs_toList]; exact hh.1
  have e2 : (p.size == size) = true := by rw [beq_iff_eq]; exact hh.2.1
  have e3 : (p.size != size) = false := by rw [bne, e2]; rfl
  have ew : IntKind.i64.wrap (p.size - (p.items.length : Int)) = p.size - (p.items.length : Int) := w64 (by omega) (by omega)
  have e4 : decide (p.size - (p.items.length : Int) < p.fr) = true := decide_eq_true (by have := hh.2.2; omega)
  clear hh hf
  go_enter Tryz.func24, Tryz.ntmps24
  go_wp2_with fail
  refine (CF _ HB0.out).mono ?_
  rintro e w2 ⟨rfl, hb2⟩
  have HB2 := hide hb2
  have HEw := hide (HE.out.to hb2)
  have HP1w := hide (HP1.out.to hb2)
  have HP0w := hide (HP0.out.to hb2)
  have HBw := hide (below_to HB0.out (Nat.le_refl _) hb2)
  clear hb2 CF
  go_wp2_with fail
  have HC2 := hide (HC.out.to HBw.out)
  obtain ⟨Av, cv, rfl⟩ := own_sl4 HC.out.own
  obtain ⟨U, hU, g, u0, rfl, hgu, hi⟩ := cls w2
  have k0 := fun u => ((HP0w.out.to (hgu u)).cell 0).trans (show _ = some (Value.pointer (some ⟨b, 0, none⟩)) from rfl)
  have p0 := fun u => ((HP1w.out.to (hgu u)).cell 0).trans (show _ = some (Value.int .i64 p.fr) from rfl)
  have p1 := fun u => ((HP1w.out.to (hgu u)).cell 1).trans (show _ = some (Value.int .i64 p.size) from rfl)
  have p2 := fun u => ((HP1w.out.to (hgu u)).cell 2).trans (show _ = some (Value.string (bs p.root)) from rfl)
  have p3 := fun u => ((HP1w.out.to (hgu u)).cell 3).trans (show _ = some (Value.slice Ai p.items.length ci) from rfl)
  have z0 := fun u => ((HC2.out.blk.to (hgu u)).cell 0).trans (show _ = some (Value.string (bs root)) from rfl)
  have z1 := fun u => ((HC2.out.blk.to (hgu u)).cell 1).trans (show _ = some (Value.int .i64 size) from rfl)
  have z2 := fun u => ((HC2.out.blk.to (hgu u)).cell 2).trans (show _ = some (Value.slice Av its.length cv) from rfl)
  apply wp_region_looseG g (V := [some _, some _, some _, some _, some _, some _, some _, some _, some _, some _, some _, some _, some _, some _, some _, some _, some _, some _, some _, some _, some _, some _, some _, some _, some _, some _, some _]) (Fs := []) (Rel := fun _ w w' => Below w.heap.size w w')
  case hm => kernel_rfl
  case hB => kernel_rfl
  case hCw => exact hi _ (hgu _).drew
  case hC =>
    rintro i uq w' hr
    exact hi _ (below_to (hgu uq) (Nat.le_refl _) hr)
  case hst =>
    exact keeps_nil
  case hop =>
    refine ⟨?_, ?_, ?_, ?_, ?_, ?_, ?_, ?_, ?_, ?_, ?_, ?_, ?_, ?_, ?_, ?_, ?_, ?_, ?_, ?_, ?_, ?_, ?_, ?_, ?_, ?_, ?_, trivial⟩
    · intro a uq K hS hd hK
      have s3 := hS.at 3 (by kernel_rfl) rfl
      rw [if_pos (want_free rfl)]
      go_simp
      exact hK _ _ (Below.refl _ _) (vok rfl) facts_nil
    · intro a uq K hS hd hK
      have s14 := (waits_on hd 0 (by kernel_rfl)).at (d := 14) rfl rfl rfl
      rw [if_pos (want_free rfl)]
      have c := p2 uq
      go_simp
      exact hK _ _ (Below.refl _ _) (vok rfl) facts_nil
    · intro a uq K hS hd hK
      have s2 := hS.at 2 (by kernel_rfl) rfl
      rw [if_pos (want_free rfl)]
      have c := k0 uq
      go_simp
      exact hK _ _ (Below.refl _ _) (vok rfl) facts_nil
    · intro a uq K hS hd hK
      have s16 := (waits_on hd 2 (by kernel_rfl)).at (d := 16) rfl rfl rfl
      rw [if_pos (want_free rfl)]
      go_simp
      exact hK _ _ (Below.refl _ _) (vok rfl) facts_nil
    · intro a uq K hS hd hK
      have s17 := (waits_on hd 3 (by kernel_rfl)).at (d := 17) rfl rfl rfl
      rw [if_pos (want_free rfl)]
      go_simp
      exact hK _ _ (Below.refl _ _) (vok rfl) facts_nil
    · intro a uq K hS hd hK
      have s18 := (waits_on hd 4 (by kernel_rfl)).at (d := 18) rfl rfl rfl
      rw [if_pos (want_free rfl)]
      have c := z0 uq
      go_simp
      exact hK _ _ (Below.refl _ _) (vok rfl) facts_nil
    · intro a uq K hS hd hK
      have s15 := (waits_on hd 1 (by kernel_rfl)).at (d := 15) rfl rfl rfl
      have s19 := (waits_on hd 5 (by kernel_rfl)).at (d := 19) rfl rfl rfl
      rw [if_pos (want_free rfl)]
      go_simp
      exact hK _ _ (Below.refl _ _) (vok rfl) facts_nil
    · intro a uq K hS hd hK
      have s20 := (waits_on hd 6 (by kernel_rfl)).at (d := 20) rfl rfl rfl
      rw [if_pos (want_free rfl)]
      go_simp
      exact hK _ _ (Below.refl _ _) (vok rfl) facts_nil
    · intro a uq K hS hd hK
      have s21 := (waits_on hd 7 (by kernel_rfl)).at (d := 21) rfl rfl rfl
      have s3 := hS.at 3 (by kernel_rfl) rfl
      rw [if_pos (want_yes rfl rfl rfl s21)]
      go_simp
      exact hK _ _ (Below.refl _ _) (vok rfl) facts_nil
    · intro a uq K hS hd hK
      have s21 := (waits_on hd 7 (by kernel_rfl)).at (d := 21) rfl rfl rfl
      have s22 := (waits_on hd 8 (by kernel_rfl)).at (d := 22) rfl rfl rfl
      rw [if_pos (want_yes rfl rfl rfl s21)]
      have c := p1 uq
      go_simp
      exact hK _ _ (Below.refl _ _) (vok rfl) facts_nil
    · intro a uq K hS hd hK
      have s21 := (waits_on hd 7 (by kernel_rfl)).at (d := 21) rfl rfl rfl
      have s2 := hS.at 2 (by kernel_rfl) rfl
      rw [if_pos (want_yes rfl rfl rfl s21)]
      have c := k0 uq
      go_simp
      exact hK _ _ (Below.refl _ _) (vok rfl) facts_nil
    · intro a uq K hS hd hK
      have s21 := (waits_on hd 7 (by kernel_rfl)).at (d := 21) rfl rfl rfl
      have s24 := (waits_on hd 10 (by kernel_rfl)).at (d := 24) rfl rfl rfl
      rw [if_pos (want_yes rfl rfl rfl s21)]
      go_simp
      exact hK _ _ (Below.refl _ _) (vok rfl) facts_nil
    · intro a uq K hS hd hK
      have s21 := (waits_on hd 7 (by kernel_rfl)).at (d := 21) rfl rfl rfl
      have s25 := (waits_on hd 11 (by kernel_rfl)).at (d := 25) rfl rfl rfl
      rw [if_pos (want_yes rfl rfl rfl s21)]
      go_simp
      exact hK _ _ (Below.refl _ _) (vok rfl) facts_nil
    · intro a uq K hS hd hK
      have s21 := (waits_on hd 7 (by kernel_rfl)).at (d := 21) rfl rfl rfl
      have s26 := (waits_on hd 12 (by kernel_rfl)).at (d := 26) rfl rfl rfl
      rw [if_pos (want_yes rfl rfl rfl s21)]
      have c := z1 uq
      go_simp
      exact hK _ _ (Below.refl _ _) (vok rfl) facts_nil
    · intro a uq K hS hd hK
      have s21 := (waits_on hd 7 (by kernel_rfl)).at (d := 21) rfl rfl rfl
      have s23 := (waits_on hd 9 (by kernel_rfl)).at (d := 23) rfl rfl rfl
      have s27 := (waits_on hd 13 (by kernel_rfl)).at (d := 27) rfl rfl rfl
      rw [if_pos (want_yes rfl rfl rfl s21)]
      go_simp
      exact hK _ _ (Below.refl _ _) (vok rfl) facts_nil
    · intro a uq K hS hd hK
      have s21 := (waits_on hd 7 (by kernel_rfl)).at (d := 21) rfl rfl rfl
      have s28 := (waits_on hd 14 (by kernel_rfl)).at (d := 28) rfl rfl rfl
      rw [if_pos (want_free rfl)]
      go_simp
      exact hK _ _ (Below.refl _ _) (vok rfl) facts_nil
    · intro a uq K hS hd hK
      have s29 := (waits_on hd 15 (by kernel_rfl)).at (d := 29) rfl rfl rfl
      rw [if_pos (want_free rfl)]
      go_simp
      exact hK _ _ (Below.refl _ _) (vok rfl) facts_nil
    · intro a uq K hS hd hK
      have s30 := (waits_on hd 16 (by kernel_rfl)).at (d := 30) rfl rfl rfl
      have s3 := hS.at 3 (by kernel_rfl) rfl
      rw [if_pos (want_yes rfl rfl rfl s30)]
      go_simp
      exact hK _ _ (Below.refl _ _) (vok rfl) facts_nil
    · intro a uq K hS hd hK
      have s30 := (waits_on hd 16 (by kernel_rfl)).at (d := 30) rfl rfl rfl
      have s31 := (waits_on hd 17 (by kernel_rfl)).at (d := 31) rfl rfl rfl
      rw [if_pos (want_yes rfl rfl rfl s30)]
      have c := p0 uq
      go_simp
      exact hK _ _ (Below.refl _ _) (vok rfl) facts_nil
    · intro a uq K hS hd hK
      have s30 := (waits_on hd 16 (by kernel_rfl)).at (d := 30) rfl rfl rfl
      have s3 := hS.at 3 (by kernel_rfl) rfl
      rw [if_pos (want_yes rfl rfl rfl s30)]
      go_simp
      exact hK _ _ (Below.refl _ _) (vok rfl) facts_nil
    · intro a uq K hS hd hK
      have s30 := (waits_on hd 16 (by kernel_rfl)).at (d := 30) rfl rfl rfl
      have s33 := (waits_on hd 19 (by kernel_rfl)).at (d := 33) rfl rfl rfl
      rw [if_pos (want_yes rfl rfl rfl s30)]
      have c := p1 uq
      go_simp
      exact hK _ _ (Below.refl _ _) (vok rfl) facts_nil
    · intro a uq K hS hd hK
      have s30 := (waits_on hd 16 (by kernel_rfl)).at (d := 30) rfl rfl rfl
      have s3 := hS.at 3 (by kernel_rfl) rfl
      rw [if_pos (want_yes rfl rfl rfl s30)]
      go_simp
      exact hK _ _ (Below.refl _ _) (vok rfl) facts_nil
    · intro a uq K hS hd hK
      have s30 := (waits_on hd 16 (by kernel_rfl)).at (d := 30) rfl rfl rfl
      have s35 := (waits_on hd 21 (by kernel_rfl)).at (d := 35) rfl rfl rfl
      rw [if_pos (want_yes rfl rfl rfl s30)]
      have c := p3 uq
      go_simp
      exact hK _ _ (Below.refl _ _) (vok rfl) facts_nil
    · intro a uq K hS hd hK
      have s30 := (waits_on hd 16 (by kernel_rfl)).at (d := 30) rfl rfl rfl
      have s36 := (waits_on hd 22 (by kernel_rfl)).at (d := 36) rfl rfl rfl
      rw [if_pos (want_yes rfl rfl rfl s30)]
      go_simp
      exact hK _ _ (Below.refl _ _) (vok rfl) facts_nil
    · intro a uq K hS hd hK
      have s30 := (waits_on hd 16 (by kernel_rfl)).at (d := 30) rfl rfl rfl
      have s34 := (waits_on hd 20 (by kernel_rfl)).at (d := 34) rfl rfl rfl
      have s37 := (waits_on hd 23 (by kernel_rfl)).at (d := 37) rfl rfl rfl
      rw [if_pos (want_yes rfl rfl rfl s30)]
      go_simp
      exact hK _ _ (Below.refl _ _) (vok rfl) facts_nil
    · intro a uq K hS hd hK
      have s30 := (waits_on hd 16 (by kernel_rfl)).at (d := 30) rfl rfl rfl
      have s32 := (waits_on hd 18 (by kernel_rfl)).at (d := 32) rfl rfl rfl
      have s38 := (waits_on hd 24 (by kernel_rfl)).at (d := 38) rfl rfl rfl
      rw [if_pos (want_yes rfl rfl rfl s30)]
      go_simp
      exact hK _ _ (Below.refl _ _) (vok rfl) facts_nil
    · intro a uq K hS hd hK
      have s30 := (waits_on hd 16 (by kernel_rfl)).at (d := 30) rfl rfl rfl
      have s39 := (waits_on hd 25 (by kernel_rfl)).at (d := 39) rfl rfl rfl
      rw [if_pos (want_free rfl)]
      go_simp
      exact hK _ _ (Below.refl _ _) (vok rfl) facts_nil
  case hfin =>
    intro a uq hS hk
    have s14 := (hk 0 (by decide)).at (d := 14) rfl rfl rfl
    have s15 := (hk 1 (by decide)).at (d := 15) rfl rfl rfl
    have s16 := (hk 2 (by decide)).at (d := 16) rfl rfl rfl
    have s17 := (hk 3 (by decide)).at (d := 17) rfl rfl rfl
    have s18 := (hk 4 (by decide)).at (d := 18) rfl rfl rfl
    have s19 := (hk 5 (by decide)).at (d := 19) rfl rfl rfl
    have s20 := (hk 6 (by decide)).at (d := 20) rfl rfl rfl
    have s21 := (hk 7 (by decide)).at (d := 21) rfl rfl rfl
    have s22 := (hk 8 (by decide)).at (d := 22) rfl rfl rfl
    have s23 := (hk 9 (by decide)).at (d := 23) rfl rfl rfl
    have s24 := (hk 10 (by decide)).at (d := 24) rfl rfl rfl
    have s25 := (hk 11 (by decide)).at (d := 25) rfl rfl rfl
    have s26 := (hk 12 (by decide)).at (d := 26) rfl rfl rfl
    have s27 := (hk 13 (by decide)).at (d := 27) rfl rfl rfl
    have s28 := (hk 14 (by decide)).at (d := 28) rfl rfl rfl
    have s29 := (hk 15 (by decide)).at (d := 29) rfl rfl rfl
    have s30 := (hk 16 (by decide)).at (d := 30) rfl rfl rfl
    have s31 := (hk 17 (by decide)).at (d := 31) rfl rfl rfl
    have s32 := (hk 18 (by decide)).at (d := 32) rfl rfl rfl
    have s33 := (hk 19 (by decide)).at (d := 33) rfl rfl rfl
    have s34 := (hk 20 (by decide)).at (d := 34) rfl rfl rfl
    have s35 := (hk 21 (by decide)).at (d := 35) rfl rfl rfl
    have s36 := (hk 22 (by decide)).at (d := 36) rfl rfl rfl
    have s37 := (hk 23 (by decide)).at (d := 37) rfl rfl rfl
    have s38 := (hk 24 (by decide)).at (d := 38) rfl rfl rfl
    have s39 := (hk 25 (by decide)).at (d := 39) rfl rfl rfl
    have s40 := (hk 26 (by decide)).at (d := 40) rfl rfl rfl
    have hlit := hS.lit _ (by kernel_rfl) (lits_cons s14 (lits_cons s15 (lits_cons s16 (lits_cons s17 (lits_cons s18 (lits_cons s19 (lits_cons s20 (lits_cons s21 (lits_cons s22 (lits_cons s23 (lits_cons s24 (lits_cons s25 (lits_cons s26 (lits_cons s27 (lits_cons s28 (lits_cons s29 (lits_cons s30 (lits_cons s31 (lits_cons s32 (lits_cons s33 (lits_cons s34 (lits_cons s35 (lits_cons s36 (lits_cons s37 (lits_cons s38 (lits_cons s39 (lits_cons s40 lits_nil)))))))))))))))))))))))))))
    rw [hlit]
    clear hlit hk hS s14 s15 s16 s17 s18 s19 s20 s21 s22 s23 s24 s25 s26 s27 s28 s29 s30 s31 s32 s33 s34 s35 s36 s37 s38 s39 s40
    have HEu := hide (HEw.out.to (hgu uq))
    have HBu := hide (below_to HBw.out (Nat.le_refl _) (hgu uq))
    have y0 := (HEu.out.cell 0).trans (show _ = some (Value.int .i64 0) from rfl)
    have yf := HEu.out.frozen 0
    simp only [litT, List.setIfInBounds_toArray, List.set_cons_succ, List.set_cons_zero]
    clear k0 p0 p1 p2 p3 z0 z1 z2
    go_wp2_with fail
    refine bodyPost_ret (results_errno rfl _ _ (w.heap.size + 1 + 1) _ rfl (HEu.out.set_ 0 (.int .i64 17))) rfl (accept_same HC.out ?_)
    exact HBu.out.setCell (p := ⟨w.heap.size + 1 + 1, 0, none⟩) (by show _ ≤ w.heap.size + 1 + 1; omega) _
end Go.Proofs.YtfhanbiifjiklaaGreatDoor

/- A client: Accept, a page of the same log. -/
set_option linter.unusedVariables false
set_option linter.unusedSimpArgs false
namespace Go.Proofs.YtfhanbiifjiklaaGreatDoor
open Go.RowKit Go.Shelf
attribute [local go_sem] Oper.semAt_some

def AcceptR0 (b : Nat) (root : List UInt8) (size : Int) (p : Pg) (its : List (List UInt8)) (v : Value) (w : World) (k : Int) (e : Ending) (w' : World) : Prop :=
  e = .returned (.int .i64 k) ∧ ((((List.finRange p.items.length).all (p.checkAt root size) = false ∧ k = 17) ∨ ((List.finRange p.items.length).all (p.checkAt root size) = true ∧ (its.length : Int) < p.fr ∧ k = 13)) ∧ AcceptR b root size k its v w e w' ∨
    ((List.finRange p.items.length).all (p.checkAt root size) = true ∧ p.fr ≤ (its.length : Int) ∧ k = 0) ∧ AcceptR b root size k (its ++ p.items.drop (its.length - p.fr.toNat)) v w e w')
theorem CliAt.own_ {b : Nat} {root : List UInt8} {size : Int} {its : List (List UInt8)} {v : Value} {W W' : World} {row : Option Nat} (h : CliAt b root size its v W) (hg : W.grownBy W' row) (hr : ∀ r, row = some r → ∃ o : Obj, W.heap[r]? = some o ∧ o.isCells = false) : CliAt b root size its v W' := by
  refine ⟨h.blk.own hg hr, h.own.1, ?_⟩
  rcases h.own.2 with hn | ⟨g, cap, cur, rfl, hb, hgg, rest⟩
  · exact .inl hn
  · refine .inr ⟨g, cap, cur, rfl, hb, ?_, rest⟩
    rw [hg.block g (Array.getElem?_eq_some_iff.1 hgg).1 (fun e => by obtain ⟨o, ho, hc⟩ := hr g e.symm; rw [hgg] at ho; cases ho; cases hc)]
    exact hgg

set_option maxRecDepth 100000 in
set_option maxHeartbeats 4000000 in
theorem Accept_main (b : Nat) (root : List UInt8) (size : Int) (its : List (List UInt8)) (hil : its.length ≤ 1000000) (v : Value) (p : Pg) (hp : p.fit) (hf : formedB p = true) (hh : p.root = root ∧ p.size = size ∧ p.fr ≤ p.size - p.items.length) (vi vp : Value) (w : World) (hg : Glob w) (hcl : CliAt b root size its v w) (hvi : TextsAt w vi p.items) (hvp : PathsAt w vp p.paths) (hvb0 : p.items ≠ [] → vi.ownBlock ≠ some b) (hvr0 : ∀ g, v.ownBlock = some g → p.items ≠ [] → vi.ownBlock ≠ some g) :
    Calls Tryz.prog 24 #[cliP b, .agg (p.cs vi vp)] w fun e w' => ∃ k : Int, AcceptR0 b root size p its v w k e w' := by
  have hq := fun q hq => (⟨hp.nq q hq, hp.lq q hq⟩ : q.length ≤ 200000 ∧ ∀ x ∈ q, x.length ≤ 100000)
  have CF := fun w' (hb : Below w.heap.size w w') => formed_any p hp.lr hp.li hq vi vp w' (hvi.to hb) (hvp.to hb)
  rw [hf] at CF
  have HG := hide hg
  obtain ⟨Ai, ci, rfl, hci⟩ := hvi.slice
  obtain ⟨Ap, cp, rfl, hcp⟩ := hvp.slice
  obtain ⟨⟨hfr, hsz, _, hn50, hpl⟩, _⟩ := formed_spec hf
  have HC := hide hcl
  have HVI := hide hvi
  have HVP := hide hvp
  clear hvi hvp hcl hq
  have CT := fun w' : World => items_any p (.slice Ai p.items.length ci) (.slice Ap p.paths.length cp) w'
  unfold Pg.cs at CF CT ⊢
  unfold cliP
  have hb0 : Below w.heap.size w (((w.alloc (.cells #[.pointer (some ⟨b, 0, none⟩)] 38)).alloc (.cells #[.int .i64 p.fr, .int .i64 p.size, .string (bs p.root), .slice Ai p.items.length ci, .slice Ap p.paths.length cp] 25)).alloc (.cells #[.int .i64 0] 29)) := (((Below.refl _ w).alloc (Nat.le_refl _) _).alloc (by simp) _).alloc (by simp; omega) _
  have he := Blk.new ((w.alloc (.cells #[.pointer (some ⟨b, 0, none⟩)] 38)).alloc (.cells #[.int .i64 p.fr, .int .i64 p.size, .string (bs p.root), .slice Ai p.items.length ci, .slice Ap p.paths.length cp] 25)) 29 #[.int .i64 0]
  rw [World.size_alloc, World.size_alloc] at he
  have hb1 := (Blk.new (w.alloc (.cells #[.pointer (some ⟨b, 0, none⟩)] 38)) 25 #[.int .i64 p.fr, .int .i64 p.size, .string (bs p.root), .slice Ai p.items.length ci, .slice Ap p.paths.length cp]).alloc (.cells #[.int .i64 0] 29)
  rw [World.size_alloc] at hb1
  have hb2 := ((Blk.new w 38 #[.pointer (some ⟨b, 0, none⟩)]).alloc (.cells #[.int .i64 p.fr, .int .i64 p.size, .string (bs p.root), .slice Ai p.items.length ci, .slice Ap p.paths.length cp] 25)).alloc (.cells #[.int .i64 0] 29)
  have HB0 := hide hb0
  have HE := hide he
  have HP1 := hide hb1
  have HP0 := hide hb2
  have HPL := hide hpl
  clear hb0 he hb1 hb2 hpl
  have e1 : ((bs p.root).toList == (bs root).toList) = true := by rw [beq_iff_eq, bs_toList, bs_toList]; exact hh.1
  have e2 : (p.size == size) = true := by rw [beq_iff_eq]; exact hh.2.1
  have e3 : (p.size != size) = false := by rw [bne, e2]; rfl
  have ew : IntKind.i64.wrap (p.size - (p.items.length : Int)) = p.size - (p.items.length : Int) := w64 (by omega) (by omega)
  have e4 : decide (p.size - (p.items.length : Int) < p.fr) = false := decide_eq_false (by have := hh.2.2; omega)
  have HRS : Hid (p.root = root ∧ p.size = size) := ⟨hh.1, hh.2.1⟩
  clear hh hf hg
  obtain ⟨n, h1⟩ : ∃ n : Nat, 5 ≤ n := ⟨5, Nat.le_refl _⟩
  refine (callsIn_wide (n := n)).1 ?_
  refine callsIn_of_wp_marks Tryz.func24 rfl trivial ?_ rfl
  simp only [Tryz.ntmps24, List.size_toArray, List.length_cons, List.length_nil, Nat.reduceAdd, Nat.reduceSub, Array.replicate_succ, Array.replicate_zero, List.push_toArray, List.append_toArray, List.nil_append, List.cons_append]
  gi_wp2_with (refine ⟨trivial, fun _ => (by omega), ?_⟩; gi_at_call 52; refine (callsIn_wide.2 (CF _ HB0.out)).mono ?_; rintro e w2 ⟨rfl, hb2⟩; have HEw := hide (HE.out.to hb2); have HP1w := hide (HP1.out.to hb2); have HP0w := hide (HP0.out.to hb2); have HBw := hide (below_to HB0.out (Nat.le_refl _) hb2); clear hb2)
  have HC2 := hide (HC.out.to HBw.out)
  obtain ⟨Av, cv, rfl⟩ := own_sl4 HC.out.own
  obtain ⟨U, hU, g, u0, rfl, hgu, hi⟩ := cls w2
  have k0 := fun u => ((HP0w.out.to (hgu u)).cell 0).trans (show _ = some (Value.pointer (some ⟨b, 0, none⟩)) from rfl)
  have p0 := fun u => ((HP1w.out.to (hgu u)).cell 0).trans (show _ = some (Value.int .i64 p.fr) from rfl)
  have p1 := fun u => ((HP1w.out.to (hgu u)).cell 1).trans (show _ = some (Value.int .i64 p.size) from rfl)
  have p2 := fun u => ((HP1w.out.to (hgu u)).cell 2).trans (show _ = some (Value.string (bs p.root)) from rfl)
  have p3 := fun u => ((HP1w.out.to (hgu u)).cell 3).trans (show _ = some (Value.slice Ai p.items.length ci) from rfl)
  have z0 := fun u => ((HC2.out.blk.to (hgu u)).cell 0).trans (show _ = some (Value.string (bs root)) from rfl)
  have z1 := fun u => ((HC2.out.blk.to (hgu u)).cell 1).trans (show _ = some (Value.int .i64 size) from rfl)
  have z2 := fun u => ((HC2.out.blk.to (hgu u)).cell 2).trans (show _ = some (Value.slice Av its.length cv) from rfl)
  refine wpIn_region_ofW (by kernel_rfl) (by kernel_rfl) (fun ⟨a, w, h⟩ => by obtain ⟨_, h2, _⟩ := h; cases h2) ?_
  apply wpAny_looseG g (V := [some _, some _, some _, some _, some _, some _, some _, some _, some _, some _, some _, some _, some _, some _, some _, some _, some _, some _, some _, some _, some _, some _, some _, some _, some _, some _, some _]) (Fs := []) (Rel := fun _ w w' => Below w.heap.size w w')
  case hB => kernel_rfl
  case hCw => exact hi _ (hgu _).drew
  case hC =>
    rintro i uq w' hr
    exact hi _ (below_to (hgu uq) (Nat.le_refl _) hr)
  case hst =>
    exact keeps_nil
  case hop =>
    refine ⟨?_, ?_, ?_, ?_, ?_, ?_, ?_, ?_, ?_, ?_, ?_, ?_, ?_, ?_, ?_, ?_, ?_, ?_, ?_, ?_, ?_, ?_, ?_, ?_, ?_, ?_, ?_, trivial⟩
    · intro a uq K hS hd hK
      have s3 := hS.at 3 (by kernel_rfl) rfl
      rw [if_pos (want_free rfl)]
      go_simp
      exact hK _ _ (Below.refl _ _) (vok rfl) facts_nil
    · intro a uq K hS hd hK
      have s14 := (waits_on hd 0 (by kernel_rfl)).at (d := 14) rfl rfl rfl
      rw [if_pos (want_free rfl)]
      have c := p2 uq
      go_simp
      exact hK _ _ (Below.refl _ _) (vok rfl) facts_nil
    · intro a uq K hS hd hK
      have s2 := hS.at 2 (by kernel_rfl) rfl
      rw [if_pos (want_free rfl)]
      have c := k0 uq
      go_simp
      exact hK _ _ (Below.refl _ _) (vok rfl) facts_nil
    · intro a uq K hS hd hK
      have s16 := (waits_on hd 2 (by kernel_rfl)).at (d := 16) rfl rfl rfl
      rw [if_pos (want_free rfl)]
      go_simp
      exact hK _ _ (Below.refl _ _) (vok rfl) facts_nil
    · intro a uq K hS hd hK
      have s17 := (waits_on hd 3 (by kernel_rfl)).at (d := 17) rfl rfl rfl
      rw [if_pos (want_free rfl)]
      go_simp
      exact hK _ _ (Below.refl _ _) (vok rfl) facts_nil
    · intro a uq K hS hd hK
      have s18 := (waits_on hd 4 (by kernel_rfl)).at (d := 18) rfl rfl rfl
      rw [if_pos (want_free rfl)]
      have c := z0 uq
      go_simp
      exact hK _ _ (Below.refl _ _) (vok rfl) facts_nil
    · intro a uq K hS hd hK
      have s15 := (waits_on hd 1 (by kernel_rfl)).at (d := 15) rfl rfl rfl
      have s19 := (waits_on hd 5 (by kernel_rfl)).at (d := 19) rfl rfl rfl
      rw [if_pos (want_free rfl)]
      go_simp
      exact hK _ _ (Below.refl _ _) (vok rfl) facts_nil
    · intro a uq K hS hd hK
      have s20 := (waits_on hd 6 (by kernel_rfl)).at (d := 20) rfl rfl rfl
      rw [if_pos (want_free rfl)]
      go_simp
      exact hK _ _ (Below.refl _ _) (vok rfl) facts_nil
    · intro a uq K hS hd hK
      have s21 := (waits_on hd 7 (by kernel_rfl)).at (d := 21) rfl rfl rfl
      have s3 := hS.at 3 (by kernel_rfl) rfl
      rw [if_pos (want_yes rfl rfl rfl s21)]
      go_simp
      exact hK _ _ (Below.refl _ _) (vok rfl) facts_nil
    · intro a uq K hS hd hK
      have s21 := (waits_on hd 7 (by kernel_rfl)).at (d := 21) rfl rfl rfl
      have s22 := (waits_on hd 8 (by kernel_rfl)).at (d := 22) rfl rfl rfl
      rw [if_pos (want_yes rfl rfl rfl s21)]
      have c := p1 uq
      go_simp
      exact hK _ _ (Below.refl _ _) (vok rfl) facts_nil
    · intro a uq K hS hd hK
      have s21 := (waits_on hd 7 (by kernel_rfl)).at (d := 21) rfl rfl rfl
      have s2 := hS.at 2 (by kernel_rfl) rfl
      rw [if_pos (want_yes rfl rfl rfl s21)]
      have c := k0 uq
      go_simp
      exact hK _ _ (Below.refl _ _) (vok rfl) facts_nil
    · intro a uq K hS hd hK
      have s21 := (waits_on hd 7 (by kernel_rfl)).at (d := 21) rfl rfl rfl
      have s24 := (waits_on hd 10 (by kernel_rfl)).at (d := 24) rfl rfl rfl
      rw [if_pos (want_yes rfl rfl rfl s21)]
      go_simp
      exact hK _ _ (Below.refl _ _) (vok rfl) facts_nil
    · intro a uq K hS hd hK
      have s21 := (waits_on hd 7 (by kernel_rfl)).at (d := 21) rfl rfl rfl
      have s25 := (waits_on hd 11 (by kernel_rfl)).at (d := 25) rfl rfl rfl
      rw [if_pos (want_yes rfl rfl rfl s21)]
      go_simp
      exact hK _ _ (Below.refl _ _) (vok rfl) facts_nil
    · intro a uq K hS hd hK
      have s21 := (waits_on hd 7 (by kernel_rfl)).at (d := 21) rfl rfl rfl
      have s26 := (waits_on hd 12 (by kernel_rfl)).at (d := 26) rfl rfl rfl
      rw [if_pos (want_yes rfl rfl rfl s21)]
      have c := z1 uq
      go_simp
      exact hK _ _ (Below.refl _ _) (vok rfl) facts_nil
    · intro a uq K hS hd hK
      have s21 := (waits_on hd 7 (by kernel_rfl)).at (d := 21) rfl rfl rfl
      have s23 := (waits_on hd 9 (by kernel_rfl)).at (d := 23) rfl rfl rfl
      have s27 := (waits_on hd 13 (by kernel_rfl)).at (d := 27) rfl rfl rfl
      rw [if_pos (want_yes rfl rfl rfl s21)]
      go_simp
      exact hK _ _ (Below.refl _ _) (vok rfl) facts_nil
    · intro a uq K hS hd hK
      have s21 := (waits_on hd 7 (by kernel_rfl)).at (d := 21) rfl rfl rfl
      have s28 := (waits_on hd 14 (by kernel_rfl)).at (d := 28) rfl rfl rfl
      rw [if_pos (want_free rfl)]
      go_simp
      exact hK _ _ (Below.refl _ _) (vok rfl) facts_nil
    · intro a uq K hS hd hK
      have s29 := (waits_on hd 15 (by kernel_rfl)).at (d := 29) rfl rfl rfl
      rw [if_pos (want_free rfl)]
      go_simp
      exact hK _ _ (Below.refl _ _) (vok rfl) facts_nil
    · intro a uq K hS hd hK
      have s30 := (waits_on hd 16 (by kernel_rfl)).at (d := 30) rfl rfl rfl
      have s3 := hS.at 3 (by kernel_rfl) rfl
      rw [if_pos (want_yes rfl rfl rfl s30)]
      go_simp
      exact hK _ _ (Below.refl _ _) (vok rfl) facts_nil
    · intro a uq K hS hd hK
      have s30 := (waits_on hd 16 (by kernel_rfl)).at (d := 30) rfl rfl rfl
      have s31 := (waits_on hd 17 (by kernel_rfl)).at (d := 31) rfl rfl rfl
      rw [if_pos (want_yes rfl rfl rfl s30)]
      have c := p0 uq
      go_simp
      exact hK _ _ (Below.refl _ _) (vok rfl) facts_nil
    · intro a uq K hS hd hK
      have s30 := (waits_on hd 16 (by kernel_rfl)).at (d := 30) rfl rfl rfl
      have s3 := hS.at 3 (by kernel_rfl) rfl
      rw [if_pos (want_yes rfl rfl rfl s30)]
      go_simp
      exact hK _ _ (Below.refl _ _) (vok rfl) facts_nil
    · intro a uq K hS hd hK
      have s30 := (waits_on hd 16 (by kernel_rfl)).at (d := 30) rfl rfl rfl
      have s33 := (waits_on hd 19 (by kernel_rfl)).at (d := 33) rfl rfl rfl
      rw [if_pos (want_yes rfl rfl rfl s30)]
      have c := p1 uq
      go_simp
      exact hK _ _ (Below.refl _ _) (vok rfl) facts_nil
    · intro a uq K hS hd hK
      have s30 := (waits_on hd 16 (by kernel_rfl)).at (d := 30) rfl rfl rfl
      have s3 := hS.at 3 (by kernel_rfl) rfl
      rw [if_pos (want_yes rfl rfl rfl s30)]
      go_simp
      exact hK _ _ (Below.refl _ _) (vok rfl) facts_nil
    · intro a uq K hS hd hK
      have s30 := (waits_on hd 16 (by kernel_rfl)).at (d := 30) rfl rfl rfl
      have s35 := (waits_on hd 21 (by kernel_rfl)).at (d := 35) rfl rfl rfl
      rw [if_pos (want_yes rfl rfl rfl s30)]
      have c := p3 uq
      go_simp
      exact hK _ _ (Below.refl _ _) (vok rfl) facts_nil
    · intro a uq K hS hd hK
      have s30 := (waits_on hd 16 (by kernel_rfl)).at (d := 30) rfl rfl rfl
      have s36 := (waits_on hd 22 (by kernel_rfl)).at (d := 36) rfl rfl rfl
      rw [if_pos (want_yes rfl rfl rfl s30)]
      go_simp
      exact hK _ _ (Below.refl _ _) (vok rfl) facts_nil
    · intro a uq K hS hd hK
      have s30 := (waits_on hd 16 (by kernel_rfl)).at (d := 30) rfl rfl rfl
      have s34 := (waits_on hd 20 (by kernel_rfl)).at (d := 34) rfl rfl rfl
      have s37 := (waits_on hd 23 (by kernel_rfl)).at (d := 37) rfl rfl rfl
      rw [if_pos (want_yes rfl rfl rfl s30)]
      go_simp
      exact hK _ _ (Below.refl _ _) (vok rfl) facts_nil
    · intro a uq K hS hd hK
      have s30 := (waits_on hd 16 (by kernel_rfl)).at (d := 30) rfl rfl rfl
      have s32 := (waits_on hd 18 (by kernel_rfl)).at (d := 32) rfl rfl rfl
      have s38 := (waits_on hd 24 (by kernel_rfl)).at (d := 38) rfl rfl rfl
      rw [if_pos (want_yes rfl rfl rfl s30)]
      go_simp
      exact hK _ _ (Below.refl _ _) (vok rfl) facts_nil
    · intro a uq K hS hd hK
      have s30 := (waits_on hd 16 (by kernel_rfl)).at (d := 30) rfl rfl rfl
      have s39 := (waits_on hd 25 (by kernel_rfl)).at (d := 39) rfl rfl rfl
      rw [if_pos (want_free rfl)]
      go_simp
      exact hK _ _ (Below.refl _ _) (vok rfl) facts_nil
  case hfin =>
    intro a uq hS hk
    have s14 := (hk 0 (by decide)).at (d := 14) rfl rfl rfl
    have s15 := (hk 1 (by decide)).at (d := 15) rfl rfl rfl
    have s16 := (hk 2 (by decide)).at (d := 16) rfl rfl rfl
    have s17 := (hk 3 (by decide)).at (d := 17) rfl rfl rfl
    have s18 := (hk 4 (by decide)).at (d := 18) rfl rfl rfl
    have s19 := (hk 5 (by decide)).at (d := 19) rfl rfl rfl
    have s20 := (hk 6 (by decide)).at (d := 20) rfl rfl rfl
    have s21 := (hk 7 (by decide)).at (d := 21) rfl rfl rfl
    have s22 := (hk 8 (by decide)).at (d := 22) rfl rfl rfl
    have s23 := (hk 9 (by decide)).at (d := 23) rfl rfl rfl
    have s24 := (hk 10 (by decide)).at (d := 24) rfl rfl rfl
    have s25 := (hk 11 (by decide)).at (d := 25) rfl rfl rfl
    have s26 := (hk 12 (by decide)).at (d := 26) rfl rfl rfl
    have s27 := (hk 13 (by decide)).at (d := 27) rfl rfl rfl
    have s28 := (hk 14 (by decide)).at (d := 28) rfl rfl rfl
    have s29 := (hk 15 (by decide)).at (d := 29) rfl rfl rfl
    have s30 := (hk 16 (by decide)).at (d := 30) rfl rfl rfl
    have s31 := (hk 17 (by decide)).at (d := 31) rfl rfl rfl
    have s32 := (hk 18 (by decide)).at (d := 32) rfl rfl rfl
    have s33 := (hk 19 (by decide)).at (d := 33) rfl rfl rfl
    have s34 := (hk 20 (by decide)).at (d := 34) rfl rfl rfl
    have s35 := (hk 21 (by decide)).at (d := 35) rfl rfl rfl
    have s36 := (hk 22 (by decide)).at (d := 36) rfl rfl rfl
    have s37 := (hk 23 (by decide)).at (d := 37) rfl rfl rfl
    have s38 := (hk 24 (by decide)).at (d := 38) rfl rfl rfl
    have s39 := (hk 25 (by decide)).at (d := 39) rfl rfl rfl
    have s40 := (hk 26 (by decide)).at (d := 40) rfl rfl rfl
    have hlit := hS.lit _ (by kernel_rfl) (lits_cons s14 (lits_cons s15 (lits_cons s16 (lits_cons s17 (lits_cons s18 (lits_cons s19 (lits_cons s20 (lits_cons s21 (lits_cons s22 (lits_cons s23 (lits_cons s24 (lits_cons s25 (lits_cons s26 (lits_cons s27 (lits_cons s28 (lits_cons s29 (lits_cons s30 (lits_cons s31 (lits_cons s32 (lits_cons s33 (lits_cons s34 (lits_cons s35 (lits_cons s36 (lits_cons s37 (lits_cons s38 (lits_cons s39 (lits_cons s40 lits_nil)))))))))))))))))))))))))))
    rw [hlit]
    clear hlit hk hS s14 s15 s16 s17 s18 s19 s20 s21 s22 s23 s24 s25 s26 s27 s28 s29 s30 s31 s32 s33 s34 s35 s36 s37 s38 s39 s40
    have HEu := hide (HEw.out.to (hgu uq))
    have HBu := hide (below_to HBw.out (Nat.le_refl _) (hgu uq))
    have HP0u := hide (HP0w.out.to (hgu uq))
    have HP1u := hide (HP1w.out.to (hgu uq))
    have HCu := hide (HC2.out.to (hgu uq))
    simp only [litT, List.setIfInBounds_toArray, List.set_cons_succ, List.set_cons_zero]
    clear k0 p0 p1 p2 p3 z0 z1 z2 HEw HBw HP0w HP1w HC2
    revert HEu HBu HP0u HP1u HCu
    generalize g uq = w3
    intro HEu HBu HP0u HP1u HCu
    clear hgu hi g u0
    have p0 := (HP1u.out.cell 0).trans (show _ = some (Value.int .i64 p.fr) from rfl)
    have p1 := (HP1u.out.cell 1).trans (show _ = some (Value.int .i64 p.size) from rfl)
    have p2 := (HP1u.out.cell 2).trans (show _ = some (Value.string (bs p.root)) from rfl)
    have p3 := (HP1u.out.cell 3).trans (show _ = some (Value.slice Ai p.items.length ci) from rfl)
    have p4 := (HP1u.out.cell 4).trans (show _ = some (Value.slice Ap p.paths.length cp) from rfl)
    gi_wp2_with (refine ⟨trivial, fun _ => (by omega), ?_⟩; gi_at_call 56; refine (callsIn_wide.2 (CT _)).mono ?_; rintro e w4 ⟨rfl, rfl⟩)
    have hvo : ∀ g, (Value.ownBlock (.slice Av its.length cv)) = some g → g < w.heap.size := fun g e => (CliAt.lt HC.out g e).2
    have hbw : b < w.heap.size := HC.out.blk.lt
    have HX2 := hide (Blk.new w3 25 #[.int .i64 p.fr, .int .i64 p.size, .string (bs p.root), .slice Ai p.items.length ci, .slice Ap p.paths.length cp])
    have HB2 := hide (HBu.out.alloc HBu.out.size (.cells #[.int .i64 p.fr, .int .i64 p.size, .string (bs p.root), .slice Ai p.items.length ci, .slice Ap p.paths.length cp] 25))
    have HC3 := hide (HCu.out.to (below_one w3 (.cells #[.int .i64 p.fr, .int .i64 p.size, .string (bs p.root), .slice Ai p.items.length ci, .slice Ap p.paths.length cp] 25)))
    have HE3 := hide (HEu.out.alloc (.cells #[.int .i64 p.fr, .int .i64 p.size, .string (bs p.root), .slice Ai p.items.length ci, .slice Ap p.paths.length cp] 25))
    have HP03 := hide (HP0u.out.alloc (.cells #[.int .i64 p.fr, .int .i64 p.size, .string (bs p.root), .slice Ai p.items.length ci, .slice Ap p.paths.length cp] 25))
    have HP13 := hide (HP1u.out.alloc (.cells #[.int .i64 p.fr, .int .i64 p.size, .string (bs p.root), .slice Ai p.items.length ci, .slice Ap p.paths.length cp] 25))
    have hsz2 : (w3.alloc (.cells #[.int .i64 p.fr, .int .i64 p.size, .string (bs p.root), .slice Ai p.items.length ci, .slice Ap p.paths.length cp] 25)).heap.size = w3.heap.size + 1 := by simp
    have hsw : w.heap.size + 2 < w3.heap.size := HEu.out.lt
    obtain ⟨W0, hW0⟩ : ∃ W0, w3.alloc (.cells #[.int .i64 p.fr, .int .i64 p.size, .string (bs p.root), .slice Ai p.items.length ci, .slice Ap p.paths.length cp] 25) = W0 := ⟨_, rfl⟩
    rw [hW0] at HX2 HB2 HC3 HE3 HP03 HP13 hsz2 ⊢
    clear hW0 HEu HBu HP0u HP1u HCu p0 p1 p2 p3 p4 CT CF
    refine wpIn_rangeFunc_ownH (F := Fence.wide) rfl (by omega) (gf := 95) (lb := #[.pointer (some ⟨w3.heap.size, 0, none⟩)]) rfl trivial (enters_fn Tryz.func95 (by kernel_rfl) rfl)
      (items_stops (n - 1) (by omega) w3.heap.size p (by omega) HPL.out hfr _ _ w HVI.out HVP.out W0 HB2.out HX2.out) KpX.t (KpX.b (by omega) (by omega)) (Below.refl _ _) (fun _ => rfl)
      (fun pre W => (CliAt b root size its (.slice Av its.length cv) W ∧ Blk W (w.heap.size + 1 + 1) 29 #[.int .i64 0] ∧ Blk W w.heap.size 38 #[.pointer (some ⟨b, 0, none⟩)] ∧ Blk W (w.heap.size + 1) 25 #[.int .i64 p.fr, .int .i64 p.size, .string (bs p.root), .slice Ai p.items.length ci, .slice Ap p.paths.length cp] ∧ w3.heap.size < W.heap.size ∧ pre.all (p.checkAt root size) = true) ∧ Below w.heap.size w W)
      (fun c pre W => (c = .ret ∧ (∃ k, p.checkAt root size k = false) ∧ CliAt b root size its (.slice Av its.length cv) W ∧ Blk W (w.heap.size + 1 + 1) 29 #[.int .i64 17]) ∧ Below w.heap.size w W)
      (OwnFrom.and (fun s A B row hs hg hr => ⟨hs.1.own_ hg (fun r e => (hr r e).2), hs.2.1.own hg (fun r e => (hr r e).2), hs.2.2.1.own hg (fun r e => (hr r e).2), hs.2.2.2.1.own hg (fun r e => (hr r e).2), Nat.lt_of_lt_of_le hs.2.2.2.2.1 hg.size, hs.2.2.2.2.2⟩) (ownFrom_below (Nat.le_refl _) (by omega)))
      (fun c => OwnFrom.and (fun s A B row hs hg hr => ⟨hs.1, hs.2.1, hs.2.2.1.own_ hg (fun r e => (hr r e).2), hs.2.2.2.own hg (fun r e => (hr r e).2)⟩) (ownFrom_below (Nat.le_refl _) (by omega)))
      ⟨⟨HC3.out, HE3.out, HP03.out, HP13.out, by omega, rfl⟩, HB2.out⟩
      (fun x a' W => ∃ Bx, w3.heap.size < Bx ∧ Blk W Bx 80 (itC p w (.slice Ap p.paths.length cp) x) ∧ a' = { tmps := #[Value.pointer (some ⟨b, 0, none⟩), Value.agg #[Value.int IntKind.i64 p.fr, Value.int IntKind.i64 p.size, Value.string (bs p.root), Value.slice Ai p.items.length ci, Value.slice Ap p.paths.length cp], Value.pointer (some ⟨w.heap.size, 0, none⟩), Value.pointer (some ⟨w.heap.size + 1, 0, none⟩), Value.pointer (some ⟨w.heap.size + 1 + 1, 0, none⟩), .pointer (some ⟨Bx, 0, none⟩), undef, Value.pointer (some ⟨b, 0, none⟩), Value.bool false, Value.bool false, Value.agg #[Value.int IntKind.i64 p.fr, Value.int IntKind.i64 p.size, Value.string (bs p.root), Value.slice Ai p.items.length ci, Value.slice Ap p.paths.length cp], Value.bool true, Value.bool false, Value.bool false, Value.pointer (some ⟨w.heap.size + 1, 2, none⟩), Value.string (bs p.root), Value.pointer (some ⟨b, 0, none⟩), Value.pointer (some ⟨b, 0, none⟩), Value.pointer (some ⟨b, 0, none⟩), Value.string (bs root), Value.bool false, Value.bool false, Value.pointer (some ⟨w.heap.size + 1, 1, none⟩), Value.int IntKind.i64 p.size, Value.pointer (some ⟨b, 0, none⟩), Value.pointer (some ⟨b, 0, none⟩), Value.pointer (some ⟨b, 1, none⟩), Value.int IntKind.i64 size, Value.bool false, Value.bool false, Value.bool false, Value.pointer (some ⟨w.heap.size + 1, 0, none⟩), Value.int IntKind.i64 p.fr, Value.pointer (some ⟨w.heap.size + 1, 1, none⟩), Value.int IntKind.i64 p.size, Value.pointer (some ⟨w.heap.size + 1, 3, none⟩), Value.slice Ai p.items.length ci, Value.int IntKind.i64 (p.items.length : Int), Value.int IntKind.i64 (p.size - (p.items.length : Int)), Value.bool false, Value.bool false, Value.agg #[Value.int IntKind.i64 p.fr, Value.int IntKind.i64 p.size, Value.string (bs p.root), Value.slice Ai p.items.length ci, Value.slice Ap p.paths.length cp], Value.func (.func 95) #[] #[Value.pointer (some ⟨w3.heap.size, 0, none⟩)], .agg (itC p w (.slice Ap p.paths.length cp) x), undef, undef, undef, undef, undef, undef, undef, undef, undef, undef, undef, undef, undef, undef, undef, undef, undef, undef, undef, undef, undef, undef, undef, undef, undef, undef, undef, undef, undef, undef, undef, undef, undef, undef, undef, undef, undef, undef, undef, undef, undef, undef, undef, undef, undef, undef, undef, undef, undef, undef, undef, undef, undef, undef, undef, undef], defers := [] })
      (fun x a' s A B row hs hg hr => by obtain ⟨Bx, q1, q2, q3⟩ := hs; exact ⟨Bx, q1, q2.own hg (fun r e => (hr r e).2), q3⟩) ?assign ?body ?done ?stop
    case assign =>
      rintro l pre ⟨k, hk⟩ W K ⟨⟨hcW, heW, h0W, h1W, hsW, hpre⟩, hBW⟩ hK
      have HCW := hide hcW
      have HEW := hide heW
      have H0W := hide h0W
      have H1W := hide h1W
      have HBl := hide hBW
      clear hcW heW h0W h1W hBW
      obtain ⟨x, hx⟩ : ∃ x, p.items[k] = x := ⟨_, rfl⟩
      obtain ⟨q, hq⟩ : ∃ q, p.paths[k]? = some q := ⟨_, List.getElem?_eq_getElem (by have := HPL.out; omega)⟩
      obtain ⟨Aq, cq, hv, hcq⟩ := (HVP.out.vps hq).1.slice
      unfold Pg.enc
      rw [show p.items[(⟨k, hk⟩ : Fin p.items.length)] = x from hx]
      unfold itC at hK
      rw [show p.items[(⟨k, hk⟩ : Fin p.items.length)] = x from hx] at hK
      simp only [hv] at hK ⊢
      have hK2 := hide hK
      clear hK
      gi_wp2
      exact hK2.out _ _ ((KeepsOthers.alloc _ _).from _) (KpX.of ((Below.refl W.heap.size W).alloc (Nat.le_refl _) _) HBl.out.size hsW) ⟨⟨HCW.out.to (below_one _ _), HEW.out.alloc _, H0W.out.alloc _, H1W.out.alloc _, by simp; omega, hpre⟩, HBl.out.alloc HBl.out.size _⟩ ⟨W.heap.size, hsW, Blk.new _ _ _, rfl⟩
    case body =>
      rintro l pre ⟨k, hk⟩ a' W hlw ⟨r, hlr⟩ ⟨⟨hcW, heW, h0W, h1W, hsW, hpre⟩, hBW⟩ ⟨Bx, hBx, hbI, rfl⟩ hlen
      have HCL := hide hcW
      have HER := hide heW
      have HK0 := hide h0W
      have HK1 := hide h1W
      have HBl := hide hBW
      have HIt := hide hbI
      clear hcW heW h0W h1W hBW hbI hlr
      obtain ⟨x, hx⟩ : ∃ x, p.items[k] = x := ⟨_, rfl⟩
      obtain ⟨q, hq⟩ : ∃ q, p.paths[k]? = some q := ⟨_, List.getElem?_eq_getElem (by have := HPL.out; omega)⟩
      have hxl := hp.li x (hx ▸ List.getElem_mem _)
      have hql := hp.nq q (List.mem_of_getElem? hq)
      have HQX := hide (hp.lq q (List.mem_of_getElem? hq))
      have HT := hide ((HVP.out.vps hq).1.to HBl.out)
      obtain ⟨Aq, cq, hv, hcq⟩ := (HVP.out.vps hq).1.slice
      rw [hv] at HT
      have HEk0 : Hid (p.checkAt root size ⟨k, hk⟩ = checkV root size (p.fr + (k : Int)) (leafD x) q) := by
        show _ = _
        unfold Pg.checkAt
        rw [show p.items[(⟨k, hk⟩ : Fin p.items.length)] = x from hx, show p.paths.getD ((⟨k, hk⟩ : Fin p.items.length) : Nat) [] = q by simp [hq]]
      have HIt2 : Hid (Blk W Bx 80 #[.int .i64 (p.fr + (k : Nat)), .string (bs x), .slice Aq q.length cq]) := by
        have := HIt.out
        unfold itC at this
        rw [show p.items[(⟨k, hk⟩ : Fin p.items.length)] = x from hx] at this
        simp only [hv] at this
        exact this
      unfold itC
      rw [show p.items[(⟨k, hk⟩ : Fin p.items.length)] = x from hx]
      simp only [hv]
      have CLf := fun (W' : World) (hg' : Glob W') => Leaf_any x (by omega) W' hg'
      have hll : (leafD x).length ≤ 100000000000 := by rw [isD_len (leaf_isD x)]; decide
      have CK := fun (W' : World) (ht : TextsAt W' (.slice Aq q.length cq) q) (hg' : Glob W') => Check_any root size (p.fr + (k : Int)) (leafD x) q hll (by omega) (fun y hy => by have := HQX.out y hy; omega) (.slice Aq q.length cq) W' ht hg'
      have HG2 : Hid (Glob W) := HG.out.belowB HBl.out HG.out.top
      clear HIt hv hll
      generalize hcv : checkV root size (p.fr + (k : Int)) (leafD x) q = B at *
      have HEk : Hid (p.checkAt root size ⟨k, hk⟩ = B) := HEk0.out
      clear hcv HEk0
      generalize leafD x = LX at *
      obtain ⟨U, hU, g, u0, rfl, hgu, hi⟩ := cls W
      have k0 := fun u => ((HK0.out.to (hgu u)).cell 0).trans (show _ = some (Value.pointer (some ⟨b, 0, none⟩)) from rfl)
      have z0 := fun u => ((HCL.out.blk.to (hgu u)).cell 0).trans (show _ = some (Value.string (bs root)) from rfl)
      have z1 := fun u => ((HCL.out.blk.to (hgu u)).cell 1).trans (show _ = some (Value.int .i64 size) from rfl)
      have z2 := fun u => ((HCL.out.blk.to (hgu u)).cell 2).trans (show _ = some (Value.slice Av its.length cv) from rfl)
      have i0 := fun u => ((HIt2.out.to (hgu u)).cell 0).trans (show _ = some (Value.int .i64 (p.fr + (k : Nat))) from rfl)
      have i1 := fun u => ((HIt2.out.to (hgu u)).cell 1).trans (show _ = some (Value.string (bs x)) from rfl)
      have i2 := fun u => ((HIt2.out.to (hgu u)).cell 2).trans (show _ = some (Value.slice Aq q.length cq) from rfl)
      have HGg := fun u => HG2.out.to (hgu u)
      have HTg := fun u => HT.out.to (hgu u)
      gi_wp2
      refine wpIn_region_of (by kernel_rfl) (by kernel_rfl) (fun ⟨a, w, h⟩ => h) ?_
      apply wpAny_looseG g (V := [some _, some _, some _, some _, some _, some _, some _, some _, some _, some _, some _, some _, some _, some _, some _, some _, some _]) (Fs := []) (Rel := fun _ w w' => Below w.heap.size w w')
      case hB => kernel_rfl
      case hCw => exact hi _ (hgu _).drew
      case hC =>
        rintro i uq w' hr
        exact hi _ (below_to (hgu uq) (Nat.le_refl _) hr)
      case hst =>
        exact keeps_nil
      case hop =>
        refine ⟨?_, ?_, ?_, ?_, ?_, ?_, ?_, ?_, ?_, ?_, ?_, ?_, ?_, ?_, ?_, ?_, ?_, trivial⟩
        · intro a uq K hS hd hK
          have s2 := hS.at 2 (by kernel_rfl) rfl
          rw [if_pos (want_free rfl)]
          have c := k0 uq
          go_simp
          exact hK _ _ (Below.refl _ _) (vok rfl) facts_nil
        · intro a uq K hS hd hK
          have s44 := (waits_on hd 0 (by kernel_rfl)).at (d := 44) rfl rfl rfl
          rw [if_pos (want_free rfl)]
          go_simp
          exact hK _ _ (Below.refl _ _) (vok rfl) facts_nil
        · intro a uq K hS hd hK
          have s45 := (waits_on hd 1 (by kernel_rfl)).at (d := 45) rfl rfl rfl
          rw [if_pos (want_free rfl)]
          go_simp
          exact hK _ _ (Below.refl _ _) (vok rfl) facts_nil
        · intro a uq K hS hd hK
          have s46 := (waits_on hd 2 (by kernel_rfl)).at (d := 46) rfl rfl rfl
          rw [if_pos (want_free rfl)]
          have c := z0 uq
          go_simp
          exact hK _ _ (Below.refl _ _) (vok rfl) facts_nil
        · intro a uq K hS hd hK
          have s2 := hS.at 2 (by kernel_rfl) rfl
          rw [if_pos (want_free rfl)]
          have c := k0 uq
          go_simp
          exact hK _ _ (Below.refl _ _) (vok rfl) facts_nil
        · intro a uq K hS hd hK
          have s48 := (waits_on hd 4 (by kernel_rfl)).at (d := 48) rfl rfl rfl
          rw [if_pos (want_free rfl)]
          go_simp
          exact hK _ _ (Below.refl _ _) (vok rfl) facts_nil
        · intro a uq K hS hd hK
          have s49 := (waits_on hd 5 (by kernel_rfl)).at (d := 49) rfl rfl rfl
          rw [if_pos (want_free rfl)]
          go_simp
          exact hK _ _ (Below.refl _ _) (vok rfl) facts_nil
        · intro a uq K hS hd hK
          have s50 := (waits_on hd 6 (by kernel_rfl)).at (d := 50) rfl rfl rfl
          rw [if_pos (want_free rfl)]
          have c := z1 uq
          go_simp
          exact hK _ _ (Below.refl _ _) (vok rfl) facts_nil
        · intro a uq K hS hd hK
          have s5 := hS.at 5 (by kernel_rfl) rfl
          rw [if_pos (want_free rfl)]
          go_simp
          exact hK _ _ (Below.refl _ _) (vok rfl) facts_nil
        · intro a uq K hS hd hK
          have s52 := (waits_on hd 8 (by kernel_rfl)).at (d := 52) rfl rfl rfl
          rw [if_pos (want_free rfl)]
          have c := i0 uq
          go_simp
          exact hK _ _ (Below.refl _ _) (vok rfl) facts_nil
        · intro a uq K hS hd hK
          have s5 := hS.at 5 (by kernel_rfl) rfl
          rw [if_pos (want_free rfl)]
          go_simp
          exact hK _ _ (Below.refl _ _) (vok rfl) facts_nil
        · intro a uq K hS hd hK
          have s54 := (waits_on hd 10 (by kernel_rfl)).at (d := 54) rfl rfl rfl
          rw [if_pos (want_free rfl)]
          have c := i1 uq
          go_simp
          exact hK _ _ (Below.refl _ _) (vok rfl) facts_nil
        · intro a uq K hS hd hK
          have s55 := (waits_on hd 11 (by kernel_rfl)).at (d := 55) rfl rfl rfl
          rw [if_pos (want_free rfl)]
          go_simp
          with_reducible refine (CLf (g uq) (HGg uq)).mono ?_
          rintro e w' ⟨rfl, hb⟩
          exact hK _ _ hb (vok rfl) facts_nil
        · intro a uq K hS hd hK
          have s5 := hS.at 5 (by kernel_rfl) rfl
          rw [if_pos (want_free rfl)]
          go_simp
          exact hK _ _ (Below.refl _ _) (vok rfl) facts_nil
        · intro a uq K hS hd hK
          have s57 := (waits_on hd 13 (by kernel_rfl)).at (d := 57) rfl rfl rfl
          rw [if_pos (want_free rfl)]
          have c := i2 uq
          go_simp
          exact hK _ _ (Below.refl _ _) (vok rfl) facts_nil
        · intro a uq K hS hd hK
          have s47 := (waits_on hd 3 (by kernel_rfl)).at (d := 47) rfl rfl rfl
          have s51 := (waits_on hd 7 (by kernel_rfl)).at (d := 51) rfl rfl rfl
          have s53 := (waits_on hd 9 (by kernel_rfl)).at (d := 53) rfl rfl rfl
          have s56 := (waits_on hd 12 (by kernel_rfl)).at (d := 56) rfl rfl rfl
          have s58 := (waits_on hd 14 (by kernel_rfl)).at (d := 58) rfl rfl rfl
          rw [if_pos (want_free rfl)]
          go_simp
          with_reducible refine (CK (g uq) (HTg uq) (HGg uq)).mono ?_
          rintro e w' ⟨rfl, hb⟩
          exact hK _ _ hb (vok rfl) facts_nil
        · intro a uq K hS hd hK
          have s59 := (waits_on hd 15 (by kernel_rfl)).at (d := 59) rfl rfl rfl
          rw [if_pos (want_free rfl)]
          go_simp
          exact hK _ _ (Below.refl _ _) (vok rfl) facts_nil
      case hfin =>
        intro a uq hS hk
        have s44 := (hk 0 (by decide)).at (d := 44) rfl rfl rfl
        have s45 := (hk 1 (by decide)).at (d := 45) rfl rfl rfl
        have s46 := (hk 2 (by decide)).at (d := 46) rfl rfl rfl
        have s47 := (hk 3 (by decide)).at (d := 47) rfl rfl rfl
        have s48 := (hk 4 (by decide)).at (d := 48) rfl rfl rfl
        have s49 := (hk 5 (by decide)).at (d := 49) rfl rfl rfl
        have s50 := (hk 6 (by decide)).at (d := 50) rfl rfl rfl
        have s51 := (hk 7 (by decide)).at (d := 51) rfl rfl rfl
        have s52 := (hk 8 (by decide)).at (d := 52) rfl rfl rfl
        have s53 := (hk 9 (by decide)).at (d := 53) rfl rfl rfl
        have s54 := (hk 10 (by decide)).at (d := 54) rfl rfl rfl
        have s55 := (hk 11 (by decide)).at (d := 55) rfl rfl rfl
        have s56 := (hk 12 (by decide)).at (d := 56) rfl rfl rfl
        have s57 := (hk 13 (by decide)).at (d := 57) rfl rfl rfl
        have s58 := (hk 14 (by decide)).at (d := 58) rfl rfl rfl
        have s59 := (hk 15 (by decide)).at (d := 59) rfl rfl rfl
        have s60 := (hk 16 (by decide)).at (d := 60) rfl rfl rfl
        have hlit := hS.lit _ (by kernel_rfl) (lits_cons s44 (lits_cons s45 (lits_cons s46 (lits_cons s47 (lits_cons s48 (lits_cons s49 (lits_cons s50 (lits_cons s51 (lits_cons s52 (lits_cons s53 (lits_cons s54 (lits_cons s55 (lits_cons s56 (lits_cons s57 (lits_cons s58 (lits_cons s59 (lits_cons s60 lits_nil)))))))))))))))))
        rw [hlit]
        clear hlit hk hS s44 s45 s46 s47 s48 s49 s50 s51 s52 s53 s54 s55 s56 s57 s58 s59 s60
        have HCq := hide (HCL.out.to (hgu uq))
        have HEq := hide (HER.out.to (hgu uq))
        have HK0q := hide (HK0.out.to (hgu uq))
        have HK1q := hide (HK1.out.to (hgu uq))
        have HBq := hide (below_to HBl.out (Nat.le_refl _) (hgu uq))
        have hsq : w3.heap.size < (g uq).heap.size := Nat.lt_of_lt_of_le hsW (hgu uq).size
        have HKFq : Hid (KeepsFrom W0.heap.size (g u0) (g uq)) := keepsFrom_of (hgu uq)
        have HKq : Hid (KpX w.heap.size w3.heap.size (g u0) (g uq)) := KpX.of (hgu uq) HBl.out.size hsW
        have y0 := (HEq.out.cell 0).trans (show _ = some (Value.int .i64 0) from rfl)
        have yf := HEq.out.frozen 0
        simp only [litT, List.setIfInBounds_toArray, List.set_cons_succ, List.set_cons_zero]
        clear k0 z0 z1 z2 i0 i1 i2 CK CLf HGg HTg
        cases B
        · gi_wp2
          exact ⟨HKFq.out.trans ((KeepsOthers.setCell _ _ _).from _), ⟨rfl, ⟨⟨k, hk⟩, HEk.out⟩, ⟨HCq.out.blk.far (p := ⟨w.heap.size + 1 + 1, 0, none⟩) (by show b ≠ w.heap.size + 1 + 1; omega) _, ownsRow_set HCq.out.own (fun e => by have := hvo _ e; omega)⟩, HEq.out.set_ 0 _⟩, HBq.out.setCell (p := ⟨w.heap.size + 1 + 1, 0, none⟩) (by show _ ≤ w.heap.size + 1 + 1; omega) _⟩
        · gi_wp2
          exact ⟨HKFq.out, HKq.out, ⟨HCq.out, HEq.out, HK0q.out, HK1q.out, hsq, by rw [List.all_append, hpre, List.all_cons, HEk.out]; rfl⟩, HBq.out⟩
    case done =>
      rintro D ys W hD rfl ⟨⟨hcW, heW, h0W, h1W, hsW, hall⟩, hBW⟩ hK
      have HCL := hide hcW
      have HER := hide heW
      have HK0 := hide h0W
      have HK1 := hide h1W
      have HBl := hide hBW
      have HK := hide hK
      clear hcW heW h0W h1W hBW hK hsW
      obtain ⟨U, hU, g, u0, rfl, hgu, hi⟩ := cls W
      have k0 := fun u => ((HK0.out.to (hgu u)).cell 0).trans (show _ = some (Value.pointer (some ⟨b, 0, none⟩)) from rfl)
      have p0 := fun u => ((HK1.out.to (hgu u)).cell 0).trans (show _ = some (Value.int .i64 p.fr) from rfl)
      have p3 := fun u => ((HK1.out.to (hgu u)).cell 3).trans (show _ = some (Value.slice Ai p.items.length ci) from rfl)
      have z0 := fun u => ((HCL.out.blk.to (hgu u)).cell 0).trans (show _ = some (Value.string (bs root)) from rfl)
      have z1 := fun u => ((HCL.out.blk.to (hgu u)).cell 1).trans (show _ = some (Value.int .i64 size) from rfl)
      have z2 := fun u => ((HCL.out.blk.to (hgu u)).cell 2).trans (show _ = some (Value.slice Av its.length cv) from rfl)
      gi_wp2
      refine wpIn_region_ofW (by kernel_rfl) (by kernel_rfl) (fun ⟨a, w, h⟩ => by obtain ⟨_, h2, _⟩ := h; cases h2) ?_
      apply wpAny_looseG g (V := [some _, some _, some _, some _, some _, some _, some _, some _]) (Fs := []) (Rel := fun _ w w' => Below w.heap.size w w')
      case hB => kernel_rfl
      case hCw => exact hi _ (hgu _).drew
      case hC =>
        rintro i uq w' hr
        exact hi _ (below_to (hgu uq) (Nat.le_refl _) hr)
      case hst =>
        exact keeps_nil
      case hop =>
        refine ⟨?_, ?_, ?_, ?_, ?_, ?_, ?_, ?_, trivial⟩
        · intro a uq K hS hd hK
          have s3 := hS.at 3 (by kernel_rfl) rfl
          rw [if_pos (want_free rfl)]
          go_simp
          exact hK _ _ (Below.refl _ _) (vok rfl) facts_nil
        · intro a uq K hS hd hK
          have s61 := (waits_on hd 0 (by kernel_rfl)).at (d := 61) rfl rfl rfl
          rw [if_pos (want_free rfl)]
          have c := p0 uq
          go_simp
          exact hK _ _ (Below.refl _ _) (vok rfl) facts_nil
        · intro a uq K hS hd hK
          have s2 := hS.at 2 (by kernel_rfl) rfl
          rw [if_pos (want_free rfl)]
          have c := k0 uq
          go_simp
          exact hK _ _ (Below.refl _ _) (vok rfl) facts_nil
        · intro a uq K hS hd hK
          have s63 := (waits_on hd 2 (by kernel_rfl)).at (d := 63) rfl rfl rfl
          rw [if_pos (want_free rfl)]
          go_simp
          exact hK _ _ (Below.refl _ _) (vok rfl) facts_nil
        · intro a uq K hS hd hK
          have s64 := (waits_on hd 3 (by kernel_rfl)).at (d := 64) rfl rfl rfl
          rw [if_pos (want_free rfl)]
          go_simp
          exact hK _ _ (Below.refl _ _) (vok rfl) facts_nil
        · intro a uq K hS hd hK
          have s65 := (waits_on hd 4 (by kernel_rfl)).at (d := 65) rfl rfl rfl
          rw [if_pos (want_free rfl)]
          have c := z2 uq
          go_simp
          exact hK _ _ (Below.refl _ _) (vok rfl) facts_nil
        · intro a uq K hS hd hK
          have s66 := (waits_on hd 5 (by kernel_rfl)).at (d := 66) rfl rfl rfl
          rw [if_pos (want_free rfl)]
          go_simp
          exact hK _ _ (Below.refl _ _) (vok rfl) facts_nil
        · intro a uq K hS hd hK
          have s62 := (waits_on hd 1 (by kernel_rfl)).at (d := 62) rfl rfl rfl
          have s67 := (waits_on hd 6 (by kernel_rfl)).at (d := 67) rfl rfl rfl
          rw [if_pos (want_free rfl)]
          go_simp
          exact hK _ _ (Below.refl _ _) (vok rfl) facts_nil
      case hfin =>
        intro a uq hS hk
        have s61 := (hk 0 (by decide)).at (d := 61) rfl rfl rfl
        have s62 := (hk 1 (by decide)).at (d := 62) rfl rfl rfl
        have s63 := (hk 2 (by decide)).at (d := 63) rfl rfl rfl
        have s64 := (hk 3 (by decide)).at (d := 64) rfl rfl rfl
        have s65 := (hk 4 (by decide)).at (d := 65) rfl rfl rfl
        have s66 := (hk 5 (by decide)).at (d := 66) rfl rfl rfl
        have s67 := (hk 6 (by decide)).at (d := 67) rfl rfl rfl
        have s68 := (hk 7 (by decide)).at (d := 68) rfl rfl rfl
        have hlit := hS.lit _ (by kernel_rfl) (lits_cons s61 (lits_cons s62 (lits_cons s63 (lits_cons s64 (lits_cons s65 (lits_cons s66 (lits_cons s67 (lits_cons s68 lits_nil))))))))
        rw [hlit]
        clear hlit hk hS s61 s62 s63 s64 s65 s66 s67 s68
        have HCq := hide (HCL.out.to (hgu uq))
        have HEq := hide (HER.out.to (hgu uq))
        have HK0q := hide (HK0.out.to (hgu uq))
        have HK1q := hide (HK1.out.to (hgu uq))
        have HBq := hide (below_to HBl.out (Nat.le_refl _) (hgu uq))
        have HKq : Hid ((g uq).heap[D]? = some (.deferred (some []))) := ((hgu uq).block D (Array.getElem?_eq_some_iff.1 HK.out).1).trans HK.out
        simp only [litT, List.setIfInBounds_toArray, List.set_cons_succ, List.set_cons_zero]
        clear k0 p0 p3 z0 z1 z2 HCL HER HK0 HK1 HBl HK
        revert HCq HEq HK0q HK1q HBq HKq
        generalize g uq = w9
        intro HCL HER HK0 HK1 HBl HK
        clear hgu hi g u0
        by_cases hlo : (its.length : Int) < p.fr
        · have e9 : decide ((its.length : Int) < p.fr) = true := decide_eq_true hlo
          have y0 := (HER.out.cell 0).trans (show _ = some (Value.int .i64 0) from rfl)
          have yf := HER.out.frozen 0
        
          gi_wp2
          have HKs : (w9.setCell ⟨w.heap.size + 1 + 1, 0, none⟩ (.int .i64 13)).heap[D]? = some (.deferred (some [])) := (KeepsOthers.setCell w9 ⟨w.heap.size + 1 + 1, 0, none⟩ (.int .i64 13)).same D _ HK.out rfl
          have hbs := HBl.out.setCell (p := ⟨w.heap.size + 1 + 1, 0, none⟩) (by show _ ≤ w.heap.size + 1 + 1; omega) (.int .i64 13)
          refine ⟨by simp, .inl ⟨_, _, rfl, run_takeDeferred HKs, ?_⟩⟩
          refine ⟨_, results_errno rfl _ _ (w.heap.size + 1 + 1) _ rfl ((HER.out.set_ 0 (.int .i64 13)).own (grownBy_putObj' _ D (.deferred none)) (fun r e => by cases e; exact ⟨_, HKs, rfl⟩)), 13, rfl, (.inl ⟨.inr ⟨hall, of_decide_eq_true e9, rfl⟩, accept_same HC.out (hbs.trans (belowK_b (w := w) (Nat.le_refl _) _ D _ _ (by omega) HKs rfl rfl))⟩)⟩
        · have e9 : decide ((its.length : Int) < p.fr) = false := decide_eq_false hlo
          have ew9 : IntKind.i64.wrap ((its.length : Int) - p.fr) = (its.length : Int) - p.fr := w64 (by omega) (by omega)
          obtain ⟨U, hU, g, u0, rfl, hgu, hi⟩ := cls w9
          have k0 := fun u => ((HK0.out.to (hgu u)).cell 0).trans (show _ = some (Value.pointer (some ⟨b, 0, none⟩)) from rfl)
          have p0 := fun u => ((HK1.out.to (hgu u)).cell 0).trans (show _ = some (Value.int .i64 p.fr) from rfl)
          have p3 := fun u => ((HK1.out.to (hgu u)).cell 3).trans (show _ = some (Value.slice Ai p.items.length ci) from rfl)
          have z0 := fun u => ((HCL.out.blk.to (hgu u)).cell 0).trans (show _ = some (Value.string (bs root)) from rfl)
          have z1 := fun u => ((HCL.out.blk.to (hgu u)).cell 1).trans (show _ = some (Value.int .i64 size) from rfl)
          have z2 := fun u => ((HCL.out.blk.to (hgu u)).cell 2).trans (show _ = some (Value.slice Av its.length cv) from rfl)
          gi_wp2
          refine wpIn_region_ofW (by kernel_rfl) (by kernel_rfl) (fun ⟨a, w, h⟩ => by obtain ⟨_, h2, _⟩ := h; cases h2) ?_
          apply wpAny_looseG g (V := [some _, some _, some _, some _, some _, some _, some _, some _, some _]) (Fs := []) (Rel := fun _ w w' => Below w.heap.size w w')
          case hB => kernel_rfl
          case hCw => exact hi _ (hgu _).drew
          case hC =>
            rintro i uq w' hr
            exact hi _ (below_to (hgu uq) (Nat.le_refl _) hr)
          case hst =>
            exact keeps_nil
          case hop =>
            refine ⟨?_, ?_, ?_, ?_, ?_, ?_, ?_, ?_, ?_, trivial⟩
            · intro a uq K hS hd hK
              have s2 := hS.at 2 (by kernel_rfl) rfl
              rw [if_pos (want_free rfl)]
              have c := k0 uq
              go_simp
              exact hK _ _ (Below.refl _ _) (vok rfl) facts_nil
            · intro a uq K hS hd hK
              have s69 := (waits_on hd 0 (by kernel_rfl)).at (d := 69) rfl rfl rfl
              rw [if_pos (want_free rfl)]
              go_simp
              exact hK _ _ (Below.refl _ _) (vok rfl) facts_nil
            · intro a uq K hS hd hK
              have s70 := (waits_on hd 1 (by kernel_rfl)).at (d := 70) rfl rfl rfl
              rw [if_pos (want_free rfl)]
              go_simp
              exact hK _ _ (Below.refl _ _) (vok rfl) facts_nil
            · intro a uq K hS hd hK
              have s71 := (waits_on hd 2 (by kernel_rfl)).at (d := 71) rfl rfl rfl
              rw [if_pos (want_free rfl)]
              have c := z2 uq
              go_simp
              exact hK _ _ (Below.refl _ _) (vok rfl) facts_nil
            · intro a uq K hS hd hK
              have s72 := (waits_on hd 3 (by kernel_rfl)).at (d := 72) rfl rfl rfl
              rw [if_pos (want_free rfl)]
              go_simp
              exact hK _ _ (Below.refl _ _) (vok rfl) facts_nil
            · intro a uq K hS hd hK
              have s3 := hS.at 3 (by kernel_rfl) rfl
              rw [if_pos (want_free rfl)]
              go_simp
              exact hK _ _ (Below.refl _ _) (vok rfl) facts_nil
            · intro a uq K hS hd hK
              have s74 := (waits_on hd 5 (by kernel_rfl)).at (d := 74) rfl rfl rfl
              rw [if_pos (want_free rfl)]
              have c := p0 uq
              go_simp
              exact hK _ _ (Below.refl _ _) (vok rfl) facts_nil
            · intro a uq K hS hd hK
              have s73 := (waits_on hd 4 (by kernel_rfl)).at (d := 73) rfl rfl rfl
              have s75 := (waits_on hd 6 (by kernel_rfl)).at (d := 75) rfl rfl rfl
              rw [if_pos (want_free rfl)]
              go_simp
              exact hK _ _ (Below.refl _ _) (vok rfl) facts_nil
            · intro a uq K hS hd hK
              have s76 := (waits_on hd 7 (by kernel_rfl)).at (d := 76) rfl rfl rfl
              rw [if_pos (want_free rfl)]
              go_simp
              exact hK _ _ (Below.refl _ _) (vok rfl) facts_nil
          case hfin =>
            intro a uq hS hk
            have s69 := (hk 0 (by decide)).at (d := 69) rfl rfl rfl
            have s70 := (hk 1 (by decide)).at (d := 70) rfl rfl rfl
            have s71 := (hk 2 (by decide)).at (d := 71) rfl rfl rfl
            have s72 := (hk 3 (by decide)).at (d := 72) rfl rfl rfl
            have s73 := (hk 4 (by decide)).at (d := 73) rfl rfl rfl
            have s74 := (hk 5 (by decide)).at (d := 74) rfl rfl rfl
            have s75 := (hk 6 (by decide)).at (d := 75) rfl rfl rfl
            have s76 := (hk 7 (by decide)).at (d := 76) rfl rfl rfl
            have s6 := (hk 8 (by decide)).at (d := 6) rfl rfl rfl
            have hlit := hS.lit _ (by kernel_rfl) (lits_cons s69 (lits_cons s70 (lits_cons s71 (lits_cons s72 (lits_cons s73 (lits_cons s74 (lits_cons s75 (lits_cons s76 (lits_cons s6 lits_nil)))))))))
            rw [hlit]
            clear hlit hk hS s69 s70 s71 s72 s73 s74 s75 s76 s6
            have HCq := hide (HCL.out.to (hgu uq))
            have HEq := hide (HER.out.to (hgu uq))
            have HK0q := hide (HK0.out.to (hgu uq))
            have HK1q := hide (HK1.out.to (hgu uq))
            have HBq := hide (below_to HBl.out (Nat.le_refl _) (hgu uq))
            have HKq : Hid ((g uq).heap[D]? = some (.deferred (some []))) := ((hgu uq).block D (Array.getElem?_eq_some_iff.1 HK.out).1).trans HK.out
            simp only [litT, List.setIfInBounds_toArray, List.set_cons_succ, List.set_cons_zero]
            clear k0 p0 p3 z0 z1 z2 HCL HER HK0 HK1 HBl HK
            revert HCq HEq HK0q HK1q HBq HKq
            generalize g uq = w11
            intro HCL HER HK0 HK1 HBl HK
            clear hgu hi g u0
            obtain ⟨kk, hkk⟩ : ∃ kk : Nat, (its.length : Int) - p.fr = (kk : Int) := ⟨its.length - p.fr.toNat, by omega⟩
            rw [hkk]
            have hkn : its.length - p.fr.toNat = kk := by omega
            have y0 := (HER.out.cell 0).trans (show _ = some (Value.int .i64 0) from rfl)
            have yf := HER.out.frozen 0
            have p3 := (HK1.out.cell 3).trans (show _ = some (Value.slice Ai p.items.length ci) from rfl)
            have HKN : Hid (its.length - p.fr.toNat = kk) := hkn
            have hple : p.fr ≤ (its.length : Int) := by omega
            clear ew9 hkn e9 hlo hkk
            by_cases hlt : kk < p.items.length
            · have e12 : decide ((kk : Int) < (p.items.length : Int)) = true := decide_eq_true (by omega)
              gi_wp2
              have hrl : rowOr (.slice Av its.length cv) b < w.heap.size := by
                unfold rowOr
                cases e : (Value.ownBlock (.slice Av its.length cv)) with
                | none => exact hbw
                | some g => exact hvo g e
              have hvi := HVI.out
              obtain ⟨x0, hx0⟩ : ∃ x, p.items[0]? = some x := ⟨_, List.getElem?_eq_getElem (by omega)⟩
              obtain ⟨ai, rfl, _⟩ := hvi.at_ hx0
              have hne0 : p.items ≠ [] := fun e => by rw [e] at hx0; cases hx0
              have hvb := hvb0 hne0
              have hvr := fun g e => hvr0 g e hne0
              clear hx0
              have hk0 : ∀ W, Two b (rowOr (.slice Av its.length cv) b) w11 W → W.cell? ⟨w.heap.size, 0, none⟩ = some (.pointer (some ⟨b, 0, none⟩)) := fun W hW => ((Two.blk HK0.out hW (by omega) (by omega)).cell 0).trans rfl
              have hk3 : ∀ W, Two b (rowOr (.slice Av its.length cv) b) w11 W → W.cell? ⟨w.heap.size + 1, 3, none⟩ = some (.slice (some ai) p.items.length ci) := fun W hW => ((Two.blk HK1.out hW (by omega) (by omega)).cell 3).trans rfl
              have hks : ∀ W, Two b (rowOr (.slice Av its.length cv) b) w11 W → TextsAt W (.slice (some ai) p.items.length ci) p.items := fun W hW => (HVI.out.to HBl.out).two hW hvb (fun e => by
                unfold rowOr at e
                cases e2 : (Value.ownBlock (.slice Av its.length cv)) with
                | none => rw [e2] at e; exact hvb e
                | some g => rw [e2] at e; exact hvr g e2 e)
              have hkl : kk ≤ p.items.length := by omega
              have hnk : ¬ p.items.length = kk := by omega
              have hoN : ∀ k, k ≤ b → some k ≠ (Value.ownBlock (.slice Av its.length cv)) := fun k hk e => by have := (CliAt.lt HC.out k e.symm).1; omega
              obtain ⟨i0, hi0, hz0, hz1, hz2⟩ := info_parts info_str
              refine wpIn_region_ofW (by kernel_rfl) (by kernel_rfl) (fun ⟨a, w, h⟩ => by obtain ⟨_, h2, _⟩ := h; cases h2) ?_
              apply wpAny_lo2 (C := fun W => Two b (rowOr (.slice Av its.length cv) b) w11 W) (V := [some _, some _, some _, some _, some _, some _, some _, some _, some _, some _, some _, some _, some _, some _, some _, none, some _, some _, none]) (Fs := [(15, fun a W => ∃ v', a.tmps[97]? = some v' ∧ World.ownsRow W (b + 1) 9 1 v' (its.length + (p.items.length - kk)) (flatS its ++ flatS (p.items.drop kk)) ∧ (v'.ownBlock = Value.ownBlock (.slice Av its.length cv) ∨ ∃ g, v'.ownBlock = some g ∧ w11.heap.size ≤ g)), (18, fun a W => ∃ v', a.tmps[97]? = some v' ∧ Blk W b 94 #[.string (bs root), .int .i64 size, v'])]) (Ns := [(4, fun (_ : Act) W => Blk W b 94 #[.string (bs root), .int .i64 size, (.slice Av its.length cv)]), (15, fun (_ : Act) W => World.ownsRow W (b + 1) 9 1 (.slice Av its.length cv) its.length (flatS its) ∧ w11.heap.size ≤ W.heap.size), (18, fun (_ : Act) W => Blk W b 94 #[.string (bs root), .int .i64 size, (.slice Av its.length cv)])]) (Rel := fun i x x' => if i = 15 then (fun x x' => World.grownBy x x' (Value.ownBlock (.slice Av its.length cv))) x x' else if i = 18 then (fun x x' => ∃ u, x' = World.setCell x ⟨b, 2, none⟩ u) x x' else Below x.heap.size x x')
              case hB => kernel_rfl
              case hCw => exact ((Two.refl b (rowOr (.slice Av its.length cv) b) w11).drewN 1)
              case hC =>
                intro i w_ w' hw hr
                by_cases e15 : i = 15
                · subst e15
                  have hr' : (fun x x' => World.grownBy x x' (Value.ownBlock (.slice Av its.length cv))) w_ w' := hr
                  exact Two.trans hw (Two.grown hr')
                by_cases e18 : i = 18
                · subst e18
                  have hr' : (fun x x' => ∃ u, x' = World.setCell x ⟨b, 2, none⟩ u) w_ w' := hr
                  obtain ⟨u, rfl⟩ := hr'
                  exact Two.set1 hw _ u
                have hr' : Below w_.heap.size w_ w' := by simpa [e15, e18] using hr
                exact Two.to hw hr'
              case hst =>
                refine keeps_cons (fun i a a' w_ w' hne hwt hs hr h => by
                  by_cases e15 : i = 15
                  · exact absurd e15 hne
                  by_cases e18 : i = 18
                  · subst e18
                    have hr' : (fun x x' => ∃ u, x' = World.setCell x ⟨b, 2, none⟩ u) w_ w' := hr
                    obtain ⟨c, h1, h2, h3⟩ := h
                    obtain ⟨u, rfl⟩ := hr'
                    exact ⟨c, (hs 97 (by kernel_rfl)).trans h1, ownsRow_set h2 (fun e => by have := (World.ownsRow.lt h2 _ e).1; omega), h3⟩
                  have hr' : Below w_.heap.size w_ w' := by simpa [e15, e18] using hr
                  obtain ⟨c, h1, h2, h3⟩ := h
                  exact ⟨c, (hs 97 (by kernel_rfl)).trans h1, ownsRow_to h2 hr', h3⟩) ?_
                refine keeps_cons (fun i a a' w_ w' hne hwt hs hr h => by
                  by_cases e15 : i = 15
                  · subst e15
                    exact absurd (hwt.symm.trans (show Region.waitsFor .any _ 18 15 = true by kernel_rfl)) (by decide)
                  by_cases e18 : i = 18
                  · exact absurd e18 hne
                  have hr' : Below w_.heap.size w_ w' := by simpa [e15, e18] using hr
                  obtain ⟨c, h1, h2⟩ := h
                  exact ⟨c, (hs 97 (by kernel_rfl)).trans h1, h2.to hr'⟩) ?_
                exact keeps_nil
              case hN0 => exact pre0_cons (HCL.out.blk) (pre0_cons (⟨HCL.out.own, Nat.le_refl _⟩) (pre0_cons (HCL.out.blk) (pre0_nil)))
              case hNst =>
                refine prek_cons (fun i a a' w_ w' hne hwt hr h hp => by
                  by_cases e15 : i = 15
                  · subst e15
                    exact absurd (hwt.symm.trans (show waitsT .any _ _ 15 4 = true by kernel_rfl)) (by decide)
                  by_cases e18 : i = 18
                  · subst e18
                    exact absurd (hwt.symm.trans (show waitsT .any _ _ 18 4 = true by kernel_rfl)) (by decide)
                  have hr' : Below w_.heap.size w_ w' := by simpa [e15, e18] using hr
                  exact h.to hr') ?_
                refine prek_cons (fun i a a' w_ w' hne hwt hr h hp => by
                  by_cases e15 : i = 15
                  · exact absurd e15 hne
                  by_cases e18 : i = 18
                  · subst e18
                    exact absurd (hwt.symm.trans (show waitsT .any _ _ 18 15 = true by kernel_rfl)) (by decide)
                  have hr' : Below w_.heap.size w_ w' := by simpa [e15, e18] using hr
                  exact ⟨ownsRow_to h.1 hr', Nat.le_trans h.2 hr'.size⟩) ?_
                refine prek_cons (fun i a a' w_ w' hne hwt hr h hp => by
                  by_cases e15 : i = 15
                  · subst e15
                    have hr' : (fun x x' => World.grownBy x x' (Value.ownBlock (.slice Av its.length cv))) w_ w' := hr
                    exact (hr'.block b h.lt (hoN b (Nat.le_refl _))).trans h
                  by_cases e18 : i = 18
                  · exact absurd e18 hne
                  have hr' : Below w_.heap.size w_ w' := by simpa [e15, e18] using hr
                  exact h.to hr') ?_
                exact prek_nil
              case hop =>
                refine ⟨?_, ?_, ?_, ?_, ?_, ?_, ?_, ?_, ?_, ?_, ?_, ?_, ?_, ?_, ?_, ?_, ?_, ?_, ?_, trivial⟩
                · intro a w_ K hw hS hd hN hK
                  have s2 := hS.at 2 (by kernel_rfl) rfl
                  rw [if_pos (want_free rfl)]
                  have c := hk0 w_ hw
                  go_simp
                  exact hK _ _ (Below.refl _ _) (vok rfl) (facts_cons (fun h => absurd h (by decide)) (facts_cons (fun h => absurd h (by decide)) facts_nil))
                · intro a w_ K hw hS hd hN hK
                  have s2 := hS.at 2 (by kernel_rfl) rfl
                  rw [if_pos (want_free rfl)]
                  have c := hk0 w_ hw
                  go_simp
                  exact hK _ _ (Below.refl _ _) (vok rfl) (facts_cons (fun h => absurd h (by decide)) (facts_cons (fun h => absurd h (by decide)) facts_nil))
                · intro a w_ K hw hS hd hN hK
                  have s83 := (waits_on hd 1 (by kernel_rfl)).at (d := 83) rfl rfl rfl
                  rw [if_pos (want_free rfl)]
                  go_simp
                  exact hK _ _ (Below.refl _ _) (vok rfl) (facts_cons (fun h => absurd h (by decide)) (facts_cons (fun h => absurd h (by decide)) facts_nil))
                · intro a w_ K hw hS hd hN hK
                  have s84 := (waits_on hd 2 (by kernel_rfl)).at (d := 84) rfl rfl rfl
                  rw [if_pos (want_free rfl)]
                  go_simp
                  exact hK _ _ (Below.refl _ _) (vok rfl) (facts_cons (fun h => absurd h (by decide)) (facts_cons (fun h => absurd h (by decide)) facts_nil))
                · intro a w_ K hw hS hd hN hK
                  have s85 := (waits_on hd 3 (by kernel_rfl)).at (d := 85) rfl rfl rfl
                  have hBp := hN _ (List.mem_cons_self ..) rfl
                  rw [if_pos (want_free rfl)]
                  have c := (hBp.cell 2).trans (show _ = some (Value.slice Av its.length cv) from rfl)
                  go_simp
                  exact hK _ _ (Below.refl _ _) (vok rfl) (facts_cons (fun h => absurd h (by decide)) (facts_cons (fun h => absurd h (by decide)) facts_nil))
                · intro a w_ K hw hS hd hN hK
                  have s3 := hS.at 3 (by kernel_rfl) rfl
                  rw [if_pos (want_free rfl)]
                  go_simp
                  exact hK _ _ (Below.refl _ _) (vok rfl) (facts_cons (fun h => absurd h (by decide)) (facts_cons (fun h => absurd h (by decide)) facts_nil))
                · intro a w_ K hw hS hd hN hK
                  have s87 := (waits_on hd 5 (by kernel_rfl)).at (d := 87) rfl rfl rfl
                  rw [if_pos (want_free rfl)]
                  have c := hk3 w_ hw
                  go_simp
                  exact hK _ _ (Below.refl _ _) (vok rfl) (facts_cons (fun h => absurd h (by decide)) (facts_cons (fun h => absurd h (by decide)) facts_nil))
                · intro a w_ K hw hS hd hN hK
                  have s6 := hS.at 6 (by kernel_rfl) rfl
                  rw [if_pos (want_free rfl)]
                  go_simp
                  exact hK _ _ (Below.refl _ _) (vok rfl) (facts_cons (fun h => absurd h (by decide)) (facts_cons (fun h => absurd h (by decide)) facts_nil))
                · intro a w_ K hw hS hd hN hK
                  have s3 := hS.at 3 (by kernel_rfl) rfl
                  rw [if_pos (want_free rfl)]
                  go_simp
                  exact hK _ _ (Below.refl _ _) (vok rfl) (facts_cons (fun h => absurd h (by decide)) (facts_cons (fun h => absurd h (by decide)) facts_nil))
                · intro a w_ K hw hS hd hN hK
                  have s90 := (waits_on hd 8 (by kernel_rfl)).at (d := 90) rfl rfl rfl
                  rw [if_pos (want_free rfl)]
                  have c := hk3 w_ hw
                  go_simp
                  exact hK _ _ (Below.refl _ _) (vok rfl) (facts_cons (fun h => absurd h (by decide)) (facts_cons (fun h => absurd h (by decide)) facts_nil))
                · intro a w_ K hw hS hd hN hK
                  have s91 := (waits_on hd 9 (by kernel_rfl)).at (d := 91) rfl rfl rfl
                  rw [if_pos (want_free rfl)]
                  go_simp
                  exact hK _ _ (Below.refl _ _) (vok rfl) (facts_cons (fun h => absurd h (by decide)) (facts_cons (fun h => absurd h (by decide)) facts_nil))
                · intro a w_ K hw hS hd hN hK
                  have s3 := hS.at 3 (by kernel_rfl) rfl
                  rw [if_pos (want_free rfl)]
                  go_simp
                  exact hK _ _ (Below.refl _ _) (vok rfl) (facts_cons (fun h => absurd h (by decide)) (facts_cons (fun h => absurd h (by decide)) facts_nil))
                · intro a w_ K hw hS hd hN hK
                  have s93 := (waits_on hd 11 (by kernel_rfl)).at (d := 93) rfl rfl rfl
                  rw [if_pos (want_free rfl)]
                  have c := hk3 w_ hw
                  go_simp
                  exact hK _ _ (Below.refl _ _) (vok rfl) (facts_cons (fun h => absurd h (by decide)) (facts_cons (fun h => absurd h (by decide)) facts_nil))
                · intro a w_ K hw hS hd hN hK
                  have s94 := (waits_on hd 12 (by kernel_rfl)).at (d := 94) rfl rfl rfl
                  rw [if_pos (want_free rfl)]
                  go_simp
                  exact hK _ _ (Below.refl _ _) (vok rfl) (facts_cons (fun h => absurd h (by decide)) (facts_cons (fun h => absurd h (by decide)) facts_nil))
                · intro a w_ K hw hS hd hN hK
                  have s88 := (waits_on hd 6 (by kernel_rfl)).at (d := 88) rfl rfl rfl
                  have s89 := (waits_on hd 7 (by kernel_rfl)).at (d := 89) rfl rfl rfl
                  have s92 := (waits_on hd 10 (by kernel_rfl)).at (d := 92) rfl rfl rfl
                  have s95 := (waits_on hd 13 (by kernel_rfl)).at (d := 95) rfl rfl rfl
                  rw [if_pos (want_free rfl)]
                  go_simp
                  exact hK _ _ (Below.refl _ _) (vok rfl) (facts_cons (fun h => absurd h (by decide)) (facts_cons (fun h => absurd h (by decide)) facts_nil))
                · intro a w_ K hw hS hd hN hK
                  have s86 := (waits_on hd 4 (by kernel_rfl)).at (d := 86) rfl rfl rfl
                  have s96 := (waits_on hd 14 (by kernel_rfl)).at (d := 96) rfl rfl rfl
                  obtain ⟨hOwn, hSz⟩ := hN _ (List.mem_cons_of_mem _ (List.mem_cons_self ..)) rfl
                  rw [if_pos (want_free rfl)]
                  have hdk := (hks w_ hw).drop (k := kk) hkl (p.items.length - kk) (by omega)
                  refine wp_append_keep w_ (.tmp 86) (.tmp 96) 22 rfl (b + 1) 9 i0 _ 1 16 Tryz.underlying22 hi0 hz0 hz1 hz2 rfl (by decide) (.slice Av its.length cv) its.length _ (eval_at s86) hOwn (ai.add kk) (p.items.length - kk) (p.items.length - kk) (flatS (p.items.drop kk)) (eval_at s96) (by rw [flatS_len, List.length_drop, Nat.mul_one]) (TextsAt.cells hdk) (by
                    intro u hu
                    obtain ⟨x, _, rfl⟩ := List.mem_map.1 hu
                    rfl) (by unfold maxLen; omega) (by omega) (by have := HCL.out.blk.lt; omega) ?_
                  intro v' w' h2 h3 h4 h5
                  exact hK v' w' h3 (vfree rfl) (facts_cons (fun _ => ⟨v', hS.put_at (by kernel_rfl) _, h2, h5.imp id fun ⟨g, e, hg⟩ => ⟨g, e, Nat.le_trans hSz hg⟩⟩) (facts_cons (fun h => absurd h (by decide)) facts_nil))
                · intro a w_ K hw hS hd hN hK
                  have s82 := (waits_on hd 0 (by kernel_rfl)).at (d := 82) rfl rfl rfl
                  rw [if_pos (want_free rfl)]
                  go_simp
                  exact hK _ _ (Below.refl _ _) (vok rfl) (facts_cons (fun h => absurd h (by decide)) (facts_cons (fun h => absurd h (by decide)) facts_nil))
                · intro a w_ K hw hS hd hN hK
                  have s98 := (waits_on hd 16 (by kernel_rfl)).at (d := 98) rfl rfl rfl
                  rw [if_pos (want_free rfl)]
                  go_simp
                  exact hK _ _ (Below.refl _ _) (vok rfl) (facts_cons (fun h => absurd h (by decide)) (facts_cons (fun h => absurd h (by decide)) facts_nil))
                · intro a w_ K hw hS hd hN hK
                  have s99 := (waits_on hd 17 (by kernel_rfl)).at (d := 99) rfl rfl rfl
                  obtain ⟨v97, s97, o97, k97⟩ := (waits_on hd 15 (by kernel_rfl)).2 _ (List.mem_cons_self ..) rfl
                  have hBs := hN _ (List.mem_cons_of_mem _ (List.mem_cons_of_mem _ (List.mem_cons_self ..))) rfl
                  rw [if_pos (want_free rfl)]
                  have c0 := (hBs.cell 2).trans (show _ = some (Value.slice Av its.length cv) from rfl)
                  have f0 := hBs.frozen 2
                  obtain ⟨A0, c0', rfl⟩ := own_sl4 o97
                  go_simp
                  exact hK undef _ ⟨_, rfl⟩ (vfree rfl) (facts_cons (fun h => absurd h (by decide)) (facts_cons (fun _ => ⟨_, s97, hBs.set_ 2 _⟩) facts_nil))
              case hfin =>
                intro a w13 hw hS hk
                have s82 := (hk 0 (by decide)).at (d := 82) rfl rfl rfl
                have s83 := (hk 1 (by decide)).at (d := 83) rfl rfl rfl
                have s84 := (hk 2 (by decide)).at (d := 84) rfl rfl rfl
                have s85 := (hk 3 (by decide)).at (d := 85) rfl rfl rfl
                have s86 := (hk 4 (by decide)).at (d := 86) rfl rfl rfl
                have s87 := (hk 5 (by decide)).at (d := 87) rfl rfl rfl
                have s88 := (hk 6 (by decide)).at (d := 88) rfl rfl rfl
                have s89 := (hk 7 (by decide)).at (d := 89) rfl rfl rfl
                have s90 := (hk 8 (by decide)).at (d := 90) rfl rfl rfl
                have s91 := (hk 9 (by decide)).at (d := 91) rfl rfl rfl
                have s92 := (hk 10 (by decide)).at (d := 92) rfl rfl rfl
                have s93 := (hk 11 (by decide)).at (d := 93) rfl rfl rfl
                have s94 := (hk 12 (by decide)).at (d := 94) rfl rfl rfl
                have s95 := (hk 13 (by decide)).at (d := 95) rfl rfl rfl
                have s96 := (hk 14 (by decide)).at (d := 96) rfl rfl rfl
                obtain ⟨v97, s97, o97, k97⟩ := (hk 15 (by decide)).2 _ (List.mem_cons_self ..) rfl
                have s98 := (hk 16 (by decide)).at (d := 98) rfl rfl rfl
                have s99 := (hk 17 (by decide)).at (d := 99) rfl rfl rfl
                obtain ⟨z97, zs97, zB⟩ := (hk 18 (by decide)).2 _ (List.mem_cons_of_mem _ (List.mem_cons_self ..)) rfl
                have hlit := hS.lit _ (by kernel_rfl) (lits_cons s82 (lits_cons s83 (lits_cons s84 (lits_cons s85 (lits_cons s86 (lits_cons s87 (lits_cons s88 (lits_cons s89 (lits_cons s90 (lits_cons s91 (lits_cons s92 (lits_cons s93 (lits_cons s94 (lits_cons s95 (lits_cons s96 (lits_cons s97 (lits_cons s98 (lits_cons s99 lits_nil))))))))))))))))))
                rw [hlit]
                obtain rfl : v97 = z97 := Option.some.inj (s97.symm.trans zs97)
                clear hlit hk hS s82 s83 s84 s85 s86 s87 s88 s89 s90 s91 s92 s93 s94 s95 s96 s97 zs97 s98 s99
                have hPRn := hk0 w13 hw
                have hEn := Two.blk HER.out hw (by omega) (by omega)
                have hDn : w13.heap[D]? = some (.deferred (some [])) := (hw.block D (Array.getElem?_eq_some_iff.1 HK.out).1 (by omega) (by omega)).trans HK.out
                obtain ⟨A97, c97, rfl⟩ := own_sl4 o97
                have y0 := (hEn.cell 0).trans (show _ = some (Value.int .i64 0) from rfl)
                have yf := hEn.frozen 0
                simp only [litT, List.setIfInBounds_toArray, List.set_cons_succ, List.set_cons_zero]
                clear hk0 hk3
                gi_wp2
                have HKs : (w13.setCell ⟨w.heap.size + 1 + 1, 0, none⟩ (.int .i64 0)).heap[D]? = some (.deferred (some [])) := (KeepsOthers.setCell w13 ⟨w.heap.size + 1 + 1, 0, none⟩ (.int .i64 0)).same D _ hDn rfl
                refine ⟨by simp, .inl ⟨_, _, rfl, run_takeDeferred HKs, ?_⟩⟩
                refine ⟨_, results_errno rfl _ _ (w.heap.size + 1 + 1) _ rfl ((hEn.set_ 0 (.int .i64 0)).own (grownBy_putObj' _ D (.deferred none)) (fun r e => by cases e; exact ⟨_, HKs, rfl⟩)), 0, rfl, .inr ⟨⟨hall, hple, rfl⟩, ?_⟩⟩
                have hT1 : Two b (rowOr (.slice Av its.length cv) b) w w13 := (Two.of HBl.out).trans hw
                have hP1 := belowK_b (n₀ := w.heap.size) (w := w) (Nat.le_refl _) _ D _ (.deferred none) (by omega) HKs rfl rfl
                have hT2 := (hT1.further ((Below.refl w.heap.size w13).setCell (p := ⟨w.heap.size + 1 + 1, 0, none⟩) (by show _ ≤ w.heap.size + 1 + 1; omega) (.int .i64 0))).further hP1
                have hC1 : CliAt b root size (its ++ p.items.drop (its.length - p.fr.toNat)) (.slice A97 (its.length + (p.items.length - kk)) c97) w13 := by
                  rw [HKN.out]
                  refine ⟨zB, ?_⟩
                  rw [List.length_append, List.length_drop, show flatS (its ++ p.items.drop kk) = flatS its ++ flatS (p.items.drop kk) by simp [flatS]]
                  exact o97
                have hC2 : CliAt b root size (its ++ p.items.drop (its.length - p.fr.toNat)) (.slice A97 (its.length + (p.items.length - kk)) c97) (w13.setCell ⟨w.heap.size + 1 + 1, 0, none⟩ (.int .i64 0)) :=
                  ⟨hC1.blk.far (p := ⟨w.heap.size + 1 + 1, 0, none⟩) (by show b ≠ w.heap.size + 1 + 1; omega) _, ownsRow_set hC1.own (fun e => by
                    rcases k97 with h | ⟨g, h, hg⟩
                    · rw [h] at e; have := hvo _ e; omega
                    · rw [h] at e; cases e; have := HER.out.lt; omega)⟩
                exact ⟨_, rfl, hC2.own_ (grownBy_putObj' _ D (.deferred none)) (fun r e => by cases e; exact ⟨_, HKs, rfl⟩), hT2, k97.imp id fun ⟨g, e, hg⟩ => ⟨g, e, Nat.le_trans HBl.out.size hg⟩⟩
            · have e12 : decide ((kk : Int) < (p.items.length : Int)) = false := decide_eq_false (by omega)
              gi_wp2
              have HKs : (w11.setCell ⟨w.heap.size + 1 + 1, 0, none⟩ (.int .i64 0)).heap[D]? = some (.deferred (some [])) := (KeepsOthers.setCell w11 ⟨w.heap.size + 1 + 1, 0, none⟩ (.int .i64 0)).same D _ HK.out rfl
              have hbs := HBl.out.setCell (p := ⟨w.heap.size + 1 + 1, 0, none⟩) (by show _ ≤ w.heap.size + 1 + 1; omega) (.int .i64 0)
              have hdr : its ++ p.items.drop (its.length - p.fr.toNat) = its := by rw [HKN.out, List.drop_of_length_le (by omega), List.append_nil]
              refine ⟨by simp, .inl ⟨_, _, rfl, run_takeDeferred HKs, ?_⟩⟩
              refine ⟨_, results_errno rfl _ _ (w.heap.size + 1 + 1) _ rfl ((HER.out.set_ 0 (.int .i64 0)).own (grownBy_putObj' _ D (.deferred none)) (fun r e => by cases e; exact ⟨_, HKs, rfl⟩)), 0, rfl, (.inr ⟨⟨hall, hple, rfl⟩, by rw [hdr]; exact accept_same HC.out (hbs.trans (belowK_b (w := w) (Nat.le_refl _) _ D _ _ (by omega) HKs rfl rfl))⟩)⟩
    case stop =>
      rintro D c pre W hD _ ⟨⟨rfl, hk, hcW, heW⟩, hBW⟩ hK
      obtain ⟨k, hk⟩ := hk
      have HBl := hide hBW
      have HK := hide hK
      clear hBW hK
      gi_wp2
      refine ⟨by simp, .inl ⟨_, _, rfl, run_takeDeferred HK.out, ?_⟩⟩
      refine ⟨_, results_errno rfl _ _ (w.heap.size + 1 + 1) _ rfl (heW.own (grownBy_putObj' _ D (.deferred none)) (fun r e => by cases e; exact ⟨_, HK.out, rfl⟩)), 17, rfl, (.inl ⟨.inl ⟨?_, rfl⟩, accept_same HC.out (HBl.out.trans (belowK_b (w := w) (Nat.le_refl _) _ D _ _ (by omega) HK.out rfl rfl))⟩)⟩
      rw [Bool.eq_false_iff]
      intro hall
      rw [List.all_eq_true.1 hall k (List.mem_finRange k)] at hk
      cases hk
end Go.Proofs.YtfhanbiifjiklaaGreatDoor

/- A client: Accept at every page. -/
set_option linter.unusedVariables false
set_option linter.unusedSimpArgs false
namespace Go.Proofs.YtfhanbiifjiklaaGreatDoor
open Go.RowKit Go.Shelf

theorem Accept_any (b : Nat) (root : List UInt8) (size : Int) (its : List (List UInt8)) (hil : its.length ≤ 1000000) (v : Value) (p : Pg) (hp : p.fit) (vi vp : Value) (w : World) (hg : Glob w) (hcl : CliAt b root size its v w) (hvi : TextsAt w vi p.items) (hvp : PathsAt w vp p.paths) (hvb : p.items ≠ [] → vi.ownBlock ≠ some b) (hvr : ∀ g, v.ownBlock = some g → p.items ≠ [] → vi.ownBlock ≠ some g) :
    Calls Tryz.prog 24 #[cliP b, .agg (p.cs vi vp)] w (AcceptR b root size (accE p root size its) (accV p root size its) v w) := by
  cases hf : formedB p with
  | false =>
    have h1 : accE p root size its = 1 := by unfold accE; rw [hf]; rfl
    have h2 : accV p root size its = its := by unfold accV; rw [h1]; rfl
    rw [h1, h2]
    exact Accept_no b root size its v p hp hf vi vp w hcl hvi hvp
  | true =>
    have h17 : heldB p root size = false → accE p root size its = 17 ∧ accV p root size its = its := fun h => by
      have h1 : accE p root size its = 17 := by unfold accE; rw [hf, h]; rfl
      exact ⟨h1, by unfold accV; rw [h1]; rfl⟩
    by_cases hr : p.root = root
    · by_cases hs : p.size = size
      · by_cases hfa : p.fr ≤ p.size - p.items.length
        · refine (Accept_main b root size its hil v p hp hf ⟨hr, hs, hfa⟩ vi vp w hg hcl hvi hvp hvb hvr).mono ?_
          have hsb : sameB p root size = true := by unfold sameB; rw [decide_eq_true hr, decide_eq_true hs, decide_eq_true hfa]; rfl
          rintro e w' ⟨k, he, (⟨(⟨ha, rfl⟩ | ⟨ha, hlt, rfl⟩), hR⟩ | ⟨⟨ha, hle, rfl⟩, hR⟩)⟩
          · obtain ⟨h1, h2⟩ := h17 (by unfold heldB; rw [hsb, ha]; rfl)
            rw [h1, h2]; exact hR
          · have h1 : accE p root size its = 13 := by unfold accE heldB; rw [hf, hsb, ha]; simp [hlt]
            have h2 : accV p root size its = its := by unfold accV; rw [h1]; rfl
            rw [h1, h2]; exact hR
          · have h1 : accE p root size its = 0 := by unfold accE heldB; rw [hf, hsb, ha]; simp; omega
            have h2 : accV p root size its = its ++ p.items.drop (its.length - p.fr.toNat) := by unfold accV; rw [h1]; rfl
            rw [h1, h2]; exact hR
        · obtain ⟨h1, h2⟩ := h17 (by unfold heldB sameB; rw [decide_eq_false hfa]; simp)
          rw [h1, h2]
          exact Accept_far b root size its v p hp hf ⟨hr, hs, hfa⟩ vi vp w hcl hvi hvp
      · obtain ⟨h1, h2⟩ := h17 (by unfold heldB sameB; rw [decide_eq_false hs]; simp)
        rw [h1, h2]
        exact Accept_size b root size its v p hp hf ⟨hr, hs⟩ vi vp w hcl hvi hvp
    · obtain ⟨h1, h2⟩ := h17 (by unfold heldB sameB; rw [decide_eq_false hr]; simp)
      rw [h1, h2]
      exact Accept_root b root size its v p hp hf hr vi vp w hcl hvi hvp
end Go.Proofs.YtfhanbiifjiklaaGreatDoor

/- Walks of the statements' helpers: lists compared, sizes, leaves. -/
set_option linter.unusedVariables false
set_option linter.unusedSimpArgs false
namespace Go.Proofs.YtfhanbiifjiklaaGreatDoor
open Go.RowKit

set_option maxRecDepth 100000 in
set_option maxHeartbeats 4000000 in
theorem Same_any (a b : List (List UInt8)) (ha : a.length ≤ 8796093022208) (hb : b.length ≤ 8796093022208) (v u : Value) (w : World) (hv : TextsAt w v a) (hu : TextsAt w u b) : Calls Tryz.prog 25 #[v, u] w fun e w' => e = .returned (.bool (decide (a = b))) ∧ Below w.heap.size w w' := by
  obtain ⟨A, c, rfl, _⟩ := hv.slice
  obtain ⟨B, d, rfl, _⟩ := hu.slice
  have HS := hide hv
  have HU := hide hu
  clear hv hu
  by_cases hab : a.length = b.length
  · have HAB := hide hab
    rw [← hab] at HU hb ⊢
    clear hab
    go_enter Tryz.func25, Tryz.ntmps25
    go_wp2_with fail
    go_loopw [5] (fun i wr => ∃ k : Nat, i = .int .i64 (k : Int) ∧ k ≤ a.length ∧ Aside (Below w.heap.size w wr) ∧ Aside (a.take k = b.take k)) (fun i _ => a.length - (intOf i).toNat)
    case atStart => exact ⟨0, rfl, by omega, Below.refl _ _, rfl⟩
    case round =>
      obtain ⟨k, rfl, hk, hB, hT⟩ := hrel
      have HB : Hid (Below w.heap.size w wr) := hB
      have HT : Hid (a.take k = b.take k) := hT
      clear hB hT
      by_cases hlt : k < a.length
      · have e1 : decide ((k : Int) < (a.length : Int)) = true := decide_eq_true (by omega)
        obtain ⟨x, hx⟩ : ∃ x, a[k]? = some x := ⟨_, List.getElem?_eq_getElem hlt⟩
        obtain ⟨y, hy⟩ : ∃ y, b[k]? = some y := ⟨_, List.getElem?_eq_getElem (by have := HAB.out; omega)⟩
        obtain ⟨aa, rfl, ha0, c0⟩ := (HS.out.to HB.out).at_ hx
        obtain ⟨ba, rfl, hb0, d0⟩ := (HU.out.to HB.out).at_ hy
        have i0 : (0 : Int) ≤ (k : Int) := by omega
        have i1 : (k : Int) < (a.length : Int) := by omega
        by_cases hxy : x = y
        · have HN : Hid (a.take (k + 1) = b.take (k + 1)) := by show _ = _; rw [List.take_add_one, List.take_add_one, hx, hy, HT.out, hxy]
          subst hxy
          have q : ((bs x).toList == (bs x).toList) = true := by simp
          clear hx hy
          go_wp2_with fail
          go_quiet (fail)
          go_wp2_with fail
          refine ⟨⟨k + 1, by go_num, by omega, below_drewN HB.out _, HN.out⟩, ?_⟩
          simp [intOf]; omega
        · have HN : Hid (decide (a = b) = false) := by
            show _ = _
            apply decide_eq_false
            rintro rfl
            exact hxy (Option.some.inj (hx.symm.trans hy))
          have q : ((bs x).toList == (bs y).toList) = false := by rw [beq_eq_false_iff_ne, bs_toList, bs_toList]; exact hxy
          clear hx hy hxy
          go_wp2_with fail
          go_quiet (fail)
          go_wp2_with fail
          go_ret
          exact ⟨ret_bool (by rw [HN.out]), below_drewN HB.out _⟩
      · obtain rfl : k = a.length := by omega
        have e1 : decide ((a.length : Int) < (a.length : Int)) = false := by simp
        have HN : Hid (decide (a = b) = true) := by
          show _ = _
          apply decide_eq_true
          have := HT.out
          rwa [List.take_length, HAB.out, List.take_length] at this
        go_wp2_with fail
        go_ret
        exact ⟨ret_bool (by rw [HN.out]), HB.out⟩
  · have HN : Hid (decide (a = b) = false) := by
      show _ = _
      apply decide_eq_false
      rintro rfl
      exact hab rfl
    have e1 : ((a.length : Int) == (b.length : Int)) = false := by rw [beq_eq_false_iff_ne]; omega
    have e2 : (a.length == b.length) = false := by rw [beq_eq_false_iff_ne]; exact hab
    clear hab
    go_enter Tryz.func25, Tryz.ntmps25
    go_wp2_with fail
    go_ret
    exact ⟨ret_bool (by rw [HN.out]), Below.refl _ _⟩
def fewT (l : List (List UInt8)) (m : Nat) : Bool := l.all (fun x => decide (x.length ≤ m)) && decide (l.length ≤ 30)
theorem all_step {α : Type} {f : α → Bool} {l : List α} {k : Nat} {x : α} (h : l[k]? = some x) : (l.take (k + 1)).all f = ((l.take k).all f && f x) := by
  rw [List.take_add_one, h, List.all_append]; simp
theorem all_no {α : Type} {f : α → Bool} {l : List α} {k : Nat} {x : α} (h : l[k]? = some x) (hf : f x = false) : l.all f = false := by
  rw [List.all_eq_false]
  exact ⟨x, List.mem_of_getElem? h, by rw [hf]; simp⟩
set_option maxRecDepth 100000 in
set_option maxHeartbeats 1000000 in
theorem Few_any (l : List (List UInt8)) (hl : l.length ≤ 8796093022208) (hx : ∀ x ∈ l, x.length ≤ 140737488355328) (m : Nat) (hm : m ≤ 1000000) (v : Value) (w : World) (hv : TextsAt w v l) :
    Calls Tryz.prog 32 #[v, .int .i64 (m : Int)] w fun e w' => e = .returned (.bool (fewT l m)) ∧ w' = w := by
  obtain ⟨A, c, rfl, _⟩ := hv.slice
  have HS := hide hv
  have HX := hide hx
  clear hv hx
  go_enter Tryz.func32, Tryz.ntmps32
  go_wp2_with fail
  go_loopw [5] (fun i wr => ∃ k : Nat, i = .int .i64 (k : Int) ∧ k ≤ l.length ∧ Aside (wr = w) ∧ Aside ((l.take k).all (fun x => decide (x.length ≤ m)) = true)) (fun i _ => l.length - (intOf i).toNat)
  case atStart => exact ⟨0, rfl, by omega, rfl, rfl⟩
  case round =>
    obtain ⟨k, rfl, hk, hw, hT⟩ := hrel
    obtain rfl : wr = w := hw
    have HT : Hid ((l.take k).all (fun x => decide (x.length ≤ m)) = true) := hT
    clear hT
    by_cases hlt : k < l.length
    · have e1 : decide ((k : Int) < (l.length : Int)) = true := decide_eq_true (by omega)
      obtain ⟨x, hx⟩ : ∃ x, l[k]? = some x := ⟨_, List.getElem?_eq_getElem hlt⟩
      obtain ⟨a, rfl, ha, c0⟩ := HS.out.at_ hx
      have hxl := HX.out x (List.mem_of_getElem? hx)
      have hsz : (bs x).size = x.length := bs_size x
      by_cases hxm : x.length ≤ m
      · have e2 : decide ((m : Int) < (x.length : Int)) = false := decide_eq_false (by omega)
        have e3 : decide (m < x.length) = false := decide_eq_false (by omega)
        have HN : Hid ((l.take (k + 1)).all (fun x => decide (x.length ≤ m)) = true) := by show _ = _; rw [all_step hx, HT.out, decide_eq_true hxm]; rfl
        clear hx
        go_wp2_with fail
        refine ⟨⟨k + 1, by go_num, by omega, trivial, HN.out⟩, ?_⟩
        simp [intOf]; omega
      · have e2 : decide ((m : Int) < (x.length : Int)) = true := decide_eq_true (by omega)
        have e3 : decide (m < x.length) = true := decide_eq_true (by omega)
        have HN : Hid (fewT l m = false) := by show _ = _; unfold fewT; rw [all_no hx (decide_eq_false hxm)]; rfl
        clear hx
        go_wp2_with fail
        go_ret
        exact ⟨ret_bool (by rw [HN.out]), rfl⟩
    · obtain rfl : k = l.length := by omega
      have e1 : decide ((l.length : Int) < (l.length : Int)) = false := by simp
      have HN : Hid (fewT l m = decide (l.length ≤ 30)) := by
        show _ = _
        have := HT.out
        rw [List.take_length] at this
        unfold fewT; rw [this]; rfl
      cases hd : decide (l.length ≤ 30) with
      | true =>
        rw [hd] at HN
        have e4 : decide ((l.length : Int) ≤ 30) = true := decide_eq_true (by have := of_decide_eq_true hd; omega)
        clear hd
        go_wp2_with fail
        go_ret
        exact ⟨ret_bool (by rw [HN.out]), rfl⟩
      | false =>
        rw [hd] at HN
        have e4 : decide ((l.length : Int) ≤ 30) = false := decide_eq_false (by have := of_decide_eq_false hd; omega)
        clear hd
        go_wp2_with fail
        go_ret
        exact ⟨ret_bool (by rw [HN.out]), rfl⟩
/-- a result of texts in an array of its own -/
def LvR (ls : List (List UInt8)) (w : World) (e : Ending) (w' : World) : Prop := ∃ v', e = .returned v' ∧ OwnT w' w.heap.size v' ls ∧ Below w.heap.size w w'
set_option maxRecDepth 100000 in
set_option maxHeartbeats 2000000 in
theorem leaves_any (items : List (List UInt8)) (hn : items.length ≤ 1000000) (hx : ∀ x ∈ items, x.length ≤ 100000) (v : Value) (w : World) (hv : TextsAt w v items) (hg : Glob w) :
    Calls Tryz.prog 42 #[v] w (LvR (leavesV items) w) := by
  obtain ⟨A, c, rfl, _⟩ := hv.slice
  have HS := hide hv
  have HX := hide hx
  have HG := hide hg
  obtain ⟨i0, hi0, hz0, hz1, hz2⟩ := info_parts info_str
  clear hv hx hg
  go_enter Tryz.func42, Tryz.ntmps42
  go_wp2_with fail
  go_loopw [3, 4] (fun o i wr => ∃ k : Nat, i = .int .i64 (k : Int) ∧ k ≤ items.length ∧ Aside (OwnT wr w.heap.size o ((leavesV items).take k)) ∧ Aside (Below w.heap.size w wr)) (fun _ i _ => items.length - (intOf i).toNat)
  case atStart => exact ⟨0, rfl, by omega, World.ownsRow_nil _ _ _ _, Below.refl _ _⟩
  case round =>
    obtain ⟨k, rfl, hk, hO, hB⟩ := hrel
    have HO : Hid (OwnT wr w.heap.size _ ((leavesV items).take k)) := hO
    have HB : Hid (Below w.heap.size w wr) := hB
    have htl : ((leavesV items).take k).length = k := by rw [List.length_take]; simp [leavesV]; omega
    obtain ⟨Ao, co, rfl⟩ := own_sl4 hO
    clear hO hB
    rw [htl] at HO ⊢
    by_cases hlt : k < items.length
    · have e1 : decide ((k : Int) < (items.length : Int)) = true := decide_eq_true (by omega)
      obtain ⟨x, hx⟩ : ∃ x, items[k]? = some x := ⟨_, List.getElem?_eq_getElem hlt⟩
      obtain ⟨a, rfl, ha, c0⟩ := (HS.out.to HB.out).at_ hx
      have hxl := HX.out x (List.mem_of_getElem? hx)
      have CL := Leaf_any x (by omega) wr (HG.out.to HB.out)
      have HSN : Hid ((leavesV items).take (k + 1) = (leavesV items).take k ++ [leafD x]) := by show _ = _; unfold leavesV; rw [List.take_add_one, List.getElem?_map, hx]; rfl
      have HO1 : Hid (wr.ownsRow w.heap.size 9 1 (.slice Ao k co) k (flatS ((leavesV items).take k))) := by
        have := HO.out
        unfold OwnT at this
        rw [htl] at this
        exact this
      generalize leafD x = d at *
      generalize (leavesV items).take k = L at *
      clear hx HO
      go_wp2_with fail
      refine CL.mono ?_
      rintro e w4 ⟨rfl, hb4⟩
      have HO4 := hide (own_to4 HO1.out hb4)
      have HB4 := hide (below_to HB.out (Nat.le_refl _) hb4)
      have HSZ : Hid (w.heap.size ≤ w4.heap.size) := HB4.out.size
      clear hb4 CL HO1
      go_wp2_with (at_builtin; refine wpList_append_own _ rfl (.tmp 11) (.tmp 17) _ rfl w.heap.size 9 i0 (.string ⟨#[]⟩) 1 16 Tryz.underlying22 hi0 hz0 hz1 hz2 rfl (by omega) _ k (flatS L) rfl ?c0 ⟨_, 0, none⟩ 1 1 [.string (bs d)] rfl rfl ?c1 ?c2 ?c4 ?c5 ?c3 ?_)
      case c0 => exact own_to4 HO4.out (below_one _ _)
      case c1 => exact cells_new4 (xs := [.string (bs d)]) (by simp)
      case c2 => intro u hu; simp only [List.mem_cons, List.not_mem_nil, or_false] at hu; rcases hu with rfl; rfl
      case c4 => simp only [maxLen]; omega
      case c5 => omega
      case c3 => have := HSZ.out; simp; omega
      intro v' w6 hown6 hgr6 _
      have HB6 := hide ((below_alloc HB4.out (Nat.le_refl _) _).grown hgr6 (by have := HSZ.out; simp; omega) (fun b hb => (HO4.out.lt b hb).1))
      have HO6 : Hid (OwnT w6 w.heap.size v' ((leavesV items).take (k + 1))) := by
        rw [HSN.out]
        show World.ownsRow _ _ _ _ _ _ _
        rw [flatS_snoc, List.length_append, htl]
        exact hown6
      clear hown6 hgr6
      go_wp2_with fail
      refine ⟨⟨k + 1, by go_num, by omega, HO6.out, HB6.out⟩, ?_⟩
      simp [intOf]; omega
    · obtain rfl : k = items.length := by omega
      have e1 : decide ((items.length : Int) < (items.length : Int)) = false := by simp
      go_wp2_with fail
      go_ret
      refine ⟨_, rfl, ?_, HB.out⟩
      have := HO.out
      rwa [List.take_of_length_le (by simp [leavesV])] at this
set_option maxHeartbeats 1000000 in
theorem root_any (items : List (List UInt8)) (hn : items.length ≤ 1000) (hx : ∀ x ∈ items, x.length ≤ 100000) (v : Value) (w : World) (hv : TextsAt w v items) (hg : Glob w) :
    Calls Tryz.prog 22 #[v] w fun e w' => e = .returned (.string (bs (totalT (leavesV items)))) ∧ Below w.heap.size w w' := by
  have CL := leaves_any items (by omega) hx v w hv hg
  unfold LvR at CL
  have HG := hide hg
  clear hv hx hg
  go_enter Tryz.func22, Tryz.ntmps22
  go_wp2_with fail
  refine CL.mono ?_
  rintro e w2 ⟨v', rfl, ho, hb⟩
  have HB := hide hb
  have CR := root_leaves items hn v' w2 (TextsAt.of_own ho) (HG.out.to hb)
  clear ho hb CL
  obtain ⟨R, HR⟩ : ∃ R, Hid (totalT (leavesV items) = R) := ⟨_, rfl⟩
  rw [HR.out] at CR
  go_wp2_with fail
  refine CR.mono ?_
  rintro e w3 ⟨rfl, hb⟩
  go_wp2_with fail
  go_ret
  exact ⟨by rw [HR.out]; rfl, below_to HB.out (Nat.le_refl _) hb⟩
def fewI (items : List (List UInt8)) : Bool := decide (items.length ≤ 12) && fewT items 60
set_option maxHeartbeats 1000000 in
theorem few_any (items : List (List UInt8)) (hl : items.length ≤ 8796093022208) (hx : ∀ x ∈ items, x.length ≤ 140737488355328) (v : Value) (w : World) (hv : TextsAt w v items) :
    Calls Tryz.prog 12 #[v] w fun e w' => e = .returned (.bool (fewI items)) ∧ w' = w := by
  have CF : Calls Tryz.prog 32 #[v, .int .i64 60] w _ := Few_any items hl hx 60 (by omega) v w hv
  obtain ⟨A, c, rfl, _⟩ := hv.slice
  unfold fewI
  clear hv hx
  cases hd : decide (items.length ≤ 12) with
  | true =>
    have e4 : decide ((items.length : Int) ≤ 12) = true := decide_eq_true (by have := of_decide_eq_true hd; omega)
    clear hd
    generalize fewT items 60 = B at *
    cases B
    all_goals
      go_enter Tryz.func12, Tryz.ntmps12
      go_wp2_with ((with_reducible refine CF.mono ?_); rintro e w' ⟨rfl, rfl⟩)
      go_ret
      exact ⟨rfl, rfl⟩
  | false =>
    have e4 : decide ((items.length : Int) ≤ 12) = false := decide_eq_false (by have := of_decide_eq_false hd; omega)
    clear hd
    go_enter Tryz.func12, Tryz.ntmps12
    go_wp2_with fail
    go_ret
    exact ⟨rfl, rfl⟩
end Go.Proofs.YtfhanbiifjiklaaGreatDoor

/- Walks of the reference's Few. -/
set_option linter.unusedVariables false
set_option linter.unusedSimpArgs false
namespace Go.Proofs.YtfhanbiifjiklaaGreatDoor
open Go.RowKit

def fewQ (q : List (List UInt8)) : Bool := decide (q.length ≤ 25) && fewT q 60
def fewHead (p : Pg) : Bool := decide (p.paths.length ≤ 60) && ((decide (p.items.length ≤ 12) && fewT p.items 60) || (decide (51 ≤ p.items.length) && decide (p.items.length ≤ 60)))
def fewP (p : Pg) : Bool := fewHead p && (p.items.all (fun x => decide (x.length ≤ 60)) && (p.paths.all fewQ && decide (p.root.length ≤ 60)))
/-- what came in may be long, but not without bound -/
structure Pg.wide (p : Pg) : Prop where
  ni : p.items.length ≤ 8796093022208
  li : ∀ x ∈ p.items, x.length ≤ 140737488355328
  np : p.paths.length ≤ 8796093022208
  nq : ∀ q ∈ p.paths, q.length ≤ 8796093022208
  lq : ∀ q ∈ p.paths, ∀ x ∈ q, x.length ≤ 140737488355328
  lr : p.root.length ≤ 140737488355328
theorem few_no {p : Pg} (h : fewHead p = false) : fewP p = false := by unfold fewP; rw [h]; rfl
theorem fewT_long {l : List (List UInt8)} (h : 30 < l.length) (m : Nat) : fewT l m = false := by unfold fewT; rw [decide_eq_false (by omega), Bool.and_false]
set_option maxRecDepth 100000 in
set_option maxHeartbeats 4000000 in
theorem FewP_head (p : Pg) (hp : p.wide) (h : fewHead p = false) (vi vp : Value) (w : World) (hvi : TextsAt w vi p.items) (hvp : PathsAt w vp p.paths) :
    Calls Tryz.prog 13 #[.agg (p.cs vi vp)] w fun e w' => e = .returned (.bool false) ∧ Below w.heap.size w w' := by
  have CF : ∀ w' : World, Below w.heap.size w w' → Calls Tryz.prog 32 #[vi, .int .i64 60] w' fun e w'' => e = .returned (.bool (fewT p.items 60)) ∧ w'' = w' := fun w' (hb : Below w.heap.size w w') => Few_any p.items hp.ni hp.li 60 (by omega) vi w' (hvi.to hb)
  obtain ⟨Ai, ci, rfl, _⟩ := hvi.slice
  obtain ⟨Ap, cp, rfl, _⟩ := hvp.slice
  have hh : (decide (60 < (p.items.length : Int)) || (decide (60 < (p.paths.length : Int)) || ((decide (12 < (p.items.length : Int)) && decide ((p.items.length : Int) < 51)) || (!fewT p.items 60 && decide ((p.items.length : Int) ≤ 12))))) = true := by
    unfold fewHead at h
    generalize hF : fewT p.items 60 = F at *
    have hF30 := hF
    simp only [Bool.and_eq_false_iff, Bool.or_eq_false_iff, decide_eq_false_iff_not] at h
    simp only [Bool.or_eq_true, Bool.and_eq_true, decide_eq_true_eq, Bool.not_eq_true']
    cases F with
    | true => simp at h ⊢; omega
    | false => simp at h ⊢; omega
  have hc5 : decide ((p.items.length : Int) ≤ 12) = !decide (12 < (p.items.length : Int)) := by rw [← decide_not]; exact decide_eq_decide.2 (by omega)
  rw [hc5] at hh
  unfold Pg.cs
  clear hvi hvp h hp
  have hfl : (w.alloc (.cells #[.int .i64 p.fr, .int .i64 p.size, .string (bs p.root), .slice Ai p.items.length ci, .slice Ap p.paths.length cp] 25)).heap.size = w.heap.size + 1 := by simp
  generalize c1 : decide (60 < (p.items.length : Int)) = b1 at *
  generalize c2 : decide (60 < (p.paths.length : Int)) = b2 at *
  generalize c3 : decide (12 < (p.items.length : Int)) = b3 at *
  generalize c4 : decide ((p.items.length : Int) < 51) = b4 at *
  generalize fewT p.items 60 = F at *
  cases b1
  cases b2
  cases b3
  rotate_left
  cases b4
  rotate_left
  all_goals skip
  all_goals (cases F)
  all_goals (try cases hh)
  all_goals (try simp only [Bool.not_false, Bool.not_true] at hc5)
  all_goals
    go_enter Tryz.func13, Tryz.ntmps13
    go_wp2_with ((with_reducible refine (CF _ (below_one _ _)).mono ?_); rintro e w' ⟨rfl, rfl⟩)
    go_ret
    exact ⟨rfl, below_one _ _⟩
set_option maxRecDepth 100000 in
set_option maxHeartbeats 4000000 in
theorem FewP_main (p : Pg) (hp : p.wide) (h : fewHead p = true) (vi vp : Value) (w : World) (hvi : TextsAt w vi p.items) (hvp : PathsAt w vp p.paths) :
    Calls Tryz.prog 13 #[.agg (p.cs vi vp)] w fun e w' => e = .returned (.bool (fewP p)) ∧ Below w.heap.size w w' := by
  have CF : ∀ w' : World, Below w.heap.size w w' → Calls Tryz.prog 32 #[vi, .int .i64 60] w' fun e w'' => e = .returned (.bool (fewT p.items 60)) ∧ w'' = w' := fun w' (hb : Below w.heap.size w w') => Few_any p.items hp.ni hp.li 60 (by omega) vi w' (hvi.to hb)
  have CQ : ∀ (q : List (List UInt8)) (_ : q ∈ p.paths) (v : Value) (w' : World), TextsAt w' v q → Calls Tryz.prog 32 #[v, .int .i64 60] w' fun e w'' => e = .returned (.bool (fewT q 60)) ∧ w'' = w' := fun q hq v w' hv => Few_any q (hp.nq q hq) (hp.lq q hq) 60 (by omega) v w' hv
  have HFP : Hid (fewP p = (p.items.all (fun x => decide (x.length ≤ 60)) && (p.paths.all fewQ && decide (p.root.length ≤ 60)))) := by show _ = _; unfold fewP; rw [h]; rfl
  have hrs : (bs p.root).size = p.root.length := bs_size p.root
  have hrl := hp.lr
  obtain ⟨Ai, ci, rfl, _⟩ := hvi.slice
  obtain ⟨Ap, cp, rfl, _⟩ := hvp.slice
  have HVI := hide (hvi.to (below_one w (.cells #[.int .i64 p.fr, .int .i64 p.size, .string (bs p.root), .slice Ai p.items.length ci, .slice Ap p.paths.length cp] 25)))
  have HVP := hide (hvp.to (below_one w (.cells #[.int .i64 p.fr, .int .i64 p.size, .string (bs p.root), .slice Ai p.items.length ci, .slice Ap p.paths.length cp] 25)))
  have hb1 := Blk.new w 25 #[.int .i64 p.fr, .int .i64 p.size, .string (bs p.root), .slice Ai p.items.length ci, .slice Ap p.paths.length cp]
  have hB0 := below_one w (.cells #[.int .i64 p.fr, .int .i64 p.size, .string (bs p.root), .slice Ai p.items.length ci, .slice Ap p.paths.length cp] 25)
  have x2 := (hb1.cell 2).trans (show _ = some (Value.string (bs p.root)) from rfl)
  have x3 := (hb1.cell 3).trans (show _ = some (Value.slice Ai p.items.length ci) from rfl)
  have x4 := (hb1.cell 4).trans (show _ = some (Value.slice Ap p.paths.length cp) from rfl)
  have CF1 := CF _ hB0
  have HB := hide hB0
  have HLI := hide hp.li
  have hh : p.paths.length ≤ 60 ∧ ((p.items.length ≤ 12 ∧ fewT p.items 60 = true) ∨ (51 ≤ p.items.length ∧ p.items.length ≤ 60 ∧ fewT p.items 60 = false)) := by
    unfold fewHead at h
    simp only [Bool.and_eq_true, Bool.or_eq_true, decide_eq_true_eq] at h
    rcases h with ⟨h1, ⟨h2, h3⟩ | ⟨h2, h3⟩⟩
    · exact ⟨h1, .inl ⟨h2, h3⟩⟩
    · exact ⟨h1, .inr ⟨h2, h3, fewT_long (by omega) _⟩⟩
  obtain ⟨hpl, hh⟩ := hh
  have c2 : decide (60 < (p.paths.length : Int)) = false := decide_eq_false (by omega)
  have c2' : decide (60 < p.paths.length) = false := decide_eq_false (by omega)
  have HIL : p.items.length ≤ 60 := by omega
  have c1 : decide (60 < (p.items.length : Int)) = false := decide_eq_false (by omega)
  unfold Pg.cs
  have HW : Hid (w.alloc (.cells #[.int .i64 p.fr, .int .i64 p.size, .string (bs p.root), .slice Ai p.items.length ci, .slice Ap p.paths.length cp] 25) = w.alloc (.cells #[.int .i64 p.fr, .int .i64 p.size, .string (bs p.root), .slice Ai p.items.length ci, .slice Ap p.paths.length cp] 25)) := rfl
  clear hvi hvp h CF hb1 hB0 HW
  rcases hh with ⟨h1, h2⟩ | ⟨h1, h1', h2⟩
  · have c3 : decide (12 < (p.items.length : Int)) = false := decide_eq_false (by omega)
    have c5 : decide ((p.items.length : Int) ≤ 12) = true := decide_eq_true (by omega)
    rw [h2] at CF1
    clear h2
    go_enter Tryz.func13, Tryz.ntmps13
    go_wp2_with ((with_reducible refine CF1.mono ?_); rintro e w' ⟨rfl, rfl⟩)
    generalize w.alloc (.cells #[.int .i64 p.fr, .int .i64 p.size, .string (bs p.root), .slice Ai p.items.length ci, .slice Ap p.paths.length cp] 25) = w1 at *
    go_loopw [3] (fun i wr => ∃ k : Nat, i = .int .i64 (k : Int) ∧ k ≤ p.items.length ∧ wr = w1 ∧ Aside ((p.items.take k).all (fun x => decide (x.length ≤ 60)) = true)) (fun i _ => p.items.length - (intOf i).toNat)
    case atStart => exact ⟨0, rfl, by omega, rfl, rfl⟩
    case round =>
      obtain ⟨k, rfl, hk, rfl, hT⟩ := hrel
      have HT : Hid ((p.items.take k).all (fun x => decide (x.length ≤ 60)) = true) := hT
      clear hT
      by_cases hlt : k < p.items.length
      · have e1 : decide ((k : Int) < (p.items.length : Int)) = true := decide_eq_true (by omega)
        obtain ⟨x, hx⟩ : ∃ x, p.items[k]? = some x := ⟨_, List.getElem?_eq_getElem hlt⟩
        obtain ⟨a, rfl, ha, c0⟩ := HVI.out.at_ hx
        have hxl := HLI.out x (List.mem_of_getElem? hx)
        have hsz : (bs x).size = x.length := bs_size x
        by_cases hxm : x.length ≤ 60
        · have e2 : decide ((60 : Int) < (x.length : Int)) = false := decide_eq_false (by omega)
          have HN : Hid ((p.items.take (k + 1)).all (fun x => decide (x.length ≤ 60)) = true) := by show _ = _; rw [all_step hx, HT.out, decide_eq_true hxm]; rfl
          clear hx
          go_wp2_with fail
          refine ⟨⟨k + 1, by go_num, by omega, trivial, HN.out⟩, ?_⟩
          simp [intOf]; omega
        · have e2 : decide ((60 : Int) < (x.length : Int)) = true := decide_eq_true (by omega)
          have HN : Hid (fewP p = false) := by show _ = _; rw [HFP.out, all_no hx (decide_eq_false hxm)]; rfl
          clear hx
          go_wp2_with fail
          go_ret
          exact ⟨ret_bool (by rw [HN.out]), HB.out⟩
      · obtain rfl : k = p.items.length := by omega
        have e1 : decide ((p.items.length : Int) < (p.items.length : Int)) = false := by simp
        have HIT : Hid (p.items.all (fun x => decide (x.length ≤ 60)) = true) := by
          have := HT.out
          rwa [List.take_length] at this
        clear HT hlt hk
        go_wp2_with fail
        go_loopw [4] (fun i wq => ∃ k : Nat, i = .int .i64 (k : Int) ∧ k ≤ p.paths.length ∧ wq = wr ∧ Aside ((p.paths.take k).all fewQ = true)) (fun i _ => p.paths.length - (intOf i).toNat)
        case atStart => exact ⟨0, rfl, by omega, rfl, rfl⟩
        case round =>
          obtain ⟨k, rfl, hk, rfl, hT⟩ := hrel
          have HT : Hid ((p.paths.take k).all fewQ = true) := hT
          clear hT
          by_cases hlt : k < p.paths.length
          · have e3 : decide ((k : Int) < (p.paths.length : Int)) = true := decide_eq_true (by omega)
            obtain ⟨q, hq⟩ : ∃ q, p.paths[k]? = some q := ⟨_, List.getElem?_eq_getElem hlt⟩
            obtain ⟨a, vq, e0, ha, c0, htq⟩ := HVP.out.at_ hq
            subst e0
            have CQ1 := CQ q (List.mem_of_getElem? hq) vq _ htq
            have HQN : Hid (fewQ q = (decide (q.length ≤ 25) && fewT q 60)) := rfl
            have HST := hide (fun h => (all_step (f := fewQ) hq).trans (by rw [HT.out, h]; rfl) : fewQ q = true → (p.paths.take (k + 1)).all fewQ = true)
            have HNO := hide (fun h => by rw [HFP.out, all_no (f := fewQ) hq h]; simp : fewQ q = false → fewP p = false)
            obtain ⟨Aq, cq, rfl, _⟩ := htq.slice
            clear hq htq
            by_cases h25 : q.length ≤ 25
            · have e4 : decide ((25 : Int) < (q.length : Int)) = false := decide_eq_false (by omega)
              rw [decide_eq_true h25] at HQN
              generalize fewT q 60 = F at *
              cases F with
              | true =>
                go_wp2_with ((with_reducible refine CQ1.mono ?_); rintro e w' ⟨rfl, rfl⟩)
                refine ⟨⟨k + 1, by go_num, by omega, trivial, HST.out HQN.out⟩, ?_⟩
                simp [intOf]; omega
              | false =>
                go_wp2_with ((with_reducible refine CQ1.mono ?_); rintro e w' ⟨rfl, rfl⟩)
                go_ret
                exact ⟨ret_bool (by rw [HNO.out HQN.out]), HB.out⟩
            · have e4 : decide ((25 : Int) < (q.length : Int)) = true := decide_eq_true (by omega)
              rw [decide_eq_false h25] at HQN
              go_wp2_with fail
              go_ret
              exact ⟨ret_bool (by rw [HNO.out HQN.out]), HB.out⟩
          · obtain rfl : k = p.paths.length := by omega
            have e3 : decide ((p.paths.length : Int) < (p.paths.length : Int)) = false := by simp
            have HPT : Hid (fewP p = decide (p.root.length ≤ 60)) := by
              show _ = _
              have := HT.out
              rw [List.take_length] at this
              rw [HFP.out, HIT.out, this]; rfl
            cases hd : decide (p.root.length ≤ 60) with
            | true =>
              rw [hd] at HPT
              have e5 : decide ((p.root.length : Int) ≤ 60) = true := decide_eq_true (by have := of_decide_eq_true hd; omega)
              clear hd
              go_wp2_with fail
              go_ret
              exact ⟨ret_bool (by rw [HPT.out]), HB.out⟩
            | false =>
              rw [hd] at HPT
              have e5 : decide ((p.root.length : Int) ≤ 60) = false := decide_eq_false (by have := of_decide_eq_false hd; omega)
              clear hd
              go_wp2_with fail
              go_ret
              exact ⟨ret_bool (by rw [HPT.out]), HB.out⟩
  · have c3 : decide (12 < (p.items.length : Int)) = true := decide_eq_true (by omega)
    have c4 : decide ((p.items.length : Int) < 51) = false := decide_eq_false (by omega)
    have c5 : decide ((p.items.length : Int) ≤ 12) = false := decide_eq_false (by omega)
    rw [h2] at CF1
    clear h2
    go_enter Tryz.func13, Tryz.ntmps13
    go_wp2_with ((with_reducible refine CF1.mono ?_); rintro e w' ⟨rfl, rfl⟩)
    generalize w.alloc (.cells #[.int .i64 p.fr, .int .i64 p.size, .string (bs p.root), .slice Ai p.items.length ci, .slice Ap p.paths.length cp] 25) = w1 at *
    go_loopw [3] (fun i wr => ∃ k : Nat, i = .int .i64 (k : Int) ∧ k ≤ p.items.length ∧ wr = w1 ∧ Aside ((p.items.take k).all (fun x => decide (x.length ≤ 60)) = true)) (fun i _ => p.items.length - (intOf i).toNat)
    case atStart => exact ⟨0, rfl, by omega, rfl, rfl⟩
    case round =>
      obtain ⟨k, rfl, hk, rfl, hT⟩ := hrel
      have HT : Hid ((p.items.take k).all (fun x => decide (x.length ≤ 60)) = true) := hT
      clear hT
      by_cases hlt : k < p.items.length
      · have e1 : decide ((k : Int) < (p.items.length : Int)) = true := decide_eq_true (by omega)
        obtain ⟨x, hx⟩ : ∃ x, p.items[k]? = some x := ⟨_, List.getElem?_eq_getElem hlt⟩
        obtain ⟨a, rfl, ha, c0⟩ := HVI.out.at_ hx
        have hxl := HLI.out x (List.mem_of_getElem? hx)
        have hsz : (bs x).size = x.length := bs_size x
        by_cases hxm : x.length ≤ 60
        · have e2 : decide ((60 : Int) < (x.length : Int)) = false := decide_eq_false (by omega)
          have HN : Hid ((p.items.take (k + 1)).all (fun x => decide (x.length ≤ 60)) = true) := by show _ = _; rw [all_step hx, HT.out, decide_eq_true hxm]; rfl
          clear hx
          go_wp2_with fail
          refine ⟨⟨k + 1, by go_num, by omega, trivial, HN.out⟩, ?_⟩
          simp [intOf]; omega
        · have e2 : decide ((60 : Int) < (x.length : Int)) = true := decide_eq_true (by omega)
          have HN : Hid (fewP p = false) := by show _ = _; rw [HFP.out, all_no hx (decide_eq_false hxm)]; rfl
          clear hx
          go_wp2_with fail
          go_ret
          exact ⟨ret_bool (by rw [HN.out]), HB.out⟩
      · obtain rfl : k = p.items.length := by omega
        have e1 : decide ((p.items.length : Int) < (p.items.length : Int)) = false := by simp
        have HIT : Hid (p.items.all (fun x => decide (x.length ≤ 60)) = true) := by
          have := HT.out
          rwa [List.take_length] at this
        clear HT hlt hk
        go_wp2_with fail
        go_loopw [4] (fun i wq => ∃ k : Nat, i = .int .i64 (k : Int) ∧ k ≤ p.paths.length ∧ wq = wr ∧ Aside ((p.paths.take k).all fewQ = true)) (fun i _ => p.paths.length - (intOf i).toNat)
        case atStart => exact ⟨0, rfl, by omega, rfl, rfl⟩
        case round =>
          obtain ⟨k, rfl, hk, rfl, hT⟩ := hrel
          have HT : Hid ((p.paths.take k).all fewQ = true) := hT
          clear hT
          by_cases hlt : k < p.paths.length
          · have e3 : decide ((k : Int) < (p.paths.length : Int)) = true := decide_eq_true (by omega)
            obtain ⟨q, hq⟩ : ∃ q, p.paths[k]? = some q := ⟨_, List.getElem?_eq_getElem hlt⟩
            obtain ⟨a, vq, e0, ha, c0, htq⟩ := HVP.out.at_ hq
            subst e0
            have CQ1 := CQ q (List.mem_of_getElem? hq) vq _ htq
            have HQN : Hid (fewQ q = (decide (q.length ≤ 25) && fewT q 60)) := rfl
            have HST := hide (fun h => (all_step (f := fewQ) hq).trans (by rw [HT.out, h]; rfl) : fewQ q = true → (p.paths.take (k + 1)).all fewQ = true)
            have HNO := hide (fun h => by rw [HFP.out, all_no (f := fewQ) hq h]; simp : fewQ q = false → fewP p = false)
            obtain ⟨Aq, cq, rfl, _⟩ := htq.slice
            clear hq htq
            by_cases h25 : q.length ≤ 25
            · have e4 : decide ((25 : Int) < (q.length : Int)) = false := decide_eq_false (by omega)
              rw [decide_eq_true h25] at HQN
              generalize fewT q 60 = F at *
              cases F with
              | true =>
                go_wp2_with ((with_reducible refine CQ1.mono ?_); rintro e w' ⟨rfl, rfl⟩)
                refine ⟨⟨k + 1, by go_num, by omega, trivial, HST.out HQN.out⟩, ?_⟩
                simp [intOf]; omega
              | false =>
                go_wp2_with ((with_reducible refine CQ1.mono ?_); rintro e w' ⟨rfl, rfl⟩)
                go_ret
                exact ⟨ret_bool (by rw [HNO.out HQN.out]), HB.out⟩
            · have e4 : decide ((25 : Int) < (q.length : Int)) = true := decide_eq_true (by omega)
              rw [decide_eq_false h25] at HQN
              go_wp2_with fail
              go_ret
              exact ⟨ret_bool (by rw [HNO.out HQN.out]), HB.out⟩
          · obtain rfl : k = p.paths.length := by omega
            have e3 : decide ((p.paths.length : Int) < (p.paths.length : Int)) = false := by simp
            have HPT : Hid (fewP p = decide (p.root.length ≤ 60)) := by
              show _ = _
              have := HT.out
              rw [List.take_length] at this
              rw [HFP.out, HIT.out, this]; rfl
            cases hd : decide (p.root.length ≤ 60) with
            | true =>
              rw [hd] at HPT
              have e5 : decide ((p.root.length : Int) ≤ 60) = true := decide_eq_true (by have := of_decide_eq_true hd; omega)
              clear hd
              go_wp2_with fail
              go_ret
              exact ⟨ret_bool (by rw [HPT.out]), HB.out⟩
            | false =>
              rw [hd] at HPT
              have e5 : decide ((p.root.length : Int) ≤ 60) = false := decide_eq_false (by have := of_decide_eq_false hd; omega)
              clear hd
              go_wp2_with fail
              go_ret
              exact ⟨ret_bool (by rw [HPT.out]), HB.out⟩
theorem FewP_any (p : Pg) (hp : p.wide) (vi vp : Value) (w : World) (hvi : TextsAt w vi p.items) (hvp : PathsAt w vp p.paths) :
    Calls Tryz.prog 13 #[.agg (p.cs vi vp)] w fun e w' => e = .returned (.bool (fewP p)) ∧ Below w.heap.size w w' := by
  cases h : fewHead p with
  | true => exact FewP_main p hp h vi vp w hvi hvp
  | false => rw [few_no h]; exact FewP_head p hp h vi vp w hvi hvp
theorem few_fit {p : Pg} (h : fewP p = true) (hf : -9223372036854775808 ≤ p.fr ∧ p.fr ≤ 9223372036854775807) (hs : -9223372036854775808 ≤ p.size ∧ p.size ≤ 9223372036854775807) : p.fit ∧ p.items.length ≤ 60 ∧ (∀ x ∈ p.items, x.length ≤ 60) := by
  unfold fewP fewHead at h
  simp only [Bool.and_eq_true, Bool.or_eq_true, decide_eq_true_eq, List.all_eq_true] at h
  obtain ⟨⟨h1, h2⟩, h3, h4, h5⟩ := h
  have h6 : p.items.length ≤ 60 := by omega
  have h7 : ∀ q ∈ p.paths, q.length ≤ 25 ∧ ∀ x ∈ q, x.length ≤ 60 := fun q hq => by
    have := h4 q hq
    unfold fewQ fewT at this
    simp only [Bool.and_eq_true, decide_eq_true_eq, List.all_eq_true] at this
    exact ⟨this.1, this.2.1⟩
  exact ⟨⟨by omega, fun x hx => by have := h3 x hx; omega, by omega, fun q hq => by have := (h7 q hq).1; omega, fun q hq x hx => by have := (h7 q hq).2 x hx; omega, by omega, hf, hs⟩, h6, h3⟩
end Go.Proofs.YtfhanbiifjiklaaGreatDoor

/- Walks of the reference's Same. -/
set_option linter.unusedVariables false
set_option linter.unusedSimpArgs false
namespace Go.Proofs.YtfhanbiifjiklaaGreatDoor
open Go.RowKit

def sameH (a b : Pg) : Bool := decide (a.fr = b.fr) && (decide (a.size = b.size) && (decide (a.root = b.root) && (decide (a.items = b.items) && decide (a.paths.length = b.paths.length))))
def sameP (a b : Pg) : Bool := sameH a b && decide (a.paths = b.paths)
theorem same_iff (a b : Pg) : sameP a b = true ↔ a = b := by
  unfold sameP sameH
  simp only [Bool.and_eq_true, decide_eq_true_eq]
  constructor
  · rintro ⟨⟨h1, h2, h3, h4, _⟩, h5⟩
    cases a; cases b
    simp_all
  · rintro rfl; exact ⟨⟨rfl, rfl, rfl, rfl, rfl⟩, rfl⟩
theorem same_refl (a : Pg) : sameP a a = true := (same_iff a a).2 rfl
set_option maxRecDepth 100000 in
set_option maxHeartbeats 4000000 in
theorem PSame_no (X Y : Pg) (ha : X.wide) (hb : Y.wide) (h : sameH X Y = false) (via vpa vib vpb : Value) (w : World) (hai : TextsAt w via X.items) (hap : PathsAt w vpa X.paths) (hbi : TextsAt w vib Y.items) (hbp : PathsAt w vpb Y.paths) :
    Calls Tryz.prog 20 #[.agg (X.cs via vpa), .agg (Y.cs vib vpb)] w fun e w' => e = .returned (.bool false) ∧ Below w.heap.size w w' := by
  have CS : ∀ w' : World, Below w.heap.size w w' → Calls Tryz.prog 25 #[via, vib] w' fun e w'' => e = .returned (.bool (decide (X.items = Y.items))) ∧ Below w'.heap.size w' w'' := fun w' hw => Same_any X.items Y.items ha.ni hb.ni via vib w' (hai.to hw) (hbi.to hw)
  obtain ⟨Ai, ci, rfl, _⟩ := hai.slice
  obtain ⟨Ap, cp, rfl, _⟩ := hap.slice
  obtain ⟨Bi, di, rfl, _⟩ := hbi.slice
  obtain ⟨Bp, dp, rfl, _⟩ := hbp.slice
  have hB0 := (below_to (below_one w (.cells #[.int .i64 X.fr, .int .i64 X.size, .string (bs X.root), .slice Ai X.items.length ci, .slice Ap X.paths.length cp] 25)) (Nat.le_refl _) (below_one _ (.cells #[.int .i64 Y.fr, .int .i64 Y.size, .string (bs Y.root), .slice Bi Y.items.length di, .slice Bp Y.paths.length dp] 25)))
  have kA := (Blk.new w 25 #[.int .i64 X.fr, .int .i64 X.size, .string (bs X.root), .slice Ai X.items.length ci, .slice Ap X.paths.length cp]).alloc (.cells #[.int .i64 Y.fr, .int .i64 Y.size, .string (bs Y.root), .slice Bi Y.items.length di, .slice Bp Y.paths.length dp] 25)
  have kB := Blk.new (w.alloc (.cells #[.int .i64 X.fr, .int .i64 X.size, .string (bs X.root), .slice Ai X.items.length ci, .slice Ap X.paths.length cp] 25)) 25 #[.int .i64 Y.fr, .int .i64 Y.size, .string (bs Y.root), .slice Bi Y.items.length di, .slice Bp Y.paths.length dp]
  rw [World.size_alloc] at kB
  have HAI := hide (hai.to hB0)
  have HAP := hide (hap.to hB0)
  have HBI := hide (hbi.to hB0)
  have HBP := hide (hbp.to hB0)
  have HB := hide hB0
  have HKA := hide kA
  have HKB := hide kB
  have x0 := (kA.cell 0).trans (show _ = some (Value.int .i64 X.fr) from rfl)
  have x1 := (kA.cell 1).trans (show _ = some (Value.int .i64 X.size) from rfl)
  have x2 := (kA.cell 2).trans (show _ = some (Value.string (bs X.root)) from rfl)
  have x3 := (kA.cell 3).trans (show _ = some (Value.slice Ai X.items.length ci) from rfl)
  have x4 := (kA.cell 4).trans (show _ = some (Value.slice Ap X.paths.length cp) from rfl)
  have y0 := (kB.cell 0).trans (show _ = some (Value.int .i64 Y.fr) from rfl)
  have y1 := (kB.cell 1).trans (show _ = some (Value.int .i64 Y.size) from rfl)
  have y2 := (kB.cell 2).trans (show _ = some (Value.string (bs Y.root)) from rfl)
  have y3 := (kB.cell 3).trans (show _ = some (Value.slice Bi Y.items.length di) from rfl)
  have y4 := (kB.cell 4).trans (show _ = some (Value.slice Bp Y.paths.length dp) from rfl)
  have CS1 := CS _ hB0
  unfold sameH at h
  have h1 : (X.fr != Y.fr) = !decide (X.fr = Y.fr) := rfl
  have h2 : (X.size != Y.size) = !decide (X.size = Y.size) := rfl
  have h3 : ((bs X.root).toList == (bs Y.root).toList) = decide (X.root = Y.root) := by rw [bs_toList, bs_toList, Bool.eq_iff_iff]; simp
  have h4 : ((X.paths.length : Int) != (Y.paths.length : Int)) = !decide (X.paths.length = Y.paths.length) := congrArg not (decide_eq_decide.2 (by omega))
  unfold Pg.cs
  clear hai hap hbi hbp ha hb kA kB CS hB0
  generalize decide (X.fr = Y.fr) = b1 at *
  generalize decide (X.size = Y.size) = b2 at *
  generalize decide (X.root = Y.root) = b3 at *
  generalize decide (X.items = Y.items) = b4 at *
  generalize decide (X.paths.length = Y.paths.length) = b5 at *
  cases b1
  rotate_left
  cases b2
  rotate_left
  cases b3
  rotate_left
  cases b4
  rotate_left
  cases b5
  rotate_left
  · cases h
  all_goals (try simp only [Bool.not_false, Bool.not_true] at h1)
  all_goals (try simp only [Bool.not_false, Bool.not_true] at h2)
  all_goals (try simp only [Bool.not_false, Bool.not_true] at h4)
  all_goals
    go_enter Tryz.func20, Tryz.ntmps20
    go_wp2_with ((with_reducible refine CS1.mono ?_); rintro e w' ⟨rfl, hb⟩; have HB2 := hide (below_to HB.out (Nat.le_refl _) hb); have x4' := (hb.cell (p := ⟨w.heap.size, 4, none⟩) HKA.out.lt).trans x4; have y4' := (hb.cell (p := ⟨w.heap.size + 1, 4, none⟩) HKB.out.lt).trans y4; clear hb)
    go_ret
    first
      | exact ⟨rfl, HB.out⟩
      | exact ⟨rfl, HB2.out⟩
set_option maxRecDepth 100000 in
set_option maxHeartbeats 4000000 in
theorem PSame_yes (X Y : Pg) (ha : X.wide) (hb : Y.wide) (h : sameH X Y = true) (via vpa vib vpb : Value) (w : World) (hai : TextsAt w via X.items) (hap : PathsAt w vpa X.paths) (hbi : TextsAt w vib Y.items) (hbp : PathsAt w vpb Y.paths) :
    Calls Tryz.prog 20 #[.agg (X.cs via vpa), .agg (Y.cs vib vpb)] w fun e w' => e = .returned (.bool (decide (X.paths = Y.paths))) ∧ Below w.heap.size w w' := by
  have CS : ∀ w' : World, Below w.heap.size w w' → Calls Tryz.prog 25 #[via, vib] w' fun e w'' => e = .returned (.bool (decide (X.items = Y.items))) ∧ Below w'.heap.size w' w'' := fun w' hw => Same_any X.items Y.items ha.ni hb.ni via vib w' (hai.to hw) (hbi.to hw)
  have CQ := fun (q r : List (List UInt8)) (hq : q ∈ X.paths) (hr : r ∈ Y.paths) (v u : Value) (w' : World) (hv : TextsAt w' v q) (hu : TextsAt w' u r) => Same_any q r (ha.nq q hq) (hb.nq r hr) v u w' hv hu
  obtain ⟨Ai, ci, rfl, _⟩ := hai.slice
  obtain ⟨Ap, cp, rfl, _⟩ := hap.slice
  obtain ⟨Bi, di, rfl, _⟩ := hbi.slice
  obtain ⟨Bp, dp, rfl, _⟩ := hbp.slice
  have hB0 := (below_to (below_one w (.cells #[.int .i64 X.fr, .int .i64 X.size, .string (bs X.root), .slice Ai X.items.length ci, .slice Ap X.paths.length cp] 25)) (Nat.le_refl _) (below_one _ (.cells #[.int .i64 Y.fr, .int .i64 Y.size, .string (bs Y.root), .slice Bi Y.items.length di, .slice Bp Y.paths.length dp] 25)))
  have kA := (Blk.new w 25 #[.int .i64 X.fr, .int .i64 X.size, .string (bs X.root), .slice Ai X.items.length ci, .slice Ap X.paths.length cp]).alloc (.cells #[.int .i64 Y.fr, .int .i64 Y.size, .string (bs Y.root), .slice Bi Y.items.length di, .slice Bp Y.paths.length dp] 25)
  have kB := Blk.new (w.alloc (.cells #[.int .i64 X.fr, .int .i64 X.size, .string (bs X.root), .slice Ai X.items.length ci, .slice Ap X.paths.length cp] 25)) 25 #[.int .i64 Y.fr, .int .i64 Y.size, .string (bs Y.root), .slice Bi Y.items.length di, .slice Bp Y.paths.length dp]
  rw [World.size_alloc] at kB
  have HAI := hide (hai.to hB0)
  have HAP := hide (hap.to hB0)
  have HBI := hide (hbi.to hB0)
  have HBP := hide (hbp.to hB0)
  have HB := hide hB0
  have HKA := hide kA
  have HKB := hide kB
  have x0 := (kA.cell 0).trans (show _ = some (Value.int .i64 X.fr) from rfl)
  have x1 := (kA.cell 1).trans (show _ = some (Value.int .i64 X.size) from rfl)
  have x2 := (kA.cell 2).trans (show _ = some (Value.string (bs X.root)) from rfl)
  have x3 := (kA.cell 3).trans (show _ = some (Value.slice Ai X.items.length ci) from rfl)
  have x4 := (kA.cell 4).trans (show _ = some (Value.slice Ap X.paths.length cp) from rfl)
  have y0 := (kB.cell 0).trans (show _ = some (Value.int .i64 Y.fr) from rfl)
  have y1 := (kB.cell 1).trans (show _ = some (Value.int .i64 Y.size) from rfl)
  have y2 := (kB.cell 2).trans (show _ = some (Value.string (bs Y.root)) from rfl)
  have y3 := (kB.cell 3).trans (show _ = some (Value.slice Bi Y.items.length di) from rfl)
  have y4 := (kB.cell 4).trans (show _ = some (Value.slice Bp Y.paths.length dp) from rfl)
  have CS1 := CS _ hB0
  unfold sameH at h
  simp only [Bool.and_eq_true, decide_eq_true_eq] at h
  obtain ⟨g1, g2, g3, g4, g5⟩ := h
  have h1 : (X.fr != Y.fr) = false := by rw [bne_eq_false_iff_eq]; exact g1
  have h2 : (X.size != Y.size) = false := by rw [bne_eq_false_iff_eq]; exact g2
  have h3 : ((bs X.root).toList == (bs Y.root).toList) = true := by rw [beq_iff_eq, g3]
  have h4 : ((X.paths.length : Int) != (Y.paths.length : Int)) = false := by rw [bne_eq_false_iff_eq, g5]
  rw [decide_eq_true g4] at CS1
  have HG5 := hide g5
  have hpn := ha.np
  unfold Pg.cs
  clear hai hap hbi hbp ha hb kA kB CS hB0 g1 g2 g3 g4 g5
  go_enter Tryz.func20, Tryz.ntmps20
  go_wp2_with ((with_reducible refine CS1.mono ?_); rintro e w2 ⟨rfl, hb⟩; have HB2 := hide (below_to HB.out (Nat.le_refl _) hb); have HKA1 := hide (HKA.out.to hb); have HKB1 := hide (HKB.out.to hb); have HAP1 := hide (HAP.out.to hb); have HBP1 := hide (HBP.out.to hb); have x4' := (hb.cell (p := ⟨w.heap.size, 4, none⟩) HKA.out.lt).trans x4; have y4' := (hb.cell (p := ⟨w.heap.size + 1, 4, none⟩) HKB.out.lt).trans y4; clear hb)
  replace HB := HB2
  clear HB2 HKA HKB HAP HBP HAI HBI x0 x1 x2 x3 x4 y0 y1 y2 y3 y4 CS1 h1 h2 h3 h4
  have hL := HG5.out
  rw [← hL] at HKB1 HBP1 y4' ⊢
  clear hL
  go_loopw [5] (fun i wr => ∃ k : Nat, i = .int .i64 (k : Int) ∧ k ≤ X.paths.length ∧ Aside (Below w2.heap.size w2 wr) ∧ Aside (X.paths.take k = Y.paths.take k)) (fun i _ => X.paths.length - (intOf i).toNat)
  case atStart => exact ⟨0, rfl, by omega, Below.refl _ _, rfl⟩
  case round =>
    obtain ⟨k, rfl, hk, hBr, hT⟩ := hrel
    have HBr : Hid (Below w2.heap.size w2 wr) := hBr
    have HT : Hid (X.paths.take k = Y.paths.take k) := hT
    clear hBr hT
    have HKA2 := hide (HKA1.out.to HBr.out)
    have HKB2 := hide (HKB1.out.to HBr.out)
    have z4 := (HKA2.out.cell 4).trans (show _ = some (Value.slice Ap X.paths.length cp) from rfl)
    by_cases hlt : k < X.paths.length
    · have e1 : decide ((k : Int) < (X.paths.length : Int)) = true := decide_eq_true (by omega)
      obtain ⟨q, hq⟩ : ∃ q, X.paths[k]? = some q := ⟨_, List.getElem?_eq_getElem hlt⟩
      obtain ⟨r, hr⟩ : ∃ r, Y.paths[k]? = some r := ⟨_, List.getElem?_eq_getElem (by have := HG5.out; omega)⟩
      obtain ⟨pa, vq, e2, hla, cA, htq⟩ := (HAP1.out.to HBr.out).at_ hq
      obtain ⟨pb, vr, e3, hlb, cB, htr⟩ := (HBP1.out.to HBr.out).at_ hr
      subst e2 e3
      have CS := fun (w' : World) (h1 : TextsAt w' vq q) (h2 : TextsAt w' vr r) => CQ q r (List.mem_of_getElem? hq) (List.mem_of_getElem? hr) vq vr w' h1 h2
      have HTA := hide htq
      have HTB := hide htr
      have HNX := hide (fun h => by rw [List.take_add_one, List.take_add_one, hq, hr, HT.out, of_decide_eq_true h] : decide (q = r) = true → X.paths.take (k + 1) = Y.paths.take (k + 1))
      have HNO := hide (fun h => decide_eq_false (fun e => by
        rw [e] at hq
        exact of_decide_eq_false h (Option.some.inj (hq.symm.trans hr))) : decide (q = r) = false → decide (X.paths = Y.paths) = false)
      have hk0 : (0 : Int) ≤ (k : Int) := by omega
      have hk1 : (k : Int) < (X.paths.length : Int) := by omega
      obtain ⟨B, HQ⟩ : ∃ B, Hid (decide (q = r) = B) := ⟨_, rfl⟩
      rw [HQ.out] at CS
      clear hq hr htq htr
      obtain ⟨U, hU, g, u0, rfl, hgu, hi⟩ := cls wr
      have kx := fun u => ((HKA2.out.to (hgu u)).cell 4).trans (show _ = some (Value.slice (some pa) X.paths.length cp) from rfl)
      have ky := fun u => ((HKB2.out.to (hgu u)).cell 4).trans (show _ = some (Value.slice (some pb) X.paths.length dp) from rfl)
      have cx := fun u => ((hgu u).cell (p := pa.add k) (by rw [block_of_add]; exact hla)).trans cA
      have cy := fun u => ((hgu u).cell (p := pb.add k) (by rw [block_of_add]; exact hlb)).trans cB
      go_wp2_with fail
      apply wp_region_looseG g (V := [some _, some _, some _, some _, some _, some _, some _, some _, some _, some _, some _, some _]) (Fs := []) (Rel := fun _ w w' => Below w.heap.size w w')
      case hm => kernel_rfl
      case hB => kernel_rfl
      case hCw => exact hi _ (hgu _).drew
      case hC =>
        rintro i uq w' hr
        exact hi _ (below_to (hgu uq) (Nat.le_refl _) hr)
      case hst =>
        exact keeps_nil
      case hop =>
        refine ⟨?_, ?_, ?_, ?_, ?_, ?_, ?_, ?_, ?_, ?_, ?_, ?_, trivial⟩
        · intro a uq K hS hd hK
          have s2 := hS.at 2 (by kernel_rfl) rfl
          rw [if_pos (want_free rfl)]
          go_simp
          exact hK _ _ (Below.refl _ _) (vok rfl) facts_nil
        · intro a uq K hS hd hK
          have s49 := (waits_on hd 0 (by kernel_rfl)).at (d := 49) rfl rfl rfl
          rw [if_pos (want_free rfl)]
          have c := kx uq
          go_simp
          exact hK _ _ (Below.refl _ _) (vok rfl) facts_nil
        · intro a uq K hS hd hK
          have s5 := hS.at 5 (by kernel_rfl) rfl
          rw [if_pos (want_free rfl)]
          go_simp
          exact hK _ _ (Below.refl _ _) (vok rfl) facts_nil
        · intro a uq K hS hd hK
          have s50 := (waits_on hd 1 (by kernel_rfl)).at (d := 50) rfl rfl rfl
          have s51 := (waits_on hd 2 (by kernel_rfl)).at (d := 51) rfl rfl rfl
          rw [if_pos (want_free rfl)]
          go_simp
          exact hK _ _ (Below.refl _ _) (vok rfl) facts_nil
        · intro a uq K hS hd hK
          have s52 := (waits_on hd 3 (by kernel_rfl)).at (d := 52) rfl rfl rfl
          rw [if_pos (want_free rfl)]
          have c := cx uq
          go_simp
          exact hK _ _ (Below.refl _ _) (vok rfl) facts_nil
        · intro a uq K hS hd hK
          have s3 := hS.at 3 (by kernel_rfl) rfl
          rw [if_pos (want_free rfl)]
          go_simp
          exact hK _ _ (Below.refl _ _) (vok rfl) facts_nil
        · intro a uq K hS hd hK
          have s54 := (waits_on hd 5 (by kernel_rfl)).at (d := 54) rfl rfl rfl
          rw [if_pos (want_free rfl)]
          have c := ky uq
          go_simp
          exact hK _ _ (Below.refl _ _) (vok rfl) facts_nil
        · intro a uq K hS hd hK
          have s5 := hS.at 5 (by kernel_rfl) rfl
          rw [if_pos (want_free rfl)]
          go_simp
          exact hK _ _ (Below.refl _ _) (vok rfl) facts_nil
        · intro a uq K hS hd hK
          have s55 := (waits_on hd 6 (by kernel_rfl)).at (d := 55) rfl rfl rfl
          have s56 := (waits_on hd 7 (by kernel_rfl)).at (d := 56) rfl rfl rfl
          rw [if_pos (want_free rfl)]
          go_simp
          exact hK _ _ (Below.refl _ _) (vok rfl) facts_nil
        · intro a uq K hS hd hK
          have s57 := (waits_on hd 8 (by kernel_rfl)).at (d := 57) rfl rfl rfl
          rw [if_pos (want_free rfl)]
          have c := cy uq
          go_simp
          exact hK _ _ (Below.refl _ _) (vok rfl) facts_nil
        · intro a uq K hS hd hK
          have s53 := (waits_on hd 4 (by kernel_rfl)).at (d := 53) rfl rfl rfl
          have s58 := (waits_on hd 9 (by kernel_rfl)).at (d := 58) rfl rfl rfl
          rw [if_pos (want_free rfl)]
          go_simp
          with_reducible refine (CS (g uq) (HTA.out.to (hgu uq)) (HTB.out.to (hgu uq))).mono ?_
          rintro e w' ⟨rfl, hb⟩
          exact hK _ _ hb (vok rfl) facts_nil
        · intro a uq K hS hd hK
          have s59 := (waits_on hd 10 (by kernel_rfl)).at (d := 59) rfl rfl rfl
          rw [if_pos (want_free rfl)]
          go_simp
          exact hK _ _ (Below.refl _ _) (vok rfl) facts_nil
      case hfin =>
        intro a uq hS hk
        have s49 := (hk 0 (by decide)).at (d := 49) rfl rfl rfl
        have s50 := (hk 1 (by decide)).at (d := 50) rfl rfl rfl
        have s51 := (hk 2 (by decide)).at (d := 51) rfl rfl rfl
        have s52 := (hk 3 (by decide)).at (d := 52) rfl rfl rfl
        have s53 := (hk 4 (by decide)).at (d := 53) rfl rfl rfl
        have s54 := (hk 5 (by decide)).at (d := 54) rfl rfl rfl
        have s55 := (hk 6 (by decide)).at (d := 55) rfl rfl rfl
        have s56 := (hk 7 (by decide)).at (d := 56) rfl rfl rfl
        have s57 := (hk 8 (by decide)).at (d := 57) rfl rfl rfl
        have s58 := (hk 9 (by decide)).at (d := 58) rfl rfl rfl
        have s59 := (hk 10 (by decide)).at (d := 59) rfl rfl rfl
        have s60 := (hk 11 (by decide)).at (d := 60) rfl rfl rfl
        have hlit := hS.lit _ (by kernel_rfl) (lits_cons s49 (lits_cons s50 (lits_cons s51 (lits_cons s52 (lits_cons s53 (lits_cons s54 (lits_cons s55 (lits_cons s56 (lits_cons s57 (lits_cons s58 (lits_cons s59 (lits_cons s60 lits_nil))))))))))))
        rw [hlit]
        clear hlit hk hS s49 s50 s51 s52 s53 s54 s55 s56 s57 s58 s59 s60
        simp only [litT, List.setIfInBounds_toArray, List.set_cons_succ, List.set_cons_zero]
        have HBq := hide (below_to HBr.out (Nat.le_refl _) (hgu uq))
        cases B with
        | true =>
          go_wp2_with fail
          refine ⟨⟨k + 1, by go_num, by omega, HBq.out, HNX.out HQ.out⟩, ?_⟩
          simp [intOf]; omega
        | false =>
          go_wp2_with fail
          go_ret
          exact ⟨ret_bool (by rw [HNO.out HQ.out]), below_to HB.out (Nat.le_refl _) HBq.out⟩
    · obtain rfl : k = X.paths.length := by omega
      have e1 : decide ((X.paths.length : Int) < (X.paths.length : Int)) = false := by simp
      have HN : Hid (decide (X.paths = Y.paths) = true) := by
        show _ = _
        apply decide_eq_true
        have := HT.out
        rwa [List.take_length, HG5.out, List.take_length] at this
      go_wp2_with fail
      go_ret
      exact ⟨ret_bool (by rw [HN.out]), below_to HB.out (Nat.le_refl _) HBr.out⟩
theorem PSame_any (X Y : Pg) (ha : X.wide) (hb : Y.wide)  (via vpa vib vpb : Value) (w : World) (hai : TextsAt w via X.items) (hap : PathsAt w vpa X.paths) (hbi : TextsAt w vib Y.items) (hbp : PathsAt w vpb Y.paths) :
    Calls Tryz.prog 20 #[.agg (X.cs via vpa), .agg (Y.cs vib vpb)] w fun e w' => e = .returned (.bool (sameP X Y)) ∧ Below w.heap.size w w' := by
  cases h : sameH X Y with
  | false =>
    rw [show sameP X Y = false by unfold sameP; rw [h]; rfl]
    exact PSame_no X Y ha hb h via vpa vib vpb w hai hap hbi hbp
  | true =>
    rw [show sameP X Y = decide (X.paths = Y.paths) by unfold sameP; rw [h]; rfl]
    exact PSame_yes X Y ha hb h via vpa vib vpb w hai hap hbi hbp
end Go.Proofs.YtfhanbiifjiklaaGreatDoor

/- The walk of the statements' examples: head. -/
set_option linter.unusedVariables false
set_option linter.unusedSimpArgs false
namespace Go.Proofs.YtfhanbiifjiklaaGreatDoor
open Go.RowKit

def abc : List (List UInt8) := [[97], [98], [99]]
def hP : Pg := pageV abc 1 1
def hQ : Pg := pageV abc 0 2
def hR : List UInt8 := totalT (leavesV abc)
def hF : Pg := { hP with items := [[120]] }
set_option maxRecDepth 100000 in
theorem head_serve : serveB abc 1 1 = true ∧ serveB abc 0 2 = true ∧ newB hR 3 = true := by decide +kernel
set_option maxRecDepth 100000 in
theorem head_acc : accE hP hR 3 [] = 13 ∧ accV hP hR 3 [] = [] ∧ accE hQ hR 3 [] = 0 ∧ accV hQ hR 3 [] = [[97], [98]] ∧ accE hP hR 3 [[97], [98]] = 0 ∧ accV hP hR 3 [[97], [98]] = [[97], [98]] ∧ accE hF hR 3 [[97], [98]] = 17 ∧ accV hF hR 3 [[97], [98]] = [[97], [98]] := by decide +kernel
set_option maxRecDepth 100000 in
theorem head_text : textE hP = 0 ∧ parseE (textV hP ++ [10]) = 5 ∧ (textV hP ++ [10]).length ≤ 100000 ∧ hP.items = [[98]] ∧ hP.paths.length = 1 := by decide +kernel
set_option maxRecDepth 100000 in
theorem head_small : (∀ q ∈ hP.paths, q.length ≤ 200000 ∧ ∀ x ∈ q, x.length ≤ 100000) ∧ (∀ q ∈ hQ.paths, q.length ≤ 200000 ∧ ∀ x ∈ q, x.length ≤ 100000) ∧ hR.length ≤ 100000 ∧ hQ.items = [[97], [98]] ∧ hQ.paths.length ≤ 1000 := by decide +kernel
theorem hP_fit : hP.fit := ⟨by rw [head_text.2.2.2.1]; decide, by rw [head_text.2.2.2.1]; decide, by rw [head_text.2.2.2.2]; decide, fun q h => (head_small.1 q h).1, fun q h => (head_small.1 q h).2, head_small.2.2.1, by decide, by decide⟩
theorem hF_fit : hF.fit := ⟨by decide, by decide, hP_fit.np, hP_fit.nq, hP_fit.lq, hP_fit.lr, by decide, by decide⟩
theorem hQ_fit : hQ.fit := ⟨by rw [head_small.2.2.2.1]; decide, by rw [head_small.2.2.2.1]; decide, head_small.2.2.2.2, fun q h => (head_small.2.1 q h).1, fun q h => (head_small.2.1 q h).2, head_small.2.2.1, by decide, by decide⟩
end Go.Proofs.YtfhanbiifjiklaaGreatDoor

/- The walk of the statements' examples: head. -/
set_option linter.unusedVariables false
set_option linter.unusedSimpArgs false
namespace Go.Proofs.YtfhanbiifjiklaaGreatDoor
open Go.RowKit

/-- what the examples keep -/
structure HdI (w : World) (bP bQ b lo1 hi1 lo2 hi2 : Nat) (vi vp ui up : Value) (its : List (List UInt8)) (v : Value) (W : World) : Prop where
  bel : Below w.heap.size w W
  boxP : Blk W bP 25 (hP.cs vi vp)
  boxQ : Blk W bQ 25 (hQ.cs ui up)
  pgP : PgAt lo1 hi1 W vi vp hP
  pgQ : PgAt lo2 hi2 W ui up hQ
  cli : CliAt b hR 3 its v W
  ord : w.heap.size ≤ b ∧ bP < b ∧ bQ < b ∧ hi1 ≤ b ∧ hi2 ≤ b
section
variable {w W W' : World} {bP bQ b lo1 hi1 lo2 hi2 : Nat} {vi vp ui up v v' : Value} {its its' : List (List UInt8)}
theorem HdI.to (h : HdI w bP bQ b lo1 hi1 lo2 hi2 vi vp ui up its v W) (hb : Below W.heap.size W W') : HdI w bP bQ b lo1 hi1 lo2 hi2 vi vp ui up its v W' :=
  ⟨below_to h.bel (Nat.le_refl _) hb, h.boxP.to hb, h.boxQ.to hb, h.pgP.to hb, h.pgQ.to hb, h.cli.to hb, h.ord⟩
theorem rowOr_le {v : Value} {b n : Nat} (h : ∀ g, v.ownBlock = some g → n ≤ g) (hb : n ≤ b) : n ≤ rowOr v b := by
  unfold rowOr
  cases e : v.ownBlock with
  | none => exact hb
  | some g => exact h g e
theorem HdI.acc (h : HdI w bP bQ b lo1 hi1 lo2 hi2 vi vp ui up its v W) (hT : Two b (rowOr v b) W W') (hc : CliAt b hR 3 its' v' W') : HdI w bP bQ b lo1 hi1 lo2 hi2 vi vp ui up its' v' W' := by
  have ho := h.ord
  have hr : b ≤ rowOr v b := rowOr_le (fun g e => by have := (h.cli.lt g e).1; omega) (Nat.le_refl _)
  exact ⟨h.bel.trans (hT.below h.bel.size ho.1 (Nat.le_trans ho.1 hr)), hT.blk h.boxP (by omega) (by omega), hT.blk h.boxQ (by omega) (by omega), h.pgP.two hT (.inr ho.2.2.2.1) (.inr (by omega)), h.pgQ.two hT (.inr ho.2.2.2.2) (.inr (by omega)), hc, ho⟩
theorem HdI.farP (h : HdI w bP bQ b lo1 hi1 lo2 hi2 vi vp ui up its v W) : vi.ownBlock ≠ some b ∧ ∀ g, v.ownBlock = some g → vi.ownBlock ≠ some g := by
  have ho := h.ord
  exact ⟨fun e => by have := h.pgP.bi b e; omega, fun g e e2 => by have := h.pgP.bi g e2; have := (h.cli.lt g e).1; omega⟩
theorem HdI.farQ (h : HdI w bP bQ b lo1 hi1 lo2 hi2 vi vp ui up its v W) : ui.ownBlock ≠ some b ∧ ∀ g, v.ownBlock = some g → ui.ownBlock ≠ some g := by
  have ho := h.ord
  exact ⟨fun e => by have := h.pgQ.bi b e; omega, fun g e e2 => by have := h.pgQ.bi g e2; have := (h.cli.lt g e).1; omega⟩
end
set_option maxRecDepth 100000 in
set_option maxHeartbeats 4000000 in
theorem head_any (w : World) (hg : Glob w) : Calls Tryz.prog 11 #[] w fun e w' => e = .returned (.bool true) ∧ Below w.heap.size w w' := by
  have HG := hide hg
  clear hg
  go_enter Tryz.func11, Tryz.ntmps11
  go_wp2_with fail
  have HB1 := hide (below_one w (.cells #[.string ⟨#[97]⟩, .string ⟨#[98]⟩, .string ⟨#[99]⟩] 9))
  have HL1 : Hid (TextsAt (w.alloc (.cells #[.string ⟨#[97]⟩, .string ⟨#[98]⟩, .string ⟨#[99]⟩] 9)) (.slice (some ⟨w.heap.size, 0, none⟩) 3 3) abc) := TextsAt.of_blk (ls := abc) (Blk.new w 9 _) rfl
  generalize w.alloc (.cells #[.string ⟨#[97]⟩, .string ⟨#[98]⟩, .string ⟨#[99]⟩] 9) = w1 at *
  have C1 : Calls Tryz.prog 14 #[.slice (some ⟨w.heap.size, 0, none⟩) 3 3, .int .i64 1, .int .i64 1] w1 (ServeR hP 0 w1) := Serve_yes abc (by decide) (by decide) 1 1 head_serve.1 _ w1 (HG.out.to HB1.out) HL1.out
  refine C1.mono ?_
  rintro e w2 ⟨vi, vp, rfl, hpg, hb⟩
  have HP2 := hide hpg
  have HB2 := hide (below_to HB1.out (Nat.le_refl _) hb)
  have HL2 := hide (HL1.out.to hb)
  obtain ⟨Ai, ci, rfl, _⟩ := hpg.ti.slice
  obtain ⟨Ap, cp, rfl, _⟩ := hpg.tp.slice
  clear hb hpg C1 HB1 HL1
  unfold Pg.cs
  go_wp2_with fail
  have HB3 := hide (below_alloc HB2.out (Nat.le_refl _) (.cells #[.int .i64 hP.fr, .int .i64 hP.size, .string (bs hP.root), .slice Ai hP.items.length ci, .slice Ap hP.paths.length cp] 25))
  have HL3 := hide (HL2.out.to (below_one w2 (.cells #[.int .i64 hP.fr, .int .i64 hP.size, .string (bs hP.root), .slice Ai hP.items.length ci, .slice Ap hP.paths.length cp] 25)))
  have HP3 := hide (HP2.out.to (below_one w2 (.cells #[.int .i64 hP.fr, .int .i64 hP.size, .string (bs hP.root), .slice Ai hP.items.length ci, .slice Ap hP.paths.length cp] 25)))
  have HX3 := hide (Blk.new w2 25 #[.int .i64 hP.fr, .int .i64 hP.size, .string (bs hP.root), .slice Ai hP.items.length ci, .slice Ap hP.paths.length cp])
  have hs3 : (w2.alloc (.cells #[.int .i64 hP.fr, .int .i64 hP.size, .string (bs hP.root), .slice Ai hP.items.length ci, .slice Ap hP.paths.length cp] 25)).heap.size = w2.heap.size + 1 := by simp
  generalize w2.alloc (.cells #[.int .i64 hP.fr, .int .i64 hP.size, .string (bs hP.root), .slice Ai hP.items.length ci, .slice Ap hP.paths.length cp] 25) = w3 at *
  clear HB2 HL2 HP2
  have C2 : Calls Tryz.prog 14 #[.slice (some ⟨w.heap.size, 0, none⟩) 3 3, .int .i64 0, .int .i64 2] w3 (ServeR hQ 0 w3) := Serve_yes abc (by decide) (by decide) 0 2 head_serve.2.1 _ w3 (HG.out.to HB3.out) HL3.out
  refine C2.mono ?_
  rintro e w4 ⟨ui, up, rfl, hpg, hb⟩
  have HQ4 := hide hpg
  have HB4 := hide (below_to HB3.out (Nat.le_refl _) hb)
  have HL4 := hide (HL3.out.to hb)
  have HP4 := hide (HP3.out.to hb)
  have HX4 := hide (HX3.out.to hb)
  have hs4 := hb.size
  obtain ⟨Bi, di, rfl, _⟩ := hpg.ti.slice
  obtain ⟨Bp, dp, rfl, _⟩ := hpg.tp.slice
  clear hb hpg C2 HB3 HL3 HP3 HX3
  unfold Pg.cs
  go_wp2_with fail
  have HB5 := hide (below_alloc HB4.out (Nat.le_refl _) (.cells #[.int .i64 hQ.fr, .int .i64 hQ.size, .string (bs hQ.root), .slice Bi hQ.items.length di, .slice Bp hQ.paths.length dp] 25))
  have HL5 := hide (HL4.out.to (below_one w4 (.cells #[.int .i64 hQ.fr, .int .i64 hQ.size, .string (bs hQ.root), .slice Bi hQ.items.length di, .slice Bp hQ.paths.length dp] 25)))
  have HP5 := hide (HP4.out.to (below_one w4 (.cells #[.int .i64 hQ.fr, .int .i64 hQ.size, .string (bs hQ.root), .slice Bi hQ.items.length di, .slice Bp hQ.paths.length dp] 25)))
  have HQ5 := hide (HQ4.out.to (below_one w4 (.cells #[.int .i64 hQ.fr, .int .i64 hQ.size, .string (bs hQ.root), .slice Bi hQ.items.length di, .slice Bp hQ.paths.length dp] 25)))
  have HX5 := hide (HX4.out.alloc (.cells #[.int .i64 hQ.fr, .int .i64 hQ.size, .string (bs hQ.root), .slice Bi hQ.items.length di, .slice Bp hQ.paths.length dp] 25))
  have HY5 := hide (Blk.new w4 25 #[.int .i64 hQ.fr, .int .i64 hQ.size, .string (bs hQ.root), .slice Bi hQ.items.length di, .slice Bp hQ.paths.length dp])
  have hs5 : (w4.alloc (.cells #[.int .i64 hQ.fr, .int .i64 hQ.size, .string (bs hQ.root), .slice Bi hQ.items.length di, .slice Bp hQ.paths.length dp] 25)).heap.size = w4.heap.size + 1 := by simp
  generalize w4.alloc (.cells #[.int .i64 hQ.fr, .int .i64 hQ.size, .string (bs hQ.root), .slice Bi hQ.items.length di, .slice Bp hQ.paths.length dp] 25) = w5 at *
  clear HB4 HL4 HP4 HQ4 HX4
  have C3 : Calls Tryz.prog 22 #[.slice (some ⟨w.heap.size, 0, none⟩) 3 3] w5 fun e w' => e = .returned (.string (bs hR)) ∧ Below w5.heap.size w5 w' := root_any abc (by decide) (by decide) _ w5 HL5.out (HG.out.to HB5.out)
  refine C3.mono ?_
  rintro e w6 ⟨rfl, hb⟩
  have HB6 := hide (below_to HB5.out (Nat.le_refl _) hb)
  have HP6 := hide (HP5.out.to hb)
  have HQ6 := hide (HQ5.out.to hb)
  have HX6 := hide (HX5.out.to hb)
  have HY6 := hide (HY5.out.to hb)
  have hs6 := hb.size
  clear hb C3 HB5 HL5 HP5 HQ5 HX5 HY5
  go_wp2_with fail
  have C4 := New_any hR head_small.2.2.1 3 w6 (HG.out.to HB6.out)
  unfold NewR at C4
  simp only [head_serve.2.2, if_true] at C4
  unfold cliP at C4
  refine C4.mono ?_
  rintro e w7 ⟨⟨b, rfl, hbb, hcl⟩, hb⟩
  have H7 : Hid (HdI w w2.heap.size w4.heap.size b w1.heap.size w2.heap.size w3.heap.size w4.heap.size (.slice Ai hP.items.length ci) (.slice Ap hP.paths.length cp) (.slice Bi hQ.items.length di) (.slice Bp hQ.paths.length dp) [] (.slice none 0 0) w7) :=
    ⟨below_to HB6.out (Nat.le_refl _) hb, HX6.out.to hb, HY6.out.to hb, HP6.out.to hb, HQ6.out.to hb, hcl, by have := HB6.out.size; have h1 := HX6.out.lt; have h2 := HY6.out.lt; exact ⟨by omega, by omega, by omega, by omega, by omega⟩⟩
  clear hb hcl C4 HB6 HP6 HQ6 HX6 HY6
  have hi1 : ((hP.items.length : Int) != 1) = false := by rw [head_text.2.2.2.1]; rfl
  have hi2 : ((hP.paths.length : Int) != 1) = false := by rw [head_text.2.2.2.2]; rfl
  have px := fun i => H7.out.boxP.cell i
  unfold Pg.cs at px
  have p0 := (px 0).trans (show _ = some (Value.int .i64 hP.fr) from rfl)
  have p1 := (px 1).trans (show _ = some (Value.int .i64 hP.size) from rfl)
  have p2 := (px 2).trans (show _ = some (Value.string (bs hP.root)) from rfl)
  have p3 := (px 3).trans (show _ = some (Value.slice Ai hP.items.length ci) from rfl)
  have p4 := (px 4).trans (show _ = some (Value.slice Ap hP.paths.length cp) from rfl)
  clear px
  go_wp2_with fail
  -- @MARK
  have C8 := Accept_any b hR 3 [] (by decide) (.slice none 0 0) hP hP_fit (.slice Ai hP.items.length ci) (.slice Ap hP.paths.length cp) w7 (HG.out.to H7.out.bel) H7.out.cli H7.out.pgP.ti H7.out.pgP.tp (fun _ => H7.out.farP.1) (fun g e _ => H7.out.farP.2 g e)
  rw [head_acc.1, head_acc.2.1] at C8
  unfold AcceptR Pg.cs cliP at C8
  refine C8.mono ?_
  rintro e w8 ⟨v8, rfl, hc, hT, _⟩
  have H8 := hide (H7.out.acc hT hc)
  clear hc hT C8 H7
  clear p0 p1 p2 p3 p4
  have px := fun i => H8.out.boxQ.cell i
  unfold Pg.cs at px
  have q0 := (px 0).trans (show _ = some (Value.int .i64 hQ.fr) from rfl)
  have q1 := (px 1).trans (show _ = some (Value.int .i64 hQ.size) from rfl)
  have q2 := (px 2).trans (show _ = some (Value.string (bs hQ.root)) from rfl)
  have q3 := (px 3).trans (show _ = some (Value.slice Bi hQ.items.length di) from rfl)
  have q4 := (px 4).trans (show _ = some (Value.slice Bp hQ.paths.length dp) from rfl)
  clear px
  go_wp2_with fail
  have C9 := Accept_any b hR 3 [] (by decide) v8 hQ hQ_fit (.slice Bi hQ.items.length di) (.slice Bp hQ.paths.length dp) w8 (HG.out.to H8.out.bel) H8.out.cli H8.out.pgQ.ti H8.out.pgQ.tp (fun _ => H8.out.farQ.1) (fun g e _ => H8.out.farQ.2 g e)
  rw [head_acc.2.2.1, head_acc.2.2.2.1] at C9
  unfold AcceptR Pg.cs cliP at C9
  refine C9.mono ?_
  rintro e w9 ⟨v9, rfl, hc, hT, _⟩
  have H9 := hide (H8.out.acc hT hc)
  clear hc hT C9 H8
  clear q0 q1 q2 q3 q4
  have C10 := Next_any b hR 3 [[97], [98]] (by decide) v9 w9 H9.out.cli
  unfold cliP at C10
  go_wp2_with fail
  refine C10.mono ?_
  rintro e w10 ⟨rfl, hb⟩
  have H10 := hide (H9.out.to hb)
  clear hb C10 H9
  have px := fun i => H10.out.boxP.cell i
  unfold Pg.cs at px
  have p0 := (px 0).trans (show _ = some (Value.int .i64 hP.fr) from rfl)
  have p1 := (px 1).trans (show _ = some (Value.int .i64 hP.size) from rfl)
  have p2 := (px 2).trans (show _ = some (Value.string (bs hP.root)) from rfl)
  have p3 := (px 3).trans (show _ = some (Value.slice Ai hP.items.length ci) from rfl)
  have p4 := (px 4).trans (show _ = some (Value.slice Ap hP.paths.length cp) from rfl)
  clear px
  go_wp2_with fail
  have C11 := Accept_any b hR 3 [[97], [98]] (by decide) v9 hP hP_fit (.slice Ai hP.items.length ci) (.slice Ap hP.paths.length cp) w10 (HG.out.to H10.out.bel) H10.out.cli H10.out.pgP.ti H10.out.pgP.tp (fun _ => H10.out.farP.1) (fun g e _ => H10.out.farP.2 g e)
  rw [head_acc.2.2.2.2.1, head_acc.2.2.2.2.2.1] at C11
  unfold AcceptR Pg.cs cliP at C11
  refine C11.mono ?_
  rintro e w11 ⟨v11, rfl, hc, hT, _⟩
  have H11 := hide (H10.out.acc hT hc)
  clear hc hT C11 H10
  clear p0 p1 p2 p3 p4
  have px := fun i => H11.out.boxP.cell i
  unfold Pg.cs at px
  have p0 := (px 0).trans (show _ = some (Value.int .i64 hP.fr) from rfl)
  have p1 := (px 1).trans (show _ = some (Value.int .i64 hP.size) from rfl)
  have p2 := (px 2).trans (show _ = some (Value.string (bs hP.root)) from rfl)
  have p3 := (px 3).trans (show _ = some (Value.slice Ai hP.items.length ci) from rfl)
  have p4 := (px 4).trans (show _ = some (Value.slice Ap hP.paths.length cp) from rfl)
  clear px
  go_wp2_with fail
  have hbF : Below w11.heap.size w11 ((w11.alloc (.cells #[.int .i64 hP.fr, .int .i64 hP.size, .string (bs hP.root), .slice (some ⟨w11.heap.size + 1, 0, none⟩) 1 1, .slice Ap hP.paths.length cp] 25)).alloc (.cells #[.string ⟨#[120]⟩] 9)) := below_to (below_one _ _) (Nat.le_refl _) (below_one _ _)
  have HTF : Hid (TextsAt ((w11.alloc (.cells #[.int .i64 hP.fr, .int .i64 hP.size, .string (bs hP.root), .slice (some ⟨w11.heap.size + 1, 0, none⟩) 1 1, .slice Ap hP.paths.length cp] 25)).alloc (.cells #[.string ⟨#[120]⟩] 9)) (.slice (some ⟨w11.heap.size + 1, 0, none⟩) 1 1) [[120]]) := by
    have h1 := Blk.new (w11.alloc (.cells #[.int .i64 hP.fr, .int .i64 hP.size, .string (bs hP.root), .slice (some ⟨w11.heap.size + 1, 0, none⟩) 1 1, .slice Ap hP.paths.length cp] 25)) 9 #[.string ⟨#[120]⟩]
    rw [World.size_alloc] at h1
    exact TextsAt.of_blk (ls := [[120]]) h1 rfl
  have H12 := hide (H11.out.to hbF)
  have hbl : b < w11.heap.size := H11.out.cli.blk.lt
  have hvl := fun g e => (H11.out.cli.lt g e).2
  have C13 := Accept_any b hR 3 [[97], [98]] (by decide) v11 hF hF_fit (.slice (some ⟨w11.heap.size + 1, 0, none⟩) 1 1) (.slice Ap hP.paths.length cp) _ (HG.out.to H12.out.bel) H12.out.cli HTF.out H12.out.pgP.tp (fun _ e => by have : w11.heap.size + 1 = b := Option.some.inj e; omega) (fun g e _ e2 => by have : w11.heap.size + 1 = g := Option.some.inj e2; have := hvl g e; omega)
  rw [head_acc.2.2.2.2.2.2.1, head_acc.2.2.2.2.2.2.2, show hF.cs (.slice (some ⟨w11.heap.size + 1, 0, none⟩) 1 1) (.slice Ap hP.paths.length cp) = #[.int .i64 hP.fr, .int .i64 hP.size, .string (bs hP.root), .slice (some ⟨w11.heap.size + 1, 0, none⟩) 1 1, .slice Ap hP.paths.length cp] from rfl] at C13
  unfold AcceptR cliP at C13
  refine C13.mono ?_
  rintro e w13 ⟨v13, rfl, hc, hT, _⟩
  have H13 := hide (H12.out.acc hT hc)
  clear hc hT C13 H12 H11 HTF hbF hvl hbl
  clear p0 p1 p2 p3 p4
  have px := fun i => H13.out.boxP.cell i
  unfold Pg.cs at px
  have p0 := (px 0).trans (show _ = some (Value.int .i64 hP.fr) from rfl)
  have p1 := (px 1).trans (show _ = some (Value.int .i64 hP.size) from rfl)
  have p2 := (px 2).trans (show _ = some (Value.string (bs hP.root)) from rfl)
  have p3 := (px 3).trans (show _ = some (Value.slice Ai hP.items.length ci) from rfl)
  have p4 := (px 4).trans (show _ = some (Value.slice Ap hP.paths.length cp) from rfl)
  clear px
  have C14 := Text_any hP hP_fit (.slice Ai hP.items.length ci) (.slice Ap hP.paths.length cp) w13 (HG.out.to H13.out.bel) H13.out.pgP.ti H13.out.pgP.tp
  rw [head_text.1] at C14
  unfold Pg.cs at C14
  have C15 := fun (w' : World) (hg' : Glob w') => Parse_any (textV hP ++ [10]) head_text.2.2.1 w' hg'
  unfold ParseR at C15
  simp only [head_text.2.1, ← bs_app] at C15
  have hsl := head_text.2.2.1
  rw [List.length_append] at hsl
  simp only [List.length_cons, List.length_nil] at hsl
  generalize textV hP = S at *
  have hsz : (bs S).size = S.length := bs_size S
  generalize parseV (S ++ [10]) = X at *
  go_wp2_with fail
  refine C14.mono ?_
  rintro e w14 ⟨rfl, hb⟩
  have H14 := hide (H13.out.to hb)
  clear hb C14 H13
  clear p0 p1 p2 p3 p4
  go_wp2_with fail
  refine (C15 w14 (HG.out.to H14.out.bel)).mono ?_
  rintro e w15 ⟨xi, xp, rfl, hxi, hxp, hb⟩
  obtain ⟨Xi, xci, rfl, _⟩ := hxi.slice
  obtain ⟨Xp, xcp, rfl, _⟩ := hxp.slice
  have H15 := hide (H14.out.to hb)
  clear hb C15 H14 hxi hxp
  unfold Pg.cs
  go_wp2_with fail
  have H16 := hide (H15.out.to (below_one w15 (.cells #[.int .i64 X.fr, .int .i64 X.size, .string (bs X.root), .slice Xi X.items.length xci, .slice Xp X.paths.length xcp] 25)))
  generalize w15.alloc (.cells #[.int .i64 X.fr, .int .i64 X.size, .string (bs X.root), .slice Xi X.items.length xci, .slice Xp X.paths.length xcp] 25) = w16 at *
  clear H15
  have C17 := Next_any b hR 3 [[97], [98]] (by decide) v13 w16 H16.out.cli
  unfold cliP at C17
  refine C17.mono ?_
  rintro e w17 ⟨rfl, hb⟩
  have H17 := hide (H16.out.to hb)
  clear hb C17 H16
  go_wp2_with fail
  have C18 := Items_any b hR 3 [[97], [98]] (by decide) v13 w17 H17.out.cli
  unfold cliP at C18
  refine C18.mono ?_
  rintro e w18 ⟨v18, rfl, ho, hb⟩
  have H18 := hide (H17.out.to hb)
  have HT18 := hide (TextsAt.of_own ho)
  clear hb C18 H17 ho
  go_wp2_with fail
  have HT19 := hide (HT18.out.to (below_one w18 (.cells #[.string ⟨#[97]⟩, .string ⟨#[98]⟩] 9)))
  have HU19 : Hid (TextsAt (w18.alloc (.cells #[.string ⟨#[97]⟩, .string ⟨#[98]⟩] 9)) (.slice (some ⟨w18.heap.size, 0, none⟩) 2 2) [[97], [98]]) := TextsAt.of_blk (ls := [[97], [98]]) (Blk.new w18 9 _) rfl
  have H19 := hide (H18.out.to (below_one w18 (.cells #[.string ⟨#[97]⟩, .string ⟨#[98]⟩] 9)))
  generalize w18.alloc (.cells #[.string ⟨#[97]⟩, .string ⟨#[98]⟩] 9) = w19 at *
  clear H18 HT18
  have C20 : Calls Tryz.prog 25 #[v18, .slice (some ⟨w18.heap.size, 0, none⟩) 2 2] w19 fun e w' => e = .returned (.bool true) ∧ Below w19.heap.size w19 w' := Same_any [[97], [98]] [[97], [98]] (by decide) (by decide) v18 _ w19 HT19.out HU19.out
  refine C20.mono ?_
  rintro e w20 ⟨rfl, hb⟩
  have H20 := hide (H19.out.to hb)
  clear hb C20 H19 HT19 HU19
  have hl1 : hP.items.length = 1 := by rw [head_text.2.2.2.1]; rfl
  have i1 : (0 : Int) < (hP.items.length : Int) := by omega
  obtain ⟨a, e0, ha, c0⟩ := H20.out.pgP.ti.at_ (k := 0) (x := [98]) (by rw [head_text.2.2.2.1]; rfl)
  subst e0
  have px := fun i => H20.out.boxP.cell i
  unfold Pg.cs at px
  have p0 := (px 0).trans (show _ = some (Value.int .i64 hP.fr) from rfl)
  have p1 := (px 1).trans (show _ = some (Value.int .i64 hP.size) from rfl)
  have p2 := (px 2).trans (show _ = some (Value.string (bs hP.root)) from rfl)
  have p3 := (px 3).trans (show _ = some (Value.slice (some a) hP.items.length ci) from rfl)
  have p4 := (px 4).trans (show _ = some (Value.slice Ap hP.paths.length cp) from rfl)
  clear px
  rw [Addr.add_zero'] at c0
  have HB20 := hide H20.out.bel
  clear H20 hl1
  go_wp2_with fail
  go_ret
  exact ⟨ret_bool (by rw [bs_toList]; rfl), HB20.out⟩
end Go.Proofs.YtfhanbiifjiklaaGreatDoor

/- Plain facts of formed pages: sizes. -/
set_option linter.unusedVariables false
set_option linter.unusedSimpArgs false
namespace Go.Proofs.YtfhanbiifjiklaaGreatDoor
open Go.RowKit

theorem page_cells {W : World} {b : Nat} {p : Pg} {vi vp : Value} (h : Blk W b 25 (p.cs vi vp)) : W.cell? ⟨b, 0, none⟩ = some (.int .i64 p.fr) ∧ W.cell? ⟨b, 1, none⟩ = some (.int .i64 p.size) ∧ W.cell? ⟨b, 2, none⟩ = some (.string (bs p.root)) ∧ W.cell? ⟨b, 3, none⟩ = some vi ∧ W.cell? ⟨b, 4, none⟩ = some vp :=
  ⟨(h.cell 0).trans rfl, (h.cell 1).trans rfl, (h.cell 2).trans rfl, (h.cell 3).trans rfl, (h.cell 4).trans rfl⟩
theorem formed_len {p : Pg} (h : formedB p = true) : (∀ q ∈ p.paths, q.length ≤ 20 ∧ ∀ x ∈ q, x.length = 16) ∧ (∀ x ∈ p.items, x.length ≤ 20000) := by
  obtain ⟨⟨hf, hs, hr, hn, hl⟩, hp⟩ := formed_spec h
  refine ⟨fun q hq => ?_, fun x hx => ?_⟩
  · obtain ⟨k, hk, rfl⟩ := List.getElem_of_mem hq
    have := okPart_spec (hp k (by omega))
    rw [show p.paths.getD k [] = p.paths[k] by simp [hk]] at this
    exact ⟨this.2.1, fun x hx => isD_len (this.1 x hx)⟩
  · obtain ⟨k, hk, rfl⟩ := List.getElem_of_mem hx
    exact (okPart_spec (hp k hk)).2.2
theorem formed_fit {p : Pg} (h : formedB p = true) : p.fit := by
  obtain ⟨⟨hf, hs, hr, hn, hl⟩, hp⟩ := formed_spec h
  obtain ⟨h1, h2⟩ := formed_len h
  have := isD_len hr
  exact ⟨by omega, fun x hx => by have := h2 x hx; omega, by omega, fun q hq => by have := (h1 q hq).1; omega, fun q hq x hx => by have := (h1 q hq).2 x hx; omega, by omega, by omega, by omega⟩
theorem line_len60 (x : List UInt8) (q : List (List UInt8)) (hx : x.length ≤ 60) (hn : q.length ≤ 20) (hq : ∀ y ∈ q, y.length ≤ 16) : (lineT x q).length ≤ 500 := by
  unfold lineT
  rw [Lib.join_cons]
  have h1 := itoa_len x.length (by omega)
  have h2 := tail_len 16 q hq
  have h3 : q.length * (16 + 1) ≤ 20 * 17 := Nat.mul_le_mul hn (Nat.le_refl _)
  simp only [List.length_append, List.length_cons, List.length_nil]
  omega
theorem text_len {p : Pg} (h : formedB p = true) (h6 : ∀ x ∈ p.items, x.length ≤ 60) : (textPg p).length ≤ 100000 := by
  obtain ⟨⟨hf, hs, hr, hn, hl⟩, hp⟩ := formed_spec h
  obtain ⟨h1, h2⟩ := formed_len h
  unfold textPg
  rw [List.length_append]
  have e1 := flat_le p.line 500 (fun k => by
    unfold Pg.line
    have hk : (k : Nat) < p.paths.length := by have := k.2; omega
    rw [show p.paths.getD k [] = p.paths[(k : Nat)] by simp [hk]]
    have hq := h1 _ (List.getElem_mem hk)
    exact line_len60 _ _ (h6 _ (List.getElem_mem k.2)) hq.1 (fun y hy => by rw [hq.2 y hy]; exact Nat.le_refl _)) (List.finRange p.items.length)
  rw [List.length_finRange] at e1
  have e2 : p.items.length * 500 ≤ 50 * 500 := Nat.mul_le_mul hn (Nat.le_refl _)
  have e3 : (headT p).length ≤ 200 := by
    unfold headT
    have a1 : (Lib.itoa p.fr).length ≤ 20 := by have := itoa_len p.fr.toNat (by omega); rwa [Int.toNat_of_nonneg hf.1] at this
    have a2 : (Lib.itoa p.size).length ≤ 20 := by have := itoa_len p.size.toNat (by omega); rwa [Int.toNat_of_nonneg hs.1] at this
    have a3 := itoa_len p.items.length (by omega)
    have a4 := isD_len hr
    rw [Lib.join_cons]
    have a5 := tail_len 20 [Lib.itoa p.fr, Lib.itoa p.size, p.root, Lib.itoa p.items.length] (by
      intro x hx
      simp only [List.mem_cons, List.not_mem_nil, or_false] at hx
      rcases hx with rfl | rfl | rfl | rfl <;> omega)
    simp only [List.length_append, List.length_cons, List.length_nil] at a5 ⊢
    omega
  omega
theorem fit_wide {p : Pg} (h : p.fit) : p.wide := ⟨by have := h.ni; omega, fun x hx => by have := h.li x hx; omega, by have := h.np; omega, fun q hq => by have := h.nq q hq; omega, fun q hq x hx => by have := h.lq q hq x hx; omega, by have := h.lr; omega⟩
theorem no_fit : noPg.fit := ⟨by decide, (fun x hx => absurd hx List.not_mem_nil), by decide, (fun x hx => absurd hx List.not_mem_nil), (fun x hx => absurd hx List.not_mem_nil), by decide, by decide, by decide⟩
theorem parseV_fit (t : List UInt8) : (parseV t).fit := by
  unfold parseV
  cases h : parseP t with
  | none => exact no_fit
  | some p => exact formed_fit (text_of_parse h).1
end Go.Proofs.YtfhanbiifjiklaaGreatDoor
