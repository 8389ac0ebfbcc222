/- Pages and where they lie; Serve: what is refused. -/
import Derived.Test.YtfhanbiifjiklaaGreatDoorB4
set_option linter.unusedVariables false
set_option linter.unusedSimpArgs false
namespace Go.Proofs.YtfhanbiifjiklaaGreatDoor
open Go.RowKit

/-- a slice's array lies between two places -/
def InB (lo hi : Nat) (v : Value) : Prop := ∀ g, v.ownBlock = some g → lo ≤ g ∧ g < hi
theorem InB.mono {lo hi lo' hi' : Nat} {v : Value} (h : InB lo hi v) (h1 : lo' ≤ lo) (h2 : hi ≤ hi') : InB lo' hi' v := fun g e => ⟨Nat.le_trans h1 (h g e).1, Nat.lt_of_lt_of_le (h g e).2 h2⟩
theorem InB.out {lo hi p : Nat} {v : Value} (h : InB lo hi v) (hp : p < lo ∨ hi ≤ p) : v.ownBlock ≠ some p := fun e => by have := h p e; omega
/-- a page in memory, its arrays between two places -/
structure PgAt (lo hi : Nat) (w : World) (vi vp : Value) (p : Pg) : Prop where
  ti : TextsAt w vi p.items
  tp : PathsAt w vp p.paths
  bi : InB lo hi vi
  bp : InB lo hi vp
  bq : ∀ k q, p.paths[k]? = some q → InB lo hi (vpsOf w vp k)
theorem vpsOf_eq {w w' : World} {a : Addr} {n c k : Nat} (h : w'.cell? (a.add k) = w.cell? (a.add k)) : vpsOf w' (.slice (some a) n c) k = vpsOf w (.slice (some a) n c) k := by unfold vpsOf; simp only [h]
theorem PgAt.two {lo hi p q : Nat} {w w' : World} {vi vp : Value} {g : Pg} (h : PgAt lo hi w vi vp g) (hb : Two p q w w') (hp : p < lo ∨ hi ≤ p) (hq : q < lo ∨ hi ≤ q) : PgAt lo hi w' vi vp g := by
  have hv : ∀ k x, g.paths[k]? = some x → vpsOf w' vp k = vpsOf w vp k ∧ ∃ a c, vp = .slice (some a) g.paths.length c ∧ a.block < w.heap.size ∧ w.cell? (a.add k) = some (vpsOf w vp k) := fun k x hx => by
    obtain ⟨ht, a, c, e, hl, hc⟩ := h.tp.vps hx
    refine ⟨?_, a, c, e, hl, hc⟩
    rw [e]
    refine vpsOf_eq (World.cell?_of_block ?_)
    rw [block_of_add]
    exact hb.block _ hl (fun e2 => h.bp.out hp (by rw [e, ← e2]; rfl)) (fun e2 => h.bp.out hq (by rw [e, ← e2]; rfl))
  refine ⟨h.ti.two hb (h.bi.out hp) (h.bi.out hq), ?_, h.bi, h.bp, fun k x hx => by rw [(hv k x hx).1]; exact h.bq k x hx⟩
  obtain ⟨A, c, h1, h2, h3⟩ := h.tp
  refine ⟨A, c, h1, h2, fun k x hx => ?_⟩
  obtain ⟨ev, a, c', e, hl, hc⟩ := hv k x hx
  rw [h1] at e
  cases e
  have ht := (h.tp.vps hx).1
  refine ⟨a, vpsOf w vp k, rfl, Nat.lt_of_lt_of_le hl hb.size, ?_, ht.two hb ((h.bq k x hx).out hp) ((h.bq k x hx).out hq)⟩
  rw [← hc]
  refine World.cell?_of_block ?_
  rw [block_of_add]
  exact hb.block _ hl (fun e2 => h.bp.out hp (by rw [h1, ← e2]; rfl)) (fun e2 => h.bp.out hq (by rw [h1, ← e2]; rfl))
theorem PgAt.to {lo hi : Nat} {w w' : World} {vi vp : Value} {g : Pg} (h : PgAt lo hi w vi vp g) (hb : Below w.heap.size w w') : PgAt lo hi w' vi vp g := by
  refine ⟨h.ti.to hb, h.tp.to hb, h.bi, h.bp, fun k x hx => ?_⟩
  obtain ⟨ht, a, c, e, hl, hc⟩ := h.tp.vps hx
  have := h.bq k x hx
  rw [e] at this ⊢
  rwa [vpsOf_eq (hb.cell (p := a.add k) (by rw [block_of_add]; exact hl))]
theorem PgAt.mono {lo hi lo' hi' : Nat} {w : World} {vi vp : Value} {g : Pg} (h : PgAt lo hi w vi vp g) (h1 : lo' ≤ lo) (h2 : hi ≤ hi') : PgAt lo' hi' w vi vp g :=
  ⟨h.ti, h.tp, h.bi.mono h1 h2, h.bp.mono h1 h2, fun k x hx => (h.bq k x hx).mono h1 h2⟩
theorem PgAt.no (lo hi : Nat) (w : World) : PgAt lo hi w (.slice none 0 0) (.slice none 0 0) noPg := ⟨TextsAt.nil w, PathsAt.nil w, (fun g e => by cases e), (fun g e => by cases e), (fun k q h => by simp [noPg] at h)⟩
def leavesV (items : List (List UInt8)) : List (List UInt8) := items.map leafD
def serveB (items : List (List UInt8)) (fr most : Int) : Bool := logB items && (decide (0 ≤ fr ∧ fr ≤ items.length) && decide (1 ≤ most ∧ most ≤ 50))
def pageV (items : List (List UInt8)) (fr most : Nat) : Pg := ⟨fr, items.length, totalT (leavesV items), (items.drop fr).take most, (List.range ((items.drop fr).take most).length).map fun i => pathV (leavesV items) (fr + i)⟩
def serveV (items : List (List UInt8)) (fr most : Int) : Pg := if serveB items fr most then pageV items fr.toNat most.toNat else noPg
def serveE (items : List (List UInt8)) (fr most : Int) : Int := if serveB items fr most then 0 else 1
def ServeR (p : Pg) (k : Int) (w : World) (e : Ending) (w' : World) : Prop := ∃ vi vp, e = .returned (.tuple #[.agg (p.cs vi vp), .int .i64 k]) ∧ PgAt w.heap.size w'.heap.size w' vi vp p ∧ Below w.heap.size w w'
theorem results_page {fn : Func} {p u : Tmp} (h : fn.results = #[.cell p 25, .tmp u]) (tmps : Array Value) (w : World) (bp : Nat) (hp : tmps[p]? = some (.pointer (some ⟨bp, 0, none⟩))) (cs : Array Value) (v : Value) (hv : tmps[u]? = some v)
    (h1 : Blk w bp 25 cs) (hs : cs.size = 5) : (results fn tmps).run Tryz.prog w = .ok (.tuple #[.agg cs, v]) w := by
  have hp' : tmps[p]?.getD undef = .pointer (some ⟨bp, 0, none⟩) := by rw [hp]; rfl
  have hv' : tmps[u]?.getD undef = v := by rw [hv]; rfl
  obtain ⟨c0, c1, c2, c3, c4, rfl⟩ : ∃ a b c d e, cs = #[a, b, c, d, e] := by
    rcases cs with ⟨l⟩
    match l, hs with
    | [a, b, c, d, e], _ => exact ⟨a, b, c, d, e, rfl⟩
  have x0 := (h1.cell 0).trans (show _ = some c0 from rfl)
  have x1 := (h1.cell 1).trans (show _ = some c1 from rfl)
  have x2 := (h1.cell 2).trans (show _ = some c2 from rfl)
  have x3 := (h1.cell 3).trans (show _ = some c3 from rfl)
  have x4 := (h1.cell 4).trans (show _ = some c4 from rfl)
  simp [results, h, hp', hv', go_sem, x0, x1, x2, x3, x4]
set_option maxRecDepth 100000 in
set_option maxHeartbeats 2000000 in
theorem Serve_no (items : List (List UInt8)) (hn : items.length ≤ 1000) (hx : ∀ x ∈ items, x.length ≤ 100000) (fr most : Int) (h : serveB items fr most = false) (v : Value) (w : World) (hv : TextsAt w v items) :
    Calls Tryz.prog 14 #[v, .int .i64 fr, .int .i64 most] w (ServeR noPg 1 w) := by
  have CL := fun w' (hb : Below w.heap.size w w') => isLog_any items hn hx v w' (hv.to hb)
  obtain ⟨A, c, rfl, hc⟩ := hv.slice
  have hh : (!logB items || decide (fr < 0) || decide ((items.length : Int) < fr) || decide (most < 1) || decide (50 < most)) = true := by
    unfold serveB at h
    rw [Bool.and_eq_false_iff, Bool.and_eq_false_iff, decide_eq_false_iff_not, decide_eq_false_iff_not] at h
    simp only [Bool.or_eq_true, Bool.not_eq_true', decide_eq_true_eq]
    rcases h with h | h | h
    · exact .inl (.inl (.inl (.inl h)))
    · omega
    · omega
  clear hv h hx
  obtain ⟨b0, c0⟩ : ∃ b, logB items = !b := ⟨!logB items, by simp⟩
  rw [c0, Bool.not_not] at hh
  rw [c0] at CL
  clear c0
  generalize c1 : decide (fr < 0) = b1 at *
  generalize c2 : decide ((items.length : Int) < fr) = b2 at *
  generalize c3 : decide (most < 1) = b3 at *
  generalize c4 : decide (50 < most) = b4 at *
  have fin : ∀ (w2 : World) (tm : Array Value), Below (w.alloc (.cells noCs 25)).heap.size (w.alloc (.cells noCs 25)) w2 → tm[6]? = some (.pointer (some ⟨w.heap.size, 0, none⟩)) → tm[7]? = some (.int .i64 1) →
      bodyPost Tryz.prog Tryz.f14 (ServeR noPg 1 w) .ret { tmps := tm, defers := [] } (((((w2.setCell ⟨w.heap.size, 0, none⟩ (.int .i64 0)).setCell ⟨w.heap.size, 1, none⟩ (.int .i64 0)).setCell ⟨w.heap.size, 2, none⟩ (.string ⟨#[]⟩)).setCell ⟨w.heap.size, 3, none⟩ (.slice none 0 0)).setCell ⟨w.heap.size, 4, none⟩ (.slice none 0 0)) := fun w2 tm hb h6 h7 => by
    have hB : Blk w2 w.heap.size 25 noCs := (Blk.new w _ _).to hb
    have hT := (((((Two.refl w.heap.size w.heap.size w2).set1 0 (.int .i64 0)).set1 1 (.int .i64 0)).set1 2 (.string ⟨#[]⟩)).set1 3 (.slice none 0 0)).set1 4 (.slice none 0 0)
    have hbw := below_to (below_one w _) (Nat.le_refl _) hb
    exact bodyPost_ret (results_page rfl _ _ w.heap.size h6 noCs _ h7 (((((hB.set_ 0 (.int .i64 0)).set_ 1 (.int .i64 0)).set_ 2 (.string ⟨#[]⟩)).set_ 3 (.slice none 0 0)).set_ 4 (.slice none 0 0)) rfl) rfl ⟨_, _, rfl, PgAt.no _ _ _, hbw.trans (hT.below hbw.size (Nat.le_refl _) (Nat.le_refl _))⟩
  have FIN := hide fin
  clear fin
  cases b0
  cases b1
  cases b2
  cases b3
  cases b4
  · cases hh
  all_goals (try simp only [Bool.not_false, Bool.not_true] at CL)
  all_goals
    go_enter Tryz.func14, Tryz.ntmps14
    go_wp2_with ((with_reducible refine (CL _ (below_one _ _)).mono ?_); rintro e w2 ⟨rfl, hb2⟩; have HB := hide hb2; have x := (Blk.new w 25 noCs).to hb2; have x0 := (x.cell 0).trans (show _ = some (Value.int .i64 0) from rfl); have x1 := (x.cell 1).trans (show _ = some (Value.int .i64 0) from rfl); have x2 := (x.cell 2).trans (show _ = some (Value.string ⟨#[]⟩) from rfl); have x3 := (x.cell 3).trans (show _ = some (Value.slice none 0 0) from rfl); have x4 := (x.cell 4).trans (show _ = some (Value.slice none 0 0) from rfl); have f0 := x.frozen 0; have f1 := x.frozen 1; have f2 := x.frozen 2; have f3 := x.frozen 3; have f4 := x.frozen 4; clear x hb2)
    exact FIN.out w2 _ HB.out rfl rfl
end Go.Proofs.YtfhanbiifjiklaaGreatDoor
