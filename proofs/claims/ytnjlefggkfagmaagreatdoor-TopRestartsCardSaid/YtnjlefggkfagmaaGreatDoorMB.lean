/- Several texts as one, in build order. -/
import Derived.Test.YtnjlefggkfagmaaGreatDoorMA
import Derived.Shelf.Strings.BuilderK
import Derived.Lib.ItoaNum
import Derived.Lib.Join
import Derived.Lib.Split
import Derived.Lib.AtoiAll
import Derived.WalkKit
import Derived.Deep.Upon
import Derived.ArgAppend
import Derived.Lib.AtoiErrMem
import Derived.WalkLawsBesides
import Derived.Laws.AppendOwn
import Derived.Maps.AppendAt
import Derived.Recover
import Derived.Defers
import Derived.Laws.Pointers
/- formed: the ways out ahead of the loop. -/
set_option linter.unusedVariables false
set_option linter.unusedSimpArgs false
namespace Go.Proofs.YtnjlefggkfagmaaGreatDoor
open Go.RowKit Go.Shelf
attribute [local go_sem] Oper.semAt_some

theorem results_bool {fn : Func} {p : Tmp} (h : fn.results = #[.cell p 4]) (tmps : Array Value) (w : World) (g : Nat) (v : Value) (hp : tmps.getD p undef = .pointer (some ⟨g, 0, none⟩)) (hc : w.cell? ⟨g, 0, none⟩ = some v) :
    (results fn tmps).run Tryz.prog w = .ok v w := by
  have hp' : tmps[p]?.getD undef = .pointer (some ⟨g, 0, none⟩) := by simpa using hp
  simp [results, h, hp', go_sem, hc]
def headB (p : Pg) : Bool := decide (0 ≤ p.fr ∧ p.fr ≤ 10000) && (decide (0 ≤ p.size ∧ p.size ≤ 10000) && (isD p.root && (decide (p.items.length ≤ 50) && decide (p.paths.length = p.items.length))))
/-- conditions, in their order -/
def conds (p : Pg) : List Bool := [decide (p.fr < 0), decide (10000 < p.fr), decide (p.size < 0), decide (10000 < p.size), !isD p.root, decide (50 < (p.items.length : Int)), !decide (p.paths.length = p.items.length)]
theorem conds_of (p : Pg) : headB p = !((conds p).any id) := by
  unfold headB conds
  simp only [List.any_cons, List.any_nil, id, Bool.or_false]
  rw [Bool.eq_iff_iff]
  simp only [Bool.and_eq_true, decide_eq_true_eq, Bool.not_eq_true', Bool.or_eq_false_iff, decide_eq_false_iff_not, Bool.not_eq_false']
  constructor
  · rintro ⟨h1, h2, h3, h4, h5⟩; exact ⟨by omega, by omega, by omega, by omega, h3, by omega, by omega⟩
  · rintro ⟨h1, h2, h3, h4, h5, h6, h7⟩; exact ⟨by omega, by omega, h5, by omega, by omega⟩
set_option maxRecDepth 100000 in
set_option maxHeartbeats 4000000 in
theorem formed_out (p : Pg) (hl : p.root.length ≤ 100000) (h : headB p = false) (vi vp : Value) (w : World) (hvi : TextsAt w vi p.items) (hvp : PathsAt w vp p.paths) :
    Calls Tryz.prog 30 #[.agg (p.cs vi vp)] w fun e w' => e = .returned (.bool false) ∧ Below w.heap.size w w' := by
  have CI := fun w' : World => Is_any p.root (by omega) w'
  obtain ⟨Ai, ci, rfl, hci⟩ := hvi.slice
  obtain ⟨Ap, cp, rfl, hcp⟩ := hvp.slice
  rw [conds_of] at h
  unfold conds at h
  simp only [List.any_cons, List.any_nil, id, Bool.or_false, Bool.not_eq_false'] at h
  unfold Pg.cs
  clear hvi hvp
  generalize c1 : decide (p.fr < 0) = b1 at *
  generalize c2 : decide (10000 < p.fr) = b2 at *
  generalize c3 : decide (p.size < 0) = b3 at *
  generalize c4 : decide (10000 < p.size) = b4 at *
  obtain ⟨b5, c5⟩ : ∃ b, isD p.root = !b := ⟨!isD p.root, by simp⟩
  rw [c5] at CI h
  rw [Bool.not_not] at h
  generalize c6 : decide (50 < (p.items.length : Int)) = b6 at *
  obtain ⟨b7, c7⟩ : ∃ b, decide (p.paths.length = p.items.length) = !b := ⟨!decide (p.paths.length = p.items.length), by simp⟩
  rw [c7, Bool.not_not] at h
  have c8 : ((p.paths.length : Int) != (p.items.length : Int)) = b7 := by
    rw [show ((p.paths.length : Int) != (p.items.length : Int)) = !decide (p.paths.length = p.items.length) from congrArg not (decide_eq_decide.2 (by omega)), c7, Bool.not_not]
  cases b1
  cases b2
  cases b3
  cases b4
  cases b5
  cases b6
  cases b7
  · cases h
  all_goals (try simp only [Bool.not_false, Bool.not_true] at CI)
  all_goals (try simp only [Bool.not_false, Bool.not_true] at c7)
  all_goals
    go_enter Tryz.func30, Tryz.ntmps30
    go_wp2_with ((with_reducible refine (CI _).mono ?_); rintro e w2 ⟨rfl, hb2⟩; have x := ((Blk.new w 38 #[.int .i64 p.fr, .int .i64 p.size, .string (bs p.root), .slice Ai p.items.length ci, .slice Ap p.paths.length cp]).alloc (.cells #[.bool false] 4)).to hb2; have x3 := (x.cell 3).trans (show _ = some (Value.slice Ai p.items.length ci) from rfl); have x4 := (x.cell 4).trans (show _ = some (Value.slice Ap p.paths.length cp) from rfl); have y := (Blk.new (w.alloc (.cells #[.int .i64 p.fr, .int .i64 p.size, .string (bs p.root), .slice Ai p.items.length ci, .slice Ap p.paths.length cp] 38)) 4 #[.bool false]).to hb2; rw [World.size_alloc] at y; have y0 := (y.cell 0).trans (show _ = some (Value.bool false) from rfl); have yf := y.frozen 0; have HX := hide x; have HY := hide y; have HB := hide hb2; clear x y hb2)
    have HB0 : Below w.heap.size w ((w.alloc (.cells #[.int .i64 p.fr, .int .i64 p.size, .string (bs p.root), .slice Ai p.items.length ci, .slice Ap p.paths.length cp] 38)).alloc (.cells #[.bool false] 4)) := ((Below.refl _ w).alloc (Nat.le_refl _) _).alloc (by simp) _
    first
      | (refine bodyPost_ret (results_bool rfl _ _ (w.heap.size + 1) (.bool false) rfl ((HY.out.set_ 0 _).cell 0)) rfl ⟨rfl, ?_⟩
         exact (HB0.trans (HB.out.mono HB0.size)).setCell (p := ⟨w.heap.size + 1, 0, none⟩) (Nat.le_succ _) _)
      | (have y := Blk.new (w.alloc (.cells #[.int .i64 p.fr, .int .i64 p.size, .string (bs p.root), .slice Ai p.items.length ci, .slice Ap p.paths.length cp] 38)) 4 #[.bool false]
         rw [World.size_alloc] at y
         exact bodyPost_ret (results_bool rfl _ _ (w.heap.size + 1) (.bool false) rfl (y.cell 0)) rfl ⟨rfl, HB0⟩)
      | trace_state
end Go.Proofs.YtnjlefggkfagmaaGreatDoor

/- formed. -/
set_option linter.unusedVariables false
set_option linter.unusedSimpArgs false
namespace Go.Proofs.YtnjlefggkfagmaaGreatDoor
open Go.RowKit Go.Shelf
attribute [local go_sem] Oper.semAt_some

theorem Blk.own {W W' : World} {row : Option Nat} {b : Nat} {t : TypeId} {cs : Array Value} (h : Blk W b t cs) (hg : W.grownBy W' row) (hr : ∀ r, row = some r → ∃ o : Obj, W.heap[r]? = some o ∧ o.isCells = false) : Blk W' b t cs :=
  (hg.block b h.lt (fun e => by obtain ⟨o, ho, hc⟩ := hr b e.symm; rw [show W.heap[b]? = _ from h] at ho; cases ho; cases hc)).trans h
theorem keepsFrom_of {B : Nat} {W W' : World} (h : Below W.heap.size W W') : KeepsFrom B W W' := ⟨h.size, fun k o _ h0 _ => (h.block k (Array.getElem?_eq_some_iff.1 h0).1).trans h0⟩
def pathB (q : List (List UInt8)) : Bool := !(q.any fun x => !isD x) && decide (q.length ≤ 20)
def okPart (x : List UInt8) (q : List (List UInt8)) : Bool := pathB q && decide (x.length ≤ 20000)
def Pg.okAt (p : Pg) (k : Fin p.items.length) : Bool := okPart p.items[k] (p.paths.getD k [])
/-- the three cells of item k -/
def itC (p : Pg) (w : World) (vp : Value) (k : Fin p.items.length) : Array Value := #[.int .i64 (p.fr + (k : Nat)), .string (bs p.items[k]), vpsOf w vp k]
def formedB (p : Pg) : Bool := headB p && (List.finRange p.items.length).all p.okAt
set_option maxRecDepth 100000 in
set_option maxHeartbeats 4000000 in
theorem formed_in (p : Pg) (hl : p.root.length ≤ 100000) (hi : ∀ x ∈ p.items, x.length ≤ 100000) (hq' : ∀ q ∈ p.paths, q.length ≤ 200000 ∧ ∀ x ∈ q, x.length ≤ 100000) (h : headB p = true) (vi vp : Value) (w : World) (hvi : TextsAt w vi p.items) (hvp : PathsAt w vp p.paths) :
    Calls Tryz.prog 30 #[.agg (p.cs vi vp)] w fun e w' => e = .returned (.bool (formedB p)) ∧ Below w.heap.size w w' := by
  have CI := fun w' : World => Is_any p.root (by omega) w'
  have HI := hide hvi
  have HP := hide hvp
  have HF : Hid (formedB p = (List.finRange p.items.length).all p.okAt) := by show _ = _; unfold formedB; rw [h]; rfl
  have CT := fun w' : World => items_any p vi vp w'
  obtain ⟨Ai, ci, rfl, hci⟩ := hvi.slice
  obtain ⟨Ap, cp, rfl, hcp⟩ := hvp.slice
  have hh : ((0 ≤ p.fr ∧ p.fr ≤ 10000) ∧ (0 ≤ p.size ∧ p.size ≤ 10000) ∧ isD p.root = true ∧ p.items.length ≤ 50 ∧ p.paths.length = p.items.length) := by
    unfold headB at h
    simpa only [Bool.and_eq_true, decide_eq_true_eq] using h
  obtain ⟨hf, hs, hr, hn, hpl⟩ := hh
  rw [hr] at CI
  unfold Pg.cs at CT ⊢
  have c1 : decide (p.fr < 0) = false := by simp; omega
  have c2 : decide (10000 < p.fr) = false := by simp; omega
  have c3 : decide (p.size < 0) = false := by simp; omega
  have c4 : decide (10000 < p.size) = false := by simp; omega
  have c6 : decide (50 < (p.items.length : Int)) = false := by simp; omega
  have c8 : ((p.paths.length : Int) != (p.items.length : Int)) = false := by rw [hpl]; simp
  obtain ⟨n, h1⟩ : ∃ n : Nat, 5 ≤ n := ⟨5, Nat.le_refl _⟩
  have HPL := hide hpl
  clear hvi hvp h hr hpl
  refine (callsIn_wide (n := n)).1 ?_
  refine callsIn_of_wp_marks Tryz.func30 rfl trivial ?_ rfl
  simp only [Tryz.ntmps30, List.size_toArray, List.length_cons, List.length_nil, Nat.reduceAdd, Nat.reduceSub, Array.replicate_succ, Array.replicate_zero, List.push_toArray, List.append_toArray, List.nil_append, List.cons_append]
  gi_wp2_with (first
    | (refine ⟨trivial, fun _ => (by omega), ?_⟩; gi_at_call 66; refine (callsIn_wide.2 (CI _)).mono ?_; rintro e w2 ⟨rfl, hb2⟩; have x : Blk w2 w.heap.size 38 _ := ((Blk.new w 38 #[.int .i64 p.fr, .int .i64 p.size, .string (bs p.root), .slice Ai p.items.length ci, .slice Ap p.paths.length cp]).alloc (.cells #[.bool false] 4)).to hb2; have x0 := (x.cell 0).trans (show _ = some (Value.int .i64 p.fr) from rfl); have x1 := (x.cell 1).trans (show _ = some (Value.int .i64 p.size) from rfl); have x2 := (x.cell 2).trans (show _ = some (Value.string (bs p.root)) from rfl); have x3 := (x.cell 3).trans (show _ = some (Value.slice Ai p.items.length ci) from rfl); have x4 := (x.cell 4).trans (show _ = some (Value.slice Ap p.paths.length cp) from rfl); have y := (Blk.new (w.alloc (.cells #[.int .i64 p.fr, .int .i64 p.size, .string (bs p.root), .slice Ai p.items.length ci, .slice Ap p.paths.length cp] 38)) 4 #[.bool false]).to hb2; rw [World.size_alloc] at y; have y0 := (y.cell 0).trans (show _ = some (Value.bool false) from rfl); have yf := y.frozen 0; have HX := hide x; have HY := hide y; have HB := hide hb2; clear x y hb2)
    | (refine ⟨trivial, fun _ => (by omega), ?_⟩; gi_at_call 31; refine (callsIn_wide.2 (CT _)).mono ?_; rintro e w3 ⟨rfl, rfl⟩))
  have HX2 := hide (HX.out.alloc (.cells #[.int .i64 p.fr, .int .i64 p.size, .string (bs p.root), .slice Ai p.items.length ci, .slice Ap p.paths.length cp] 38))
  have HY2 := hide (HY.out.alloc (.cells #[.int .i64 p.fr, .int .i64 p.size, .string (bs p.root), .slice Ai p.items.length ci, .slice Ap p.paths.length cp] 38))
  have HZ2 := hide (Blk.new w2 38 #[.int .i64 p.fr, .int .i64 p.size, .string (bs p.root), .slice Ai p.items.length ci, .slice Ap p.paths.length cp])
  have hsz : w.heap.size + 2 ≤ w2.heap.size := by have := HB.out.size; simpa using this
  have hb0 : Below w.heap.size w w2 := (((Below.refl _ w).alloc (Nat.le_refl _) _).alloc (by simp) _).trans (HB.out.mono (by simp; omega))
  have HB2 := hide (hb0.alloc (by omega) (.cells #[.int .i64 p.fr, .int .i64 p.size, .string (bs p.root), .slice Ai p.items.length ci, .slice Ap p.paths.length cp] 38))
  have hsz2 : (w2.alloc (.cells #[.int .i64 p.fr, .int .i64 p.size, .string (bs p.root), .slice Ai p.items.length ci, .slice Ap p.paths.length cp] 38)).heap.size = w2.heap.size + 1 := by simp
  obtain ⟨W0, hW0⟩ : ∃ W0, w2.alloc (.cells #[.int .i64 p.fr, .int .i64 p.size, .string (bs p.root), .slice Ai p.items.length ci, .slice Ap p.paths.length cp] 38) = W0 := ⟨_, rfl⟩
  rw [hW0] at HX2 HY2 HZ2 HB2 hsz2 ⊢
  clear hW0 HX HY x0 x1 x2 x3 x4 y0 yf CI CT hb0 c1 c2 c3 c4 c6 c8
  refine wpIn_rangeFunc_ownH (F := Fence.wide) rfl (by omega) (gf := 74) (lb := #[.pointer (some ⟨w2.heap.size, 0, none⟩)]) rfl trivial (enters_fn Tryz.func74 (by kernel_rfl) rfl)
    (items_stops (n - 1) (by omega) w2.heap.size p (by omega) HPL.out hf _ _ w HI.out HP.out W0 HB2.out HZ2.out) KpX.t (KpX.b (by omega) (by omega)) (Below.refl _ _) (fun _ => rfl)
    (fun pre W => (Blk W (w.heap.size + 1) 4 #[.bool false] ∧ pre.all p.okAt = true ∧ w2.heap.size < W.heap.size) ∧ Below w.heap.size w W)
    (fun c pre W => (c = .ret ∧ (∃ k, p.okAt k = false) ∧ Blk W (w.heap.size + 1) 4 #[.bool false]) ∧ Below w.heap.size w W)
    (OwnFrom.and (fun s A B row hs hg hr => ⟨hs.1.own hg (fun r e => (hr r e).2), hs.2.1, Nat.lt_of_lt_of_le hs.2.2 hg.size⟩) (ownFrom_below (Nat.le_refl _) (by omega)))
    (fun c => OwnFrom.and (fun s A B row hs hg hr => ⟨hs.1, hs.2.1, hs.2.2.own hg (fun r e => (hr r e).2)⟩) (ownFrom_below (Nat.le_refl _) (by omega)))
    ⟨⟨HY2.out, rfl, by omega⟩, HB2.out⟩
    (fun x a' W => ∃ Bx, w2.heap.size < Bx ∧ Blk W Bx 74 (itC p w (.slice Ap p.paths.length cp) x) ∧ a' = { tmps := #[.agg #[.int .i64 p.fr, .int .i64 p.size, .string (bs p.root), .slice Ai p.items.length ci, .slice Ap p.paths.length cp], .pointer (some ⟨w.heap.size, 0, none⟩), .pointer (some ⟨w.heap.size + 1, 0, none⟩), .pointer (some ⟨Bx, 0, none⟩), undef, .pointer (some ⟨w.heap.size, 0, none⟩), .int .i64 p.fr, .bool false, .bool false, .pointer (some ⟨w.heap.size, 0, none⟩), .int .i64 p.fr, .bool false, .bool false, .bool false, .pointer (some ⟨w.heap.size, 1, none⟩), .int .i64 p.size, .bool false, .bool false, .bool false, .pointer (some ⟨w.heap.size, 1, none⟩), .int .i64 p.size, .bool false, .bool false, .bool false, .pointer (some ⟨w.heap.size, 2, none⟩), .string (bs p.root), .bool true, .bool false, .bool false, .bool false, .pointer (some ⟨w.heap.size, 3, none⟩), .slice Ai p.items.length ci, .int .i64 p.items.length, .bool false, .bool false, .bool false, .pointer (some ⟨w.heap.size, 4, none⟩), .slice Ap p.paths.length cp, .int .i64 p.paths.length, .pointer (some ⟨w.heap.size, 3, none⟩), .slice Ai p.items.length ci, .int .i64 p.items.length, .bool false, .bool false, .agg #[.int .i64 p.fr, .int .i64 p.size, .string (bs p.root), .slice Ai p.items.length ci, .slice Ap p.paths.length cp], .func (.func 74) #[] #[.pointer (some ⟨w2.heap.size, 0, none⟩)], .agg (itC p w (.slice Ap p.paths.length cp) x), undef, undef, undef, undef, undef, undef, undef, undef, undef, undef, undef, undef, undef, undef, undef, undef], defers := [] })
    (fun x a' s A B row hs hg hr => by obtain ⟨Bx, q1, q2, q3⟩ := hs; exact ⟨Bx, q1, q2.own hg (fun r e => (hr r e).2), q3⟩) ?assign ?body ?done ?stop
  case assign =>
    rintro l pre ⟨k, hk⟩ W K ⟨⟨hbW, hpre, hsW⟩, hBW⟩ hK
    have HBW := hide hbW
    have HBl := hide hBW
    clear hbW hBW
    obtain ⟨x, hx⟩ : ∃ x, p.items[k] = x := ⟨_, rfl⟩
    obtain ⟨q, hq⟩ : ∃ q, p.paths[k]? = some q := ⟨_, List.getElem?_eq_getElem (by have := HPL.out; omega)⟩
    obtain ⟨Aq, cq, hv, hcq⟩ := (HP.out.vps hq).1.slice
    unfold Pg.enc
    rw [show p.items[(⟨k, hk⟩ : Fin p.items.length)] = x from hx]
    unfold itC at hK
    rw [show p.items[(⟨k, hk⟩ : Fin p.items.length)] = x from hx] at hK
    simp only [hv] at hK ⊢
    have hK2 := hide hK
    clear hK
    gi_wp2
    exact hK2.out _ _ ((KeepsOthers.alloc _ _).from _) (KpX.of ((Below.refl W.heap.size W).alloc (Nat.le_refl _) _) HBl.out.size hsW) ⟨⟨HBW.out.alloc _, hpre, by simp; omega⟩, HBl.out.alloc HBl.out.size _⟩ ⟨W.heap.size, hsW, Blk.new _ _ _, rfl⟩
  case body =>
    rintro l pre ⟨k, hk⟩ a' W hlw ⟨r, hlr⟩ ⟨⟨hbW, hpre, hsW⟩, hBW⟩ ⟨Bx, hBx, hbI, rfl⟩ hlen
    have HBW := hide hbW
    have HBl := hide hBW
    have HIt := hide hbI
    clear hbW hBW hbI hlr
    obtain ⟨x, hx⟩ : ∃ x, p.items[k] = x := ⟨_, rfl⟩
    obtain ⟨q, hq⟩ : ∃ q, p.paths[k]? = some q := ⟨_, List.getElem?_eq_getElem (by have := HPL.out; omega)⟩
    have hxl := hi x (hx ▸ List.getElem_mem _)
    obtain ⟨hql, hqx⟩ := hq' q (List.mem_of_getElem? hq)
    have HT := hide ((HP.out.vps hq).1.to HBl.out)
    obtain ⟨Aq, cq, hv, hcq⟩ := (HP.out.vps hq).1.slice
    rw [hv] at HT
    have CC := ContainsFunc_str 73 ent_formed1 (fun x => !isD x) q (by omega) (.slice Aq q.length cq) W HT.out (fun x hx w' _ => formed1_any x (by have := hqx x hx; omega) w')
    have HO : Hid (p.okAt ⟨k, hk⟩ = (!(q.any fun x => !isD x) && decide (q.length ≤ 20) && decide (x.length ≤ 20000))) := by
      show _ = _
      unfold Pg.okAt okPart pathB
      rw [show p.items[(⟨k, hk⟩ : Fin p.items.length)] = x from hx, show p.paths.getD ((⟨k, hk⟩ : Fin p.items.length) : Nat) [] = q by simp [hq]]
    have HIt2 : Hid (Blk W Bx 74 #[.int .i64 (p.fr + (k : Nat)), .string (bs x), .slice Aq q.length cq]) := by
      have := HIt.out
      unfold itC at this
      rw [show p.items[(⟨k, hk⟩ : Fin p.items.length)] = x from hx] at this
      simp only [hv] at this
      exact this
    unfold itC
    rw [show p.items[(⟨k, hk⟩ : Fin p.items.length)] = x from hx]
    simp only [hv]
    have i1 := (HIt2.out.cell 1).trans (show _ = some (Value.string (bs x)) from rfl)
    have i2 := (HIt2.out.cell 2).trans (show _ = some (Value.slice Aq q.length cq) from rfl)
    have hxs : (bs x).size = x.length := bs_size x
    clear HIt hqx hv
    generalize (q.any fun x => !isD x) = b at *
    obtain ⟨b1, hb1⟩ : ∃ b, decide ((20 : Int) < (q.length : Int)) = b := ⟨_, rfl⟩
    obtain ⟨b2, hb2⟩ : ∃ b, decide ((20000 : Int) < (x.length : Int)) = b := ⟨_, rfl⟩
    have HE : Hid (p.okAt ⟨k, hk⟩ = (!b && !b1 && !b2)) := by
      show _ = _
      rw [HO.out, ← hb1, ← hb2, ← decide_not, ← decide_not, decide_eq_decide.2 (show (q.length ≤ 20 ↔ ¬ ((20 : Int) < (q.length : Int))) by omega), decide_eq_decide.2 (show (x.length ≤ 20000 ↔ ¬ ((20000 : Int) < (x.length : Int))) by omega)]
    clear HO
    cases b
    cases b1
    cases b2
    all_goals
      gi_wp2_with (refine ⟨trivial, fun _ => (by omega), ?_⟩; gi_at_call 45; refine (CallsIn.inRound l (callsIn_wide.2 CC)).mono ?_; rintro e w4 ⟨rfl, hb4⟩; have j1 := (hb4.cell (p := ⟨Bx, 1, none⟩) HIt2.out.lt).trans i1; have j2 := (hb4.cell (p := ⟨Bx, 2, none⟩) HIt2.out.lt).trans i2; have y4 := HBW.out.to hb4; have y0 := (y4.cell 0).trans (show _ = some (Value.bool false) from rfl); have yf := y4.frozen 0; have HY4 := hide y4; have HB4 := hide hb4; clear hb4 y4 CC)
    all_goals have HKF : KeepsFrom W0.heap.size W w4 := keepsFrom_of HB4.out
    all_goals have HBw : Below w.heap.size w w4 := HBl.out.trans (HB4.out.mono HBl.out.size)
    all_goals have HKp : KpX w.heap.size w2.heap.size W w4 := KpX.of HB4.out HBl.out.size hsW
    · exact ⟨HKF, HKp, ⟨HY4.out, by rw [List.all_append, hpre, List.all_cons, HE.out]; rfl, Nat.lt_of_lt_of_le hsW HB4.out.size⟩, HBw⟩
    all_goals exact ⟨HKF.trans ((KeepsOthers.setCell _ _ _).from _), ⟨rfl, ⟨⟨k, hk⟩, HE.out⟩, HY4.out.set_ 0 _⟩, HBw.setCell (p := ⟨w.heap.size + 1, 0, none⟩) (Nat.le_succ _) _⟩
  case done =>
    rintro D ys W hD rfl ⟨⟨hbW, hpre, hsW⟩, hBW⟩ hK
    have hK' := (KeepsOthers.setCell W ⟨w.heap.size + 1, 0, none⟩ (.bool true)).same D _ hK rfl
    have HBW := hide hbW
    have HBl := hide hBW
    have HK := hide hK
    have y0 := (hbW.cell 0).trans (show _ = some (Value.bool false) from rfl)
    have yf := hbW.frozen 0
    clear hbW hBW hK
    gi_wp2
    refine ⟨by simp, .inl ⟨_, _, rfl, run_takeDeferred hK', ?_⟩⟩
    have y1 := HBW.out.set_ 0 (.bool true)
    refine ⟨.bool true, results_bool rfl _ _ (w.heap.size + 1) (.bool true) rfl ?_, by rw [HF.out, hpre], (HBl.out.setCell (p := ⟨w.heap.size + 1, 0, none⟩) (Nat.le_succ _) _).trans (belowK_b (w := w) (Nat.le_refl _) _ D _ _ (by omega) hK' rfl rfl)⟩
    exact ((y1.own (grownBy_putObj' _ D (.deferred none)) (fun r e => by cases e; exact ⟨_, hK', rfl⟩)).cell 0).trans rfl
  case stop =>
    rintro D c pre W hD _ ⟨⟨rfl, ⟨k, hk⟩, hbW⟩, hBW⟩ hK
    have HBW := hide hbW
    have HBl := hide hBW
    have HK := hide hK
    clear hbW hBW hK
    gi_wp2
    refine ⟨by simp, .inl ⟨_, _, rfl, run_takeDeferred HK.out, ?_⟩⟩
    refine ⟨.bool false, results_bool rfl _ _ (w.heap.size + 1) (.bool false) rfl ?_, ?_, HBl.out.trans (belowK_b (w := w) (Nat.le_refl _) _ D _ _ (by omega) HK.out rfl rfl)⟩
    · exact ((HBW.out.own (grownBy_putObj' _ D (.deferred none)) (fun r e => by cases e; exact ⟨_, HK.out, rfl⟩)).cell 0).trans rfl
    · rw [HF.out]
      congr 2
      rw [eq_comm, Bool.eq_false_iff]
      intro hall
      rw [List.all_eq_true.1 hall k (List.mem_finRange k)] at hk
      cases hk
theorem formed_any (p : Pg) (hl : p.root.length ≤ 100000) (hi : ∀ x ∈ p.items, x.length ≤ 100000) (hq : ∀ q ∈ p.paths, q.length ≤ 200000 ∧ ∀ x ∈ q, x.length ≤ 100000) (vi vp : Value) (w : World) (hvi : TextsAt w vi p.items) (hvp : PathsAt w vp p.paths) :
    Calls Tryz.prog 30 #[.agg (p.cs vi vp)] w fun e w' => e = .returned (.bool (formedB p)) ∧ Below w.heap.size w w' := by
  cases h : headB p with
  | true => exact formed_in p hl hi hq h vi vp w hvi hvp
  | false =>
    refine (formed_out p hl h vi vp w hvi hvp).mono ?_
    rintro e w' ⟨rfl, hb⟩
    exact ⟨by unfold formedB; rw [h]; rfl, hb⟩
end Go.Proofs.YtnjlefggkfagmaaGreatDoor

/- Builders whose frame reaches above them. -/
set_option linter.unusedVariables false
set_option linter.unusedSimpArgs false
namespace Go.Proofs.YtnjlefggkfagmaaGreatDoor
open Go.RowKit Go.Shelf

theorem WriteString_k (B b : Nat) (vs : List Value) (s : ByteArray) (w : World) (h : Lib.IsBuilderF 79 5 B b vs w) (hlen : vs.length + s.size ≤ 140737488355328) (hBw : B ≤ w.heap.size) :
    Calls Tryz.prog 41 #[.pointer (some ⟨b, 0, none⟩), .string s] w fun e w' => e = .returned (.tuple #[.int .i64 s.size, .nilIface]) ∧ (Lib.BuilderAtF 79 5 B b (.pointer (some ⟨b, 0, none⟩)) (vs ++ Lib.strCells s) w' ∧ Below B w w' ∧ Lib.OthersKept 5 (some b) w w') :=
  Any.Builder_WriteString_k { Tryz.lays105 with } Tryz.Builder_Extra_105 B b vs s w h hlen hBw
theorem BString_k (B b : Nat) (l : List UInt8) (w : World) (h : Lib.IsBuilderF 79 5 B b (Lib.byteCells l) w) (hBw : B ≤ w.heap.size) :
    Calls Tryz.prog 44 #[.pointer (some ⟨b, 0, none⟩)] w fun e w' => e = .returned (.string ⟨l.toArray⟩) ∧ Below B w w' ∧ Lib.OthersKept 5 (some b) w w' :=
  (Any.Builder_String_any_k Tryz.lays169 Tryz.Builder_Extra_169 B b l w h hBw).mono fun e w' h => ⟨h.1, h.2.2⟩
theorem BuilderAtF.keep {T e : TypeId} {B b : Nat} {p : Value} {vs : List Value} {w w' : World} (h : Lib.BuilderAtF T e B b p vs w) (hk : ∀ (k : Nat) (c : Array Value) (t : TypeId) (fz : Nat × Nat), w.heap[k]? = some (Obj.cells c t fz) → w'.heap[k]? = some (Obj.cells c t fz)) : Lib.BuilderAtF T e B b p vs w' := by
  obtain ⟨h1, v, h2, h3, h4⟩ := h
  refine ⟨h1, v, hk _ _ _ _ h2, ⟨h3.1, ?_⟩, h4⟩
  rcases h3.2 with h5 | ⟨g, cap, cur, fz, h5, h6, h7, h8⟩
  · exact .inl h5
  · exact .inr ⟨g, cap, cur, fz, h5, h6, hk _ _ _ _ h7, h8⟩
theorem IsBuilderF.keep {T e : TypeId} {B b : Nat} {vs : List Value} {w w' : World} (h : Lib.IsBuilderF T e B b vs w) (hk : ∀ (k : Nat) (c : Array Value) (t : TypeId) (fz : Nat × Nat), w.heap[k]? = some (Obj.cells c t fz) → w'.heap[k]? = some (Obj.cells c t fz)) : Lib.IsBuilderF T e B b vs w' :=
  h.elim (fun x => .inl (BuilderAtF.keep x hk)) (fun x => .inr (BuilderAtF.keep x hk))
theorem IsBuilderF.to {T e : TypeId} {B b : Nat} {vs : List Value} {w w' : World} (h : Lib.IsBuilderF T e B b vs w) (hb : Below w.heap.size w w') : Lib.IsBuilderF T e B b vs w' :=
  IsBuilderF.keep h fun k c t fz hk => (hb.block k (Array.getElem?_eq_some_iff.1 hk).1).trans hk
theorem IsBuilderF.own {T e : TypeId} {B b : Nat} {vs : List Value} {w w' : World} {row : Option Nat} (h : Lib.IsBuilderF T e B b vs w) (hg : w.grownBy w' row) (hr : ∀ r, row = some r → ∃ o : Obj, w.heap[r]? = some o ∧ o.isCells = false) : Lib.IsBuilderF T e B b vs w' :=
  IsBuilderF.keep h fun k c t fz hk => (hg.block k (Array.getElem?_eq_some_iff.1 hk).1 (fun e => by obtain ⟨o, ho, hc⟩ := hr k e.symm; rw [hk] at ho; cases ho; cases hc)).trans hk
theorem IsBuilderF.blk {T e : TypeId} {B b : Nat} {vs : List Value} {w : World} (h : Lib.IsBuilderF T e B b vs w) : ∃ cs, Blk w b T cs := by
  rcases h with ⟨_, v, h, _⟩ | ⟨_, v, h, _⟩
  · exact ⟨_, h⟩
  · exact ⟨_, h⟩
theorem keepsFrom_kept {T : TypeId} {D B b : Nat} {vs : List Value} {w w' : World} (hI : Lib.IsBuilderF T 5 B b vs w) (hb : Below B w w') (hk : Lib.OthersKept 5 (some b) w w') : KeepsFrom D w w' :=
  ⟨hb.size, fun k o _ h0 ho => hk k o h0 (fun e => by obtain ⟨cs, hc⟩ := IsBuilderF.blk hI; cases e; rw [show w.heap[b]? = _ from hc] at h0; cases h0; cases ho) (fun c fz e => by subst e; cases ho)⟩
theorem blk_kept {b g : Nat} {t : TypeId} {cs : Array Value} {w w' : World} (h : Blk w g t cs) (hk : Lib.OthersKept 5 (some b) w w') (hg : g ≠ b) (ht : t ≠ 5) : Blk w' g t cs :=
  hk g _ h (fun e => hg (Option.some.inj e)) (fun c fz e => by cases e; exact ht rfl)
end Go.Proofs.YtnjlefggkfagmaaGreatDoor

/- Walks of the reference of layer 1: decimal digits. -/
set_option linter.unusedVariables false
set_option linter.unusedSimpArgs false
namespace Go.Proofs.YtnjlefggkfagmaaGreatDoor
open Go.RowKit

def dgc (m : Nat) : UInt8 := UInt8.ofNat (48 + m)
def decS : List UInt8 := [48, 49, 50, 51, 52, 53, 54, 55, 56, 57]
theorem decS_cut : ∀ m, m < 10 → (decS.drop m).take (m + 1 - m) = [dgc m] := by decide
theorem decS_ext (m : Nat) (h : m < 10) : (⟨#[48, 49, 50, 51, 52, 53, 54, 55, 56, 57]⟩ : ByteArray).extract m (m + 1) = bs [dgc m] := by
  have := bs_cut decS m (m + 1)
  rw [decS_cut m h] at this
  exact this
def restD (u : Nat) : List UInt8 := if u = 0 then [] else Lib.decDigits u
theorem restD_step {u : Nat} (h : 0 < u) : restD u = restD (u / 10) ++ [dgc (u % 10)] := by
  unfold restD
  rw [if_neg (by omega), Lib.decDigits]
  split
  · rename_i h10
    rw [if_pos (by omega), show u % 10 = u by omega]; rfl
  · rw [if_neg (by omega)]; rfl
theorem dec_step (u : Nat) : Lib.decDigits u = restD (u / 10) ++ [dgc (u % 10)] := by
  unfold restD
  conv => lhs; rw [Lib.decDigits]
  split
  · rename_i h10
    rw [if_pos (by omega), show u % 10 = u by omega]; rfl
  · rw [if_neg (by omega)]; rfl
theorem dec_len : ∀ (n u : Nat), u < 10 ^ (n + 1) → (Lib.decDigits u).length ≤ n + 1 := by
  intro n
  induction n with
  | zero => intro u hu; rw [Lib.decDigits, dif_pos (show u < 10 by omega)]; simp
  | succ n ih =>
    intro u hu
    rw [Lib.decDigits]
    split
    · simp
    · rw [List.length_append]
      have := ih (u / 10) (by rw [Nat.pow_succ] at hu; omega)
      simp; omega
def DgI (u : Nat) (w wr : World) (a s : Value) : Prop := ∃ (k : Nat) (S : List UInt8), a = .int .u64 (k : Int) ∧ s = .string (bs S) ∧ restD k ++ S = Lib.decDigits u ∧ k ≤ u ∧ wr = w
set_option maxRecDepth 100000 in
set_option maxHeartbeats 2000000 in
theorem rdigits_any (u : Nat) (hu : u < 18446744073709551616) (w : World) : Calls Tryz.prog 112 #[.int .u64 (u : Int)] w fun e w' => e = .returned (.string (bs (Lib.decDigits u))) ∧ w' = w := by
  have hlen := dec_len 19 u (by omega)
  obtain ⟨m, hm, hm10⟩ : ∃ m, u % 10 = m ∧ m < 10 := ⟨_, rfl, by omega⟩
  have h1 : (u : Int).tmod 10 = (m : Int) := by rw [Int.tmod_eq_emod_of_nonneg (by omega), ← hm, Int.natCast_emod]; rfl
  have hx := decS_ext m hm10
  have HS := hide (dec_step u)
  rw [hm] at HS
  have H2 : Hid ((u : Int) / 10 = ((u / 10 : Nat) : Int)) := by show _ = _; rw [Int.natCast_ediv]; rfl
  go_enter Tryz.func112, Tryz.ntmps112
  go_wp2_with fail
  clear hm h1 hx hm10
  go_loopw [0, 3] (fun a s wr => DgI u w wr a s) (fun a _ _ => (intOf a).toNat)
  case atStart => exact ⟨u / 10, [dgc m], by rw [H2.out], rfl, HS.out.symm, by omega, rfl⟩
  case round =>
    obtain ⟨k, S, rfl, rfl, hS, hk, rfl⟩ := hrel
    have HE := hide hS
    clear hS HS H2
    have hSl : S.length ≤ 20 := by have := congrArg List.length HE.out; rw [List.length_append] at this; omega
    have hz : (bs S).size = S.length := bs_size S
    by_cases h0 : 0 < k
    · have e1 : decide ((0 : Int) < (k : Int)) = true := decide_eq_true (by omega)
      obtain ⟨m', hm, hm10⟩ : ∃ m, k % 10 = m ∧ m < 10 := ⟨_, rfl, by omega⟩
      have h1 : (k : Int).tmod 10 = (m' : Int) := by rw [Int.tmod_eq_emod_of_nonneg (by omega), ← hm, Int.natCast_emod]; rfl
      have hx := decS_ext m' hm10
      have hz1 : (bs [dgc m']).size = 1 := rfl
      have H2 : Hid ((k : Int) / 10 = ((k / 10 : Nat) : Int)) := by show _ = _; rw [Int.natCast_ediv]; rfl
      have HN := hide (restD_step h0)
      rw [hm] at HN
      clear hm
      go_wp2_with fail
      refine ⟨⟨k / 10, [dgc m'] ++ S, by rw [H2.out], by rw [← bs_app], by rw [← HE.out, HN.out]; simp, by omega, (by first | rfl | trivial)⟩, ?_⟩
      simp [intOf]; omega
    · obtain rfl : k = 0 := by omega
      have HF : Hid (S = Lib.decDigits u) := by show _ = _; rw [← HE.out]; rfl
      go_wp2_with fail
      go_ret
      exact ⟨ret_str' (by rw [HF.out]), rfl⟩
theorem rDecimal_any (u : Nat) (hu : u ≤ 9223372036854775807) (w : World) : Calls Tryz.prog 87 #[.int .i64 (u : Int)] w fun e w' => e = .returned (.string (bs (Lib.decDigits u))) ∧ w' = w := by
  have CD := fun w => rdigits_any u (by omega) w
  have e1 : decide ((u : Int) < 0) = false := decide_eq_false (by omega)
  have hw : IntKind.u64.wrap (u : Int) = (u : Int) := by
    have hm : (u : Int) % 18446744073709551616 = u := by omega
    simp [IntKind.wrap, IntKind.signed, IntKind.bits, hm]
  go_enter Tryz.func87, Tryz.ntmps87
  go_wp2_with ((with_reducible refine (CD _).mono ?_); rintro e w' ⟨rfl, rfl⟩)
  go_ret
  exact ⟨rfl, rfl⟩
end Go.Proofs.YtnjlefggkfagmaaGreatDoor

/- The text of a page; strings.Join. -/
set_option linter.unusedVariables false
set_option linter.unusedSimpArgs false
namespace Go.Proofs.YtnjlefggkfagmaaGreatDoor
open Go.RowKit Go.Shelf

def headT (p : Pg) : List UInt8 := Lib.join [[112, 97, 103, 101], Lib.itoa p.fr, Lib.itoa p.size, p.root, Lib.itoa p.items.length] [32] ++ [10]
def lineT (x : List UInt8) (q : List (List UInt8)) : List UInt8 := Lib.join (Lib.itoa x.length :: q) [32] ++ [10] ++ x ++ [10]
def Pg.line (p : Pg) (k : Fin p.items.length) : List UInt8 := lineT p.items[k] (p.paths.getD k [])
def textPg (p : Pg) : List UInt8 := headT p ++ (List.finRange p.items.length).flatMap p.line
theorem itoa_len (n : Nat) (h : n < 10000000000000000000) : (Lib.itoa (n : Int)).length ≤ 20 := by
  unfold Lib.itoa
  rw [if_neg (by omega)]
  exact dec_len 19 n (by omega)
theorem tail_len (m : Nat) : ∀ (q : List (List UInt8)), (∀ x ∈ q, x.length ≤ m) → (Lib.joinTail [32] q).length ≤ q.length * (m + 1)
  | [], _ => by simp [Lib.joinTail]
  | x :: q, h => by
    have h1 := tail_len m q (fun y hy => h y (List.mem_cons_of_mem _ hy))
    have h2 := h x (List.mem_cons_self ..)
    unfold Lib.joinTail at h1 ⊢
    rw [List.map_cons, List.flatten_cons, List.length_append, List.length_append, List.length_cons, List.length_cons, Nat.add_mul]
    simp only [List.length_nil]
    omega
theorem line_len (x : List UInt8) (q : List (List UInt8)) (hx : x.length ≤ 100000) (hn : q.length ≤ 200000) (hq : ∀ y ∈ q, y.length ≤ 100000) : (lineT x q).length ≤ 30000000000 := by
  unfold lineT
  rw [Lib.join_cons]
  have h1 := itoa_len x.length (by omega)
  have h2 := tail_len 100000 q hq
  have h3 : q.length * (100000 + 1) ≤ 200000 * 100001 := Nat.mul_le_mul hn (Nat.le_refl _)
  simp only [List.length_append, List.length_cons, List.length_nil]
  omega
theorem flat_le {α : Type} (f : α → List UInt8) (m : Nat) (h : ∀ x, (f x).length ≤ m) : ∀ l : List α, (l.flatMap f).length ≤ l.length * m
  | [] => by simp
  | x :: l => by
    have := flat_le f m h l
    have := h x
    rw [List.flatMap_cons, List.length_append, List.length_cons, Nat.add_mul]
    omega
theorem Join_any (b o c : Nat) (ls : List (List UInt8)) (w : World) (hb : b < w.heap.size) (hc : ls.length ≤ c) (hn : ls.length ≤ 1000000) (hat : ∀ (j : Nat) x, ls[j]? = some x → w.cell? ⟨b, o + j, none⟩ = some (.string (bs x))) (hl : (Lib.join ls [32]).length ≤ 140737488355328) :
    Calls Tryz.prog 42 #[.slice (some ⟨b, o, none⟩) ls.length c, .string ⟨#[32]⟩] w fun e w' => e = .returned (.string (bs (Lib.join ls [32]))) ∧ Below w.heap.size w w' := by
  have e1 : (ls.map bs).map (fun x => x.data.toList) = ls := by
    rw [List.map_map]
    conv => rhs; rw [← List.map_id ls]
    exact List.map_congr_left fun x _ => bs_list x
  have h := Tryz.strings_Join b o c (ls.map bs) ⟨#[32]⟩ w (fun j x hx => by
    rw [List.getElem?_map] at hx
    obtain ⟨y, hy, rfl⟩ := Option.map_eq_some_iff.1 hx
    exact hat j y hy) hb (by rw [List.length_map]; omega) (by rw [List.length_map]; exact hc) (by rw [e1]; exact hl)
  rw [e1, List.length_map] at h
  exact h
end Go.Proofs.YtnjlefggkfagmaaGreatDoor

/- The plain reading of a page's text. -/
set_option linter.unusedVariables false
set_option linter.unusedSimpArgs false
namespace Go.Proofs.YtnjlefggkfagmaaGreatDoor
open Go.RowKit

/-! digits -/
def isDg (c : UInt8) : Prop := 48 ≤ c.toNat ∧ c.toNat ≤ 57
theorem ofNat_dg {d : Nat} (h : d < 10) : (UInt8.ofNat (48 + d)).toNat = 48 + d := by simp; omega
theorem dec_dg : ∀ (u : Nat), ∀ c ∈ Lib.decDigits u, isDg c := by
  intro u
  induction u using Nat.strongRecOn with
  | ind u ih =>
    intro c hc
    rw [Lib.decDigits] at hc
    split at hc
    · rename_i h
      simp only [List.mem_cons, List.not_mem_nil, or_false] at hc
      subst hc
      unfold isDg
      rw [ofNat_dg h]; omega
    · rename_i h
      rcases List.mem_append.1 hc with hc | hc
      · exact ih (u / 10) (by omega) c hc
      · simp only [List.mem_cons, List.not_mem_nil, or_false] at hc
        subst hc
        unfold isDg
        rw [ofNat_dg (by omega)]; omega
theorem dec_ne' (u : Nat) : Lib.decDigits u ≠ [] := by
  rw [Lib.decDigits]
  split <;> simp
def valD (acc : Nat) (l : List UInt8) : Nat := l.foldl (fun a c => a * 10 + (c.toNat - 48)) acc
theorem valD_snoc (acc : Nat) (l : List UInt8) (c : UInt8) : valD acc (l ++ [c]) = valD acc l * 10 + (c.toNat - 48) := by simp [valD]
theorem valD_le : ∀ (l : List UInt8) (acc : Nat), acc ≤ valD acc l
  | [], acc => Nat.le_refl _
  | c :: r, acc => by
    have := valD_le r (acc * 10 + (c.toNat - 48))
    show acc ≤ valD (acc * 10 + (c.toNat - 48)) r
    omega
theorem valD_dec : ∀ u : Nat, valD 0 (Lib.decDigits u) = u := by
  intro u
  induction u using Nat.strongRecOn with
  | ind u ih =>
    rw [Lib.decDigits]
    split
    · rename_i h
      simp only [valD, List.foldl_cons, List.foldl_nil]
      rw [ofNat_dg h]; omega
    · rename_i h
      rw [valD_snoc, ih (u / 10) (by omega), ofNat_dg (by omega)]; omega
theorem parse_dg : ∀ (l : List UInt8) (acc : Nat), (∀ c ∈ l, isDg c) → valD acc l < 1000000000000000000 → Lib.parseUint10 acc l = .ok (valD acc l)
  | [], acc, _, _ => rfl
  | c :: r, acc, hd, hv => by
    obtain ⟨h1, h2⟩ := hd c (by simp)
    have hv' : valD (acc * 10 + (c.toNat - 48)) r < 1000000000000000000 := hv
    have := valD_le r (acc * 10 + (c.toNat - 48))
    rw [Lib.parseUint10, if_pos ⟨h1, h2⟩, if_neg (by omega), if_neg (by omega), parse_dg r _ (fun c' hc' => hd c' (by simp [hc'])) hv']
    rfl
theorem atoi_dec {u : Nat} (h : u < 1000000000000000000) : Lib.atoiAll (Lib.decDigits u) = .ok (u : Int) := by
  have hd := dec_dg u
  have hne := dec_ne' u
  have hv := valD_dec u
  have hp := parse_dg (Lib.decDigits u) 0 hd (by omega)
  rw [hv] at hp
  cases hl : Lib.decDigits u with
  | nil => exact absurd hl hne
  | cons c r =>
    rw [hl] at hd hp
    obtain ⟨h1, h2⟩ := hd c (by simp)
    unfold Lib.atoiAll Lib.parseMag
    simp only
    rw [if_neg (show ¬ (c.toNat = 43 ∨ c.toNat = 45) by omega), if_neg (by simp), hp]
    simp only
    rw [if_neg (by omega), if_neg (by omega), if_neg (by omega)]
theorem itoa_dec {n : Int} (h : 0 ≤ n) : Lib.itoa n = Lib.decDigits n.toNat := by unfold Lib.itoa; rw [if_neg (by omega)]
theorem dg_not {l : List UInt8} (h : ∀ c ∈ l, isDg c) {b : UInt8} (hb : b.toNat < 48 ∨ 57 < b.toNat) : b ∉ l := fun hm => by
  obtain ⟨h1, h2⟩ := h b hm
  omega
theorem itoa_dg {n : Int} (h : 0 ≤ n) : ∀ c ∈ Lib.itoa n, isDg c := by rw [itoa_dec h]; exact dec_dg _
/-- a number that is not negative, as strconv reads it -/
def numO (s : List UInt8) : Option Int := match Lib.atoiAll s with | .ok v => if v < 0 then none else some v | _ => none
theorem numO_itoa {n : Int} (h : 0 ≤ n) (h' : n ≤ 1000000000) : numO (Lib.itoa n) = some n := by
  unfold numO
  rw [itoa_dec h, atoi_dec (by omega)]
  simp only
  rw [if_neg (by omega)]
  congr 1; omega
theorem numO_range {s : List UInt8} {n : Int} (h : numO s = some n) : 0 ≤ n ∧ n ≤ 9223372036854775807 := by
  unfold numO at h
  split at h
  · rename_i v hv
    split at h
    · cases h
    · cases h
      refine ⟨by omega, ?_⟩
      unfold Lib.atoiAll at hv
      split at hv
      · cases hv
      · simp only at hv
        split at hv
        · cases hv
        · cases hv
        · split at hv
          · cases hv
          · split at hv
            · cases hv
            · cases hv
              rename_i h1 h2 h3
              split <;> omega
  · cases h

/-! cuts -/
theorem index_no {b : UInt8} : ∀ {l : List UInt8}, b ∉ l → Lib.index l [b] = -1
  | [], _ => rfl
  | c :: r, h => by
    simp only [List.mem_cons, not_or] at h
    rw [Lib.index, if_neg (by simp [List.isPrefixOf, h.1]), index_no h.2]
    rfl
theorem index_at {b : UInt8} : ∀ {l : List UInt8} (r : List UInt8), b ∉ l → Lib.index (l ++ b :: r) [b] = l.length
  | [], r, _ => by rw [List.nil_append, Lib.index, if_pos (by simp [List.isPrefixOf])]; rfl
  | c :: l, r, h => by
    simp only [List.mem_cons, not_or] at h
    have ih := index_at r h.2
    rw [List.cons_append, Lib.index, if_neg (by simp [List.isPrefixOf, h.1]), ih, if_neg (by simp)]
    simp
theorem cut_at {b : UInt8} {l : List UInt8} (r : List UInt8) (h : b ∉ l) : Lib.cut (l ++ b :: r) [b] = (l, r, true) := by
  unfold Lib.cut
  rw [index_at r h, if_pos (by omega)]
  have e : (l.length : Int).toNat = l.length := by simp
  rw [e]
  simp
theorem cut_len (l s : List UInt8) : (Lib.cut l s).1.length ≤ l.length ∧ (Lib.cut l s).2.1.length ≤ l.length := by
  unfold Lib.cut
  split
  · constructor
    · simp only [List.length_take]; omega
    · simp only [List.length_drop]; omega
  · simp
theorem split_no {b : UInt8} {l : List UInt8} (h : b ∉ l) : Lib.split l [b] = [l] := by
  unfold Lib.split
  rw [Lib.count_miss (index_no h)]; rfl
theorem split_at {b : UInt8} {l : List UInt8} (r : List UInt8) (h : b ∉ l) : Lib.split (l ++ b :: r) [b] = l :: Lib.split r [b] := by
  have hi := index_at r h
  unfold Lib.split
  rw [Lib.count_hit (by simp) hi]
  have e : (l ++ b :: r).drop (l.length + [b].length) = r := by
    rw [List.drop_append]
    simp
  rw [e, Nat.add_comm 1, Lib.splitK, hi, if_neg (by rw [beq_iff_eq]; omega)]
  have e2 : (l.length : Int).toNat = l.length := by simp
  rw [e2, e, Nat.add_zero]
  simp
theorem join_one (x s : List UInt8) : Lib.join [x] s = x := by rw [Lib.join_cons]; simp [Lib.joinTail]
theorem join_two (x y : List UInt8) (ls : List (List UInt8)) (b : UInt8) : Lib.join (x :: y :: ls) [b] = x ++ b :: Lib.join (y :: ls) [b] := by
  rw [Lib.join_cons, Lib.join_cons]
  simp [Lib.joinTail]
theorem join_not {b c : UInt8} (hbc : c ≠ b) : ∀ (ls : List (List UInt8)) (x : List UInt8), c ∉ x → (∀ y ∈ ls, c ∉ y) → c ∉ Lib.join (x :: ls) [b]
  | [], x, h, _ => by rw [join_one]; exact h
  | y :: ls, x, h, h2 => by
    rw [join_two]
    simp only [List.mem_append, List.mem_cons, not_or]
    exact ⟨h, hbc, join_not hbc ls y (h2 y (by simp)) fun z hz => h2 z (by simp [hz])⟩
theorem split_join {b : UInt8} : ∀ (ls : List (List UInt8)) (x : List UInt8), b ∉ x → (∀ y ∈ ls, b ∉ y) → Lib.split (Lib.join (x :: ls) [b]) [b] = x :: ls
  | [], x, h, _ => by rw [join_one, split_no h]
  | y :: ls, x, h, h2 => by rw [join_two, split_at _ h, split_join ls y (h2 y (by simp)) fun z hz => h2 z (by simp [hz])]
theorem splitK_len (sep : List UInt8) : ∀ (k : Nat) (s : List UInt8), (Lib.splitK sep 0 k s).length ≤ k + 1 ∧ ∀ x ∈ Lib.splitK sep 0 k s, x.length ≤ s.length
  | 0, s => ⟨Nat.le_refl _, fun x hx => by simp [Lib.splitK] at hx; subst hx; exact Nat.le_refl _⟩
  | k + 1, s => by
    unfold Lib.splitK
    split
    · exact ⟨by simp, fun x hx => by simp at hx; subst hx; exact Nat.le_refl _⟩
    · obtain ⟨h1, h2⟩ := splitK_len sep k (s.drop ((Lib.index s sep).toNat + sep.length))
      refine ⟨by rw [List.length_cons]; omega, fun x hx => ?_⟩
      rcases List.mem_cons.1 hx with rfl | hx
      · rw [List.length_take]; omega
      · have := h2 x hx; rw [List.length_drop] at this; omega
theorem split_len (s sep : List UInt8) : (Lib.split s sep).length ≤ s.length + 2 ∧ ∀ x ∈ Lib.split s sep, x.length ≤ s.length := by
  obtain ⟨h1, h2⟩ := splitK_len sep (Lib.count s sep) s
  exact ⟨Nat.le_trans h1 (by have := Lib.count_le s sep; omega), h2⟩
theorem split_ne (s sep : List UInt8) : 1 ≤ (Lib.split s sep).length := by
  unfold Lib.split
  cases Lib.count s sep with
  | zero => exact Nat.le_refl _
  | succ k => unfold Lib.splitK; split <;> simp

/-! reading -/
structure PSt where
  items : List (List UInt8)
  paths : List (List (List UInt8))
  rest : List UInt8
def lnP (t : List UInt8) : List (List UInt8) := Lib.split (Lib.cut t [10]).1 [32]
def reP (t : List UInt8) : List UInt8 := (Lib.cut t [10]).2.1
def okP (t : List UInt8) : Bool := (Lib.cut t [10]).2.2
def stepP (s : PSt) : Option PSt :=
  if okP s.rest then
    match numO ((lnP s.rest).headD []) with
    | none => none
    | some v => if (reP s.rest).length ≤ v.toNat then none else some ⟨s.items ++ [(reP s.rest).take v.toNat], s.paths ++ [(lnP s.rest).drop 1], (reP s.rest).drop (v.toNat + 1)⟩
  else none
def loopP : Nat → PSt → Option PSt
  | 0, s => some s
  | n + 1, s => match stepP s with | none => none | some s' => loopP n s'
theorem loopP_no {n : Nat} {s : PSt} (h : stepP s = none) : loopP (n + 1) s = none := by unfold loopP; rw [h]
theorem loopP_yes {n : Nat} {s s' : PSt} (h : stepP s = some s') : loopP (n + 1) s = loopP n s' := by conv => lhs; unfold loopP; rw [h]
def preP (t : List UInt8) : Option Pg :=
  if okP t && decide ((lnP t).length = 5) then
    match numO ((lnP t).getD 1 []), numO ((lnP t).getD 2 []), numO ((lnP t).getD 4 []) with
    | some f, some s, some n => (loopP (min n 51).toNat ⟨[], [], reP t⟩).map fun st => ⟨f, s, (lnP t).getD 3 [], st.items, st.paths⟩
    | _, _, _ => none
  else none
def parseP (t : List UInt8) : Option Pg := match preP t with | some p => if formedB p && decide (textPg p = t) then some p else none | none => none
/-! the text of a formed page is read as it was written -/
theorem formed_spec {p : Pg} (h : formedB p = true) : ((0 ≤ p.fr ∧ p.fr ≤ 10000) ∧ (0 ≤ p.size ∧ p.size ≤ 10000) ∧ isD p.root = true ∧ p.items.length ≤ 50 ∧ p.paths.length = p.items.length) ∧
    ∀ k (hk : k < p.items.length), okPart p.items[k] (p.paths.getD k []) = true := by
  unfold formedB at h
  rw [Bool.and_eq_true] at h
  refine ⟨?_, fun k hk => ?_⟩
  · have := h.1
    unfold headB at this
    simpa only [Bool.and_eq_true, decide_eq_true_eq] using this
  · exact List.all_eq_true.1 h.2 ⟨k, hk⟩ (List.mem_finRange _)
theorem okPart_spec {x : List UInt8} {q : List (List UInt8)} (h : okPart x q = true) : (∀ y ∈ q, isD y = true) ∧ q.length ≤ 20 ∧ x.length ≤ 20000 := by
  unfold okPart pathB at h
  simp only [Bool.and_eq_true, decide_eq_true_eq, Bool.not_eq_true', List.any_eq_false] at h
  exact ⟨fun y hy => by simpa using h.1.1 y hy, h.1.2, h.2⟩
theorem lines_zip (p : Pg) (hl : p.paths.length = p.items.length) : (List.finRange p.items.length).flatMap p.line = (p.items.zip p.paths).flatMap fun z => lineT z.1 z.2 := by
  rw [List.flatMap_def, List.flatMap_def]
  congr 1
  refine List.ext_getElem ?_ ?_
  · simp; omega
  · intro k h1 h2
    simp only [List.getElem_map, List.getElem_finRange, List.getElem_zip]
    unfold Pg.line
    have : k < p.paths.length := by simp at h1; omega
    simp [this]
theorem isD_not {x : List UInt8} (h : isD x = true) {b : UInt8} (hb : b.toNat < 48) : b ∉ x := fun hm => by
  have := ((isD_iff x).1 h).2 b hm
  unfold isHex at this
  simp only [Bool.or_eq_true, Bool.and_eq_true, decide_eq_true_eq] at this
  omega
theorem stepP_line (x : List UInt8) (q : List (List UInt8)) (h : okPart x q = true) (is : List (List UInt8)) (ps : List (List (List UInt8))) (r : List UInt8) : stepP ⟨is, ps, lineT x q ++ r⟩ = some ⟨is ++ [x], ps ++ [q], r⟩ := by
  obtain ⟨h1, h2, h3⟩ := okPart_spec h
  have hd := itoa_dg (n := (x.length : Int)) (by omega)
  have e0 : lineT x q ++ r = Lib.join (Lib.itoa x.length :: q) [32] ++ 10 :: (x ++ 10 :: r) := by unfold lineT; simp
  have e1 : Lib.cut (lineT x q ++ r) [10] = (Lib.join (Lib.itoa x.length :: q) [32], x ++ 10 :: r, true) := by
    rw [e0]
    exact cut_at _ (join_not (by decide) q _ (dg_not hd (by decide)) fun y hy => isD_not (h1 y hy) (by decide))
  have e2 : lnP (lineT x q ++ r) = Lib.itoa x.length :: q := by
    unfold lnP
    rw [e1]
    exact split_join q _ (dg_not hd (by decide)) fun y hy => isD_not (h1 y hy) (by decide)
  have e3 : reP (lineT x q ++ r) = x ++ 10 :: r := by unfold reP; rw [e1]
  have e4 : okP (lineT x q ++ r) = true := by unfold okP; rw [e1]
  unfold stepP
  simp only [e2, e3, e4, if_true, List.headD_cons]
  rw [numO_itoa (by omega) (by omega)]
  simp only [Int.toNat_natCast]
  rw [if_neg (by simp)]
  simp
theorem loopP_lines : ∀ (z : List (List UInt8 × List (List UInt8))) (is : List (List UInt8)) (ps : List (List (List UInt8))) (r : List UInt8), (∀ a ∈ z, okPart a.1 a.2 = true) →
    loopP z.length ⟨is, ps, (z.flatMap fun a => lineT a.1 a.2) ++ r⟩ = some ⟨is ++ z.map (·.1), ps ++ z.map (·.2), r⟩
  | [], is, ps, r, _ => by simp [loopP]
  | a :: z, is, ps, r, h => by
    rw [List.length_cons, List.flatMap_cons, List.append_assoc, loopP_yes (stepP_line a.1 a.2 (h a (by simp)) is ps _), loopP_lines z _ _ r fun b hb => h b (by simp [hb])]
    simp
theorem pre_text {p : Pg} (h : formedB p = true) : preP (textPg p) = some p := by
  obtain ⟨⟨hf, hs, hr, hn, hl⟩, hp⟩ := formed_spec h
  have hb : ∀ {b : UInt8}, b.toNat < 48 → b ∉ Lib.itoa p.fr ∧ b ∉ Lib.itoa p.size ∧ b ∉ p.root ∧ b ∉ Lib.itoa (p.items.length : Int) := fun hb =>
    ⟨dg_not (itoa_dg hf.1) (.inl hb), dg_not (itoa_dg hs.1) (.inl hb), isD_not hr hb, dg_not (itoa_dg (by omega)) (.inl hb)⟩
  have e1 : Lib.cut (textPg p) [10] = (Lib.join [[112, 97, 103, 101], Lib.itoa p.fr, Lib.itoa p.size, p.root, Lib.itoa p.items.length] [32], (List.finRange p.items.length).flatMap p.line, true) := by
    unfold textPg headT
    rw [List.append_assoc, List.singleton_append]
    refine cut_at _ (join_not (by decide) _ _ (by decide) ?_)
    obtain ⟨b1, b2, b3, b4⟩ := hb (b := 10) (by decide)
    intro y hy
    simp only [List.mem_cons, List.not_mem_nil, or_false] at hy
    rcases hy with rfl | rfl | rfl | rfl <;> assumption
  have e2 : lnP (textPg p) = [[112, 97, 103, 101], Lib.itoa p.fr, Lib.itoa p.size, p.root, Lib.itoa p.items.length] := by
    unfold lnP
    rw [e1]
    refine split_join _ _ (by decide) ?_
    obtain ⟨b1, b2, b3, b4⟩ := hb (b := 32) (by decide)
    intro y hy
    simp only [List.mem_cons, List.not_mem_nil, or_false] at hy
    rcases hy with rfl | rfl | rfl | rfl <;> assumption
  have e3 : reP (textPg p) = (p.items.zip p.paths).flatMap fun z => lineT z.1 z.2 := by unfold reP; rw [e1]; exact lines_zip p hl
  have e4 : okP (textPg p) = true := by unfold okP; rw [e1]
  have hz : (p.items.zip p.paths).length = p.items.length := by rw [List.length_zip]; omega
  unfold preP
  rw [e2, e3, e4]
  simp only [List.length_cons, List.length_nil, List.getD_cons_succ, List.getD_cons_zero, decide_true, Bool.and_self, if_true]
  rw [numO_itoa hf.1 (by omega), numO_itoa hs.1 (by omega), numO_itoa (by omega) (by omega)]
  simp only
  rw [show (min (p.items.length : Int) 51).toNat = (p.items.zip p.paths).length by omega]
  have := loopP_lines (p.items.zip p.paths) [] [] [] (fun a ha => by
    obtain ⟨k, hk, rfl⟩ := List.getElem_of_mem ha
    have hk' : k < p.items.length := by omega
    have := hp k hk'
    rw [List.getElem_zip]
    simpa [show k < p.paths.length by omega] using this)
  rw [List.append_nil] at this
  rw [this]
  simp only [List.nil_append, Option.map_some, List.map_fst_zip (show p.items.length ≤ p.paths.length by omega), List.map_snd_zip (show p.paths.length ≤ p.items.length by omega)]
theorem parse_text {p : Pg} (h : formedB p = true) : parseP (textPg p) = some p := by
  unfold parseP
  rw [pre_text h]
  simp [h]
end Go.Proofs.YtnjlefggkfagmaaGreatDoor

/- The plain side of the disk: sectors, what waits, the alarm. No program in sight. -/
set_option linter.unusedVariables false
set_option linter.unusedSimpArgs false
namespace Go.Proofs.YtnjlefggkfagmaaGreatDoor
open Go

/-- a disk: its sectors, what waits, whether it is off, the alarm -/
structure Dk where
  ss : List (List UInt8)
  q : List (Nat × List UInt8)
  off : Bool
  arm : Option (Int × Int × Int)
/-- the first bytes of sector k -/
def setS (ss : List (List UInt8)) (k : Nat) (t : List UInt8) : List (List UInt8) := ss.set k (t ++ (ss.getD k []).drop t.length)
def settleS (ss : List (List UInt8)) (q : List (Nat × List UInt8)) : List (List UInt8) := q.foldl (fun s p => setS s p.1 p.2) ss
def tornS (ss : List (List UInt8)) (o : Option (Nat × List UInt8)) (b : Int) : List (List UInt8) :=
  match o with
  | none => ss
  | some p => setS ss p.1 (p.2.take (min b.toNat 64))
def dFail (d : Dk) (n b : Int) : Dk := ⟨tornS (settleS d.ss (d.q.take n.toNat)) d.q[n.toNat]? b, [], true, none⟩
def dCount (d : Dk) : Int × Dk :=
  match d.arm with
  | none => (0, d)
  | some (a, n, b) => if 0 < a then (0, { d with arm := some (a - 1, n, b) }) else (21, dFail d n b)
def dWrite (d : Dk) (k : Nat) (t : List UInt8) : Int × Dk := dCount { d with q := d.q ++ [(k, t)] }
def dDone (d : Dk) : Dk := { d with ss := settleS d.ss d.q, q := [] }
def dSync (d : Dk) : Int × Dk := if (dCount d).1 = 0 then (0, dDone (dCount d).2) else dCount d
/-- journal.write -/
def wrAll : Dk → Nat → List (List UInt8) → Int × Dk
  | d, _, [] => dSync d
  | d, k, t :: r => if (dWrite d k t).1 = 0 then wrAll (dWrite d k t).2 (k + 1) r else dWrite d k t
def wrSteps : Dk → List (Nat × List (List UInt8)) → Int × Dk
  | d, [] => (0, d)
  | d, s :: r => if (wrAll d s.1 s.2).1 = 0 then wrSteps (wrAll d s.1 s.2).2 r else wrAll d s.1 s.2

theorem setS_len (ss : List (List UInt8)) (k : Nat) (t : List UInt8) : (setS ss k t).length = ss.length := by unfold setS; simp
theorem setS_ne (ss : List (List UInt8)) (k : Nat) (t : List UInt8) {i : Nat} (h : i ≠ k) : (setS ss k t)[i]? = ss[i]? := by
  unfold setS; rw [List.getElem?_set_ne (fun e => h e.symm)]
theorem setS_at (ss : List (List UInt8)) (k : Nat) (t : List UInt8) (h : k < ss.length) : (setS ss k t)[k]? = some (t ++ (ss.getD k []).drop t.length) := by
  unfold setS; rw [List.getElem?_set_self h]
/-- all sectors have 64 bytes -/
def All64 (ss : List (List UInt8)) : Prop := ∀ s ∈ ss, s.length = 64
theorem setS_64 {ss : List (List UInt8)} {k : Nat} {t : List UInt8} (h : All64 ss) (ht : t.length ≤ 64) : All64 (setS ss k t) := fun s hs => by
  rcases Nat.lt_or_ge k ss.length with hk | hk
  · rcases List.mem_or_eq_of_mem_set hs with hm | rfl
    · exact h s hm
    · have : (ss.getD k []).length = 64 := by rw [List.getD_eq_getElem?_getD, List.getElem?_eq_getElem hk]; exact h _ (List.getElem_mem hk)
      rw [List.length_append, List.length_drop]; omega
  · unfold setS at hs
    rw [List.set_eq_of_length_le hk] at hs
    exact h s hs
theorem setS_nil (ss : List (List UInt8)) (k : Nat) : setS ss k [] = ss := by
  unfold setS
  rw [List.length_nil, List.drop_zero, List.nil_append]
  refine List.ext_getElem? fun i => ?_
  by_cases hi : k = i
  · subst hi
    rcases Nat.lt_or_ge k ss.length with hk | hk
    · rw [List.getElem?_set_self hk, List.getD_eq_getElem?_getD, List.getElem?_eq_getElem hk]; rfl
    · rw [List.getElem?_eq_none (by simp; omega), List.getElem?_eq_none hk]
  · rw [List.getElem?_set_ne hi]
theorem settle_snoc (ss : List (List UInt8)) (q : List (Nat × List UInt8)) (p : Nat × List UInt8) : settleS ss (q ++ [p]) = setS (settleS ss q) p.1 p.2 := by unfold settleS; rw [List.foldl_append]; rfl
theorem settle_cons (ss : List (List UInt8)) (q : List (Nat × List UInt8)) (p : Nat × List UInt8) : settleS ss (p :: q) = settleS (setS ss p.1 p.2) q := rfl
theorem settle_len : ∀ (q : List (Nat × List UInt8)) (ss : List (List UInt8)), (settleS ss q).length = ss.length
  | [], ss => rfl
  | p :: r, ss => by rw [settle_cons, settle_len r, setS_len]
theorem settle_64 : ∀ (q : List (Nat × List UInt8)) {ss : List (List UInt8)}, All64 ss → (∀ p ∈ q, p.2.length ≤ 64) → All64 (settleS ss q)
  | [], ss, h, _ => h
  | p :: r, ss, h, hq => by rw [settle_cons]; exact settle_64 r (setS_64 h (hq p (by simp))) fun x hx => hq x (by simp [hx])
theorem settle_ne : ∀ (q : List (Nat × List UInt8)) {ss : List (List UInt8)} {i : Nat}, (∀ p ∈ q, p.1 ≠ i) → (settleS ss q)[i]? = ss[i]?
  | [], ss, i, _ => rfl
  | p :: r, ss, i, h => by rw [settle_cons, settle_ne r fun x hx => h x (by simp [hx]), setS_ne _ _ _ (fun e => h p (by simp) e.symm)]
theorem flat_64 : ∀ (ss : List (List UInt8)), All64 ss → ss.flatten.length = 64 * ss.length
  | [], _ => rfl
  | s :: r, h => by
    rw [List.flatten_cons, List.length_append, h s (by simp), flat_64 r fun x hx => h x (by simp [hx]), List.length_cons]
    omega
theorem flat_drop : ∀ (ss : List (List UInt8)) (k : Nat), All64 ss → k ≤ ss.length → ss.flatten.drop (64 * k) = (ss.drop k).flatten
  | ss, 0, _, _ => rfl
  | [], k + 1, _, h => absurd h (by simp)
  | s :: r, k + 1, h, hk => by
    have ih := flat_drop r k (fun x hx => h x (by simp [hx])) (by simpa using hk)
    rw [List.flatten_cons, List.drop_append, h s (by simp), List.drop_of_length_le (by rw [h s (by simp)]; omega), List.nil_append, show 64 * (k + 1) - 64 = 64 * k by omega, ih]
    rfl
theorem flat_take : ∀ (ss : List (List UInt8)) (k : Nat), All64 ss → k ≤ ss.length → ss.flatten.take (64 * k) = (ss.take k).flatten
  | ss, 0, _, _ => by simp
  | [], k + 1, _, h => absurd h (by simp)
  | s :: r, k + 1, h, hk => by
    have ih := flat_take r k (fun x hx => h x (by simp [hx])) (by simpa using hk)
    rw [List.flatten_cons, List.take_append, h s (by simp), List.take_of_length_le (by rw [h s (by simp)]; omega), show 64 * (k + 1) - 64 = 64 * k by omega, ih]
    rfl
/-- a sector in the row of all -/
theorem flat_at64 {ss : List (List UInt8)} {k : Nat} {s : List UInt8} (h : All64 ss) (hs : ss[k]? = some s) : (ss.flatten.drop (64 * k)).take 64 = s := by
  obtain ⟨hk, e⟩ := List.getElem?_eq_some_iff.1 hs
  rw [flat_drop ss k h (by omega), List.drop_eq_getElem_cons hk, e, List.flatten_cons, List.take_append_of_le_length (by rw [h s (List.mem_of_getElem? hs)]; exact Nat.le_refl _), List.take_of_length_le (by rw [h s (List.mem_of_getElem? hs)]; exact Nat.le_refl _)]
/-- the row of all, with the first bytes of a sector replaced -/
theorem flat_set {ss : List (List UInt8)} {k : Nat} {t : List UInt8} (h : All64 ss) (hk : k < ss.length) (ht : t.length ≤ 64) : (setS ss k t).flatten = ss.flatten.take (64 * k) ++ (t ++ ss.flatten.drop (64 * k + t.length)) := by
  obtain ⟨s, hs⟩ : ∃ s, ss[k]? = some s := ⟨_, List.getElem?_eq_getElem hk⟩
  have hl := h s (List.mem_of_getElem? hs)
  have e := (List.getElem?_eq_some_iff.1 hs).2
  unfold setS
  rw [List.getD_eq_getElem?_getD, hs, flat_take ss k h (by omega), ← List.drop_drop, flat_drop ss k h (by omega), List.set_eq_take_append_cons_drop, if_pos hk, List.flatten_append, List.flatten_cons, List.drop_eq_getElem_cons hk, e, List.flatten_cons, List.drop_append, hl, show t.length - 64 = 0 by omega, List.drop_zero, List.append_assoc]
  rfl
/-- what waits for the sectors k, k + 1, .. -/
def waits : Nat → List (List UInt8) → List (Nat × List UInt8)
  | _, [] => []
  | k, t :: r => (k, t) :: waits (k + 1) r
theorem waits_snoc : ∀ (l : List (List UInt8)) (k : Nat) (t : List UInt8), waits k (l ++ [t]) = waits k l ++ [(k + l.length, t)]
  | [], k, t => rfl
  | x :: l, k, t => by
    show (k, x) :: waits (k + 1) (l ++ [t]) = (k, x) :: (waits (k + 1) l ++ _)
    rw [waits_snoc l (k + 1) t, List.length_cons, show k + 1 + l.length = k + (l.length + 1) by omega]
theorem waits_mem : ∀ (l : List (List UInt8)) (k : Nat) (p : Nat × List UInt8), p ∈ waits k l → k ≤ p.1 ∧ p.1 < k + l.length ∧ p.2 ∈ l
  | [], k, p, h => by cases h
  | x :: l, k, p, h => by
    rcases List.mem_cons.1 h with rfl | h
    · exact ⟨Nat.le_refl _, by simp, by simp⟩
    · have := waits_mem l (k + 1) p h
      rw [List.length_cons]
      exact ⟨by omega, by omega, List.mem_cons_of_mem _ this.2.2⟩
theorem settle_waits_at : ∀ (l : List (List UInt8)) (k : Nat) (ss : List (List UInt8)), k + l.length ≤ ss.length → All64 ss → (∀ t ∈ l, t.length = 64) → ∀ i, i < l.length → (settleS ss (waits k l))[k + i]? = l[i]?
  | [], k, ss, _, _, _, i, hi => absurd hi (by simp)
  | x :: l, k, ss, hk, h6, hl, i, hi => by
    rw [List.length_cons] at hk hi
    show (settleS (setS ss k x) (waits (k + 1) l))[k + i]? = _
    rcases Nat.eq_zero_or_pos i with rfl | h0
    · show (settleS (setS ss k x) (waits (k + 1) l))[k]? = _
      rw [settle_ne _ (fun p hp => by have := waits_mem _ _ _ hp; omega), setS_at ss k x (by omega), hl x (by simp)]
      have : (ss.getD k []).length = 64 := by rw [List.getD_eq_getElem?_getD, List.getElem?_eq_getElem (by omega)]; exact h6 _ (List.getElem_mem _)
      rw [List.drop_of_length_le (by omega), List.append_nil]; rfl
    · have ih := settle_waits_at l (k + 1) (setS ss k x) (by rw [setS_len]; omega) (setS_64 h6 (by rw [hl x (by simp)]; exact Nat.le_refl _)) (fun t ht => hl t (by simp [ht])) (i - 1) (by omega)
      rw [show k + i = k + 1 + (i - 1) by omega, ih]
      obtain ⟨j, rfl⟩ : ∃ j, i = j + 1 := ⟨i - 1, by omega⟩
      rfl
/-- some of the sectors from k on are changed, all others are as they were -/
def OthS (k n : Nat) (ss ss' : List (List UInt8)) : Prop := ss'.length = ss.length ∧ ∀ i, i < k ∨ k + n ≤ i → ss'[i]? = ss[i]?
theorem OthS.refl (k n : Nat) (ss : List (List UInt8)) : OthS k n ss ss := ⟨rfl, fun _ _ => rfl⟩
theorem settle_oth (l : List (List UInt8)) (k : Nat) (ss : List (List UInt8)) {q : List (Nat × List UInt8)} (hq : ∀ p ∈ q, k ≤ p.1 ∧ p.1 < k + l.length) : OthS k l.length ss (settleS ss q) :=
  ⟨settle_len _ _, fun i hi => settle_ne _ fun p hp e => by have := hq p hp; omega⟩
/-- what a failure leaves of writes to the sectors k, .. -/
theorem fail_waits {ss : List (List UInt8)} {k m : Nat} {l : List (List UInt8)} (h6 : All64 ss) (hm : m ≤ l.length) (hl : ∀ t ∈ l, t.length = 64) (off : Bool) (arm : Option (Int × Int × Int)) (n b : Int) :
    All64 (dFail ⟨ss, waits k (l.take m), off, arm⟩ n b).ss ∧ OthS k l.length ss (dFail ⟨ss, waits k (l.take m), off, arm⟩ n b).ss := by
  have hw : ∀ p ∈ waits k (l.take m), k ≤ p.1 ∧ p.1 < k + l.length ∧ p.2.length = 64 := fun p hp => by
    have := waits_mem _ _ _ hp
    rw [List.length_take] at this
    exact ⟨this.1, by omega, hl _ (List.mem_of_mem_take this.2.2)⟩
  unfold dFail
  generalize waits k (l.take m) = q at *
  have h1 : All64 (settleS ss (q.take n.toNat)) := settle_64 _ h6 fun p hp => by have := hw p (List.mem_of_mem_take hp); omega
  have h2 := settle_oth l k ss (q := q.take n.toNat) fun p hp => by have := hw p (List.mem_of_mem_take hp); omega
  show All64 (tornS _ q[n.toNat]? b) ∧ OthS k l.length ss (tornS _ q[n.toNat]? b)
  cases hq : q[n.toNat]? with
  | none => exact ⟨h1, h2⟩
  | some p =>
    have hp := hw p (List.mem_of_getElem? hq)
    refine ⟨setS_64 h1 (by rw [List.length_take]; omega), by show (setS _ _ _).length = _; rw [setS_len]; exact h2.1, fun i hi => ?_⟩
    show (setS _ _ _)[i]? = _
    rw [setS_ne _ _ _ (by omega)]
    exact h2.2 i hi
/-- a single sector may be torn -/
def Torn (k : Nat) (t : List UInt8) (ss ss' : List (List UInt8)) : Prop := ∃ b, b ≤ 64 ∧ ss' = setS ss k (t.take b)
theorem fail_one {ss : List (List UInt8)} {k : Nat} {t : List UInt8} (ht : t.length = 64) (m : Nat) (off : Bool) (arm : Option (Int × Int × Int)) (n b : Int) :
    Torn k t ss (dFail ⟨ss, waits k ([t].take m), off, arm⟩ n b).ss := by
  unfold dFail Torn
  show ∃ c, c ≤ 64 ∧ tornS (settleS ss ((waits k ([t].take m)).take n.toNat)) (waits k ([t].take m))[n.toNat]? b = _
  cases m with
  | zero =>
    refine ⟨0, by omega, ?_⟩
    rw [List.take_zero, List.take_zero, setS_nil]
    show tornS (settleS ss (([] : List (Nat × List UInt8)).take n.toNat)) ([] : List (Nat × List UInt8))[n.toNat]? b = ss
    rw [List.take_nil, List.getElem?_nil]; rfl
  | succ m =>
    rw [List.take_succ_cons, List.take_nil]
    show ∃ c, c ≤ 64 ∧ tornS (settleS ss ([(k, t)].take n.toNat)) [(k, t)][n.toNat]? b = _
    rcases Nat.eq_zero_or_pos n.toNat with h | h
    · rw [h]; exact ⟨min b.toNat 64, by omega, rfl⟩
    · refine ⟨64, Nat.le_refl _, ?_⟩
      obtain ⟨j, hj⟩ : ∃ j, n.toNat = j + 1 := ⟨n.toNat - 1, by omega⟩
      rw [hj, List.take_succ_cons, List.take_nil, List.getElem?_cons_succ, List.getElem?_nil, List.take_of_length_le (by omega)]; rfl
/-- a call is counted: either nothing happens but to the alarm, or the power fails -/
theorem count_cases (d : Dk) : (∃ a, dCount d = (0, { d with arm := a })) ∨ ∃ n b, dCount d = (21, dFail d n b) := by
  unfold dCount
  split
  · rename_i h; exact .inl ⟨none, by rw [← h]⟩
  · split
    · exact .inl ⟨_, rfl⟩
    · exact .inr ⟨_, _, rfl⟩
/-- journal.write: all sectors are there, or the power has failed in between -/
theorem wrAll_go (ss : List (List UInt8)) (k : Nat) (off : Bool) (l : List (List UInt8)) : ∀ (r pre : List (List UInt8)), l = pre ++ r → ∀ arm : Option (Int × Int × Int),
    (∃ a, wrAll ⟨ss, waits k pre, off, arm⟩ (k + pre.length) r = (0, ⟨settleS ss (waits k l), [], off, a⟩)) ∨
    ∃ m n b a, m ≤ l.length ∧ wrAll ⟨ss, waits k pre, off, arm⟩ (k + pre.length) r = (21, dFail ⟨ss, waits k (l.take m), off, a⟩ n b)
  | [], pre, e, arm => by
    rw [List.append_nil] at e
    subst e
    unfold wrAll dSync
    rcases count_cases ⟨ss, waits k l, off, arm⟩ with ⟨a, h⟩ | ⟨n, b, h⟩
    · rw [h]; exact .inl ⟨a, rfl⟩
    · rw [h]; exact .inr ⟨l.length, n, b, arm, Nat.le_refl _, by rw [List.take_length]; rfl⟩
  | t :: r, pre, e, arm => by
    unfold wrAll dWrite
    show (∃ a, (if (dCount ⟨ss, waits k pre ++ [(k + pre.length, t)], off, arm⟩).1 = 0 then _ else _) = _) ∨ ∃ m n b a, _ ∧ (if (dCount ⟨ss, waits k pre ++ [(k + pre.length, t)], off, arm⟩).1 = 0 then _ else _) = _
    rw [← waits_snoc]
    rcases count_cases ⟨ss, waits k (pre ++ [t]), off, arm⟩ with ⟨a, h⟩ | ⟨n, b, h⟩
    · have ih := wrAll_go ss k off l r (pre ++ [t]) (by rw [e, List.append_assoc]; rfl) a
      rw [h, if_pos rfl]
      rw [List.length_append, List.length_singleton, ← Nat.add_assoc] at ih
      exact ih
    · rw [h, if_neg (show ¬ ((21 : Int) = 0) by decide)]
      refine .inr ⟨pre.length + 1, n, b, arm, by rw [e]; simp, ?_⟩
      rw [show l.take (pre.length + 1) = pre ++ [t] by rw [e, List.take_append, List.take_of_length_le (by omega)]; simp]
theorem wrAll_cases (ss : List (List UInt8)) (k : Nat) (off : Bool) (l : List (List UInt8)) (arm : Option (Int × Int × Int)) :
    (∃ a, wrAll ⟨ss, [], off, arm⟩ k l = (0, ⟨settleS ss (waits k l), [], off, a⟩)) ∨
    ∃ m n b a, m ≤ l.length ∧ wrAll ⟨ss, [], off, arm⟩ k l = (21, dFail ⟨ss, waits k (l.take m), off, a⟩ n b) :=
  wrAll_go ss k off l l [] rfl arm
/-- with no alarm all is written -/
theorem count_none (d : Dk) (h : d.arm = none) : dCount d = (0, d) := by unfold dCount; rw [h]
theorem wrAll_none_go (ss : List (List UInt8)) (k : Nat) (off : Bool) (l : List (List UInt8)) : ∀ (r pre : List (List UInt8)), l = pre ++ r → wrAll ⟨ss, waits k pre, off, none⟩ (k + pre.length) r = (0, ⟨settleS ss (waits k l), [], off, none⟩)
  | [], pre, e => by
    rw [List.append_nil] at e
    subst e
    unfold wrAll dSync
    rw [count_none _ rfl]; rfl
  | t :: r, pre, e => by
    have ih := wrAll_none_go ss k off l r (pre ++ [t]) (by rw [e, List.append_assoc]; rfl)
    unfold wrAll dWrite
    rw [count_none _ rfl, if_pos rfl]
    rw [List.length_append, List.length_singleton, ← Nat.add_assoc, waits_snoc] at ih
    exact ih
theorem wrAll_none (ss : List (List UInt8)) (k : Nat) (off : Bool) (l : List (List UInt8)) : wrAll ⟨ss, [], off, none⟩ k l = (0, ⟨settleS ss (waits k l), [], off, none⟩) := wrAll_none_go ss k off l l [] rfl
end Go.Proofs.YtnjlefggkfagmaaGreatDoor

/- Digests of texts that differ in one block are different. No program in sight. -/
set_option linter.unusedVariables false
set_option linter.unusedSimpArgs false
namespace Go.Proofs.YtnjlefggkfagmaaGreatDoor
open Go

theorem xor_zero_eq {a b : Nat} (h : a ^^^ b = 0) : a = b := by
  have : a ^^^ (a ^^^ b) = b := by rw [← Nat.xor_assoc, Nat.xor_self, Nat.zero_xor]
  rw [h, Nat.xor_zero] at this
  exact this
theorem xor_cancel {s a b : Nat} (h : s ^^^ a = s ^^^ b) : a = b := by
  have h1 : s ^^^ (s ^^^ a) = s ^^^ (s ^^^ b) := by rw [h]
  rwa [← Nat.xor_assoc, ← Nat.xor_assoc, Nat.xor_self, Nat.zero_xor, Nat.zero_xor] at h1
theorem xor_cancel_right {s a b : Nat} (h : a ^^^ s = b ^^^ s) : a = b := by rw [Nat.xor_comm a, Nat.xor_comm b] at h; exact xor_cancel h
theorem shift_inj (k : Nat) (hk : 0 < k) {x y : Nat} (h : x ^^^ x / 2 ^ k = y ^^^ y / 2 ^ k) : x = y := by
  apply xor_zero_eq
  have hz : (x ^^^ y) = (x ^^^ y) / 2 ^ k := by
    have h2 : (x ^^^ y) / 2 ^ k = x / 2 ^ k ^^^ y / 2 ^ k := by
      rw [← Nat.shiftRight_eq_div_pow, ← Nat.shiftRight_eq_div_pow, ← Nat.shiftRight_eq_div_pow, Nat.shiftRight_xor_distrib]
    rw [h2]
    have h3 : x ^^^ y ^^^ (x ^^^ x / 2 ^ k) = x ^^^ y ^^^ (y ^^^ y / 2 ^ k) := by rw [h]
    have e1 : x ^^^ y ^^^ (x ^^^ x / 2 ^ k) = y ^^^ x / 2 ^ k := by
      rw [Nat.xor_comm x y, Nat.xor_assoc, ← Nat.xor_assoc x x, Nat.xor_self, Nat.zero_xor]
    have e2 : x ^^^ y ^^^ (y ^^^ y / 2 ^ k) = x ^^^ y / 2 ^ k := by
      rw [Nat.xor_assoc, ← Nat.xor_assoc y y, Nat.xor_self, Nat.zero_xor]
    rw [e1, e2] at h3
    have h4 : y ^^^ (y ^^^ x / 2 ^ k) = y ^^^ (x ^^^ y / 2 ^ k) := by rw [h3]
    rw [← Nat.xor_assoc, Nat.xor_self, Nat.zero_xor, ← Nat.xor_assoc, Nat.xor_comm y x] at h4
    rw [h4, Nat.xor_assoc, Nat.xor_self, Nat.xor_zero]
  rcases Nat.eq_zero_or_pos (x ^^^ y) with h0 | h0
  · exact h0
  · have : (x ^^^ y) / 2 ^ k < x ^^^ y := Nat.div_lt_self h0 (Nat.one_lt_two_pow (by omega))
    omega
theorem mul_inj {c d M a b : Nat} (hc : c * d % M = 1) (ha : a < M) (hb : b < M) (h : a * c % M = b * c % M) : a = b := by
  have h1 : ∀ x, x < M → x * c % M * d % M = x := fun x hx => by
    rw [Nat.mod_mul_mod, Nat.mul_assoc, Nat.mul_mod, hc, Nat.mul_one, Nat.mod_mod, Nat.mod_eq_of_lt hx]
  rw [← h1 a ha, ← h1 b hb, h]
theorem shift_lt {z : Nat} (k : Nat) (h : z < 18446744073709551616) : z ^^^ z / k < 18446744073709551616 := xor_lt64 h (Nat.lt_of_le_of_lt (Nat.div_le_self _ _) h)
theorem inv1 : 11400714819323198485 * 17428512612931826493 % 18446744073709551616 = 1 := by decide
theorem inv2 : 15074714826142052245 * 6281218453581128637 % 18446744073709551616 = 1 := by decide
theorem shift31 {x y : Nat} (h : x ^^^ x / 2147483648 = y ^^^ y / 2147483648) : x = y := shift_inj 31 (by decide) h
theorem shift27 {x y : Nat} (h : x ^^^ x / 134217728 = y ^^^ y / 134217728) : x = y := shift_inj 27 (by decide) h
theorem shift33 {x y : Nat} (h : x ^^^ x / 8589934592 = y ^^^ y / 8589934592) : x = y := shift_inj 33 (by decide) h
theorem mixN_inj {x y : Nat} (hx : x < 18446744073709551616) (hy : y < 18446744073709551616) (h : mixN x = mixN y) : x = y := by
  unfold mixN at h
  have hm : ∀ z : Nat, z % 18446744073709551616 < 18446744073709551616 := fun z => Nat.mod_lt _ (by decide)
  have h1 := shift33 h
  have h2 := mul_inj inv2 (shift_lt _ (hm _)) (shift_lt _ (hm _)) h1
  have h3 := shift27 h2
  have h4 := mul_inj inv1 (shift_lt _ hx) (shift_lt _ hy) h3
  exact shift31 h4
theorem step_inj_state {s s' : Nat} {l : List UInt8} (h1 : s < 18446744073709551616) (h2 : s' < 18446744073709551616) (hl : l.length ≤ 8) (h : stepN s l = stepN s' l) : s = s' :=
  xor_cancel_right (mixN_inj (xor_lt64 h1 (packN_lt64 hl)) (xor_lt64 h2 (packN_lt64 hl)) h)
theorem step_inj_block {s : Nat} {l m : List UInt8} (h1 : s < 18446744073709551616) (hl : l.length ≤ 8) (hm : m.length ≤ 8) (h : stepN s l = stepN s m) : packN l = packN m :=
  xor_cancel (mixN_inj (xor_lt64 h1 (packN_lt64 hl)) (xor_lt64 h1 (packN_lt64 hm)) h)
theorem pack_inj : ∀ (n : Nat) (l m : List UInt8), l.length = n → m.length = n → packN l = packN m → l = m
  | 0, l, m, hl, hm, _ => by rw [List.eq_nil_of_length_eq_zero hl, List.eq_nil_of_length_eq_zero hm]
  | n + 1, l, m, hl, hm, h => by
    obtain ⟨l', c, rfl⟩ := (List.eq_nil_or_concat l).resolve_left (fun e => by rw [e] at hl; cases hl)
    obtain ⟨m', d, rfl⟩ := (List.eq_nil_or_concat m).resolve_left (fun e => by rw [e] at hm; cases hm)
    rw [List.concat_eq_append] at *
    rw [List.concat_eq_append] at *
    rw [packN_snoc, packN_snoc] at h
    have hc := c.toNat_lt
    have hd := d.toNat_lt
    rw [List.length_append, List.length_singleton] at hl hm
    have e1 : c.toNat = d.toNat := by omega
    have e2 : packN l' = packN m' := by omega
    rw [pack_inj n l' m' (by omega) (by omega) e2, UInt8.toNat_inj.1 e1]
/-- two texts of one length that begin alike, differ in the next eight bytes and end alike -/
theorem stN_tail {l m : List UInt8} (hl : l.length < 18446744073709551616) (hm : m.length < 18446744073709551616) {k : Nat} : ∀ j, (∀ i, k ≤ i → i < k + j → pad8 (l.drop (8 * i)) = pad8 (m.drop (8 * i))) → stN l (k + j) = stN m (k + j) → stN l k = stN m k
  | 0, _, h => h
  | j + 1, hi, h => by
    refine stN_tail hl hm j (fun i h1 h2 => hi i h1 (by omega)) ?_
    have h3 : stepN (stN l (k + j)) (pad8 (l.drop (8 * (k + j)))) = stepN (stN m (k + j)) (pad8 (m.drop (8 * (k + j)))) := h
    rw [hi (k + j) (by omega) (by omega)] at h3
    exact step_inj_state (stN_lt hl _) (stN_lt hm _) (by rw [pad8_len]; exact Nat.le_refl _) h3
theorem pad8_eight {a r : List UInt8} (h : a.length = 8) : pad8 (a ++ r) = a := by
  unfold pad8
  rw [List.take_append_of_le_length (by omega), List.take_of_length_le (by omega), List.length_append, show 8 - (a.length + r.length) = 0 by omega]
  simp
theorem sumN_inj {p a b z : List UInt8} (hp : p.length = 8) (ha : a.length = 8) (hb : b.length = 8) (hz : z.length ≤ 100000) (h : sumN (p ++ a ++ z) = sumN (p ++ b ++ z)) : a = b := by
  have hl : (p ++ a ++ z).length = (p ++ b ++ z).length := by simp [ha, hb]
  have hL : (p ++ a ++ z).length = 16 + z.length := by simp [hp, ha]; omega
  rw [sumN_st, sumN_st, ← hl] at h
  obtain ⟨j, hj⟩ : ∃ j, (p ++ a ++ z).length / 8 + 1 = 2 + j := ⟨(p ++ a ++ z).length / 8 - 1, by omega⟩
  rw [hj] at h
  have h2 := stN_tail (by omega) (by omega) j (fun i h1 h2 => by
    have e : ∀ x : List UInt8, x.length = 8 → (p ++ x ++ z).drop (8 * i) = z.drop (8 * i - 16) := fun x hx => by
      rw [List.drop_append, List.drop_of_length_le (by simp; omega), List.nil_append]
      congr 1
      simp; omega
    rw [e a ha, e b hb]) h
  have e1 : ∀ x : List UInt8, stN (p ++ x ++ z) 1 = stepN (7640891576956012809 ^^^ (p ++ x ++ z).length) p := fun x => by
    show stepN _ (pad8 ((p ++ x ++ z).drop 0)) = _
    rw [List.drop_zero, List.append_assoc, pad8_eight hp]; rfl
  have e2 : ∀ x : List UInt8, x.length = 8 → stN (p ++ x ++ z) 2 = stepN (stN (p ++ x ++ z) 1) x := fun x hx => by
    show stepN _ (pad8 ((p ++ x ++ z).drop 8)) = _
    rw [List.append_assoc, List.drop_append_of_le_length (by omega), List.drop_of_length_le (by omega), List.nil_append, pad8_eight hx]
  rw [e2 a ha, e2 b hb, e1, e1, ← hl] at h2
  exact pack_inj 8 a b ha hb (step_inj_block (stepN_lt _ _) (by omega) (by omega) h2)
theorem hexC_inj : ∀ d e : Nat, d < 16 → e < 16 → hexC d = hexC e → d = e := by
  intro d e hd he h
  have h1 : ∀ d : Nat, d < 16 → (if (hexC d).toNat < 58 then (hexC d).toNat - 48 else (hexC d).toNat - 87) = d := by decide
  rw [← h1 d hd, ← h1 e he, h]
theorem hexN_inj : ∀ (k x y : Nat), x < 16 ^ k → y < 16 ^ k → hexN k x = hexN k y → x = y
  | 0, x, y, hx, hy, _ => by rw [Nat.pow_zero] at hx hy; omega
  | k + 1, x, y, hx, hy, h => by
    rw [hexN, hexN] at h
    obtain ⟨h1, h2⟩ := List.append_inj h (by rw [hexN_len, hexN_len])
    rw [Nat.pow_succ] at hx hy
    have e1 := hexN_inj k (x / 16) (y / 16) (by omega) (by omega) h1
    have e2 := hexC_inj (x % 16) (y % 16) (by omega) (by omega) (by simpa using h2)
    omega
theorem sumN_lt {l : List UInt8} (h : l.length < 18446744073709551616) : sumN l < 18446744073709551616 := by rw [sumN_st]; exact stN_lt h _
theorem sumD_inj {p a b z : List UInt8} (hp : p.length = 8) (ha : a.length = 8) (hb : b.length = 8) (hz : z.length ≤ 100000) (h : sumD (p ++ a ++ z) = sumD (p ++ b ++ z)) : a = b := by
  refine sumN_inj hp ha hb hz (hexN_inj 16 _ _ ?_ ?_ h)
  · exact Nat.lt_of_lt_of_le (sumN_lt (by simp; omega)) (by decide)
  · exact Nat.lt_of_lt_of_le (sumN_lt (by simp; omega)) (by decide)
end Go.Proofs.YtnjlefggkfagmaaGreatDoor

/- The plain side of the journal: sealed sectors, heads, pieces, what a torn head counts. No program in sight. -/
set_option linter.unusedVariables false
set_option linter.unusedSimpArgs false
namespace Go.Proofs.YtnjlefggkfagmaaGreatDoor
open Go

def digitsV (n w : Nat) : List UInt8 := List.replicate (w - (Lib.itoa (n : Int)).length) 48 ++ Lib.itoa (n : Int)
def fillV (c : List UInt8) : List UInt8 := c ++ List.replicate (48 - c.length) 0
def sealV (place : Nat) (c : List UInt8) : List UInt8 := sumD (digitsV place 8 ++ fillV c) ++ fillV c
def zeroV : List UInt8 := List.replicate 64 0
def headV (place n : Nat) : List UInt8 := sealV place (digitsV n 8)
def sectorV (place : Nat) (p : List UInt8) : List UInt8 := sealV place (digitsV p.length 2 ++ p)
def countM (place : Nat) (s : List UInt8) (room : Int) : Lib.NumEnd Int → Int
  | .ok n => if n < 0 then -1 else if room < n then -1 else if headV place n.toNat = s then n else -1
  | _ => -1
def countV (place : Nat) (s : List UInt8) (room : Int) : Int := if s = zeroV then 0 else countM place s room (Lib.atoiAll ((s.drop 16).take 8))

theorem itoa_nat (n : Nat) : Lib.itoa (n : Int) = Lib.decDigits n := by rw [itoa_dec (by omega)]; rfl
theorem dec_lenJ : ∀ (k u : Nat), u < 10 ^ (k + 1) → (Lib.decDigits u).length ≤ k + 1
  | 0, u, h => by rw [Lib.decDigits, dif_pos (by simpa using h)]; exact Nat.le_refl _
  | k + 1, u, h => by
    rw [Lib.decDigits]
    split
    · simp
    · rw [List.length_append]
      have := dec_lenJ k (u / 10) (by rw [Nat.pow_succ] at h; omega)
      simp; omega
theorem digitsV_len {n w : Nat} (h : n < 10 ^ (w + 1)) : (digitsV n (w + 1)).length = w + 1 := by
  unfold digitsV
  have := dec_lenJ w n h
  rw [itoa_nat, List.length_append, List.length_replicate]; omega
theorem digits_8 {n : Nat} (h : n < 100000000) : (digitsV n 8).length = 8 := digitsV_len (w := 7) h
theorem digits_2 {n : Nat} (h : n < 100) : (digitsV n 2).length = 2 := digitsV_len (w := 1) h
theorem digitsV_dg (n w : Nat) : ∀ c ∈ digitsV n w, isDg c := fun c hc => by
  unfold digitsV at hc
  rcases List.mem_append.1 hc with h | h
  · rw [List.eq_of_mem_replicate h]; exact ⟨by decide, by decide⟩
  · exact itoa_dg (by omega) c h
theorem valD_rep (l : List UInt8) : ∀ k : Nat, valD 0 (List.replicate k 48 ++ l) = valD 0 l
  | 0 => rfl
  | k + 1 => by rw [List.replicate_succ]; exact valD_rep l k
theorem digitsV_val (n w : Nat) : valD 0 (digitsV n w) = n := by unfold digitsV; rw [valD_rep, itoa_nat, valD_dec]
theorem digitsV_inj {n m w : Nat} (h : digitsV n w = digitsV m w) : n = m := by rw [← digitsV_val n w, h, digitsV_val]
theorem atoi_dg {l : List UInt8} (hd : ∀ c ∈ l, isDg c) (hn : l ≠ []) (hv : valD 0 l < 1000000000000000000) : Lib.atoiAll l = .ok (valD 0 l : Int) := by
  have hp := parse_dg l 0 hd hv
  cases l with
  | nil => exact absurd rfl hn
  | cons c r =>
    obtain ⟨h1, h2⟩ := hd c (by simp)
    unfold Lib.atoiAll Lib.parseMag
    simp only
    rw [if_neg (show ¬ (c.toNat = 43 ∨ c.toNat = 45) by omega), if_neg (by simp), hp]
    simp only
    rw [if_neg (by omega), if_neg (by omega), if_neg (by omega)]
theorem digitsV_ne (n w : Nat) : digitsV n w ≠ [] := fun e => by
  unfold digitsV at e
  rw [List.append_eq_nil_iff, itoa_nat] at e
  exact dec_ne' n e.2
theorem atoi_digits {n w : Nat} (h : n < 1000000000) : Lib.atoiAll (digitsV n w) = .ok (n : Int) := by
  rw [atoi_dg (digitsV_dg n w) (digitsV_ne n w) (by rw [digitsV_val]; omega), digitsV_val]
theorem fillV_len {c : List UInt8} (h : c.length ≤ 48) : (fillV c).length = 48 := by unfold fillV; simp; omega
theorem sealV_len {place : Nat} {c : List UInt8} (h : c.length ≤ 48) : (sealV place c).length = 64 := by
  unfold sealV; rw [List.length_append, sumD_len, fillV_len h]
theorem sealV_drop (place : Nat) (c : List UInt8) : (sealV place c).drop 16 = fillV c := by
  unfold sealV; rw [List.drop_append_of_le_length (by rw [sumD_len]; exact Nat.le_refl _), List.drop_of_length_le (by rw [sumD_len]; exact Nat.le_refl _), List.nil_append]
theorem sealV_take (place : Nat) (c : List UInt8) : (sealV place c).take 16 = sumD (digitsV place 8 ++ fillV c) := by
  unfold sealV; rw [List.take_append_of_le_length (by rw [sumD_len]; exact Nat.le_refl _), List.take_of_length_le (by rw [sumD_len]; exact Nat.le_refl _)]
theorem fillV_take {c : List UInt8} {k : Nat} (h : c.length = k) (r : List UInt8) : (fillV (c ++ r)).take k = c := by
  unfold fillV
  rw [List.append_assoc, List.take_append_of_le_length (by omega), List.take_of_length_le (by omega)]
theorem head_len {place n : Nat} (h : n < 100000000) : (headV place n).length = 64 := sealV_len (by rw [digits_8 h]; decide)
theorem head_num {place n : Nat} (h : n < 100000000) : ((headV place n).drop 16).take 8 = digitsV n 8 := by
  have := fillV_take (digits_8 h) []
  rw [List.append_nil] at this
  unfold headV
  rw [sealV_drop, this]
theorem zero_num : (zeroV.drop 16).take 8 = List.replicate 8 0 := by decide
theorem zero_bad : ∀ v, Lib.atoiAll (List.replicate 8 0) ≠ .ok v := fun v h => by
  have e : (match Lib.atoiAll (List.replicate 8 0) with | .ok _ => true | _ => false) = false := by decide +kernel
  rw [h] at e; cases e
theorem dg_ne_zero {l : List UInt8} (hd : ∀ c ∈ l, isDg c) {k : Nat} (hk : 0 < k) : l ≠ List.replicate k 0 := fun e => by
  have := hd 0 (by rw [e]; exact List.mem_replicate.2 ⟨by omega, rfl⟩)
  exact absurd this.1 (by decide)
theorem head_ne_zero {place n : Nat} (h : n < 100000000) : headV place n ≠ zeroV := fun e => by
  have h1 := head_num (place := place) h
  rw [e, zero_num] at h1
  exact dg_ne_zero (digitsV_dg n 8) (by decide) h1.symm
theorem count_zero (place : Nat) (room : Int) : countV place zeroV room = 0 := by unfold countV; rw [if_pos rfl]
theorem count_head {place n : Nat} {room : Int} (h : n < 100000000) (hr : (n : Int) ≤ room) : countV place (headV place n) room = n := by
  unfold countV
  rw [if_neg (head_ne_zero h), head_num h, atoi_digits (by omega)]
  unfold countM
  simp only
  rw [if_neg (by omega), if_neg (by omega), Int.toNat_natCast, if_pos rfl]
/-- a sector that is counted has the digest of its head -/
theorem count_spec {place : Nat} {s : List UInt8} {room n : Int} (h : countV place s room = n) (hz : s ≠ zeroV) (hn : n ≠ -1) : 0 ≤ n ∧ n ≤ room ∧ s = headV place n.toNat ∧ Lib.atoiAll ((s.drop 16).take 8) = .ok n := by
  unfold countV at h
  rw [if_neg hz] at h
  unfold countM at h
  split at h
  · rename_i v hv
    split at h
    · exact absurd h.symm hn
    · split at h
      · exact absurd h.symm hn
      · split at h
        · rename_i h1 h2 h3
          subst h
          exact ⟨by omega, by omega, h3.symm, hv⟩
        · exact absurd h.symm hn
  · exact absurd h.symm hn
theorem head_sum_inj {place n m : Nat} (hp : place < 100000000) (hn : n < 100000000) (hm : m < 100000000) (h : (headV place n).take 16 = (headV place m).take 16) : n = m := by
  unfold headV at h
  rw [sealV_take, sealV_take] at h
  unfold fillV at h
  rw [digits_8 hn, digits_8 hm, ← List.append_assoc, ← List.append_assoc] at h
  exact digitsV_inj (sumD_inj (digits_8 hp) (digits_8 hn) (digits_8 hm) (by simp) h)
set_option maxHeartbeats 1000000 in
/-- a head over which another one was written in part: it counts as the old one, the new one, or not at all -/
theorem torn_count {place c n b : Nat} {room : Int} {old : List UInt8} (hp : place < 100000000) (hc : c < 100000000) (hn : n < 100000000) (hr : room < 100000000) (ho : old = headV place c ∨ (c = 0 ∧ old = zeroV)) :
    countV place ((headV place n).take b ++ old.drop ((headV place n).take b).length) room = -1 ∨ countV place ((headV place n).take b ++ old.drop ((headV place n).take b).length) room = c ∨
    countV place ((headV place n).take b ++ old.drop ((headV place n).take b).length) room = n := by
  have hol : old.length = 64 := by (rcases ho with ho | ⟨_, ho⟩; rw [ho]; exact head_len hc; rw [ho]; exact List.length_replicate)
  have hnl := head_len (place := place) hn
  rw [List.length_take, hnl]
  generalize hs : (headV place n).take b ++ old.drop (min b 64) = s
  by_cases hm : countV place s room = -1
  · exact .inl hm
  right
  by_cases hz : s = zeroV
  · left
    rw [hz, count_zero]
    rcases ho with ho | ⟨rfl, _⟩
    · exfalso
      -- the old head's digits cannot all be gone, nor can the new one's
      rcases Nat.lt_or_ge b 24 with hb | hb
      · have h1 : s.drop 23 = (headV place c).drop 23 := by
          rw [← hs, ho, List.drop_append, List.drop_of_length_le (by rw [List.length_take, hnl]; omega), List.nil_append, List.drop_drop, List.length_take, hnl, show min b 64 + (23 - min b 64) = 23 by omega]
        have h2 : ((headV place c).drop 23).take 1 = (digitsV c 8).drop 7 := by
          rw [← head_num (place := place) hc, List.drop_take, List.drop_drop]
        rw [← h1, hz] at h2
        have h3 : (0 : UInt8) ∈ (digitsV c 8).drop 7 := by rw [← h2]; decide
        exact absurd (digitsV_dg c 8 0 (List.mem_of_mem_drop h3)).1 (by decide)
      · have h1 : (s.drop 16).take 8 = digitsV n 8 := by
          rw [← hs, List.drop_append_of_le_length (by rw [List.length_take, hnl]; omega), List.take_append_of_le_length (by rw [List.length_drop, List.length_take, hnl]; omega), List.drop_take, List.take_take, show min 8 (b - 16) = 8 by omega, head_num hn]
        rw [hz, zero_num] at h1
        exact dg_ne_zero (digitsV_dg n 8) (by decide) h1.symm
    · rfl
  obtain ⟨k, hk⟩ : ∃ k, countV place s room = k := ⟨_, rfl⟩
  rw [hk] at hm ⊢
  obtain ⟨h0, h1, h2, h3⟩ := count_spec hk hz hm
  obtain ⟨m, rfl⟩ : ∃ m : Nat, k = m := ⟨k.toNat, by omega⟩
  rw [Int.toNat_natCast] at h2
  rcases Nat.lt_or_ge b 16 with hb | hb
  · left
    have e1 : (s.drop 16).take 8 = (old.drop 16).take 8 := by
      rw [← hs, List.drop_append, List.drop_of_length_le (by rw [List.length_take, hnl]; omega), List.nil_append, List.drop_drop, List.length_take, hnl, show min b 64 + (16 - min b 64) = 16 by omega]
    rw [e1] at h3
    rcases ho with ho | ⟨rfl, ho⟩
    · rw [ho, head_num hc, atoi_digits (by omega)] at h3
      injection h3 with h3
      exact h3.symm
    · rw [ho, zero_num] at h3
      exact absurd h3 (zero_bad _)
  · right
    have e1 : s.take 16 = (headV place n).take 16 := by
      rw [← hs, List.take_append_of_le_length (by rw [List.length_take, hnl]; omega), List.take_take, Nat.min_eq_left hb]
    rw [h2] at e1
    rw [head_sum_inj hp (by omega) hn e1]
end Go.Proofs.YtnjlefggkfagmaaGreatDoor

/- append of a list of texts behind one text. -/
set_option linter.unusedVariables false
set_option linter.unusedSimpArgs false
namespace Go.Proofs.YtnjlefggkfagmaaGreatDoor
open Go.RowKit Go.Shelf

/-- a slice of texts in its own array -/
def SlAt (w : World) (v : Value) (ls : List (List UInt8)) : Prop := ∃ g c, v = .slice (some ⟨g, 0, none⟩) ls.length c ∧ ls.length ≤ c ∧ g < w.heap.size ∧ ∀ (j : Nat) x, ls[j]? = some x → w.cell? ⟨g, j, none⟩ = some (.string (bs x))
theorem SlAt.to {w w' : World} {v : Value} {ls : List (List UInt8)} (h : SlAt w v ls) (hb : Below w.heap.size w w') : SlAt w' v ls := by
  obtain ⟨g, c, h1, h2, h3, h4⟩ := h
  exact ⟨g, c, h1, h2, Nat.lt_of_lt_of_le h3 hb.size, fun j x hx => (hb.cell (p := ⟨g, j, none⟩) h3).trans (h4 j x hx)⟩
theorem wp_append_one {o : Oper} {a : Act} {w : World} {K : Act → World → Prop} {Q : Exit → Act → World → Prop} (s x : Operand) (hop : o.op = Op.call { callee := Callee.builtin Builtin.append, args := #[s, x], argTypes := #[22, 22] })
    (b : Nat) (d : List UInt8) (hs : a.eval s = .slice (some ⟨b, 0, none⟩) 1 1) (hb : Blk w b 9 #[.string (bs d)]) (q : List (List UInt8)) (xv : Value) (hx : a.eval x = xv) (hq : TextsAt w xv q) (hn : q.length ≤ 200000)
    (h : ∀ v w', SlAt w' v (d :: q) → Below w.heap.size w w' → K (a.put o.dst v) w') : o.wp Tryz.prog a w K Q := by
  obtain ⟨i0, hi0, hz0, hz1, hz2⟩ := info_parts (show (Tryz.prog.info? 9).map (fun i => (i.zero, i.size, i.bytes)) = some (some (.string ⟨#[]⟩), 1, 16) by kernel_rfl)
  obtain ⟨A, c, rfl, hc⟩ := hq.slice
  cases q with
  | nil =>
    have hsrc : Src Tryz.prog i0.size 22 (.slice A ([] : List (List UInt8)).length c) 0 [] w := by
      cases A with
      | none => exact Src.ofNil w Tryz.underlying22 c
      | some ad => exact Src.ofSlice w Tryz.underlying22 ad 0 c [] (by simp) (fun j u h => by simp at h) (fun u h => by cases h)
    have hrun := run_append_nothing (P := Tryz.prog) w 22 22 o.type 9 i0 Tryz.underlying22 hi0 (some ⟨b, 0, none⟩) 1 1 (Nat.le_refl _) _ hsrc
    unfold Oper.wp
    simp only [List.length_nil] at hrun hx
    simp [execOp, hop, resolve, invoke, builtin, hs, hx, hrun, Result.andThen]
    refine h (.slice (some ⟨b, 0, none⟩) 1 1) w ⟨b, 1, rfl, Nat.le_refl 1, hb.lt, fun j x hj => ?_⟩ (Below.refl _ _)
    cases j with
    | zero => simp at hj; subst hj; exact hb.cell 0
    | succ j => simp at hj
  | cons y q =>
    obtain ⟨ad, rfl, _, _⟩ := hq.at_ (k := 0) (x := y) rfl
    obtain ⟨v', w', hrun, r1, r2⟩ := run_append_arg_grows (P := Tryz.prog) w 22 o.type 9 i0 (.string ⟨#[]⟩) 1 16 Tryz.underlying22 hi0 hz0 hz1 hz2 rfl (by decide) ⟨b, 0, none⟩ 1 1 [.string (bs d)] rfl
      (fun j u hj => by
        cases j with
        | zero => simp at hj; subst hj; exact hb.cell 0
        | succ j => simp at hj)
      ad (y :: q).length c ((y :: q).map fun l => Value.string (bs l)) (by simp)
      (fun j u hj => by
        rw [List.getElem?_map] at hj
        obtain ⟨z, hz, rfl⟩ := Option.map_eq_some_iff.1 hj
        obtain ⟨ad', e, _, hc⟩ := hq.at_ hz
        cases e
        exact hc)
      (by simp) (by unfold maxLen; omega) (by omega)
    have hB : Below w.heap.size w w' := ⟨r2.os, r2.tape, r2.output, r2.size, fun k hk => r2.block k hk (by simp)⟩
    unfold Oper.wp
    simp only [List.length_cons] at hrun hx
    simp [execOp, hop, resolve, invoke, builtin, hs, hx, hrun, Result.andThen]
    refine h v' w' ?_ hB
    rcases r1.2 with ⟨h1, h2⟩ | ⟨g, cap, cur, rfl, h3, h4, h5, h6, h7, h8⟩
    · omega
    · refine ⟨g, cap, by simp; omega, by simp at h5 ⊢; omega, (Array.getElem?_eq_some_iff.1 h4).1, fun j x hj => ?_⟩
      have hat : ([Value.string (bs d)] ++ ((y :: q).map fun l => Value.string (bs l)))[j]? = some (.string (bs x)) := by
        rw [show [Value.string (bs d)] ++ ((y :: q).map fun l => Value.string (bs l)) = (d :: y :: q).map fun l => Value.string (bs l) from rfl, List.getElem?_map, hj]
        rfl
      rw [cell_of_row w' g j cur _ _ h4]
      rw [← h8, List.getElem?_take] at hat
      split at hat
      · simpa using hat
      · cases hat
/-- a slot that holds such a slice -/
def SlIs (s : Tmp) (ls : List (List UInt8)) (a : Act) (w : World) : Prop := ∃ v, a.tmps[s]? = some v ∧ SlAt w v ls
theorem SlIs.keep {s : Tmp} {ls : List (List UInt8)} {a a' : Act} {w w' : World} (h : SlIs s ls a w) (hs : a'.tmps[s]? = a.tmps[s]?) (hr : Below w.heap.size w w') : SlIs s ls a' w' := by
  obtain ⟨v, h1, h2⟩ := h
  exact ⟨v, hs.trans h1, h2.to hr⟩
end Go.Proofs.YtnjlefggkfagmaaGreatDoor

/- Text: the head line. -/
set_option linter.unusedVariables false
set_option linter.unusedSimpArgs false
namespace Go.Proofs.YtnjlefggkfagmaaGreatDoor
open Go.RowKit Go.Shelf
attribute [local go_sem] Oper.semAt_some

theorem eval_at {a : Act} {t : Tmp} {v : Value} (h : a.tmps[t]? = some v) : a.eval (.tmp t) = v := by simp [Act.eval, h]
set_option maxRecDepth 100000 in
set_option maxHeartbeats 4000000 in
theorem Text_no (p : Pg) (hp : p.fit) (h : formedB p = false) (vi vp : Value) (w : World) (hvi : TextsAt w vi p.items) (hvp : PathsAt w vp p.paths) :
    Calls Tryz.prog 16 #[.agg (p.cs vi vp)] w fun e w' => e = .returned (.tuple #[.string (bs []), .int .i64 1]) ∧ Below w.heap.size w w' := by
  have hq := fun q hq => (⟨hp.nq q hq, hp.lq q hq⟩ : q.length ≤ 200000 ∧ ∀ x ∈ q, x.length ≤ 100000)
  have CF := fun w' (hb : Below w.heap.size w w') => formed_any p hp.lr hp.li hq vi vp w' (hvi.to hb) (hvp.to hb)
  rw [h] at CF
  obtain ⟨Ai, ci, rfl, hci⟩ := hvi.slice
  obtain ⟨Ap, cp, rfl, hcp⟩ := hvp.slice
  clear hvi hvp
  unfold Pg.cs at CF ⊢
  go_enter Tryz.func16, Tryz.ntmps16
  go_wp2_with ((with_reducible refine (CF _ (below_one _ _)).mono ?_); rintro e w2 ⟨rfl, hb2⟩)
  go_ret2
  exact ⟨rfl, below_to (below_one _ _) (by simp) (by assumption)⟩
set_option maxRecDepth 100000 in
set_option maxHeartbeats 4000000 in
theorem Text_yes (p : Pg) (hp : p.fit) (h : formedB p = true) (vi vp : Value) (w : World) (HG : Hid (Glob w)) (hvi : TextsAt w vi p.items) (hvp : PathsAt w vp p.paths) :
    Calls Tryz.prog 16 #[.agg (p.cs vi vp)] w fun e w' => e = .returned (.tuple #[.string (bs (textPg p)), .int .i64 0]) ∧ Below w.heap.size w w' := by
  have hq := fun q hq => (⟨hp.nq q hq, hp.lq q hq⟩ : q.length ≤ 200000 ∧ ∀ x ∈ q, x.length ≤ 100000)
  have CF := fun w' (hb : Below w.heap.size w w') => formed_any p hp.lr hp.li hq vi vp w' (hvi.to hb) (hvp.to hb)
  rw [h] at CF
  have HI := hide hvi
  have HP := hide hvp
  have CT := fun w' : World => items_any p vi vp w'
  obtain ⟨Ai, ci, rfl, hci⟩ := hvi.slice
  obtain ⟨Ap, cp, rfl, hcp⟩ := hvp.slice
  have hh : headB p = true := by unfold formedB at h; simp only [Bool.and_eq_true] at h; exact h.1
  have hh : ((0 ≤ p.fr ∧ p.fr ≤ 10000) ∧ (0 ≤ p.size ∧ p.size ≤ 10000) ∧ isD p.root = true ∧ p.items.length ≤ 50 ∧ p.paths.length = p.items.length) := by
    unfold headB at hh
    simpa only [Bool.and_eq_true, decide_eq_true_eq] using hh
  obtain ⟨hf, hs, hr, hn, hpl⟩ := hh
  have HPL := hide hpl
  obtain ⟨n, h1⟩ : ∃ n : Nat, 5 ≤ n := ⟨5, Nat.le_refl _⟩
  clear hvi hvp hpl hr h hq
  unfold Pg.cs at CF CT ⊢
  refine (callsIn_wide (n := n)).1 ?_
  refine callsIn_of_wp_marks Tryz.func16 rfl trivial ?_ rfl
  simp only [Tryz.ntmps16, List.size_toArray, List.length_cons, List.length_nil, Nat.reduceAdd, Nat.reduceSub, Array.replicate_succ, Array.replicate_zero, List.push_toArray, List.append_toArray, List.nil_append, List.cons_append]
  gi_wp2_with (refine ⟨trivial, fun _ => (by omega), ?_⟩; gi_at_call 30; refine (callsIn_wide.2 (CF _ (below_one _ _))).mono ?_; rintro e w2 ⟨rfl, hb2⟩; have HB := hide hb2; clear hb2)
  have HX := hide (((Blk.new w 38 #[.int .i64 p.fr, .int .i64 p.size, .string (bs p.root), .slice Ai p.items.length ci, .slice Ap p.paths.length cp]).to HB.out).alloc (.cells #[.pointer none, .slice none 0 0] 79))
  have HI0 : Hid (Lib.IsBuilderF 79 5 w2.heap.size w2.heap.size (Lib.byteCells []) (w2.alloc (.cells #[.pointer none, .slice none 0 0] 79))) := .inl ⟨Nat.le_refl _, _, Blk.new _ _ _, World.ownsRowF_nil _ _ _ _, by simp [Value.ownBlock]⟩
  have hsz : w.heap.size < w2.heap.size := by have := HB.out.size; simp at this; omega
  have HB2 := hide ((below_to (below_one w _) (Nat.le_refl _) HB.out).alloc (Nat.le_of_lt hsz) (.cells #[.pointer none, .slice none 0 0] 79))
  have hsz2 : (w2.alloc (.cells #[.pointer none, .slice none 0 0] 79)).heap.size = w2.heap.size + 1 := by simp
  obtain ⟨W0, hW0⟩ : ∃ W0, w2.alloc (.cells #[.pointer none, .slice none 0 0] 79) = W0 := ⟨_, rfl⟩
  rw [hW0] at HX HI0 HB2 hsz2 ⊢
  clear hW0 HB CF
  have HG2 : Hid (Glob W0) := HG.out.belowB HB2.out HG.out.top
  obtain ⟨U, hU, g, u0, rfl, hgu, hi⟩ := cls W0
  have x0 := fun u => ((HX.out.to (hgu u)).cell 0).trans (show _ = some (Value.int .i64 p.fr) from rfl)
  have x1 := fun u => ((HX.out.to (hgu u)).cell 1).trans (show _ = some (Value.int .i64 p.size) from rfl)
  have x2 := fun u => ((HX.out.to (hgu u)).cell 2).trans (show _ = some (Value.string (bs p.root)) from rfl)
  have x3 := fun u => ((HX.out.to (hgu u)).cell 3).trans (show _ = some (Value.slice Ai p.items.length ci) from rfl)
  have CJ := fun (n : Int) (h0 : -9223372036854775808 ≤ n) (h1 : n ≤ 9223372036854775807) => cls_call hgu hi (fun w' hb => Itoa_any n h0 h1 w' (HG2.out.to hb))
  refine wpIn_region_class_tail g 12 (by kernel_rfl) (fun i K a w h => wpOpIn_ofW (by kernel_rfl) (fun ⟨a, w, h⟩ => ?_) h) (by kernel_rfl) (hi _ (hgu _).drew) ?_
  · have h2 := h.1
    cases h2
  simp only [List.take_succ_cons, List.take_zero, List.drop_succ_cons, List.drop_zero]
  repeat (go_big_quiet_step (with_reducible exact CJ _ (by omega) (by omega) _))
  refine wpQuiet_nil ?_
  intro w3 hw3
  obtain ⟨u, rfl⟩ := hw3
  have HBu := hide (below_to HB2.out (Nat.le_refl _) (hgu u))
  have HIu := hide (IsBuilderF.to HI0.out (hgu u))
  have HXu := hide (HX.out.to (hgu u))
  have hsu : w2.heap.size < (g u).heap.size := by have := (hgu u).size; omega
  clear x0 x1 x2 x3 CJ HX HI0 HB2 HG2 hsz2
  revert hsu HXu HIu HBu
  generalize g u = W1
  intro HBu HIu HXu hsu
  clear hgu hi g u u0
  have hH : (Lib.join [[112, 97, 103, 101], Lib.itoa p.fr, Lib.itoa p.size, p.root, Lib.itoa p.items.length] [32]).length ≤ 200000 := by
    rw [Lib.join_cons]
    obtain ⟨f1, e1⟩ : ∃ k : Nat, p.fr = k := ⟨p.fr.toNat, by omega⟩
    obtain ⟨f2, e2⟩ : ∃ k : Nat, p.size = k := ⟨p.size.toNat, by omega⟩
    have h1 := itoa_len f1 (by omega)
    have h2 := itoa_len f2 (by omega)
    have h3 := itoa_len p.items.length (by omega)
    have h4 := hp.lr
    rw [e1, e2]
    unfold Lib.joinTail
    simp only [List.map_cons, List.map_nil, List.flatten_cons, List.flatten_nil, List.length_append, List.length_cons, List.length_nil]
    omega
  have CJ : Calls Tryz.prog 42 #[.slice (some ⟨W1.heap.size, 0, none⟩) 5 5, .string ⟨#[32]⟩] (W1.alloc (.cells (strC [[112, 97, 103, 101], Lib.itoa p.fr, Lib.itoa p.size, p.root, Lib.itoa p.items.length]) 9)) _ :=
    Join_any W1.heap.size 0 5 [[112, 97, 103, 101], Lib.itoa p.fr, Lib.itoa p.size, p.root, Lib.itoa p.items.length] _ (by simp) (Nat.le_refl _) (by simp) (fun j x hx => by rw [Nat.zero_add]; exact ((Blk.new W1 9 _).cell j).trans (strC_at hx)) (by omega)
  rw [show strC [[112, 97, 103, 101], Lib.itoa p.fr, Lib.itoa p.size, p.root, Lib.itoa p.items.length] = #[.string (bs [112, 97, 103, 101]), .string (bs (Lib.itoa p.fr)), .string (bs (Lib.itoa p.size)), .string (bs p.root), .string (bs (Lib.itoa p.items.length))] from rfl] at CJ
  have HH : Hid (headT p = Lib.join [[112, 97, 103, 101], Lib.itoa p.fr, Lib.itoa p.size, p.root, Lib.itoa p.items.length] [32] ++ [10]) := rfl
  generalize Lib.join [[112, 97, 103, 101], Lib.itoa p.fr, Lib.itoa p.size, p.root, Lib.itoa p.items.length] [32] = L at *
  generalize Lib.itoa p.fr = F1 at *
  generalize Lib.itoa p.size = F2 at *
  generalize Lib.itoa (p.items.length : Int) = F3 at *
  have hLs : (bs L).size = L.length := bs_size L
  gi_wp2_with (first
    | (refine ⟨trivial, fun _ => (by omega), ?_⟩; gi_at_call 42; refine (callsIn_wide.2 CJ).mono ?_; rintro e w5 ⟨rfl, hb5⟩; have HB5 := hide (below_to (below_one W1 _) (Nat.le_refl _) hb5); clear hb5))
  have CW := WriteString_k w2.heap.size w2.heap.size _ (bs L ++ ⟨#[10]⟩) w5 (IsBuilderF.to HIu.out HB5.out) (by rw [show bs L ++ ⟨#[10]⟩ = bs (L ++ [10]) from bs_app L [10], bs_size]; simp [Lib.byteCells]; omega) (by have := HB5.out.size; omega)
  rw [show Lib.strCells (bs L ++ ⟨#[10]⟩) = Lib.byteCells (headT p) by rw [HH.out, show bs L ++ ⟨#[10]⟩ = bs (L ++ [10]) from bs_app L [10], strCells_bs], ← byteCells_app, List.nil_append] at CW
  refine ⟨trivial, fun _ => by omega, ?_⟩
  refine (callsIn_wide.2 CW).mono ?_
  rintro e w6 ⟨rfl, hI6, hb6, hk6⟩
  have HI6 := hide hI6
  have HB6 := hide ((HBu.out.trans (HB5.out.mono HBu.out.size)).trans (hb6.mono (Nat.le_of_lt hsz)))
  have HX6 := hide ((HXu.out.to HB5.out).below hb6 hsz)
  have hs6 : w2.heap.size < w6.heap.size := by have := HB5.out.size; have := hb6.size; omega
  clear hI6 hb6 hk6 CW CJ HB5 HXu HIu HBu hLs hsu
  have x0 := (HX6.out.cell 0).trans (show _ = some (Value.int .i64 p.fr) from rfl)
  have x1 := (HX6.out.cell 1).trans (show _ = some (Value.int .i64 p.size) from rfl)
  have x2 := (HX6.out.cell 2).trans (show _ = some (Value.string (bs p.root)) from rfl)
  have x3 := (HX6.out.cell 3).trans (show _ = some (Value.slice Ai p.items.length ci) from rfl)
  have x4 := (HX6.out.cell 4).trans (show _ = some (Value.slice Ap p.paths.length cp) from rfl)
  gi_wp2_with (refine ⟨trivial, fun _ => (by omega), ?_⟩; gi_at_call 31; refine (callsIn_wide.2 (CT _)).mono ?_; rintro e w3 ⟨rfl, rfl⟩)
  have HX2 := hide (Blk.new w6 38 #[.int .i64 p.fr, .int .i64 p.size, .string (bs p.root), .slice Ai p.items.length ci, .slice Ap p.paths.length cp])
  have HI2 : Hid (Lib.IsBuilderF 79 5 w2.heap.size w2.heap.size (Lib.byteCells (headT p)) (w6.alloc (.cells #[.int .i64 p.fr, .int .i64 p.size, .string (bs p.root), .slice Ai p.items.length ci, .slice Ap p.paths.length cp] 38))) := IsBuilderF.to (.inr HI6.out) (below_one _ _)
  have HB2 := hide (HB6.out.alloc HB6.out.size (.cells #[.int .i64 p.fr, .int .i64 p.size, .string (bs p.root), .slice Ai p.items.length ci, .slice Ap p.paths.length cp] 38))
  have hsz2 : (w6.alloc (.cells #[.int .i64 p.fr, .int .i64 p.size, .string (bs p.root), .slice Ai p.items.length ci, .slice Ap p.paths.length cp] 38)).heap.size = w6.heap.size + 1 := by simp
  obtain ⟨W0, hW0⟩ : ∃ W0, w6.alloc (.cells #[.int .i64 p.fr, .int .i64 p.size, .string (bs p.root), .slice Ai p.items.length ci, .slice Ap p.paths.length cp] 38) = W0 := ⟨_, rfl⟩
  rw [hW0] at HX2 HI2 HB2 hsz2 ⊢
  have HHL : Hid ((headT p).length ≤ 300000) := by show _ ≤ _; rw [HH.out, List.length_append]; simp; omega
  clear hW0 HX6 HB6 HI6 x0 x1 x2 x3 x4 CT hH HH
  have hsw : w.heap.size < w6.heap.size := by omega
  refine wpIn_rangeFunc_ownH (F := Fence.wide) rfl (by omega) (gf := 74) (lb := #[.pointer (some ⟨w6.heap.size, 0, none⟩)]) rfl trivial (enters_fn Tryz.func74 (by kernel_rfl) rfl)
    (items_stops (n - 1) (by omega) w6.heap.size p (by omega) HPL.out hf _ _ w HI.out HP.out W0 HB2.out HX2.out) KpX.t (KpX.b (by omega) (by omega)) (Below.refl _ _) (fun _ => rfl)
    (fun pre W => (Lib.IsBuilderF 79 5 w2.heap.size w2.heap.size (Lib.byteCells (headT p ++ pre.flatMap p.line)) W ∧ w6.heap.size < W.heap.size ∧ Blk W w6.heap.size 38 #[.int .i64 p.fr, .int .i64 p.size, .string (bs p.root), .slice Ai p.items.length ci, .slice Ap p.paths.length cp]) ∧ Below w.heap.size w W)
    (fun _ _ W => False ∧ Below w.heap.size w W)
    (OwnFrom.and (fun s A B row hs hg hr => ⟨IsBuilderF.own hs.1 hg (fun r e => (hr r e).2), Nat.lt_of_lt_of_le hs.2.1 hg.size, hs.2.2.own hg (fun r e => (hr r e).2)⟩) (ownFrom_below (Nat.le_refl _) (by omega)))
    (fun _ => OwnFrom.and (fun _ _ _ _ hs _ _ => hs) (ownFrom_below (Nat.le_refl _) (by omega)))
    ⟨⟨by rw [List.flatMap_nil, List.append_nil]; exact HI2.out, by omega, HX2.out⟩, HB2.out⟩
    (fun x a' W => ∃ Bx, w6.heap.size < Bx ∧ Blk W Bx 74 (itC p w (.slice Ap p.paths.length cp) x) ∧ a' = { tmps := #[.agg #[.int .i64 p.fr, .int .i64 p.size, .string (bs p.root), .slice Ai p.items.length ci, .slice Ap p.paths.length cp], .pointer (some ⟨w.heap.size, 0, none⟩), .string ⟨#[]⟩, .int .i64 0, .pointer (some ⟨w2.heap.size, 0, none⟩), .pointer (some ⟨Bx, 0, none⟩), undef, .agg #[.int .i64 p.fr, .int .i64 p.size, .string (bs p.root), .slice Ai p.items.length ci, .slice Ap p.paths.length cp], .bool true, .bool false, .pointer (some ⟨w.heap.size, 0, none⟩), .int .i64 p.fr, .string (bs F1), .pointer (some ⟨w.heap.size, 1, none⟩), .int .i64 p.size, .string (bs F2), .pointer (some ⟨w.heap.size, 2, none⟩), .string (bs p.root), .pointer (some ⟨w.heap.size, 3, none⟩), .slice Ai p.items.length ci, .int .i64 p.items.length, .string (bs F3), .slice (some ⟨W1.heap.size, 0, none⟩) 5 5, .string (bs L), .string (bs L ++ ⟨#[10]⟩), .tuple #[.int .i64 (((bs L).size : Int) + 1), .nilIface], .agg #[.int .i64 p.fr, .int .i64 p.size, .string (bs p.root), .slice Ai p.items.length ci, .slice Ap p.paths.length cp], .func (.func 74) #[] #[.pointer (some ⟨w6.heap.size, 0, none⟩)], .agg (itC p w (.slice Ap p.paths.length cp) x), undef, undef, undef, undef, undef, undef, undef, undef, undef, undef, undef, undef, undef, undef, undef, undef, undef], defers := [] })
    (fun x a' s A B row hs hg hr => by obtain ⟨Bx, q1, q2, q3⟩ := hs; exact ⟨Bx, q1, q2.own hg (fun r e => (hr r e).2), q3⟩) ?assign ?body ?done ?stop
  case assign =>
    rintro l pre ⟨k, hk⟩ W K ⟨⟨hbW, hsW, hXW⟩, hBW⟩ hK
    have HBW := hide hbW
    have HBl := hide hBW
    have HXW := hide hXW
    clear hbW hBW hXW
    obtain ⟨x, hx⟩ : ∃ x, p.items[k] = x := ⟨_, rfl⟩
    obtain ⟨q, hq⟩ : ∃ q, p.paths[k]? = some q := ⟨_, List.getElem?_eq_getElem (by have := HPL.out; omega)⟩
    obtain ⟨Aq, cq, hv, hcq⟩ := (HP.out.vps hq).1.slice
    unfold Pg.enc
    rw [show p.items[(⟨k, hk⟩ : Fin p.items.length)] = x from hx]
    unfold itC at hK
    rw [show p.items[(⟨k, hk⟩ : Fin p.items.length)] = x from hx] at hK
    simp only [hv] at hK ⊢
    have hK2 := hide hK
    clear hK
    gi_wp2
    exact hK2.out _ _ ((KeepsOthers.alloc _ _).from _) (KpX.of ((Below.refl W.heap.size W).alloc (Nat.le_refl _) _) HBl.out.size hsW) ⟨⟨IsBuilderF.to HBW.out (below_one _ _), by simp; omega, HXW.out.alloc _⟩, HBl.out.alloc HBl.out.size _⟩ ⟨W.heap.size, hsW, Blk.new _ _ _, rfl⟩
  case body =>
    rintro l pre ⟨k, hk⟩ a' W hlw ⟨r, hlr⟩ ⟨⟨hbW, hsW, hXW⟩, hBW⟩ ⟨Bx, hBx, hbI, rfl⟩ hlen
    have HBW := hide hbW
    have HBl := hide hBW
    have HIt := hide hbI
    have HXW := hide hXW
    clear hbW hBW hbI hlr hXW
    obtain ⟨x, hx⟩ : ∃ x, p.items[k] = x := ⟨_, rfl⟩
    obtain ⟨q, hq⟩ : ∃ q, p.paths[k]? = some q := ⟨_, List.getElem?_eq_getElem (by have := HPL.out; omega)⟩
    have hxl := hp.li x (hx ▸ List.getElem_mem _)
    have hql := hp.nq q (List.mem_of_getElem? hq)
    have HQX := hide (hp.lq q (List.mem_of_getElem? hq))
    have HT := hide ((HP.out.vps hq).1.to HBl.out)
    obtain ⟨Aq, cq, hv, hcq⟩ := (HP.out.vps hq).1.slice
    rw [hv] at HT
    have HLn : Hid (p.line ⟨k, hk⟩ = lineT x q) := by
      show _ = _
      unfold Pg.line
      rw [show p.items[(⟨k, hk⟩ : Fin p.items.length)] = x from hx, show p.paths.getD ((⟨k, hk⟩ : Fin p.items.length) : Nat) [] = q by simp [hq]]
    have HIt2 : Hid (Blk W Bx 74 #[.int .i64 (p.fr + (k : Nat)), .string (bs x), .slice Aq q.length cq]) := by
      have := HIt.out
      unfold itC at this
      rw [show p.items[(⟨k, hk⟩ : Fin p.items.length)] = x from hx] at this
      simp only [hv] at this
      exact this
    unfold itC
    rw [show p.items[(⟨k, hk⟩ : Fin p.items.length)] = x from hx]
    simp only [hv]
    have hxs : (bs x).size = x.length := bs_size x
    have HG2 : Hid (Glob W) := HG.out.belowB HBl.out HG.out.top
    clear HIt hv
    obtain ⟨U, hU, g, u0, rfl, hgu, hi⟩ := cls W
    have i1 := fun u => ((HIt2.out.to (hgu u)).cell 1).trans (show _ = some (Value.string (bs x)) from rfl)
    have i2 := fun u => ((HIt2.out.to (hgu u)).cell 2).trans (show _ = some (Value.slice Aq q.length cq) from rfl)
    have HGg := fun u => HG2.out.to (hgu u)
    have HTg := fun u => HT.out.to (hgu u)
    gi_wp2
    refine wpIn_region_of (by kernel_rfl) (by kernel_rfl) (fun ⟨a, w, h⟩ => h) ?_
    apply wpAny_looseG g (V := [some _, some _, some _, some _, none, some _, some _, none, none]) (Fs := [(4, RowIs 9 33 1 #[.string (bs (Lib.itoa (x.length : Int)))]), (7, SlIs 36 (Lib.itoa (x.length : Int) :: q)), (8, SlIs 6 (Lib.itoa (x.length : Int) :: q))]) (Rel := fun _ w w' => Below w.heap.size w w')
    case hB => kernel_rfl
    case hCw => exact hi _ (hgu _).drew
    case hC =>
      rintro i uq w' hr
      exact hi _ (below_to (hgu uq) (Nat.le_refl _) hr)
    case hst =>
      refine keeps_cons (fun i a a' w w' hne hwt hs hr h => h.keep (hs 33 (by kernel_rfl)) (Or.inr hr)) ?_
      refine keeps_cons (fun i a a' w w' hne hwt hs hr h => h.keep (hs 36 (by kernel_rfl)) hr) ?_
      refine keeps_cons (fun i a a' w w' hne hwt hs hr h => h.keep (hs 6 (by kernel_rfl)) hr) ?_
      exact keeps_nil
    case hop =>
      refine ⟨?_, ?_, ?_, ?_, ?_, ?_, ?_, ?_, ?_, trivial⟩
      · intro a uq K hS hd hK
        have s5 := hS.at 5 (by kernel_rfl) rfl
        rw [if_pos (want_free rfl)]
        go_simp
        exact hK _ _ (Below.refl _ _) (vok rfl) (facts_cons (fun h => absurd h (by decide)) (facts_cons (fun h => absurd h (by decide)) (facts_cons (fun h => absurd h (by decide)) facts_nil)))
      · intro a uq K hS hd hK
        have s29 := (waits_on hd 0 (by kernel_rfl)).at (d := 29) rfl rfl rfl
        rw [if_pos (want_free rfl)]
        go_simp
        exact hK _ _ (Below.refl _ _) (vok rfl) (facts_cons (fun h => absurd h (by decide)) (facts_cons (fun h => absurd h (by decide)) (facts_cons (fun h => absurd h (by decide)) facts_nil)))
      · intro a uq K hS hd hK
        have s30 := (waits_on hd 1 (by kernel_rfl)).at (d := 30) rfl rfl rfl
        rw [if_pos (want_free rfl)]
        go_simp
        exact hK _ _ (Below.refl _ _) (vok rfl) (facts_cons (fun h => absurd h (by decide)) (facts_cons (fun h => absurd h (by decide)) (facts_cons (fun h => absurd h (by decide)) facts_nil)))
      · intro a uq K hS hd hK
        have s31 := (waits_on hd 2 (by kernel_rfl)).at (d := 31) rfl rfl rfl
        rw [if_pos (want_free rfl)]
        go_simp
        with_reducible refine (Itoa_any (x.length : Int) (by omega) (by omega) (g uq) (HGg uq)).mono ?_
        rintro e w' ⟨rfl, hb⟩
        exact hK _ _ hb (vok rfl) (facts_cons (fun h => absurd h (by decide)) (facts_cons (fun h => absurd h (by decide)) (facts_cons (fun h => absurd h (by decide)) facts_nil)))
      · intro a uq K hS hd hK
        have s32 := (waits_on hd 3 (by kernel_rfl)).at (d := 32) rfl rfl rfl
        rw [if_pos (want_free rfl)]
        go_simp
        exact hK _ _ (below_one _ _) (vfree rfl) (facts_cons (fun _ => ⟨_, hS.put_at (by kernel_rfl) _, Blk.new _ _ _⟩) (facts_cons (fun h => absurd h (by decide)) (facts_cons (fun h => absurd h (by decide)) facts_nil)))
      · intro a uq K hS hd hK
        have s5 := hS.at 5 (by kernel_rfl) rfl
        rw [if_pos (want_free rfl)]
        go_simp
        exact hK _ _ (Below.refl _ _) (vok rfl) (facts_cons (fun h => absurd h (by decide)) (facts_cons (fun h => absurd h (by decide)) (facts_cons (fun h => absurd h (by decide)) facts_nil)))
      · intro a uq K hS hd hK
        have s34 := (waits_on hd 5 (by kernel_rfl)).at (d := 34) rfl rfl rfl
        rw [if_pos (want_free rfl)]
        go_simp
        exact hK _ _ (Below.refl _ _) (vok rfl) (facts_cons (fun h => absurd h (by decide)) (facts_cons (fun h => absurd h (by decide)) (facts_cons (fun h => absurd h (by decide)) facts_nil)))
      · intro a uq K hS hd hK
        obtain ⟨b33, s33, r33⟩ := (waits_on hd 4 (by kernel_rfl)).2 _ (List.mem_cons_self ..) rfl
        have s35 := (waits_on hd 6 (by kernel_rfl)).at (d := 35) rfl rfl rfl
        rw [if_pos (want_free rfl)]
        refine wp_append_one (.tmp 33) (.tmp 35) rfl b33 _ (eval_at s33) r33 q (.slice Aq q.length cq) (eval_at s35) (HTg uq) (by omega) ?_
        intro v w' hsl hb
        exact hK v w' hb (vfree rfl) (facts_cons (fun h => absurd h (by decide)) (facts_cons (fun _ => ⟨v, hS.put_at (by kernel_rfl) _, hsl⟩) (facts_cons (fun h => absurd h (by decide)) facts_nil)))
      · intro a uq K hS hd hK
        obtain ⟨v36, s36, r36⟩ := (waits_on hd 7 (by kernel_rfl)).2 _ (List.mem_cons_of_mem _ (List.mem_cons_self ..)) rfl
        rw [if_pos (want_free rfl)]
        go_simp
        exact hK _ _ (Below.refl _ _) (vfree rfl) (facts_cons (fun h => absurd h (by decide)) (facts_cons (fun h => absurd h (by decide)) (facts_cons (fun _ => ⟨v36, hS.put_at (by kernel_rfl) _, r36⟩) facts_nil)))
    case hfin =>
      intro a uq hS hk
      have s29 := (hk 0 (by decide)).at (d := 29) rfl rfl rfl
      have s30 := (hk 1 (by decide)).at (d := 30) rfl rfl rfl
      have s31 := (hk 2 (by decide)).at (d := 31) rfl rfl rfl
      have s32 := (hk 3 (by decide)).at (d := 32) rfl rfl rfl
      obtain ⟨b33, s33, r33⟩ := (hk 4 (by decide)).2 _ (List.mem_cons_self ..) rfl
      have s34 := (hk 5 (by decide)).at (d := 34) rfl rfl rfl
      have s35 := (hk 6 (by decide)).at (d := 35) rfl rfl rfl
      obtain ⟨v36, s36, r36⟩ := (hk 7 (by decide)).2 _ (List.mem_cons_of_mem _ (List.mem_cons_self ..)) rfl
      obtain ⟨v6, s6, r6⟩ := (hk 8 (by decide)).2 _ (List.mem_cons_of_mem _ (List.mem_cons_of_mem _ (List.mem_cons_self ..))) rfl
      have hlit := hS.lit _ (by kernel_rfl) (lits_cons s29 (lits_cons s30 (lits_cons s31 (lits_cons s32 (lits_cons s33 (lits_cons s34 (lits_cons s35 (lits_cons s36 (lits_cons s6 lits_nil)))))))))
      rw [hlit]
      clear hlit hk hS s29 s30 s31 s32 s33 s34 s35 s36 s6
      obtain ⟨g6, c6, rfl, hc6, hg6, hat6⟩ := r6
      rw [List.length_cons] at hc6
      rw [List.length_cons]
      have HAT := hide hat6
      have HIq := hide (IsBuilderF.to HBW.out (hgu uq))
      have HBq := hide (below_to HBl.out (Nat.le_refl _) (hgu uq))
      have HItq := hide (HIt2.out.to (hgu uq))
      have HXq := hide (HXW.out.to (hgu uq))
      have hsq : w6.heap.size < (g uq).heap.size := Nat.lt_of_lt_of_le hsW (hgu uq).size
      have HKFq : Hid (KeepsFrom W0.heap.size (g u0) (g uq)) := keepsFrom_of (hgu uq)
      have HKq : Hid (KpX w.heap.size w6.heap.size (g u0) (g uq)) := KpX.of (hgu uq) HBl.out.size hsW
      have hJl : (Lib.join (Lib.itoa x.length :: q) [32]).length ≤ 30000000000 := by
        have := line_len x q hxl hql HQX.out
        unfold lineT at this
        simp only [List.length_append] at this
        omega
      have HLL : Hid (lineT x q = Lib.join (Lib.itoa x.length :: q) [32] ++ [10] ++ x ++ [10]) := rfl
      clear hat6 i1 i2 HGg HTg r36 r33
      generalize g uq = W7 at *
      obtain ⟨U2, hU2, g2, v0, rfl, hgu2, hi2⟩ := cls W7
      have i1 := fun u => ((HItq.out.to (hgu2 u)).cell 1).trans (show _ = some (Value.string (bs x)) from rfl)
      have CJ : ∀ u, Calls Tryz.prog 42 #[.slice (some ⟨g6, 0, none⟩) (q.length + 1) c6, .string ⟨#[32]⟩] (g2 u) fun e w' => e = .returned (.string (bs (Lib.join (Lib.itoa x.length :: q) [32]))) ∧ ∃ u', w' = g2 u' := cls_call hgu2 hi2 (fun w' hb => Join_any g6 0 c6 (Lib.itoa x.length :: q) w' (Nat.lt_of_lt_of_le hg6 hb.size) hc6 (by simp; omega) (fun j y hj => by rw [Nat.zero_add]; exact (hb.cell (p := ⟨g6, j, none⟩) hg6).trans (HAT.out j y hj)) (by omega))
      have hJs : (bs (Lib.join (Lib.itoa x.length :: q) [32])).size = (Lib.join (Lib.itoa x.length :: q) [32]).length := bs_size _
      generalize Lib.join (Lib.itoa x.length :: q) [32] = J at *
      simp only [litT, List.setIfInBounds_toArray, List.set_cons_succ, List.set_cons_zero]
      gi_wp2
      refine wpIn_region_class_tail (F := Fence.wide.inRound l) g2 7 (by kernel_rfl) (fun i K a w h => wpOpIn_of (by kernel_rfl) (fun ⟨a, w, h⟩ => h) h) (by kernel_rfl) (hi2 _ (hgu2 _).drew) ?_
      simp only [List.take_succ_cons, List.take_zero, List.drop_succ_cons, List.drop_zero]
      repeat (go_big_quiet_step (with_reducible exact CJ _))
      refine wpQuiet_nil ?_
      intro w8 hw8
      obtain ⟨u, rfl⟩ := hw8
      have HEq : Hid (bs J ++ ⟨#[10]⟩ ++ bs x ++ ⟨#[10]⟩ = bs (lineT x q)) := by
        show _ = _
        rw [HLL.out, show (⟨#[10]⟩ : ByteArray) = bs [10] from rfl, bs_app, bs_app, bs_app]
      have HLen : Hid ((headT p ++ List.flatMap p.line pre).length + (lineT x q).length ≤ 140737488355328) := by
        show _ ≤ _
        have h1 := line_len x q hxl hql HQX.out
        have h2 := flat_le p.line 30000000000 (fun y => line_len _ _ (hp.li _ (List.getElem_mem _)) (by
          have : (y : Nat) < p.paths.length := by have := HPL.out; omega
          simp only [List.getD_eq_getElem?_getD, List.getElem?_eq_getElem this, Option.getD_some]
          exact hp.nq _ (List.getElem_mem _)) (by
          have : (y : Nat) < p.paths.length := by have := HPL.out; omega
          simp only [List.getD_eq_getElem?_getD, List.getElem?_eq_getElem this, Option.getD_some]
          exact hp.lq _ (List.getElem_mem _))) pre
        have h3 : pre.length * 30000000000 ≤ 50 * 30000000000 := Nat.mul_le_mul_right _ (by omega)
        have h4 := HHL.out
        rw [List.length_append]
        omega
      have CW := WriteString_k w2.heap.size w2.heap.size _ (bs J ++ ⟨#[10]⟩ ++ bs x ++ ⟨#[10]⟩) (g2 u) (IsBuilderF.to HIq.out (hgu2 u)) (by rw [HEq.out, bs_size]; simpa [Lib.byteCells] using HLen.out) (by have := (hgu2 u).size; omega)
      rw [show Lib.strCells (bs J ++ ⟨#[10]⟩ ++ bs x ++ ⟨#[10]⟩) = Lib.byteCells (lineT x q) by rw [HEq.out, strCells_bs], ← byteCells_app, List.append_assoc] at CW
      have HBu := hide (hgu2 u)
      clear HLen HEq HQX hxl hql hJl hJs CJ i1
      gi_wp2_with (refine ⟨trivial, fun _ => (by omega), ?_⟩; gi_at_call 41; refine (CallsIn.inRound l (callsIn_wide.2 CW)).mono ?_; rintro e w9 ⟨rfl, hI9, hb9, hk9⟩)
      have HXu := hide (HXq.out.to HBu.out)
      have HX9 := hide (blk_kept HXu.out hk9 (by omega) (by decide))
      have HI9 := hide hI9
      have HKF : KeepsFrom W0.heap.size (g u0) w9 := (HKFq.out.trans (keepsFrom_of HBu.out)).trans (keepsFrom_kept (IsBuilderF.to HIq.out HBu.out) hb9 hk9)
      have hb9' := hb9.mono (Nat.le_of_lt hsz)
      have HBu9 : Below w.heap.size w w9 := (HBq.out.trans (HBu.out.mono HBq.out.size)).trans hb9'
      have HK9 : KpX w.heap.size w6.heap.size (g2 u) w9 := ⟨hb9', (show w9.heap[w6.heap.size]? = _ from HX9.out).trans (show (g2 u).heap[w6.heap.size]? = _ from HXu.out).symm⟩
      have HKu : KpX w.heap.size w6.heap.size (g2 v0) (g2 u) := KpX.of HBu.out HBq.out.size hsq
      refine ⟨HKF, (HKq.out.t HKu).t HK9, ⟨.inr ?_, by have := hb9.size; have := HBu.out.size; omega, HX9.out⟩, HBu9⟩
      rw [List.flatMap_append, List.flatMap_cons, List.flatMap_nil, List.append_nil, HLn.out]
      exact HI9.out
  case done =>
    rintro D ys W hD rfl ⟨⟨hbW, hsW, hXW⟩, hBW⟩ hK
    have HBW := hide hbW
    have HBl := hide hBW
    have HK := hide hK
    clear hbW hBW hXW hK
    have CS := BString_k w2.heap.size w2.heap.size _ W HBW.out (by omega)
    gi_wp2_with (refine ⟨trivial, fun _ => (by omega), ?_⟩; gi_at_call 44; refine (callsIn_wide.2 CS).mono ?_; rintro e w9 ⟨rfl, hb9, hk9⟩)
    have HKd : w9.heap[D]? = some (.deferred (some [])) := hk9 D _ HK.out (fun e => by cases e; obtain ⟨cs, hc⟩ := IsBuilderF.blk HBW.out; have := HK.out; rw [show W.heap[w2.heap.size]? = _ from hc] at this; cases this) (fun c fz e => by cases e)
    have HB9 := hide (HBl.out.trans (hb9.mono (Nat.le_of_lt hsz)))
    refine ⟨by simp, .inl ⟨_, _, rfl, run_takeDeferred HKd, ?_⟩⟩
    exact ⟨_, results_tmp2 rfl _ _ _, rfl, HB9.out.trans (belowK_b (w := w) (Nat.le_refl _) _ D _ _ (by omega) HKd rfl rfl)⟩
  case stop =>
    rintro D c pre W hD _ ⟨h, _⟩ _
    exact h.elim
end Go.Proofs.YtnjlefggkfagmaaGreatDoor

/- Text; number, cut. -/
set_option linter.unusedVariables false
set_option linter.unusedSimpArgs false
namespace Go.Proofs.YtnjlefggkfagmaaGreatDoor
open Go.RowKit Go.Shelf

def textV (p : Pg) : List UInt8 := if formedB p then textPg p else []
def textE (p : Pg) : Int := if formedB p then 0 else 1
theorem Text_any (p : Pg) (hp : p.fit) (vi vp : Value) (w : World) (hg : Glob w) (hvi : TextsAt w vi p.items) (hvp : PathsAt w vp p.paths) :
    Calls Tryz.prog 16 #[.agg (p.cs vi vp)] w fun e w' => e = .returned (.tuple #[.string (bs (textV p)), .int .i64 (textE p)]) ∧ Below w.heap.size w w' := by
  unfold textV textE
  cases h : formedB p with
  | true => exact Text_yes p hp h vi vp w (hide hg) hvi hvp
  | false => exact Text_no p hp h vi vp w hvi hvp
def atoiV (l : List UInt8) : Int := match Lib.atoiAll l with | .ok v => v | .range => Lib.atoiSat l | _ => 0
theorem Atoi_any (l : List UInt8) (hl : l.length ≤ 281474976710656) (w : World) (hg : Glob w) : Calls Tryz.prog 64 #[.string (bs l)] w fun e w' =>
    ((∃ v, Lib.atoiAll l = .ok v ∧ e = .returned (.tuple #[.int .i64 v, .nilIface])) ∨ ((∀ v, Lib.atoiAll l ≠ .ok v) ∧ ∃ n T p, e = .returned (.tuple #[.int .i64 n, .iface T p]))) ∧ Below w.heap.size w w' := by
  have hs := bs_size l
  cases h : Lib.atoiAll l with
  | ok v =>
    refine (Tryz.strconv_Atoi_ok (bs l) (by omega) v (by rw [bs_list]; exact h) w).mono ?_
    rintro e w' ⟨rfl, hw⟩
    refine ⟨.inl ⟨v, rfl, rfl⟩, ?_⟩
    rcases hw with rfl | ⟨t, rfl⟩
    · exact Below.refl _ _
    · exact Lib.bytesWorld_below _ _ _
  | range =>
    obtain ⟨ev, h1, h2⟩ := hg.rng
    refine (Tryz.strconv_Atoi_range (bs l) (by omega) (by rw [bs_list]; exact h) ev w h1 h2).mono ?_
    rintro e w' ⟨N, rfl, _, _, hb⟩
    exact ⟨.inr ⟨(by simp), _, _, _, rfl⟩, hb⟩
  | _ =>
    obtain ⟨ev, h1, h2⟩ := hg.syn
    refine (Tryz.strconv_Atoi_bad (bs l) (by omega) (by rw [bs_list, h]; simp) (by rw [bs_list, h]; simp) ev w h1 h2).mono ?_
    rintro e w' ⟨N, rfl, _, _, hb⟩
    exact ⟨.inr ⟨(by simp), _, _, _, rfl⟩, hb⟩
theorem Cut_any (l s : List UInt8) (hl : l.length ≤ 4000000000) (w : World) (hg : Glob w) : Calls Tryz.prog 105 #[.string (bs l), .string (bs s)] w fun e w' => e = .returned (.tuple #[.string (bs (Lib.cut l s).1), .string (bs (Lib.cut l s).2.1), .bool (Lib.cut l s).2.2]) ∧ Below w.heap.size w w' := by
  have hs := bs_size l
  obtain ⟨m, hm⟩ := hg.len
  refine (Tryz.strings_Cut (bs l) (bs s) m w (by omega) hm).mono ?_
  rintro e w' ⟨rfl, n, rfl⟩
  refine ⟨?_, below_drewN (Below.refl _ _) n⟩
  rw [bs_list, bs_list]; rfl
theorem split_count (b : UInt8) : ∀ (n : Nat) (s : List UInt8), s.length ≤ n → (Lib.split s [b]).length = Lib.count s [b] + 1 := by
  intro n
  induction n with
  | zero =>
    intro s h
    obtain rfl : s = [] := List.eq_nil_of_length_eq_zero (by omega)
    rw [split_no (by simp)]
    rw [Lib.count_miss (index_no (by simp))]; rfl
  | succ n ih =>
    intro s h
    rcases Lib.index_spec s [b] with ⟨hi, _⟩ | ⟨i, hi, hl, _⟩
    · unfold Lib.split
      rw [Lib.count_miss hi]; rfl
    · have hr := Lib.index_room s [b] (by omega)
      rw [hi] at hr
      simp only [List.length_cons, List.length_nil] at hr
      have := ih (s.drop (i + [b].length)) (by rw [List.length_drop]; simp; omega)
      unfold Lib.split at this ⊢
      rw [Lib.count_hit (by simp) hi, Nat.add_comm 1, Lib.splitK, hi, if_neg (by rw [beq_iff_eq]; omega), List.length_cons]
      have e2 : (i : Int).toNat = i := by simp
      rw [e2, this]
theorem texts_new (w : World) (t : TypeId) (ls : List (List UInt8)) (cs : Array Value) (hcs : cs.toList = (ls.map strV).flatten) (n : Nat) (hn : n = ls.length) : TextsAt (w.alloc (.cells cs t)) (.slice (some ⟨w.heap.size, 0, none⟩) n n) ls := by
  refine RowsAt.of_blk (Blk.new w t cs) (by rw [List.length_map]; exact hn) (Nat.le_refl _) (by simp [strV]) fun k x hx j u hu => ?_
  have := flat_at (size := 1) (ls.map strV) (by simp [strV]) k x j u hx hu
  rw [← hcs] at this
  simpa using this
theorem Split_any (l : List UInt8) (hl : l.length ≤ 4000000000) (w : World) (hg : Glob w) : Calls Tryz.prog 107 #[.string (bs l), .string ⟨#[32]⟩] w fun e w' => ∃ g c, e = .returned (.slice (some ⟨g, 0, none⟩) (Lib.split l [32]).length c) ∧ w.heap.size ≤ g ∧ TextsAt w' (.slice (some ⟨g, 0, none⟩) (Lib.split l [32]).length c) (Lib.split l [32]) ∧ Below w.heap.size w w' := by
  have hs := bs_size l
  obtain ⟨m, hm⟩ := hg.len
  refine (Tryz.strings_Split (bs l) ⟨#[32]⟩ m w (by omega) hm (by decide)).mono ?_
  rintro e w' ⟨rfl, rfl⟩
  have hd := Lib.splitB_data ⟨#[32]⟩ 0 (Lib.countB (bs l) ⟨#[32]⟩) (bs l)
  rw [bs_list] at hd
  have hc : Lib.countB (bs l) ⟨#[32]⟩ = Lib.count l [32] := by unfold Lib.countB; rw [bs_list]
  rw [hc] at hd ⊢
  have hn := split_count 32 l.length l (Nat.le_refl _)
  have hd' : (Lib.splitB ⟨#[32]⟩ 0 (Lib.count l [32]) (bs l)).map (·.data.toList) = Lib.split l [32] := hd
  have hb : Lib.splitB ⟨#[32]⟩ 0 (Lib.count l [32]) (bs l) = (Lib.split l [32]).map bs := by
    rw [← hd', List.map_map]
    conv => lhs; rw [← List.map_id (Lib.splitB _ _ _ _)]
    exact List.map_congr_left fun x _ => (bs_eq x)
  rw [← hn]
  refine ⟨_, _, rfl, Nat.le_refl _, ?_, below_one _ _⟩
  rw [hb, List.map_map]
  refine texts_new w 9 (Lib.split l [32]) _ ?_ _ rfl
  rw [flatS_eq]
  simp [flatS]
def OddE (e : Ending) : Prop := ∃ pv, e = .panicked [{ v := .iface 107 pv, recovered := false }]
def NumR (l : List UInt8) (e : Ending) : Prop := match numO l with | some n => e = .returned (.int .i64 n) | none => OddE e
set_option maxHeartbeats 1000000 in
theorem number_any (l : List UInt8) (hl : l.length ≤ 281474976710656) (w : World) (hg : Glob w) : Calls Tryz.prog 69 #[.string (bs l)] w fun e w' => NumR l e ∧ Below w.heap.size w w' := by
  have CA := Atoi_any l hl w hg
  go_enter Tryz.func69, Tryz.ntmps69
  go_wp2_with fail
  refine CA.mono ?_
  rintro e w2 ⟨(⟨v, hv, rfl⟩ | ⟨hv, n, T, p, rfl⟩), hb⟩
  · by_cases h0 : v < 0
    · have e1 : decide (v < 0) = true := decide_eq_true h0
      have HN : Hid (numO l = none) := by show _ = _; unfold numO; rw [hv]; simp only; rw [if_pos h0]
      clear hv h0
      go_wp2_with fail
      exact ⟨rfl, (by unfold NumR; rw [HN.out]; exact ⟨_, rfl⟩), hb⟩
    · have e1 : decide (v < 0) = false := decide_eq_false h0
      have HN : Hid (numO l = some v) := by show _ = _; unfold numO; rw [hv]; simp only; rw [if_neg h0]
      clear hv h0
      go_wp2_with fail
      go_ret
      exact ⟨by unfold NumR; rw [HN.out]; rfl, hb⟩
  · have HN : Hid (numO l = none) := by
      show _ = _
      unfold numO
      split
      · rename_i v h; exact absurd h (hv v)
      · rfl
    clear hv
    go_wp2_with fail
    exact ⟨rfl, (by unfold NumR; rw [HN.out]; exact ⟨_, rfl⟩), hb⟩
def CutR (t : List UInt8) (w : World) (e : Ending) (w' : World) : Prop := if okP t then ∃ g c, e = .returned (.tuple #[.slice (some ⟨g, 0, none⟩) (lnP t).length c, .string (bs (reP t))]) ∧ w.heap.size ≤ g ∧ TextsAt w' (.slice (some ⟨g, 0, none⟩) (lnP t).length c) (lnP t) ∧ Below w.heap.size w w' else OddE e ∧ Below w.heap.size w w'
set_option maxHeartbeats 1000000 in
theorem cut_any (t : List UInt8) (hl : t.length ≤ 4000000000) (w : World) (hg : Glob w) : Calls Tryz.prog 68 #[.string (bs t)] w (CutR t w) := by
  have CA : Calls Tryz.prog 105 #[.string (bs t), .string ⟨#[10]⟩] w _ := Cut_any t [10] hl w hg
  have hc := cut_len t [10]
  have CS := fun w' (hb : Below w.heap.size w w') => Split_any (Lib.cut t [10]).1 (by omega) w' (hg.to hb)
  unfold CutR okP reP lnP
  generalize (Lib.cut t [10]).1 = A at *
  generalize (Lib.cut t [10]).2.1 = B at *
  generalize (Lib.cut t [10]).2.2 = b at *
  clear hc
  go_enter Tryz.func68, Tryz.ntmps68
  go_wp2_with fail
  refine CA.mono ?_
  rintro e w2 ⟨rfl, hb⟩
  clear CA
  cases b with
  | true =>
    have HB := hide hb
    clear hb
    go_wp2_with fail
    refine (CS w2 HB.out).mono ?_
    rintro e w3 ⟨g, c, rfl, hg3, ht, hb3⟩
    go_wp2_with fail
    go_ret2
    exact ⟨g, c, rfl, Nat.le_trans HB.out.size hg3, ht, below_to HB.out (Nat.le_refl _) hb3⟩
  | false =>
    go_wp2_with fail
    exact ⟨rfl, ⟨_, rfl⟩, hb⟩
end Go.Proofs.YtnjlefggkfagmaaGreatDoor

/- append to a row that is one's own: the elder value still reads as before; worlds that differ at two blocks. -/
set_option linter.unusedVariables false
set_option linter.unusedSimpArgs false
namespace Go.Proofs.YtnjlefggkfagmaaGreatDoor
open Go Go.RowKit

section
variable {P : Program} (w : World)
theorem run_append_keep (base : Nat) (t ty e : TypeId) (i : TypeInfo) (z : Value) (size bytes : Nat) (ht : P.underlying t = some (.slice e)) (hi : P.info? e = some i) (hz : i.zero = some z)
    (hsize : i.size = size) (hby : i.bytes = bytes) (hzs : z.cells.size = size) (hsz : 0 < size)
    (v : Value) (n : Nat) (xs : List Value) (hown : w.ownsRow base e size v n xs)
    (a : Addr) (m c : Nat) (news : List Value) (hl : news.length = m * size) (hnews : ∀ j u, news[j]? = some u → w.cell? (a.add j) = some u) (h1 : ∀ u ∈ news, u.oneCell' = true)
    (h63 : n + m ≤ maxLen) (hbytes : (n + m) * bytes ≤ 140737488355328) (hbase : base ≤ w.heap.size) :
    ∃ v' w', (Builtin.append_ #[t, t] ty #[v, .slice (some a) m c]).run P w = .ok v' w' ∧ w'.ownsRow base e size v' (n + m) (xs ++ news) ∧ w.grownBy w' v.ownBlock ∧
      w'.ownsRow base e size v n xs ∧ (v'.ownBlock = v.ownBlock ∨ ∃ g, v'.ownBlock = some g ∧ w.heap.size ≤ g) := by
  rcases hown.2 with ⟨rfl, rfl⟩ | ⟨g, cap, cur, rfl, hbg, hg, hnc, hcm, hcs, htake⟩
  · obtain ⟨v', w', h2, h3, h4, _, h5⟩ := run_append_own_at (P := P) w base t ty e i z size bytes ht hi hz hsize hby hzs hsz _ _ xs hown a m c news hl hnews h1 h63 hbytes hbase
    have hx : xs = [] := List.eq_nil_of_length_eq_zero (by simpa using hown.1)
    subst hx
    exact ⟨v', w', h2, h3, h4, World.ownsRow_nil _ _ _ _, h5.imp id fun h => ⟨_, h, Nat.le_refl _⟩⟩
  · by_cases hroom : n + m ≤ cap
    · subst hsize
      have hlen : (xs ++ news).length = (n + m) * i.size := by rw [List.length_append, hown.1, hl, Nat.add_mul]
      have hfit : n * i.size + news.length ≤ cur.size := by rw [hl, hcs, ← Nat.add_mul]; exact Nat.mul_le_mul_right _ hroom
      have hr := run_append_room (P := P) w t ty e i ht hi g n cap cur hg a m c news hl hnews h1 hroom hfit
      have hsz2 : (cur.toList.take (n * i.size) ++ news ++ cur.toList.drop (n * i.size + news.length)).toArray.size = cap * i.size := by
        simp only [List.size_toArray, List.length_append, List.length_take, List.length_drop, Array.length_toList]
        omega
      refine ⟨_, _, hr, ⟨hlen, .inr ⟨g, cap, _, rfl, hbg, setRow_heap w g cur _ e _ hg, hroom, hcm, hsz2, ?_⟩⟩, ⟨rfl, rfl, rfl, by simp, fun k _ hk => setRow_other w g k _ (fun e => hk (by simp [Value.ownBlock, e]))⟩,
        ⟨hown.1, .inr ⟨g, cap, _, rfl, hbg, setRow_heap w g cur _ e _ hg, hnc, hcm, hsz2, ?_⟩⟩, .inl rfl⟩
      · rw [htake, ← hlen]
        exact List.take_left
      · rw [htake, ← hown.1]
        show ((xs ++ news) ++ _).take xs.length = xs
        rw [List.append_assoc]
        exact List.take_left
    · obtain ⟨v', w', h2, h3, h4, _, h5⟩ := run_append_own_at (P := P) w base t ty e i z size bytes ht hi hz hsize hby hzs hsz _ _ xs hown a m c news hl hnews h1 h63 hbytes hbase
      subst hsize
      subst hby
      have holds : ∀ j u, xs[j]? = some u → w.cell? ((⟨g, 0, none⟩ : Addr).add j) = some u := hown.cells (g := g) rfl
      have hr := run_append_grow (P := P) w t ty e i z ht hi hz ⟨g, 0, none⟩ n cap xs hown.1 holds a m c news hl hnews (by omega) (by simp only [maxLen] at h63; omega) (growslice_fits (by omega) hbytes)
      rw [hr] at h2
      injection h2 with e1 e2
      subst e1 e2
      refine ⟨_, _, hr, h3, h4, ⟨hown.1, .inr ⟨g, cap, cur, rfl, hbg, ?_, hnc, hcm, hcs, htake⟩⟩, .inr ⟨_, rfl, Nat.le_refl _⟩⟩
      rw [heap_alloc_old w.drew _ (Array.getElem?_eq_some_iff.1 hg).1]
      exact hg
theorem wp_append_keep {o : Oper} {a : Act} {K : Act → World → Prop} {Q : Exit → Act → World → Prop} (s x : Operand) (t : TypeId)
    (ho : o.op = .call { callee := .builtin .append, args := #[s, x], argTypes := #[t, t] })
    (base : Nat) (e : TypeId) (i : TypeInfo) (z : Value) (size bytes : Nat) (ht : P.underlying t = some (.slice e)) (hi : P.info? e = some i) (hz : i.zero = some z)
    (hsize : i.size = size) (hby : i.bytes = bytes) (hzs : z.cells.size = size) (hsz : 0 < size)
    (v : Value) (n : Nat) (xs : List Value) (hs : a.eval s = v) (hown : w.ownsRow base e size v n xs)
    (ad : Addr) (m c : Nat) (news : List Value) (hx : a.eval x = .slice (some ad) m c) (hl : news.length = m * size) (hnews : ∀ j u, news[j]? = some u → w.cell? (ad.add j) = some u) (h1 : ∀ u ∈ news, u.oneCell' = true)
    (h63 : n + m ≤ maxLen) (hbytes : (n + m) * bytes ≤ 140737488355328) (hbase : base ≤ w.heap.size)
    (h : ∀ v' w', w'.ownsRow base e size v' (n + m) (xs ++ news) → w.grownBy w' v.ownBlock → w'.ownsRow base e size v n xs → (v'.ownBlock = v.ownBlock ∨ ∃ g, v'.ownBlock = some g ∧ w.heap.size ≤ g) → K (a.put o.dst v') w') : o.wp P a w K Q := by
  obtain ⟨v', w', hr, h2, h3, h4, h5⟩ := run_append_keep (P := P) w base t o.type e i z size bytes ht hi hz hsize hby hzs hsz v n xs hown ad m c news hl hnews h1 h63 hbytes hbase
  unfold Oper.wp execOp
  simp only [ho, resolve, invoke, builtin, Sem.run_bind, Sem.run_pure, Result.andThen_ok, List.map_toArray, List.map_cons, List.map_nil, hs, hx, hr]
  exact h v' w' h2 h3 h4 h5
theorem wpList_append_keep {ops : Array Oper} {rest : List Oper} {o : Oper} {a : Act} {Q : Exit → Act → World → Prop} (hgd : o.guard = none) (s x : Operand) (t : TypeId)
    (ho : o.op = .call { callee := .builtin .append, args := #[s, x], argTypes := #[t, t] })
    (base : Nat) (e : TypeId) (i : TypeInfo) (z : Value) (size bytes : Nat) (ht : P.underlying t = some (.slice e)) (hi : P.info? e = some i) (hz : i.zero = some z)
    (hsize : i.size = size) (hby : i.bytes = bytes) (hzs : z.cells.size = size) (hsz : 0 < size)
    (v : Value) (n : Nat) (xs : List Value) (hs : a.eval s = v) (hown : w.ownsRow base e size v n xs)
    (ad : Addr) (m c : Nat) (news : List Value) (hx : a.eval x = .slice (some ad) m c) (hl : news.length = m * size) (hnews : ∀ j u, news[j]? = some u → w.cell? (ad.add j) = some u) (h1 : ∀ u ∈ news, u.oneCell' = true)
    (h63 : n + m ≤ maxLen) (hbytes : (n + m) * bytes ≤ 140737488355328) (hbase : base ≤ w.heap.size)
    (h : ∀ v' w', w'.ownsRow base e size v' (n + m) (xs ++ news) → w.grownBy w' v.ownBlock → w'.ownsRow base e size v n xs → (v'.ownBlock = v.ownBlock ∨ ∃ g, v'.ownBlock = some g ∧ w.heap.size ≤ g) → wpList P ops Q rest (a.put o.dst v') w') : wpList P ops Q (o :: rest) a w :=
  wpList_plain hgd fun _ hK => wp_append_keep w s x t ho base e i z size bytes ht hi hz hsize hby hzs hsz v n xs hs hown ad m c news hx hl hnews h1 h63 hbytes hbase fun v' w' h2 h3 h4 h5 => hK _ _ (h v' w' h2 h3 h4 h5)
end
/-- the block that an append may write, or another one -/
def rowOr (v : Value) (p : Nat) : Nat := v.ownBlock.getD p
section
variable {p q : Nat} {a w w' : World}
theorem Two.grown {v : Value} (h : w.grownBy w' v.ownBlock) : Two p (rowOr v p) w w' := by
  refine ⟨h.os, h.tape, h.output, h.size, fun k hk h1 h2 => h.block k hk fun e => ?_⟩
  unfold rowOr at h2
  rw [← e] at h2
  exact h2 rfl
theorem below_grown {B : Nat} {row : Option Nat} (h : w.grownBy w' row) (hB : B ≤ w.heap.size) (hr : ∀ k, row = some k → B ≤ k) : Below B w w' :=
  ⟨h.os, h.tape, h.output, h.size, fun k hk => h.block k (by omega) (fun e => by have := hr k e.symm; omega)⟩
theorem ownsRow_two {B : Nat} {e : TypeId} {s n : Nat} {v : Value} {xs : List Value} (h : w.ownsRow B e s v n xs) (hb : Two p q w w') (h1 : v.ownBlock ≠ some p) (h2 : v.ownBlock ≠ some q) : w'.ownsRow B e s v n xs := by
  refine ⟨h.1, ?_⟩
  rcases h.2 with hn | ⟨g, cap, cur, rfl, hb', hgg, rest⟩
  · exact .inl hn
  · refine .inr ⟨g, cap, cur, rfl, hb', ?_, rest⟩
    rw [hb.block g (Array.getElem?_eq_some_iff.1 hgg).1 (fun e => h1 (by rw [← e]; rfl)) (fun e => h2 (by rw [← e]; rfl))]
    exact hgg
theorem ownsRow_set {B : Nat} {e : TypeId} {s n : Nat} {v : Value} {xs : List Value} (h : w.ownsRow B e s v n xs) {i : Nat} {u : Value} (h1 : v.ownBlock ≠ some p) : (w.setCell ⟨p, i, none⟩ u).ownsRow B e s v n xs :=
  ownsRow_two h ((Two.refl p p w).set1 i u) h1 h1
theorem ownsRow_to {B : Nat} {e : TypeId} {s n : Nat} {v : Value} {xs : List Value} (h : w.ownsRow B e s v n xs) (hb : Below w.heap.size w w') : w'.ownsRow B e s v n xs := by
  refine ⟨h.1, ?_⟩
  rcases h.2 with hn | ⟨g, cap, cur, rfl, hb', hgg, rest⟩
  · exact .inl hn
  · exact .inr ⟨g, cap, cur, rfl, hb', (hb.block g (Array.getElem?_eq_some_iff.1 hgg).1).trans hgg, rest⟩
/-- rows of two kinds lie in two blocks -/
theorem ownsRow_apart {B B' : Nat} {e e' : TypeId} {s s' n n' : Nat} {v v' : Value} {xs xs' : List Value} (h : w.ownsRow B e s v n xs) (h' : w.ownsRow B' e' s' v' n' xs') (he : e ≠ e') : v.ownBlock ≠ v'.ownBlock ∨ v.ownBlock = none := by
  rcases h.2 with ⟨rfl, _⟩ | ⟨g, cap, cur, rfl, _, hg, _⟩
  · exact .inr rfl
  · rcases h'.2 with ⟨rfl, _⟩ | ⟨g', cap', cur', rfl, _, hg', _⟩
    · left; simp [Value.ownBlock]
    · left
      intro e1
      simp only [Value.ownBlock, Option.some.injEq] at e1
      subst e1
      rw [hg] at hg'
      cases hg'
      exact he rfl
end
/-- a slice of texts, whose array is not the block g -/
def FarB (v : Value) (g : Option Nat) : Prop := v.ownBlock = none ∨ v.ownBlock ≠ g
theorem TextsAt.two {p q : Nat} {w w' : World} {v : Value} {ls : List (List UInt8)} (h : TextsAt w v ls) (hb : Two p q w w') (h1 : v.ownBlock ≠ some p) (h2 : v.ownBlock ≠ some q) : TextsAt w' v ls := by
  obtain ⟨A, c, rfl, h3, h4, h5⟩ := h
  refine ⟨A, c, rfl, h3, h4, fun k x hx => ?_⟩
  obtain ⟨ad, e, hl, hc⟩ := h5 k x hx
  subst e
  refine ⟨ad, rfl, Nat.lt_of_lt_of_le hl hb.size, fun j u hu => ?_⟩
  rw [← hc j u hu]
  refine World.cell?_of_block ?_
  have e : ((ad.add (k * 1)).add j).block = ad.block := by rw [block_of_add, block_of_add]
  rw [e]
  exact hb.block _ hl (fun e => h1 (by rw [← e]; rfl)) (fun e => h2 (by rw [← e]; rfl))
end Go.Proofs.YtnjlefggkfagmaaGreatDoor

/- Parse: what is deferred. -/
set_option linter.unusedVariables false
set_option linter.unusedSimpArgs false
namespace Go.Proofs.YtnjlefggkfagmaaGreatDoor
open Go.RowKit Go.Shelf

/-- the two results in their blocks -/
structure PR (bp be : Nat) (cs : Array Value) (w : World) : Prop where
  p : Blk w bp 38 cs
  e : Blk w be 39 #[.int .i64 0]
  five : cs.size = 5
  ne : bp ≠ be
def noCs : Array Value := #[.int .i64 0, .int .i64 0, .string ⟨#[]⟩, .slice none 0 0, .slice none 0 0]
set_option maxRecDepth 100000 in
set_option maxHeartbeats 200000 in
theorem catch_odd (bp be : Nat) (cs : Array Value) (pv : Value) (w : World) (h : PR bp be cs w) :
    CallsD Tryz.prog 67 #[.pointer (some ⟨bp, 0, none⟩), .pointer (some ⟨be, 0, none⟩)] (.panicking [{ v := .iface 107 pv, recovered := false }]) w fun e u' w' =>
      e = .returned (.tuple #[]) ∧ u' = .panicking [{ v := .iface 107 pv, recovered := true }] ∧ Blk w' bp 38 noCs ∧ Blk w' be 39 #[.int .i64 5] ∧ Two bp be w w' := by
  have f0 : w.frozen? ⟨bp, 0, none⟩ = false := h.p.frozen 0
  have f1 : w.frozen? ⟨bp, 1, none⟩ = false := h.p.frozen 1
  have f2 : w.frozen? ⟨bp, 2, none⟩ = false := h.p.frozen 2
  have f3 : w.frozen? ⟨bp, 3, none⟩ = false := h.p.frozen 3
  have f4 : w.frozen? ⟨bp, 4, none⟩ = false := h.p.frozen 4
  have fe : w.frozen? ⟨be, 0, none⟩ = false := h.e.frozen 0
  refine callsD_of_wpS Tryz.func67 rfl fun c₀ ks hu => ?_
  obtain ⟨c0, c1, c2, c3, c4, rfl⟩ : ∃ a b c d e, cs = #[a, b, c, d, e] := by
    rcases cs with ⟨l⟩
    match l, h.five with
    | [a, b, c, d, e], _ => exact ⟨a, b, c, d, e, rfl⟩
  have x0 := (h.p.cell 0).trans (show _ = some c0 from rfl)
  have x1 := (h.p.cell 1).trans (show _ = some c1 from rfl)
  have x2 := (h.p.cell 2).trans (show _ = some c2 from rfl)
  have x3 := (h.p.cell 3).trans (show _ = some c3 from rfl)
  have x4 := (h.p.cell 4).trans (show _ = some c4 from rfl)
  have n1 : ¬ be = bp := fun e => h.ne e.symm
  have n2 : ¬ bp = be := h.ne
  have x5 := (h.e.cell 0).trans (show _ = some (Value.int .i64 0) from rfl)
  apply wpS_seq
  apply wpS_region
  simp [wpOpsS, go_sem, recoverD, hu, Tryz.ntmps67, Exit.thenS, List.replicate]
  refine wpS_of_wp ?_
  rw [show (#[Value.pointer (some ⟨bp, 0, none⟩), Value.pointer (some ⟨be, 0, none⟩)] ++ ((Array.replicate 5 undef).setIfInBounds 1 (Value.iface 107 pv)).setIfInBounds 0 (Value.iface 107 pv)) = #[Value.pointer (some ⟨bp, 0, none⟩), Value.pointer (some ⟨be, 0, none⟩), Value.iface 107 pv, Value.iface 107 pv, undef, undef, undef] from rfl]
  refine wp_mono (Q := fun e a' w' => e = .normal ∧ a'.defers = [] ∧ Blk w' bp 38 noCs ∧ Blk w' be 39 #[.int .i64 5] ∧ Two bp be w w') ?_ ?_
  · have h2 := hide h
    clear h
    iterate 24 (first | go_values | go_skip | go_guarded | go_step | go_upon)
    refine ⟨rfl, rfl, ?_, ?_, ?_⟩
    · exact (((((h2.out.p.set_ 0 (.int .i64 0)).set_ 1 (.int .i64 0)).set_ 2 (.string ⟨#[]⟩)).set_ 3 (.slice none 0 0)).set_ 4 (.slice none 0 0)).far (p := ⟨be, 0, none⟩) n2 _
    · exact (((((h2.out.e.far (p := ⟨bp, 0, none⟩) n1 _).far (p := ⟨bp, 1, none⟩) n1 _).far (p := ⟨bp, 2, none⟩) n1 _).far (p := ⟨bp, 3, none⟩) n1 _).far (p := ⟨bp, 4, none⟩) n1 _).set_ 0 _
    · exact (((((((Two.refl bp be w).set1 0 _).set1 1 _).set1 2 _).set1 3 _).set1 4 _).set2 0 _)
  · rintro e a' w' ⟨rfl, h1, h2, h3, h4⟩
    refine ⟨h1, _, rfl, .tuple #[], ?_, rfl, rfl, h2, h3, h4⟩
    exact results_none rfl _ _ _
set_option maxRecDepth 100000 in
set_option maxHeartbeats 400000 in
theorem catch_none (bp be : Nat) (w : World) :
    CallsD Tryz.prog 67 #[.pointer (some ⟨bp, 0, none⟩), .pointer (some ⟨be, 0, none⟩)] .returning w fun e u' w' =>
      e = .returned (.tuple #[]) ∧ u' = .returning ∧ w' = w := by
  refine callsD_of_wpS Tryz.func67 rfl fun c₀ ks hu => ?_
  apply wpS_seq
  apply wpS_region
  simp [wpOpsS, go_sem, recoverD, hu, Tryz.ntmps67, Exit.thenS, List.replicate]
  refine wpS_of_wp ?_
  rw [show (#[Value.pointer (some ⟨bp, 0, none⟩), Value.pointer (some ⟨be, 0, none⟩)] ++ ((Array.replicate 5 undef).setIfInBounds 1 Value.nilIface).setIfInBounds 0 Value.nilIface) = #[Value.pointer (some ⟨bp, 0, none⟩), Value.pointer (some ⟨be, 0, none⟩), Value.nilIface, Value.nilIface, undef, undef, undef] from rfl]
  refine wp_mono (Q := fun e a' w' => e = .normal ∧ a'.defers = [] ∧ w' = w) ?_ ?_
  · go_wp2_with fail
  · rintro e a' w' ⟨rfl, h1, rfl⟩
    exact ⟨h1, .returning, (by cases c₀; simp_all), .tuple #[], results_none rfl _ _ _, rfl, rfl, rfl⟩
def noPg : Pg := ⟨0, 0, [], [], []⟩
def parseV (t : List UInt8) : Pg := (parseP t).getD noPg
def parseE (t : List UInt8) : Int := if (parseP t).isSome then 0 else 5
def ParseR (t : List UInt8) (w : World) (e : Ending) (w' : World) : Prop := ∃ vi vp, e = .returned (.tuple #[.agg ((parseV t).cs vi vp), .int .i64 (parseE t)]) ∧ TextsAt w' vi (parseV t).items ∧ PathsAt w' vp (parseV t).paths ∧ Below w.heap.size w w' ∧ ∀ g, vi.ownBlock = some g → w.heap.size ≤ g
theorem results_two {fn : Func} {p q : Tmp} (h : fn.results = #[.cell p 38, .cell q 39]) (tmps : Array Value) (w : World) (bp be : Nat) (hp : tmps[p]? = some (.pointer (some ⟨bp, 0, none⟩))) (hq : tmps[q]? = some (.pointer (some ⟨be, 0, none⟩))) (cs : Array Value) (v : Value)
    (h1 : Blk w bp 38 cs) (hs : cs.size = 5) (h2 : Blk w be 39 #[v]) : (results fn tmps).run Tryz.prog w = .ok (.tuple #[.agg cs, v]) w := by
  have hp' : tmps[p]?.getD undef = .pointer (some ⟨bp, 0, none⟩) := by rw [hp]; rfl
  have hq' : tmps[q]?.getD undef = .pointer (some ⟨be, 0, none⟩) := by rw [hq]; rfl
  obtain ⟨c0, c1, c2, c3, c4, rfl⟩ : ∃ a b c d e, cs = #[a, b, c, d, e] := by
    rcases cs with ⟨l⟩
    match l, hs with
    | [a, b, c, d, e], _ => exact ⟨a, b, c, d, e, rfl⟩
  have x0 := (h1.cell 0).trans (show _ = some c0 from rfl)
  have x1 := (h1.cell 1).trans (show _ = some c1 from rfl)
  have x2 := (h1.cell 2).trans (show _ = some c2 from rfl)
  have x3 := (h1.cell 3).trans (show _ = some c3 from rfl)
  have x4 := (h1.cell 4).trans (show _ = some c4 from rfl)
  have x5 := (h2.cell 0).trans (show _ = some v from rfl)
  simp [results, h, hp', hq', go_sem, x0, x1, x2, x3, x4, x5]
theorem parse_odd {t : List UInt8} (hno : parseP t = none) (w W : World) (bp be : Nat) (hbp : w.heap.size ≤ bp) (hbe : w.heap.size ≤ be) (hb : Below w.heap.size w W) (cs : Array Value) (h : PR bp be cs W) (tmps : Array Value) (h2 : tmps[2]? = some (.pointer (some ⟨bp, 0, none⟩))) (h3 : tmps[3]? = some (.pointer (some ⟨be, 0, none⟩))) (pv : Value) :
    Leaves Tryz.prog Tryz.f26 tmps (ParseR t w) [{ target := .fn (.func 67) #[.pointer (some ⟨bp, 0, none⟩), .pointer (some ⟨be, 0, none⟩)], args := #[] }] (.panicking [{ v := .iface 107 pv, recovered := false }]) W := by
  refine leaves_cons (f := 67) (args := #[.pointer (some ⟨bp, 0, none⟩), .pointer (some ⟨be, 0, none⟩)]) (by simp) (by simp [go_sem]) ?_
  refine (catch_odd bp be cs pv W h).mono ?_
  rintro e u' w' ⟨rfl, rfl, h4, h5, h6⟩
  show Leaves _ _ _ _ [] .returning w'
  refine ⟨_, results_two rfl tmps w' bp be h2 h3 noCs _ h4 rfl h5, .slice none 0 0, .slice none 0 0, ?_, ?_, ?_, hb.trans (h6.below (B := w.heap.size) hb.size hbp hbe), fun g e => by cases e⟩
  · unfold parseV parseE; rw [hno]; rfl
  · unfold parseV; rw [hno]; exact TextsAt.nil _
  · unfold parseV; rw [hno]; exact PathsAt.nil _
theorem parse_end {t : List UInt8} {p : Pg} (hp : parseP t = some p) (w W : World) (bp be : Nat) (hb : Below w.heap.size w W) (vi vp : Value) (h : PR bp be (p.cs vi vp) W) (hi : TextsAt W vi p.items) (hq : PathsAt W vp p.paths) (ho : ∀ g, vi.ownBlock = some g → w.heap.size ≤ g) (tmps : Array Value) (h2 : tmps[2]? = some (.pointer (some ⟨bp, 0, none⟩))) (h3 : tmps[3]? = some (.pointer (some ⟨be, 0, none⟩))) :
    Leaves Tryz.prog Tryz.f26 tmps (ParseR t w) [{ target := .fn (.func 67) #[.pointer (some ⟨bp, 0, none⟩), .pointer (some ⟨be, 0, none⟩)], args := #[] }] .returning W := by
  refine leaves_cons (f := 67) (args := #[.pointer (some ⟨bp, 0, none⟩), .pointer (some ⟨be, 0, none⟩)]) (by simp) (by simp [go_sem]) ?_
  refine (catch_none bp be W).mono ?_
  rintro e u' w' ⟨rfl, rfl, rfl⟩
  show Leaves _ _ _ _ [] .returning w'
  refine ⟨_, results_two rfl tmps w' bp be h2 h3 _ _ h.p rfl h.e, vi, vp, ?_, ?_, ?_, hb, ho⟩
  · unfold parseV parseE; rw [hp]; rfl
  · unfold parseV; rw [hp]; exact hi
  · unfold parseV; rw [hp]; exact hq
/-- a path's slice lies in an array of its own -/
def PFar (B n : Nat) (pv vi vp : Value) : Prop := ∃ g, pv.ownBlock = some g ∧ B ≤ g ∧ g < n ∧ vi.ownBlock ≠ some g ∧ vp.ownBlock ≠ some g
/-- the page that is read, as it grows -/
structure PMem (bp be B : Nat) (f s : Int) (R : List UInt8) (st : PSt) (vi vp : Value) (pvs : List Value) (W : World) : Prop where
  r : PR bp be #[.int .i64 f, .int .i64 s, .string (bs R), vi, vp] W
  oi : W.ownsRow B 9 1 vi st.items.length (flatS st.items)
  op : W.ownsRow B 22 1 vp st.paths.length pvs
  at_ : ∀ (j : Nat) (q : List (List UInt8)), st.paths[j]? = some q → ∃ pv : Value, pvs[j]? = some pv ∧ TextsAt W pv q ∧ PFar B W.heap.size pv vi vp
theorem PMem.to {bp be B : Nat} {f s : Int} {R : List UInt8} {st : PSt} {vi vp : Value} {pvs : List Value} {W W' : World} (h : PMem bp be B f s R st vi vp pvs W) (hb : Below W.heap.size W W') : PMem bp be B f s R st vi vp pvs W' :=
  ⟨⟨h.r.p.to hb, h.r.e.to hb, rfl, h.r.ne⟩, ownsRow_to h.oi hb, ownsRow_to h.op hb, fun j q hq => by
    obtain ⟨pv, h1, h2, g, h3, h4, h5, h6⟩ := h.at_ j q hq
    exact ⟨pv, h1, h2.to hb, g, h3, h4, Nat.lt_of_lt_of_le h5 hb.size, h6⟩⟩
theorem rowOr_ne {v : Value} {p g : Nat} (h : v.ownBlock ≠ some g) (hp : p ≠ g) : some g ≠ some (rowOr v p) := fun e => by
  unfold rowOr at e
  cases hv : v.ownBlock with
  | none => rw [hv] at e; exact hp (Option.some.inj e).symm
  | some k => rw [hv] at e h; exact h (by rw [Option.some.inj e]; rfl)
theorem pmem_items {bp be B : Nat} {f s : Int} {R : List UInt8} {st : PSt} {vi vp v' : Value} {pvs : List Value} {W W' : World} (hbp : bp < B) (h : PMem bp be B f s R st vi vp pvs W) (hT : Two bp (rowOr vi bp) W W')
    (hR : PR bp be #[.int .i64 f, .int .i64 s, .string (bs R), v', vp] W') (x : List UInt8) (hO : W'.ownsRow B 9 1 v' (st.items.length + 1) (flatS st.items ++ [.string (bs x)]))
    (hv : v'.ownBlock = vi.ownBlock ∨ ∃ g, v'.ownBlock = some g ∧ W.heap.size ≤ g) (r : List UInt8) : PMem bp be B f s R ⟨st.items ++ [x], st.paths, r⟩ v' vp pvs W' := by
  have hfar : ∀ g, vi.ownBlock ≠ some g → bp ≠ g → some g ≠ some (rowOr vi bp) := fun g h1 h2 => rowOr_ne h1 h2
  refine ⟨hR, ?_, ?_, fun j q hq => ?_⟩
  · show W'.ownsRow B _ 1 v' (st.items ++ [x]).length (flatS (st.items ++ [x]))
    rw [flatS_snoc, List.length_append]
    exact hO
  · cases hvp : vp.ownBlock with
    | none => exact ownsRow_two h.op hT (by rw [hvp]; simp) (by rw [hvp]; simp)
    | some g =>
      have hl := World.ownsRow.lt h.op g hvp
      refine ownsRow_two h.op hT (by rw [hvp]; intro e; cases e; omega) ?_
      rw [hvp]
      refine hfar g ?_ (by omega)
      intro e
      rcases ownsRow_apart h.oi h.op (by decide) with h1 | h1
      · exact h1 (by rw [e, hvp])
      · rw [h1] at e; cases e
  · obtain ⟨pv, h1, h2, g, h3, h4, h5, h6, h7⟩ := h.at_ j q hq
    refine ⟨pv, h1, h2.two hT (by rw [h3]; intro e; cases e; omega) (by rw [h3]; exact hfar g h6 (by omega)), g, h3, h4, Nat.lt_of_lt_of_le h5 hT.size, ?_, h7⟩
    rcases hv with hv | ⟨k, hv, hk⟩
    · rw [hv]; exact h6
    · rw [hv]; intro e; cases e; omega
theorem pmem_paths {bp be B : Nat} {f s : Int} {R : List UInt8} {st : PSt} {vi vp v' : Value} {pvs : List Value} {W W' : World} (hbp : bp < B) (h : PMem bp be B f s R st vi vp pvs W) (hT : Two bp (rowOr vp bp) W W')
    (pv : Value) (hR : PR bp be #[.int .i64 f, .int .i64 s, .string (bs R), vi, v'] W') (hO : W'.ownsRow B 22 1 v' (st.paths.length + 1) (pvs ++ [pv]))
    (hv : v'.ownBlock = vp.ownBlock ∨ ∃ g, v'.ownBlock = some g ∧ W.heap.size ≤ g) (q : List (List UInt8)) (hq : TextsAt W pv q) (hf : PFar B W.heap.size pv vi vp) (r : List UInt8) : PMem bp be B f s R ⟨st.items, st.paths ++ [q], r⟩ vi v' (pvs ++ [pv]) W' := by
  have hfar : ∀ g, vp.ownBlock ≠ some g → bp ≠ g → some g ≠ some (rowOr vp bp) := fun g h1 h2 => rowOr_ne h1 h2
  have hall : ∀ (pv : Value) (q : List (List UInt8)), TextsAt W pv q → PFar B W.heap.size pv vi vp → TextsAt W' pv q ∧ PFar B W'.heap.size pv vi v' := by
    rintro pv q h2 ⟨g, h3, h4, h5, h6, h7⟩
    refine ⟨h2.two hT (by rw [h3]; intro e; cases e; omega) (by rw [h3]; exact hfar g h7 (by omega)), g, h3, h4, Nat.lt_of_lt_of_le h5 hT.size, h6, ?_⟩
    rcases hv with hv | ⟨k, hv, hk⟩
    · rw [hv]; exact h7
    · rw [hv]; intro e; cases e; omega
  have hpl : pvs.length = st.paths.length := by have := h.op.1; omega
  refine ⟨hR, ?_, ?_, fun j q' hq' => ?_⟩
  · cases hvi : vi.ownBlock with
    | none => exact ownsRow_two h.oi hT (by rw [hvi]; simp) (by rw [hvi]; simp)
    | some g =>
      have hl := World.ownsRow.lt h.oi g hvi
      refine ownsRow_two h.oi hT (by rw [hvi]; intro e; cases e; omega) ?_
      rw [hvi]
      refine hfar g ?_ (by omega)
      intro e
      rcases ownsRow_apart h.oi h.op (by decide) with h1 | h1
      · exact h1 (by rw [e, hvi])
      · rw [h1] at hvi; cases hvi
  · show W'.ownsRow B _ 1 v' (st.paths ++ [q]).length (pvs ++ [pv])
    rw [List.length_append]
    exact hO
  · rcases Nat.lt_or_ge j st.paths.length with hj | hj
    · simp only [List.getElem?_append_left hj] at hq'
      obtain ⟨pv', h1, h2, h3⟩ := h.at_ j q' hq'
      obtain ⟨h4, h5⟩ := hall pv' q' h2 h3
      exact ⟨pv', by rw [List.getElem?_append_left (by omega)]; exact h1, h4, h5⟩
    · simp only [List.getElem?_append_right hj] at hq'
      have hj0 : j = st.paths.length := by
        have := (List.getElem?_eq_some_iff.1 hq').1
        simp at this; omega
      subst hj0
      simp at hq'
      subst hq'
      obtain ⟨h4, h5⟩ := hall pv q hq hf
      exact ⟨pv, by rw [List.getElem?_append_right (by omega), hpl]; simp, h4, h5⟩
theorem pmem_res {bp be B : Nat} {f s : Int} {R : List UInt8} {st : PSt} {vi vp : Value} {pvs : List Value} {W W' : World} (hbp : bp < B) (hbe : be < B) (h : PMem bp be B f s R st vi vp pvs W) (hT : Two bp be W W')
    (hR : PR bp be #[.int .i64 f, .int .i64 s, .string (bs R), vi, vp] W') : PMem bp be B f s R st vi vp pvs W' := by
  have hne : ∀ v : Value, (∀ g, v.ownBlock = some g → B ≤ g) → v.ownBlock ≠ some bp ∧ v.ownBlock ≠ some be := fun v hv => ⟨fun e => by have := hv _ e; omega, fun e => by have := hv _ e; omega⟩
  refine ⟨hR, ?_, ?_, fun j q hq => ?_⟩
  · obtain ⟨h1, h2⟩ := hne vi fun g e => (World.ownsRow.lt h.oi g e).1
    exact ownsRow_two h.oi hT h1 h2
  · obtain ⟨h1, h2⟩ := hne vp fun g e => (World.ownsRow.lt h.op g e).1
    exact ownsRow_two h.op hT h1 h2
  · obtain ⟨pv, h1, h2, g, h3, h4, h5, h6⟩ := h.at_ j q hq
    obtain ⟨h7, h8⟩ := hne pv fun g' e => by rw [h3] at e; cases e; exact h4
    exact ⟨pv, h1, h2.two hT h7 h8, g, h3, h4, Nat.lt_of_lt_of_le h5 hT.size, h6⟩
theorem pmem_paths_at {bp be B : Nat} {f s : Int} {R : List UInt8} {st : PSt} {vi vp : Value} {pvs : List Value} {W : World} (h : PMem bp be B f s R st vi vp pvs W) : PathsAt W vp st.paths := by
  obtain ⟨A, c, rfl⟩ := own_sl4 h.op
  have hl := h.op.1
  rcases h.op.2 with ⟨e, h0⟩ | ⟨g, cap, cur, e, hb, hg, h1, h2, h3, h4⟩
  · have : st.paths = [] := List.eq_nil_of_length_eq_zero h0
    rw [this]
    exact ⟨A, c, rfl, Nat.zero_le _, fun k p hp => by simp at hp⟩
  · cases e
    refine ⟨_, _, rfl, h1, fun k p hp => ?_⟩
    obtain ⟨pv, q1, q2, _⟩ := h.at_ k p hp
    refine ⟨⟨g, 0, none⟩, pv, rfl, (Array.getElem?_eq_some_iff.1 hg).1, ?_, q2⟩
    exact h.op.cells (g := g) rfl k pv q1
/-- a round of reading -/
structure PRound (bp be B n₀ N : Nat) (f s : Int) (R : List UInt8) (s0 : PSt) (w : World) (k : Nat) (st : PSt) (W : World) : Prop where
  ki : st.items.length = k
  kp : st.paths.length = k
  rl : st.rest.length ≤ 100000
  li : ∀ x ∈ st.items, x.length ≤ 100000
  lq : ∀ q ∈ st.paths, q.length ≤ 200000 ∧ ∀ x ∈ q, x.length ≤ 100000
  lp : loopP N s0 = loopP (N - k) st
  mem : ∃ vi vp pvs, PMem bp be B f s R st vi vp pvs W
  bel : Below n₀ w W
theorem step_sizes {st st' : PSt} (h : stepP st = some st') (hr : st.rest.length ≤ 100000) (li : ∀ x ∈ st.items, x.length ≤ 100000) (lq : ∀ q ∈ st.paths, q.length ≤ 200000 ∧ ∀ x ∈ q, x.length ≤ 100000) :
    st'.items.length = st.items.length + 1 ∧ st'.paths.length = st.paths.length + 1 ∧ st'.rest.length ≤ 100000 ∧ (∀ x ∈ st'.items, x.length ≤ 100000) ∧ ∀ q ∈ st'.paths, q.length ≤ 200000 ∧ ∀ x ∈ q, x.length ≤ 100000 := by
  have hc := cut_len st.rest [10]
  have hs := split_len (Lib.cut st.rest [10]).1 [32]
  have hre : (reP st.rest).length ≤ 100000 := by show (Lib.cut st.rest [10]).2.1.length ≤ _; omega
  have hln : (lnP st.rest).length ≤ 200000 ∧ ∀ x ∈ lnP st.rest, x.length ≤ 100000 := ⟨by show (Lib.split _ _).length ≤ _; omega, fun x hx => by have := hs.2 x hx; omega⟩
  unfold stepP at h
  split at h
  · split at h
    · cases h
    · split at h
      · cases h
      · cases h
        refine ⟨by simp, by simp, by simp only [List.length_drop]; omega, fun x hx => ?_, fun q hq => ?_⟩
        · simp only [List.mem_append, List.mem_singleton] at hx
          rcases hx with hx | rfl
          · exact li x hx
          · rw [List.length_take]; omega
        · simp only [List.mem_append, List.mem_singleton] at hq
          rcases hq with hq | rfl
          · exact lq q hq
          · exact ⟨by rw [List.length_drop]; omega, fun x hx => hln.2 x (List.mem_of_mem_drop hx)⟩
  · cases h
end Go.Proofs.YtnjlefggkfagmaaGreatDoor

/- A region that draws its order: .. and facts that hold until an operation is run. -/
set_option linter.unusedVariables false
set_option linter.unusedSimpArgs false
namespace Go.Proofs.YtnjlefggkfagmaaGreatDoor
open Go Go.RowKit

section
variable {P : Program} {ops : Array Oper} {Q : Exit → Act → World → Prop} {md : Region.Mode} {C : World → Prop} {a0 : Act}
/-- operation k waits for i, by however many steps -/
def waitsT (md : Region.Mode) (ops : Array Oper) : Nat → Nat → Nat → Bool
  | 0, _, _ => false
  | f + 1, k, i => match ops[k]? with
    | none => false
    | some o => o.after.any fun e => Region.binds md e && (e.on == i || waitsT md ops f e.on i)
theorem waitsT_listed {listed : Array Bool} (hcl : ∀ (j : Nat) (oj : Oper), ops[j]? = some oj → listed.getD j false = true → ∀ e ∈ oj.after, Region.binds md e = true → listed.getD e.on false = true) :
    ∀ (f k i : Nat), waitsT md ops f k i = true → ∀ o, ops[k]? = some o → (∀ e ∈ o.after, Region.binds md e = true → listed.getD e.on false = true) → listed.getD i false = true
  | 0, _, _, h, _, _, _ => by cases h
  | f + 1, k, i, h, o, ho, hall => by
    unfold waitsT at h
    simp only [ho] at h
    obtain ⟨e, he, hb⟩ := Array.any_eq_true'.1 h
    simp only [Bool.and_eq_true, Bool.or_eq_true, beq_iff_eq] at hb
    have hl := hall e he hb.1
    rcases hb.2 with h1 | h1
    · rw [← h1]; exact hl
    · cases hoe : ops[e.on]? with
      | none =>
        cases f with
        | zero => cases h1
        | succ f => unfold waitsT at h1; simp only [hoe] at h1; cases h1
      | some oe => exact waitsT_listed hcl f e.on i h1 oe hoe (hcl e.on oe hoe hl)

theorem wpAny_pre (Kn : Nat → Act → World → Prop) (N : Nat → Act → World → Prop) (Rel : Nat → World → World → Prop)
    (hacyc : ∀ (i : Nat) (o : Oper), ops[i]? = some o → ∀ e ∈ o.after, Region.binds md e = true → e.on < i)
    (hC : ∀ i w w', C w → Rel i w w' → C w')
    (hkeep : ∀ (i j : Nat) (o : Oper), i ≠ j → ops[i]? = some o → Region.waitsFor md ops j i = false → ∀ a v w w', Kn j a w → Rel i w w' → Kn j (a.put o.dst v) w')
    (hNk : ∀ (i k : Nat) (o : Oper), i ≠ k → ops[k]? = some o → waitsT md ops ops.size k i = false → ∀ a v w w', N i a w → Rel k w w' → N i (a.put o.dst v) w')
    (hop : ∀ (i : Nat) (o : Oper), ops[i]? = some o → ∀ a w, C w → Same ops a0 a → (∀ e ∈ o.after, Region.binds md e = true → Kn e.on a w) → N i a w →
      wpOp P ops Q i (fun a' w' => ∃ v, a' = a.put o.dst v ∧ Rel i w w' ∧ Kn i (a.put o.dst v) w') a w)
    (hfin : ∀ a w, C w → Same ops a0 a → (∀ i, i < ops.size → Kn i a w) → Q .normal a w) :
    ∀ (f : Nat) (L : List Nat) (listed : Array Bool) (a : Act) (w : World), L.length ≤ f → listed.size = ops.size → (∀ i, i < ops.size → listed.getD i true = false → i ∈ L) → C w → Same ops a0 a →
      (∀ (j : Nat) (oj : Oper), ops[j]? = some oj → listed.getD j false = true → ∀ e ∈ oj.after, Region.binds md e = true → listed.getD e.on false = true) →
      (∀ i, i < ops.size → listed.getD i false = true → Kn i a w) → (∀ i, i < ops.size → listed.getD i true = false → N i a w) → wpAny P md ops Q f listed a w := by
  have hfull : ∀ listed : Array Bool, listed.size = ops.size → Region.ready md ops listed = [] → ∀ (d i : Nat), i < d → i < ops.size → listed.getD i false = true := by
    intro listed hsz hr d
    induction d with
    | zero => intro i hi; omega
    | succ d ih =>
      intro i hi hin
      rcases Nat.lt_or_ge i d with h | h
      · exact ih i h hin
      · obtain rfl : i = d := by omega
        cases hl : listed.getD i false with
        | true => rfl
        | false =>
          have hmem : i ∈ Region.ready md ops listed := by
            rw [mem_ready]
            refine ⟨getD_in (by omega) hl, ops[i], Array.getElem?_eq_getElem hin, fun e he hb => ?_⟩
            have := hacyc i ops[i] (Array.getElem?_eq_getElem hin) e he hb
            exact ih e.on this (by omega)
          rw [hr] at hmem
          cases hmem
  intro f
  induction f with
  | zero =>
    intro L listed a w hL hsz hun hw hs hcl hk hN
    have hall : ∀ i, i < ops.size → listed.getD i false = true := by
      intro i hi
      cases hl : listed.getD i false with
      | true => rfl
      | false =>
        have := hun i hi (getD_in (by omega) hl)
        have hL0 : L = [] := List.length_eq_zero_iff.1 (by omega)
        rw [hL0] at this
        cases this
    have hr : Region.ready md ops listed = [] := by
      apply List.eq_nil_iff_forall_not_mem.2
      intro i hi
      obtain ⟨h1, o, ho, _⟩ := mem_ready.1 hi
      have hlt : i < ops.size := (Array.getElem?_eq_some_iff.1 ho).1
      have h2 := hall i hlt
      rw [getD_both h1] at h2
      cases h2
    exact ⟨hr, hfin a w hw hs (fun i hi => hk i hi (hall i hi))⟩
  | succ f ih =>
    intro L listed a w hL hsz hun hw hs hcl hk hN
    refine ⟨fun hr => hfin a w hw hs (fun i hi => hk i hi (hfull listed hsz hr _ i hi hi)), fun i hi => ?_⟩
    obtain ⟨hiun, o, ho, hall⟩ := mem_ready.1 hi
    have hlt : i < ops.size := (Array.getElem?_eq_some_iff.1 ho).1
    refine wpOp_mono ?_ (hop i o ho a w hw hs (fun e he hb => hk e.on (by have := hacyc i o ho e he hb; omega) (hall e he hb)) (hN i hlt hiun))
    rintro a' w' ⟨v, rfl, hrel, hkn⟩
    have hiL := hun i hlt hiun
    refine ih (L.erase i) (listed.setIfInBounds i true) _ w' ?_ (by simpa using hsz) ?_ (hC i _ _ hw hrel) (hs.put ho v) ?_ ?_ ?_
    · rw [List.length_erase_of_mem hiL]; omega
    · intro j hj hjl
      rcases Nat.decEq j i with hji | hji
      · rw [getD_set_ne true (Ne.symm hji)] at hjl
        exact (List.mem_erase_of_ne hji).2 (hun j hj hjl)
      · subst hji
        rw [Array.getD_eq_getD_getElem?, Array.getElem?_setIfInBounds_self_of_lt (by omega)] at hjl
        cases hjl
    · intro j oj hoj hjl e he hb
      rcases Nat.decEq j i with hji | hji
      · rw [getD_set_ne false (Ne.symm hji)] at hjl
        exact getD_set_true (hcl j oj hoj hjl e he hb)
      · subst hji
        have : oj = o := Option.some.inj (hoj.symm.trans ho)
        subst this
        exact getD_set_true (hall e he hb)
    · intro j hj hjl
      rcases Nat.decEq j i with hji | hji
      · rw [getD_set_ne false (Ne.symm hji)] at hjl
        refine hkeep i j o (Ne.symm hji) ho ?_ a v w w' (hk j hj hjl) hrel
        cases hwf : Region.waitsFor md ops j i with
        | false => rfl
        | true =>
          obtain ⟨oj, hoj, e, he, hb, hon⟩ := Region.waitsFor_spec hwf
          have h1 := hcl j oj hoj hjl e he hb
          rw [hon, getD_both hiun] at h1
          cases h1
      · subst hji; exact hkn
    · intro j hj hjl
      rcases Nat.decEq j i with hji | hji
      · rw [getD_set_ne true (Ne.symm hji)] at hjl
        refine hNk j i o hji ho ?_ a v w w' (hN j hj hjl) hrel
        cases hwt : waitsT md ops ops.size i j with
        | false => rfl
        | true =>
          have := waitsT_listed hcl _ _ _ hwt o ho hall
          rw [getD_both hjl] at this
          cases this
      · subst hji
        rw [Array.getD_eq_getD_getElem?, Array.getElem?_setIfInBounds_self_of_lt (by omega)] at hjl
        cases hjl
/-- what operation i owes -/
def Owes2 (P : Program) (ops : Array Oper) (Q : Exit → Act → World → Prop) (C : World → Prop) (a0 : Act) (V : List (Option Value)) (Fs Ns : List (Nat × (Act → World → Prop))) (Rel : Nat → World → World → Prop) (i : Nat) (o : Oper) : Prop :=
  ∀ (a : Act) (w : World) (K : Act → World → Prop), C w → Same ops a0 a → (∀ e ∈ o.after, Region.binds .any e = true → Kn ops V Fs e.on a w) → (∀ p ∈ Ns, p.1 = i → p.2 a w) →
    (∀ v w', Rel i w w' → (∀ v0, V[i]? = some (some v0) → v = v0) → (∀ p ∈ Fs, p.1 = i → p.2 (a.put o.dst v) w') → K (a.put o.dst v) w') →
    if Region.wanted o (yielded ops a.tmps) then o.wp P a w K Q else K (a.put o.dst undef) w
def AllOwe2 (P : Program) (ops : Array Oper) (Q : Exit → Act → World → Prop) (C : World → Prop) (a0 : Act) (V : List (Option Value)) (Fs Ns : List (Nat × (Act → World → Prop))) (Rel : Nat → World → World → Prop) : List Oper → Nat → Prop
  | [], _ => True
  | o :: l, k => Owes2 P ops Q C a0 V Fs Ns Rel k o ∧ AllOwe2 P ops Q C a0 V Fs Ns Rel l (k + 1)
theorem AllOwe2.at {V : List (Option Value)} {Fs Ns : List (Nat × (Act → World → Prop))} {Rel : Nat → World → World → Prop} : ∀ (l : List Oper) (k : Nat), AllOwe2 P ops Q C a0 V Fs Ns Rel l k → ∀ (j : Nat) (o : Oper), l[j]? = some o → Owes2 P ops Q C a0 V Fs Ns Rel (k + j) o
  | [], _, _, j, o, ho => by simp at ho
  | x :: l, k, h, 0, o, ho => by
    simp only [List.getElem?_cons_zero, Option.some.injEq] at ho
    subst ho
    exact h.1
  | x :: l, k, h, j + 1, o, ho => by
    simp only [List.getElem?_cons_succ] at ho
    have := AllOwe2.at l (k + 1) h.2 j o ho
    rwa [show k + 1 + j = k + (j + 1) by omega] at this
theorem wpAny_lo2 {w : World} {l : List Oper} (V : List (Option Value)) (Fs : List (Nat × (Act → World → Prop))) (Ns : List (Nat × (Act → World → Prop))) (Rel : Nat → World → World → Prop)
    (hB : looseB l.toArray a0.tmps.size = true) (hCw : C w.drew) (hC : ∀ i w w', C w → Rel i w w' → C w')
    (hst : ∀ p ∈ Fs, ∀ (i : Nat) (a a' : Act) (w w' : World), i ≠ p.1 → Region.waitsFor .any l.toArray p.1 i = false → (∀ t, (Oper.slots l.toArray p.1).contains t = true → a'.tmps[t]? = a.tmps[t]?) → Rel i w w' → p.2 a w → p.2 a' w')
    (hN0 : ∀ p ∈ Ns, p.2 a0 w.drew)
    (hNst : ∀ p ∈ Ns, ∀ (i : Nat) (a a' : Act) (w w' : World), i ≠ p.1 → waitsT .any l.toArray l.length i p.1 = false → Rel i w w' → p.2 a w → (∀ o, l.toArray[i]? = some o → ∃ v, a' = a.put o.dst v) → p.2 a' w')
    (hop : AllOwe2 P l.toArray Q C a0 V Fs Ns Rel l 0)
    (hfin : ∀ a w, C w → Same l.toArray a0 a → (∀ i, i < l.length → Kn l.toArray V Fs i a w) → Q .normal a w) : wpAny P .any l.toArray Q l.toArray.size (Array.replicate l.toArray.size false) a0 w.drew := by
  have hspec := looseB_spec hB
  refine (wpAny_pre (C := C) (a0 := a0) (Kn l.toArray V Fs) (fun i a w => ∀ p ∈ Ns, p.1 = i → p.2 a w) Rel (fun i o ho => (hspec i o ho).1) hC ?_ ?_ ?_ ?_ _ (List.range l.toArray.size) _ _ _ (by simp) (by simp) ?_ hCw (Same.refl _ _) ?_ ?_ ?_)
  · intro i j o hij ho hwf a v w w' hk hrel
    refine ⟨fun oj u d hoj hu hd => ?_, fun p hp hpj => ?_⟩
    · have h1 := hk.1 oj u d hoj hu hd
      unfold Act.put
      split
      · rename_i di hdi
        have hne : di ≠ d := fun e => ((hspec i o ho).2 di hdi).2 j oj hij hoj |>.1 (by rw [hd, e])
        show (a.tmps.setIfInBounds di v)[d]? = _
        rw [Array.getElem?_setIfInBounds_ne hne]
        exact h1
      · exact h1
    · refine hst p hp i a _ w w' (by rw [hpj]; exact hij) (by rw [hpj]; exact hwf) (fun t ht => ?_) hrel (hk.2 p hp hpj)
      rw [hpj, List.contains_iff_mem] at ht
      unfold Act.put
      split
      · rename_i di hdi
        show (a.tmps.setIfInBounds di v)[t]? = _
        have hne : di ≠ t := by
          intro e
          subst e
          unfold Oper.slots at ht
          split at ht
          · cases ht
          · rename_i oj hoj
            have h2 := ((hspec i o ho).2 di hdi).2 j oj hij hoj
            rcases List.mem_append.1 ht with h3 | h3
            · rw [Option.mem_toList] at h3
              exact h2.1 h3
            · rw [h2.2 h3] at hwf
              cases hwf
        rw [Array.getElem?_setIfInBounds_ne hne]
      · rfl
  · intro i k o hik ho hwt a v w w' hN hrel p hp hpi
    refine hNst p hp k a _ w w' (by rw [hpi]; exact Ne.symm hik) (by rw [hpi]; simpa using hwt) hrel (hN p hp hpi) (fun o' ho' => ?_)
    rw [ho] at ho'
    cases ho'
    exact ⟨v, rfl⟩
  · intro i o ho a w hw hs hk hN
    have h := AllOwe2.at l 0 hop i o (by simpa using ho)
    rw [Nat.zero_add] at h
    unfold wpOp
    simp only [ho]
    have hput : ∀ (v : Value) (w' : World), Rel i w w' → (∀ v0, V[i]? = some (some v0) → v = v0) → (∀ p ∈ Fs, p.1 = i → p.2 (a.put o.dst v) w') → ∃ u, a.put o.dst v = a.put o.dst u ∧ Rel i w w' ∧ Kn l.toArray V Fs i (a.put o.dst u) w' := by
      intro v w' hr hv hf
      refine ⟨v, rfl, hr, fun oj u d hoj hu hd => ?_, hf⟩
      have : oj = o := Option.some.inj (hoj.symm.trans ho)
      subst this
      have hvu := hv u hu
      subst hvu
      have hlt := ((hspec i oj ho).2 d hd).1
      unfold Act.put
      rw [hd]
      show (a.tmps.setIfInBounds d v)[d]? = _
      rw [Array.getElem?_setIfInBounds_self_of_lt (by rw [hs.2.1]; exact hlt)]
    have h' := h a w (fun a' w' => ∃ u, a' = a.put o.dst u ∧ Rel i w w' ∧ Kn l.toArray V Fs i (a.put o.dst u) w') hw hs hk hN hput
    split
    · rename_i hwt
      rw [if_pos hwt] at h'
      exact .inl h'
    · rename_i hwt
      rw [if_neg hwt] at h'
      exact h'
  · intro a w hw hs hk
    exact hfin a w hw hs (fun i hi => hk i (by simpa using hi))
  · intro i hi _
    simpa using hi
  · intro j oj _ hl
    rw [getD_replicate_false] at hl
    cases hl
  · intro i _ hl
    rw [getD_replicate_false] at hl
    cases hl
  · intro i _ _ p hp _
    exact hN0 p hp
theorem wp_region_lo2 {id : Nat} {w : World} {l : List Oper} (V : List (Option Value)) (Fs : List (Nat × (Act → World → Prop))) (Ns : List (Nat × (Act → World → Prop))) (Rel : Nat → World → World → Prop)
    (hm : P.follows .mixedOrders = true) (hB : looseB l.toArray a0.tmps.size = true) (hCw : C w.drew) (hC : ∀ i w w', C w → Rel i w w' → C w')
    (hst : ∀ p ∈ Fs, ∀ (i : Nat) (a a' : Act) (w w' : World), i ≠ p.1 → Region.waitsFor .any l.toArray p.1 i = false → (∀ t, (Oper.slots l.toArray p.1).contains t = true → a'.tmps[t]? = a.tmps[t]?) → Rel i w w' → p.2 a w → p.2 a' w')
    (hN0 : ∀ p ∈ Ns, p.2 a0 w.drew)
    (hNst : ∀ p ∈ Ns, ∀ (i : Nat) (a a' : Act) (w w' : World), i ≠ p.1 → waitsT .any l.toArray l.length i p.1 = false → Rel i w w' → p.2 a w → (∀ o, l.toArray[i]? = some o → ∃ v, a' = a.put o.dst v) → p.2 a' w')
    (hop : AllOwe2 P l.toArray Q C a0 V Fs Ns Rel l 0)
    (hfin : ∀ a w, C w → Same l.toArray a0 a → (∀ i, i < l.length → Kn l.toArray V Fs i a w) → Q .normal a w) : (Code.region id l.toArray true).wp P Q a0 w :=
  wp_region_any hm (wpAny_lo2 V Fs Ns Rel hB hCw hC hst hN0 hNst hop hfin)

end
theorem pre0_nil {a : Act} {w : World} : ∀ p ∈ ([] : List (Nat × (Act → World → Prop))), p.2 a w := fun p hp => by cases hp
theorem pre0_cons {j : Nat} {F : Act → World → Prop} {Ns : List (Nat × (Act → World → Prop))} {a : Act} {w : World} (h1 : F a w) (h2 : ∀ p ∈ Ns, p.2 a w) : ∀ p ∈ (j, F) :: Ns, p.2 a w := fun p hp => by
  rcases List.mem_cons.1 hp with rfl | hp
  · exact h1
  · exact h2 p hp
section
variable {ops : Array Oper} {n : Nat} {Rel : Nat → World → World → Prop}
theorem prek_nil : ∀ p ∈ ([] : List (Nat × (Act → World → Prop))), ∀ (i : Nat) (a a' : Act) (w w' : World), i ≠ p.1 → waitsT .any ops n i p.1 = false → Rel i w w' → p.2 a w → (∀ o, ops[i]? = some o → ∃ v, a' = a.put o.dst v) → p.2 a' w' := fun p hp => by cases hp
theorem prek_cons {j : Nat} {F : Act → World → Prop} {Ns : List (Nat × (Act → World → Prop))} (h1 : ∀ (i : Nat) (a a' : Act) (w w' : World), i ≠ j → waitsT .any ops n i j = false → Rel i w w' → F a w → (∀ o, ops[i]? = some o → ∃ v, a' = a.put o.dst v) → F a' w')
    (h2 : ∀ p ∈ Ns, ∀ (i : Nat) (a a' : Act) (w w' : World), i ≠ p.1 → waitsT .any ops n i p.1 = false → Rel i w w' → p.2 a w → (∀ o, ops[i]? = some o → ∃ v, a' = a.put o.dst v) → p.2 a' w') :
    ∀ p ∈ (j, F) :: Ns, ∀ (i : Nat) (a a' : Act) (w w' : World), i ≠ p.1 → waitsT .any ops n i p.1 = false → Rel i w w' → p.2 a w → (∀ o, ops[i]? = some o → ∃ v, a' = a.put o.dst v) → p.2 a' w' := fun p hp => by
  rcases List.mem_cons.1 hp with rfl | hp
  · exact h1
  · exact h2 p hp
end
end Go.Proofs.YtnjlefggkfagmaaGreatDoor
