/- What a row of the seat gives: the variables' cells. -/
import Derived.Test.YtabphhclnboknaaDoorW11
import Derived.Test.YtabphhclnboknaaDoorOpen
import Derived.Test.YtabphhclnboknaaDoorRows
import Derived.Stop.LaidErr
import Derived.Lib.LaidTab
import Derived.Clock
set_option linter.unusedVariables false
set_option linter.unusedSimpArgs false
namespace Go.Proofs.YtabphhclnboknaaDoor
open Go.RowKit

theorem iface_of_trod {H : Type} {enc : TypeId × Value → H} {P : Program} {w : World} {base : Nat} {sp : Nat → Bool} {held : Bool} {fuel : Nat} {t : TypeId} {ms : Array (String × TypeId)} {cs : List Value} {y : DataW H} {p : List MemPlace}
    (ht : P.underlying t = some (.interface ms)) (h : DataW.trod enc P w base sp held fuel t cs = some (y, p)) : ∃ v, cs = [v] ∧ (v = .nilIface ∨ ∃ te pe, v = .iface te pe) := by
  cases fuel with
  | zero => simp [DataW.trod] at h
  | succ fuel =>
    match cs, h with
    | [], h => simp [DataW.trod, ht] at h
    | [v], h =>
      refine ⟨v, rfl, ?_⟩
      cases v <;> simp [DataW.trod, ht] at h <;> simp
    | _ :: _ :: _, h => simp [DataW.trod, ht] at h
theorem iface_head {P : Program} {n : String} {d : DataW Unit} {r : List (String × DataW Unit)} {W : World} {g : Nat} {ti : TypeId} {ms : Array (String × TypeId)}
    (h : laidMet P ((n, d) :: r) W) (hg : P.globalNamed n = some g) (ht : (P.globals[g]?).map (·.type) = some ti) (hi : P.underlying ti = some (.interface ms)) :
    ∃ ev, W.cell? ⟨g, 0, none⟩ = some ev ∧ (ev = .nilIface ∨ ∃ te pe, ev = .iface te pe) := by
  obtain ⟨ps, ⟨g0, t0, cs0, f0, p0, q0, hg0, ht0, hv0, hd0, _, e0⟩, _, _⟩ := h
  obtain rfl := Option.some.inj (hg.symm.trans hg0)
  obtain rfl := Option.some.inj (ht.symm.trans ht0)
  obtain ⟨v, hv, hc⟩ := iface_of_trod hi hd0
  obtain rfl : cs0 = #[v] := by cases cs0; simpa using hv
  exact ⟨v, by simpa using World.var?_cell hg0 hv0 0, hc⟩
theorem int_of_shape {P : Program} {w : World} {g : Nat} {t : TypeId} {zero : Array Value} (h : w.ShapedOpen P) (hg : g < P.globals.size)
    (h0 : ((begin P (fun _ _ => 0) default).world.heap[g]?).bind Obj.row? = some (zero, t)) (hz : zero.size = 1)
    (hb : P.buildable t = true) (hc : P.cellTypes P.depth t = some [t]) (hu : P.underlying t = some (.int .i64)) : ∃ p, w.cell? ⟨g, 0, none⟩ = some (.int .i64 p) := by
  obtain ⟨cs, hh, hs, hr⟩ := h.1 g zero t hg h0
  obtain ⟨ts, hts, _, hall⟩ := hr hb
  rw [hc] at hts
  cases hts
  have h1 : 0 < cs.size := by omega
  obtain ⟨u, hu', hok⟩ := hall 0 cs[0] (by simp [h1])
  have : u = t := by simpa using hu'.symm
  subst this
  have hcell : w.cell? ⟨g, 0, none⟩ = some cs[0] := by simp [World.cell?, hh, h1]
  rw [hcell]
  unfold Cell.ok at hok
  rw [hu] at hok
  cases hv : cs[0] <;> rw [hv] at hok <;> simp at hok
  obtain ⟨rfl, _⟩ := hok
  exact ⟨_, rfl⟩
theorem glob_of {w : World} (hs : w.ShapedOpen Tryd.prog) (hL : laidMet Tryd.prog Rows.numberSidesRow.laid w) : Glob w := by
  have h3 := hL.tail.tail
  have h5 := h3.tail.tail
  refine ⟨?_, ?_, ?_, ?_, Lib.tabIs_of_head (t := 106) (e := 69) (n := 20) pow10_at (by kernel_rfl) Tryd.underlying106 Tryd.underlying69 (by kernel_rfl) (by kernel_rfl) h3⟩
  · obtain ⟨⟨z, ty⟩, h0⟩ := Option.isSome_iff_exists.1 (show (((begin Tryd.prog (fun _ _ => 0) default).world.heap[7]?).bind Obj.row?).isSome = true by kernel_rfl)
    obtain ⟨cs, h, _⟩ := hs.1 7 z ty (of_decide_eq_true (by kernel_rfl)) h0
    rcases Nat.lt_or_ge 7 w.heap.size with h' | h'
    · omega
    · rw [Array.getElem?_eq_none h'] at h; cases h
  · exact int_of_shape (g := 0) (t := 3) (zero := #[.int .i64 0]) hs (of_decide_eq_true (by kernel_rfl)) (by kernel_rfl) rfl (by kernel_rfl) (by kernel_rfl) Tryd.underlying3
  · exact iface_head (g := 1) (ti := 51) h5.tail (by kernel_rfl) (by kernel_rfl) Tryd.underlying51
  · exact iface_head (g := 2) (ti := 51) h5 (by kernel_rfl) (by kernel_rfl) Tryd.underlying51
open Go.ChangeShapes Go.WideShapes Go.Deep
theorem came_hn {H : Type} {enc : TypeId × Value → H} {w : World} {cs : List Value} (h : CameC enc Tryd.prog w 23 cs) :
    ∃ a : HN, cs = [.int .i64 a.n, .string ⟨a.l.toArray⟩, .int .i64 a.num, .int .i64 a.den] ∧ a.fit := by
  obtain ⟨h1, h2⟩ := h.fields Tryd.underlying23 (by kernel_rfl) (by kernel_rfl)
  obtain ⟨v0, e0, c0⟩ := h2 0 _ rfl
  obtain ⟨v1, e1, c1⟩ := h2 1 _ rfl
  obtain ⟨v2, e2, c2⟩ := h2 2 _ rfl
  obtain ⟨v3, e3, c3⟩ := h2 3 _ rfl
  obtain ⟨x0, g0, _⟩ := c0.int Tryd.underlying3
  obtain ⟨s1, g1, l1⟩ := c1.string Tryd.underlying9
  obtain ⟨x2, g2, _⟩ := c2.int Tryd.underlying3
  obtain ⟨x3, g3, _⟩ := c3.int Tryd.underlying3
  simp only [List.cons.injEq, and_true] at g0 g1 g2 g3
  subst g0 g1 g2 g3
  have h1' : cs.length = 4 := h1
  match cs, h1' with
  | [y0, y1, y2, y3], _ =>
    simp at e0 e1 e2 e3
    refine ⟨⟨x0, s1.data.toList, x2, x3⟩, by rw [e0, e1, e2, e3], ?_⟩
    exact maxR (by simpa [HN.fit] using l1)
end Go.Proofs.YtabphhclnboknaaDoor
