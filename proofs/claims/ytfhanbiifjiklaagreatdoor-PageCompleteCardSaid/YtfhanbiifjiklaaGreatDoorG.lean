/- What a row of the seat gives: the variables' cells. -/
import Derived.Test.YtfhanbiifjiklaaGreatDoorE0
import Derived.Test.YtfhanbiifjiklaaGreatDoorOpen
import Derived.Test.YtfhanbiifjiklaaGreatDoorRows
import Derived.Stop.LaidErr
import Derived.Lib.LaidTab
import Derived.Clock
set_option linter.unusedVariables false
set_option linter.unusedSimpArgs false
namespace Go.Proofs.YtfhanbiifjiklaaGreatDoor
open Go.RowKit

theorem iface_of_trod {H : Type} {enc : TypeId × Value → H} {P : Program} {w : World} {base : Nat} {sp : Nat → Bool} {held : Bool} {fuel : Nat} {t : TypeId} {ms : Array (String × TypeId)} {cs : List Value} {y : DataW H} {p : List MemPlace}
    (ht : P.underlying t = some (.interface ms)) (h : DataW.trod enc P w base sp held fuel t cs = some (y, p)) : ∃ v, cs = [v] ∧ (v = .nilIface ∨ ∃ te pe, v = .iface te pe) := by
  cases fuel with
  | zero => simp [DataW.trod] at h
  | succ fuel =>
    match cs, h with
    | [], h => simp [DataW.trod, ht] at h
    | [v], h =>
      refine ⟨v, rfl, ?_⟩
      cases v <;> simp [DataW.trod, ht] at h <;> simp
    | _ :: _ :: _, h => simp [DataW.trod, ht] at h
theorem iface_head {P : Program} {n : String} {d : DataW Unit} {r : List (String × DataW Unit)} {W : World} {g : Nat} {ti : TypeId} {ms : Array (String × TypeId)}
    (h : laidMet P ((n, d) :: r) W) (hg : P.globalNamed n = some g) (ht : (P.globals[g]?).map (·.type) = some ti) (hi : P.underlying ti = some (.interface ms)) :
    ∃ ev, W.cell? ⟨g, 0, none⟩ = some ev ∧ (ev = .nilIface ∨ ∃ te pe, ev = .iface te pe) := by
  obtain ⟨ps, ⟨g0, t0, cs0, f0, p0, q0, hg0, ht0, hv0, hd0, _, e0⟩, _, _⟩ := h
  obtain rfl := Option.some.inj (hg.symm.trans hg0)
  obtain rfl := Option.some.inj (ht.symm.trans ht0)
  obtain ⟨v, hv, hc⟩ := iface_of_trod hi hd0
  obtain rfl : cs0 = #[v] := by cases cs0; simpa using hv
  exact ⟨v, by simpa using World.var?_cell hg0 hv0 0, hc⟩
theorem int_of_shape {P : Program} {w : World} {g : Nat} {t : TypeId} {zero : Array Value} (h : w.ShapedOpen P) (hg : g < P.globals.size)
    (h0 : ((begin P (fun _ _ => 0) default).world.heap[g]?).bind Obj.row? = some (zero, t)) (hz : zero.size = 1)
    (hb : P.buildable t = true) (hc : P.cellTypes P.depth t = some [t]) (hu : P.underlying t = some (.int .i64)) : ∃ p, w.cell? ⟨g, 0, none⟩ = some (.int .i64 p) := by
  obtain ⟨cs, hh, hs, hr⟩ := h.1 g zero t hg h0
  obtain ⟨ts, hts, _, hall⟩ := hr hb
  rw [hc] at hts
  cases hts
  have h1 : 0 < cs.size := by omega
  obtain ⟨u, hu', hok⟩ := hall 0 cs[0] (by simp [h1])
  have : u = t := by simpa using hu'.symm
  subst this
  have hcell : w.cell? ⟨g, 0, none⟩ = some cs[0] := by simp [World.cell?, hh, h1]
  rw [hcell]
  unfold Cell.ok at hok
  rw [hu] at hok
  cases hv : cs[0] <;> rw [hv] at hok <;> simp at hok
  obtain ⟨rfl, _⟩ := hok
  exact ⟨_, rfl⟩
theorem glob_of {w : World} (hs : w.ShapedOpen Tryz.prog) (hL : laidMet Tryz.prog Rows.pageTextsRow.laid w) : Glob w := by
  have h2 := hL.tail
  have h3 := h2.tail
  have h5 := h3.tail.tail
  refine ⟨?_, ?_, ?_, ?_, ?_, ?_⟩
  · obtain ⟨⟨z, ty⟩, h0⟩ := Option.isSome_iff_exists.1 (show (((begin Tryz.prog (fun _ _ => 0) default).world.heap[7]?).bind Obj.row?).isSome = true by kernel_rfl)
    obtain ⟨cs, h, _⟩ := hs.1 7 z ty (of_decide_eq_true (by kernel_rfl)) h0
    have hz : Tryz.prog.globals.size = 8 := by kernel_rfl
    rw [hz]
    rcases Nat.lt_or_ge 7 w.heap.size with h' | h'
    · omega
    · rw [Array.getElem?_eq_none h'] at h; cases h
  · exact int_of_shape (g := 0) (t := 3) (zero := #[.int .i64 0]) hs (of_decide_eq_true (by kernel_rfl)) (by kernel_rfl) rfl (by kernel_rfl) (by kernel_rfl) Tryz.underlying3
  · exact iface_head (g := 2) (ti := 71) h5.tail (by kernel_rfl) (by kernel_rfl) Tryz.underlying71
  · exact iface_head (g := 3) (ti := 71) h5 (by kernel_rfl) (by kernel_rfl) Tryz.underlying71
  · exact Lib.tabIs_of_head (t := 199) (e := 5) (n := 64) (g := 7) (by kernel_rfl) (by kernel_rfl) Tryz.underlying199 Tryz.underlying5 (by kernel_rfl) (by kernel_rfl) h2
  · exact Lib.tabIs_of_head (t := 171) (e := 111) (n := 20) (g := 1) (by kernel_rfl) (by kernel_rfl) Tryz.underlying171 Tryz.underlying111 (by kernel_rfl) (by kernel_rfl) h3
open Go.ChangeShapes Go.WideShapes Go.Deep
theorem reachB {n : Nat} (h : n ≤ reachBytes) : n ≤ 140737488351232 := by unfold reachBytes at h; omega
end Go.Proofs.YtfhanbiifjiklaaGreatDoor
