/- What the library's package variables hold. -/
import Derived.Test.YtfhanbiifjiklaaGreatDoorCl2
import Derived.Lib.LaidTab
import Derived.Shelf.Strconv.Itoa3
set_option linter.unusedVariables false
set_option linter.unusedSimpArgs false
namespace Go.Proofs.YtfhanbiifjiklaaGreatDoor
open Go.RowKit

def debTab : List Int := [0, 1, 56, 2, 57, 49, 28, 3, 61, 58, 42, 50, 38, 29, 17, 4, 62, 47, 59, 36, 45, 43, 51, 22, 53, 39, 33, 30, 24, 18, 12, 5, 63, 55, 48, 27, 60, 41, 37, 16, 46, 35, 44, 21, 52, 32, 23, 11, 54, 26, 40, 15, 34, 20, 31, 10, 25, 14, 19, 9, 13, 8, 7, 6]
/-- what the package's variables hold -/
structure Glob (w : World) : Prop where
  top : Tryz.prog.globals.size ≤ w.heap.size
  len : ∃ m, w.cell? ⟨0, 0, none⟩ = some (.int .i64 m)
  syn : ∃ ev, w.cell? ⟨2, 0, none⟩ = some ev ∧ (ev = .nilIface ∨ ∃ te pe, ev = .iface te pe)
  rng : ∃ ev, w.cell? ⟨3, 0, none⟩ = some ev ∧ (ev = .nilIface ∨ ∃ te pe, ev = .iface te pe)
  deb : Lib.TabIs Tryz.prog w "math/bits.deBruijn64tab" .u8 debTab
  tab : Lib.TabIs Tryz.prog w "internal/strconv.uint64pow10" .u64 Lib.pow10Tab
theorem globals_size : ∃ n, Tryz.prog.globals.size = n ∧ n ≤ 64 := ⟨_, rfl, of_decide_eq_true (by kernel_rfl)⟩
theorem var_below {P : Program} {w w' : World} {n : String} {g B : Nat} {cs : Array Value} (h : w.var? P n = some cs) (hg : P.globalNamed n = some g) (hb : Below B w w') (hlt : g < B) : w'.var? P n = some cs := by
  unfold World.var? at h ⊢
  rw [hg] at h ⊢
  simp only [Option.bind_some] at h ⊢
  rw [hb.block g hlt]
  exact h
theorem g_lt {w : World} {g B : Nat} (h : Tryz.prog.globals.size ≤ B) (hg : decide (g < Tryz.prog.globals.size) = true) : g < B := Nat.lt_of_lt_of_le (of_decide_eq_true hg) h
theorem Glob.belowB {w w' : World} {B : Nat} (h : Glob w) (hb : Below B w w') (hB : Tryz.prog.globals.size ≤ B) : Glob w' := {
  top := Nat.le_trans h.top hb.size
  len := by obtain ⟨m, e⟩ := h.len; exact ⟨m, by rw [hb.cell (g_lt (w := w) hB (by kernel_rfl))]; exact e⟩
  syn := by obtain ⟨m, e, r⟩ := h.syn; exact ⟨m, by rw [hb.cell (g_lt (w := w) hB (by kernel_rfl))]; exact e, r⟩
  rng := by obtain ⟨m, e, r⟩ := h.rng; exact ⟨m, by rw [hb.cell (g_lt (w := w) hB (by kernel_rfl))]; exact e, r⟩
  deb := var_below h.deb (g := 7) (by kernel_rfl) hb (g_lt (w := w) hB (by kernel_rfl))
  tab := var_below h.tab (g := 1) (by kernel_rfl) hb (g_lt (w := w) hB (by kernel_rfl))
  }
theorem Glob.to {w w' : World} (h : Glob w) (hb : Below w.heap.size w w') : Glob w' := h.belowB hb h.top
theorem Glob.alloc {w : World} (h : Glob w) (o : Obj) : Glob (w.alloc o) := h.to (below_one w o)
theorem Glob.deb16 {w : World} (h : Glob w) : w.cell? ⟨7, 15, none⟩ = some (.int .u8 4) := by have := World.var?_cell (P := Tryz.prog) (show Tryz.prog.globalNamed "math/bits.deBruijn64tab" = some 7 by kernel_rfl) h.deb 15; exact this.trans rfl
end Go.Proofs.YtfhanbiifjiklaaGreatDoor
