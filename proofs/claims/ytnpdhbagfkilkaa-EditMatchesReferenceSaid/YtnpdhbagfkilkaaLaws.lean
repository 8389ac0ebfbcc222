/- Laws for the walk: a struct stored into a block that is known whole; the world behind it is a new name. -/
import Derived.Test.YtnpdhbagfkilkaaBase
set_option linter.unusedVariables false
set_option linter.unusedSimpArgs false
namespace Go.Proofs.Ytnpdhbagfkilkaa
open Go.RowKit

section
variable {P : Program} {w : World}

theorem setRow_grown (w : World) (g : Nat) (cs : Array Value) : w.grownBy (w.setRow g cs) (some g) :=
  ⟨rfl, rfl, rfl, by simp [World.setRow], fun i hi hne => by
    unfold World.setRow
    simp only [Array.getElem?_modify]
    rw [if_neg (fun e => hne (by rw [e]))]⟩

/-- 'only block g has turned' -/
def Only (w w' : World) (g : Nat) : Prop := w.grownBy w' (some g)
theorem Only.refl (w : World) (g : Nat) : Only w w g := World.grownBy.refl w _
theorem Only.below {B g : Nat} {w0 w w' : World} (h : Below B w0 w) (ho : Only w w' g) (hB : B ≤ w.heap.size) (hg : B ≤ g) : Below B w0 w' := h.grown ho hB (fun k hk => by cases hk; exact hg)
theorem Only.cell {g : Nat} {w w' : World} (ho : Only w w' g) {p : Addr} (hp : p.block < w.heap.size) (hne : p.block ≠ g) : w'.cell? p = w.cell? p :=
  World.cell?_of_block (ho.block p.block hp (fun e => hne (by injection e)))
theorem Only.frozen {g : Nat} {w w' : World} (ho : Only w w' g) {p : Addr} (hp : p.block < w.heap.size) (hne : p.block ≠ g) : w'.frozen? p = w.frozen? p :=
  World.frozen?_of_block (ho.block p.block hp (fun e => hne (by injection e)))
theorem Only.blk {g i : Nat} {w w' : World} {t : TypeId} {cs : Array Value} (ho : Only w w' g) (h : Blk w i t cs) (hne : i ≠ g) : Blk w' i t cs :=
  (ho.block i h.lt (fun e => hne (by injection e))).trans h
theorem Only.same {g i : Nat} {w w' : World} (ho : Only w w' g) (hi : i < w.heap.size) (hne : i ≠ g) : w'.heap[i]? = w.heap[i]? := ho.block i hi (fun e => hne (by injection e))

def splice (old : Array Value) (off : Nat) (cs : Array Value) : Array Value := (old.toList.take off ++ cs.toList ++ old.toList.drop (off + cs.size)).toArray

theorem run_storeVar_part (w : World) (g off : Nat) (t ty : TypeId) (old cells : Array Value) (hg : Blk w g t old) (hi : (P.info? ty).map (·.size) = some cells.size)
    (ho : off + cells.size ≤ old.size) (h1 : ∀ v ∈ cells.toList, v.oneCell' = true) :
    (storeVar ty ⟨g, off, none⟩ (.agg cells)).run P w = .ok () (w.setRow g (splice old off cells)) := by
  have := run_storeCells_at P g off t cells.toList 0 old w hg (by simpa using ho) h1
  cases hq : P.info? ty with
  | none => simp [hq] at hi
  | some i =>
    have hs : cells.size = i.size := by simp [hq] at hi; omega
    simp [storeVar, sizeOf, typeInfo, hq, Value.cells, hs, this, splice]

theorem wpList_store_part {ops : Array Oper} {rest : List Oper} {o : Oper} {a : Act} {Q : Exit → Act → World → Prop} (hgd : o.guard = none) (ty : TypeId) (x y : Operand) (ho : o.op = .store ty x y)
    (g off : Nat) (cells : Array Value) (hx : a.eval x = .pointer (some ⟨g, off, none⟩)) (hy : a.eval y = .agg cells)
    (t : TypeId) (old : Array Value) (hg : Blk w g t old) (hi : (P.info? ty).map (·.size) = some cells.size)
    (hold : off + cells.size ≤ old.size) (h1 : ∀ v ∈ cells.toList, v.oneCell' = true)
    (h : ∀ w', Only w w' g → Blk w' g t (splice old off cells) → wpList P ops Q rest (a.put o.dst undef) w') : wpList P ops Q (o :: rest) a w :=
  wpList_plain hgd fun K hK => by
    unfold Oper.wp execOp
    simp only [ho, hx, hy, Instr.storeAt, Instr.sureAddr, Sem.run_bind, Sem.run_pure, Result.andThen_ok, run_storeVar_part w g off t ty old cells hg hi hold h1]
    exact hK _ _ (h _ (setRow_grown w g _) (setRow_heap w g old _ t (0, 0) hg))

theorem wpList_load_all {ops : Array Oper} {rest : List Oper} {o : Oper} {a : Act} {Q : Exit → Act → World → Prop} (hgd : o.guard = none) (ty : TypeId) (x : Operand) (ho : o.op = .load ty x)
    (g : Nat) (hx : a.eval x = .pointer (some ⟨g, 0, none⟩)) (t : TypeId) (cs : Array Value) (d : TypeDesc) (hg : Blk w g t cs)
    (hu : P.underlying ty = some d) (hd : (match d with | .struct _ | .array _ _ => true | _ => false) = true) (hi : (P.info? ty).map (·.size) = some cs.size)
    (h : wpList P ops Q rest (a.put o.dst (.agg cs)) w) : wpList P ops Q (o :: rest) a w :=
  wpList_load_row hgd ty x ho g hx t cs (0, 0) d hg hu hd hi h

theorem results_cell_blk {fn : Func} {p : Tmp} {ty : TypeId} (h : fn.results = #[.cell p ty]) (tmps : Array Value) (w : World) (g : Nat) (t : TypeId) (cs : Array Value) (d : TypeDesc)
    (hp : tmps.getD p undef = .pointer (some ⟨g, 0, none⟩)) (hg : Blk w g t cs)
    (hu : P.underlying ty = some d) (hd : (match d with | .struct _ | .array _ _ => true | _ => false) = true) (hi : (P.info? ty).map (·.size) = some cs.size) :
    (results fn tmps).run P w = .ok (.agg cs) w := results_cell_row h tmps w g t cs (0, 0) d hp hg hu hd hi
end
end Go.Proofs.Ytnpdhbagfkilkaa
