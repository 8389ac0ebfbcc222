/- The worlds of a walk as one letter: everything that keeps what a first world had. Shared by the laws' walks. -/
import Derived.Test.YtabphhclnboknaaDoorW11
set_option linter.unusedVariables false
set_option linter.unusedSimpArgs false
namespace Go.Proofs.YtabphhclnboknaaDoor
open Go.RowKit

/-- the worlds that keep what w1 had, as one letter -/
theorem cls (w1 : World) : ∃ (U : Type) (_ : Nonempty U) (g : U → World) (u0 : U), w1 = g u0 ∧ (∀ u, Below w1.heap.size w1 (g u)) ∧ ∀ w', Below w1.heap.size w1 w' → ∃ u, w' = g u := by
  obtain ⟨U, hU, g, hgu, hi⟩ := the_class (fun w' => Below w1.heap.size w1 w') (Below.refl w1.heap.size w1)
  obtain ⟨u0, h0⟩ := hi w1 (Below.refl _ _)
  exact ⟨U, hU, g, u0, h0, hgu, hi⟩
theorem cls_call {P : Program} {f : FuncId} {args : Array Value} {w1 : World} {v : Value} {U : Type} {g : U → World} (hgu : ∀ u, Below w1.heap.size w1 (g u)) (hi : ∀ w', Below w1.heap.size w1 w' → ∃ u, w' = g u)
    (h : ∀ w : World, Below w1.heap.size w1 w → Calls P f args w fun e w' => e = .returned v ∧ Below w.heap.size w w') (u : U) : Calls P f args (g u) fun e w' => e = .returned v ∧ ∃ u', w' = g u' :=
  (h _ (hgu u)).mono fun _ _ ⟨he, hb⟩ => ⟨he, hi _ ((hgu u).trans (hb.mono (hgu u).size))⟩
theorem box_all {w1 : World} {b : Nat} {h : HN} {U : Type} {g : U → World} (hgu : ∀ u, Below w1.heap.size w1 (g u)) (H : HBox w1 b h) :
    (∀ u, (g u).cell? ⟨b, 0, none⟩ = some (.int .i64 h.n)) ∧ (∀ u, (g u).cell? ⟨b, 1, none⟩ = some (.string ⟨h.l.toArray⟩)) ∧ (∀ u, (g u).cell? ⟨b, 2, none⟩ = some (.int .i64 h.num)) ∧ (∀ u, (g u).cell? ⟨b, 3, none⟩ = some (.int .i64 h.den)) :=
  ⟨fun u => (H.below (hgu u) H.blk.lt).facts.1, fun u => (H.below (hgu u) H.blk.lt).facts.2.1, fun u => (H.below (hgu u) H.blk.lt).facts.2.2.1, fun u => (H.below (hgu u) H.blk.lt).facts.2.2.2⟩
theorem HBox.to {w1 w' : World} {b : Nat} {h : HN} (H : HBox w1 b h) (hb : Below w1.heap.size w1 w') : HBox w' b h := H.below hb H.blk.lt
theorem HBox.alloc {w1 : World} {b : Nat} {h : HN} (H : HBox w1 b h) (o : Obj) : HBox (w1.alloc o) b h := ⟨H.blk.alloc o⟩
theorem below_to {B : Nat} {w w1 w2 : World} (h : Below B w w1) (hB : B ≤ w.heap.size) (h' : Below w1.heap.size w1 w2) : Below B w w2 := h.trans (h'.mono (Nat.le_trans hB h.size))
theorem below_alloc {B : Nat} {w w1 : World} (h : Below B w w1) (hB : B ≤ w.heap.size) (o : Obj) : Below B w (w1.alloc o) := h.alloc (Nat.le_trans hB h.size) o
theorem Glob.to {w1 w' : World} (h : Glob w1) (hb : Below w1.heap.size w1 w') : Glob w' := h.below hb (Nat.le_refl _)
/-- the class kept, the world behind an allocation, as a next class's first world -/
theorem glob3 {w : World} (h : Glob w) (o p q : Obj) : Glob (((w.alloc o).alloc p).alloc q) := ((h.alloc o).alloc p).alloc q
theorem below3 (w : World) (o p q : Obj) : Below w.heap.size w (((w.alloc o).alloc p).alloc q) := (((Below.refl w.heap.size w).alloc (Nat.le_refl _) o).alloc (by simp) p).alloc (by simp; omega) q
theorem size3 (w : World) (o p q : Obj) : (((w.alloc o).alloc p).alloc q).heap.size = w.heap.size + 3 := by simp
theorem glob2 {w : World} (h : Glob w) (o p : Obj) : Glob ((w.alloc o).alloc p) := (h.alloc o).alloc p
theorem below2 (w : World) (o p : Obj) : Below w.heap.size w ((w.alloc o).alloc p) := ((Below.refl w.heap.size w).alloc (Nat.le_refl _) o).alloc (by simp) p
theorem eql_no {a b : HN} (h : a ≠ b) (w : World) : (binOp .eql 23 (.agg #[.int .i64 a.n, .string ⟨a.l.toArray⟩, .int .i64 a.num, .int .i64 a.den]) (.agg #[.int .i64 b.n, .string ⟨b.l.toArray⟩, .int .i64 b.num, .int .i64 b.den])).run Tryd.prog w = .ok (.bool false) w := by
  rw [run_eql_struct]
  go_simp
  exact fun h1 h2 h3 h4 => h (by cases a; cases b; simp_all)
theorem eql_yes {a b : HN} (h : a = b) (w : World) : (binOp .eql 23 (.agg #[.int .i64 a.n, .string ⟨a.l.toArray⟩, .int .i64 a.num, .int .i64 a.den]) (.agg #[.int .i64 b.n, .string ⟨b.l.toArray⟩, .int .i64 b.num, .int .i64 b.den])).run Tryd.prog w = .ok (.bool true) w := by
  subst h
  rw [run_eql_struct]
  go_simp
theorem neq_no {a b : HN} (h : a = b) (w : World) : (binOp .neq 23 (.agg #[.int .i64 a.n, .string ⟨a.l.toArray⟩, .int .i64 a.num, .int .i64 a.den]) (.agg #[.int .i64 b.n, .string ⟨b.l.toArray⟩, .int .i64 b.num, .int .i64 b.den])).run Tryd.prog w = .ok (.bool false) w := by
  subst h
  rw [run_neq_struct]
  go_simp
end Go.Proofs.YtabphhclnboknaaDoor
