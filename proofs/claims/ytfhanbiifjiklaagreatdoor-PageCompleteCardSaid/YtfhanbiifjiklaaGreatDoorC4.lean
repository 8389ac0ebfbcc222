/- A client: Accept, what it says and keeps. -/
import Derived.Test.YtfhanbiifjiklaaGreatDoorC3
import Derived.Test.YtfhanbiifjiklaaGreatDoorLo2
set_option linter.unusedVariables false
set_option linter.unusedSimpArgs false
namespace Go.Proofs.YtfhanbiifjiklaaGreatDoor
open Go.RowKit Go.Shelf
attribute [local go_sem] Oper.semAt_some

def Pg.checkAt (p : Pg) (root : List UInt8) (size : Int) (k : Fin p.items.length) : Bool := checkV root size (p.fr + (k : Nat)) (leafD p.items[k]) (p.paths.getD k [])
def sameB (p : Pg) (root : List UInt8) (size : Int) : Bool := decide (p.root = root) && (decide (p.size = size) && decide (p.fr ≤ p.size - p.items.length))
def heldB (p : Pg) (root : List UInt8) (size : Int) : Bool := sameB p root size && (List.finRange p.items.length).all (p.checkAt root size)
def accE (p : Pg) (root : List UInt8) (size : Int) (its : List (List UInt8)) : Int := if formedB p then (if heldB p root size then (if (its.length : Int) < p.fr then 13 else 0) else 17) else 1
def accV (p : Pg) (root : List UInt8) (size : Int) (its : List (List UInt8)) : List (List UInt8) := if accE p root size its = 0 then its ++ p.items.drop (its.length - p.fr.toNat) else its
def AcceptR (b : Nat) (root : List UInt8) (size : Int) (k : Int) (its : List (List UInt8)) (v : Value) (w : World) (e : Ending) (w' : World) : Prop := ∃ v', e = .returned (.int .i64 k) ∧ CliAt b root size its v' w' ∧ Two b (rowOr v b) w w' ∧ (v'.ownBlock = v.ownBlock ∨ ∃ g, v'.ownBlock = some g ∧ w.heap.size ≤ g)
theorem results_errno {fn : Func} {p : Tmp} (h : fn.results = #[.cell p 29]) (tmps : Array Value) (w : World) (g : Nat) (v : Value) (hp : tmps[p]? = some (.pointer (some ⟨g, 0, none⟩))) (hc : Blk w g 29 #[v]) :
    (results fn tmps).run Tryz.prog w = .ok v w := by
  have hp' : tmps[p]?.getD undef = .pointer (some ⟨g, 0, none⟩) := by rw [hp]; rfl
  have hc' := (hc.cell 0).trans (show _ = some v from rfl)
  simp [results, h, hp', go_sem, hc']
/-- nothing was taken over -/
theorem accept_same {b : Nat} {root : List UInt8} {size k : Int} {its : List (List UInt8)} {v : Value} {w w' : World} (h : CliAt b root size its v w) (hb : Below w.heap.size w w') : AcceptR b root size k its v w (.returned (.int .i64 k)) w' :=
  ⟨v, rfl, h.to hb, Two.of hb, .inl rfl⟩
set_option maxRecDepth 100000 in
set_option maxHeartbeats 2000000 in
theorem Accept_no (b : Nat) (root : List UInt8) (size : Int) (its : List (List UInt8)) (v : Value) (p : Pg) (hp : p.fit) (hf : formedB p = false) (vi vp : Value) (w : World) (hcl : CliAt b root size its v w) (hvi : TextsAt w vi p.items) (hvp : PathsAt w vp p.paths) :
    Calls Tryz.prog 24 #[cliP b, .agg (p.cs vi vp)] w (AcceptR b root size 1 its v w) := by
  have hq := fun q hq => (⟨hp.nq q hq, hp.lq q hq⟩ : q.length ≤ 200000 ∧ ∀ x ∈ q, x.length ≤ 100000)
  have CF := fun w' (hb : Below w.heap.size w w') => formed_any p hp.lr hp.li hq vi vp w' (hvi.to hb) (hvp.to hb)
  rw [hf] at CF
  obtain ⟨Ai, ci, rfl, hci⟩ := hvi.slice
  obtain ⟨Ap, cp, rfl, hcp⟩ := hvp.slice
  have HC := hide hcl
  clear hvi hvp hcl hq hf
  unfold Pg.cs at CF ⊢
  unfold cliP
  have hb0 : Below w.heap.size w (((w.alloc (.cells #[.pointer (some ⟨b, 0, none⟩)] 38)).alloc (.cells #[.int .i64 p.fr, .int .i64 p.size, .string (bs p.root), .slice Ai p.items.length ci, .slice Ap p.paths.length cp] 25)).alloc (.cells #[.int .i64 0] 29)) := (((Below.refl _ w).alloc (Nat.le_refl _) _).alloc (by simp) _).alloc (by simp; omega) _
  have he := Blk.new ((w.alloc (.cells #[.pointer (some ⟨b, 0, none⟩)] 38)).alloc (.cells #[.int .i64 p.fr, .int .i64 p.size, .string (bs p.root), .slice Ai p.items.length ci, .slice Ap p.paths.length cp] 25)) 29 #[.int .i64 0]
  rw [World.size_alloc, World.size_alloc] at he
  have HB0 := hide hb0
  have HE := hide he
  clear hb0 he
  go_enter Tryz.func24, Tryz.ntmps24
  go_wp2_with ((with_reducible refine (CF _ HB0.out).mono ?_); rintro e w2 ⟨rfl, hb2⟩; have HB2 := hide hb2; have y := HE.out.to hb2; have y0 := (y.cell 0).trans (show _ = some (Value.int .i64 0) from rfl); have yf := y.frozen 0; have HY := hide y; clear hb2 y)
  refine bodyPost_ret (results_errno rfl _ _ (w.heap.size + 1 + 1) _ rfl (HY.out.set_ 0 (.int .i64 1))) rfl (accept_same HC.out ?_)
  exact (below_to HB0.out (Nat.le_refl _) HB2.out).setCell (p := ⟨w.heap.size + 1 + 1, 0, none⟩) (by show _ ≤ w.heap.size + 1 + 1; omega) _
end Go.Proofs.YtfhanbiifjiklaaGreatDoor
