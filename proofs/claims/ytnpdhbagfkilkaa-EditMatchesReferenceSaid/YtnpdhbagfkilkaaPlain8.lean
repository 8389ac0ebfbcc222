/- The plain side: what Ahead computes. -/
import Derived.Test.YtnpdhbagfkilkaaPlain7
set_option linter.unusedVariables false
set_option linter.unusedSimpArgs false
namespace Go.Proofs.Ytnpdhbagfkilkaa
namespace Wt
def minL (zs : List Int) : Int := zs.foldl min (zs.headD 0)
def rowMin (W : Wt) (x p : List UInt8) : Int := minL ((List.range (x.length + 1)).map fun i => F W x p p.length i)
def over (x p : List UInt8) (i : Nat) : Bool := (at_ x i != at_ x (i + 1)) && (at_ x (i + 1) == at_ p (p.length - 1))
def afold (W : Wt) (x p : List UInt8) (k : Nat) : Int := (List.range k).foldl (fun out i => if over x p i then min out (atv (F W x p (p.length - 1) i) W.swp) else out) (rowMin W x p)
theorem afold_succ (W : Wt) (x p : List UInt8) (k : Nat) : afold W x p (k + 1) = if over x p k then min (afold W x p k) (atv (F W x p (p.length - 1) k) W.swp) else afold W x p k := by
  unfold afold
  rw [List.range_succ, List.foldl_append]
  rfl
def aheadV (W : Wt) (x p : List UInt8) : Int := if 0 < p.length then afold W x p (x.length - 1) else rowMin W x p
end Wt
def ahead (W : Wt) (x p : List UInt8) : Int := if ok3 W x p then W.aheadV x p else 0
end Go.Proofs.Ytnpdhbagfkilkaa
