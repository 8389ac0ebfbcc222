/- The walk of the statements' examples: head. -/
import Derived.Test.YtfhanbiifjiklaaGreatDoorD3
set_option linter.unusedVariables false
set_option linter.unusedSimpArgs false
namespace Go.Proofs.YtfhanbiifjiklaaGreatDoor
open Go.RowKit

def abc : List (List UInt8) := [[97], [98], [99]]
def hP : Pg := pageV abc 1 1
def hQ : Pg := pageV abc 0 2
def hR : List UInt8 := totalT (leavesV abc)
def hF : Pg := { hP with items := [[120]] }
set_option maxRecDepth 100000 in
theorem head_serve : serveB abc 1 1 = true ∧ serveB abc 0 2 = true ∧ newB hR 3 = true := by decide +kernel
set_option maxRecDepth 100000 in
theorem head_acc : accE hP hR 3 [] = 13 ∧ accV hP hR 3 [] = [] ∧ accE hQ hR 3 [] = 0 ∧ accV hQ hR 3 [] = [[97], [98]] ∧ accE hP hR 3 [[97], [98]] = 0 ∧ accV hP hR 3 [[97], [98]] = [[97], [98]] ∧ accE hF hR 3 [[97], [98]] = 17 ∧ accV hF hR 3 [[97], [98]] = [[97], [98]] := by decide +kernel
set_option maxRecDepth 100000 in
theorem head_text : textE hP = 0 ∧ parseE (textV hP ++ [10]) = 5 ∧ (textV hP ++ [10]).length ≤ 100000 ∧ hP.items = [[98]] ∧ hP.paths.length = 1 := by decide +kernel
set_option maxRecDepth 100000 in
theorem head_small : (∀ q ∈ hP.paths, q.length ≤ 200000 ∧ ∀ x ∈ q, x.length ≤ 100000) ∧ (∀ q ∈ hQ.paths, q.length ≤ 200000 ∧ ∀ x ∈ q, x.length ≤ 100000) ∧ hR.length ≤ 100000 ∧ hQ.items = [[97], [98]] ∧ hQ.paths.length ≤ 1000 := by decide +kernel
theorem hP_fit : hP.fit := ⟨by rw [head_text.2.2.2.1]; decide, by rw [head_text.2.2.2.1]; decide, by rw [head_text.2.2.2.2]; decide, fun q h => (head_small.1 q h).1, fun q h => (head_small.1 q h).2, head_small.2.2.1, by decide, by decide⟩
theorem hF_fit : hF.fit := ⟨by decide, by decide, hP_fit.np, hP_fit.nq, hP_fit.lq, hP_fit.lr, by decide, by decide⟩
theorem hQ_fit : hQ.fit := ⟨by rw [head_small.2.2.2.1]; decide, by rw [head_small.2.2.2.1]; decide, head_small.2.2.2.2, fun q h => (head_small.2.1 q h).1, fun q h => (head_small.2.1 q h).2, head_small.2.2.1, by decide, by decide⟩
end Go.Proofs.YtfhanbiifjiklaaGreatDoor
