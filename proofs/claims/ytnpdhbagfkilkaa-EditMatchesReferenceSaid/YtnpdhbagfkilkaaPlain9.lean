/- The plain side: the chapter's examples. -/
import Derived.Test.YtnpdhbagfkilkaaPlain8
set_option linter.unusedVariables false
set_option linter.unusedSimpArgs false
namespace Go.Proofs.Ytnpdhbagfkilkaa
def sW : Wt := ⟨2, 2, 3, 1, [(97, 101, 1)]⟩
theorem ex1 : dist sW [97, 110, 110, 97] [101, 110, 110, 97] = 1 ∧ errn (ok3 sW [97, 110, 110, 97] [101, 110, 110, 97]) = 0 := by decide +kernel
theorem ex2 : dist sW [97, 110, 110, 97] [111, 110, 110, 97] = 3 ∧ errn (ok3 sW [97, 110, 110, 97] [111, 110, 110, 97]) = 0 := by decide +kernel
theorem ex3 : dist sW [97, 98] [98, 97] = 1 ∧ errn (ok3 sW [97, 98] [98, 97]) = 0 ∧ bestL sW [97, 98] [98, 97] = [5] := by decide +kernel
theorem ex4 : dist sW [97, 98, 99] [97, 99] = 2 ∧ errn (ok3 sW [97, 98, 99] [97, 99]) = 0 ∧ bestL sW [97, 98, 99] [97, 99] = [1, 4, 1] := by decide +kernel
theorem ex5 : ahead sW [97, 110, 110, 97] [101, 110] = 1 ∧ errn (ok3 sW [97, 110, 110, 97] [101, 110]) = 0 := by decide +kernel
theorem ex6 : ahead sW [97, 110, 110, 97] [110] = 1 ∧ errn (ok3 sW [97, 110, 110, 97] [110]) = 0 := by decide +kernel
theorem ex7 : Wt.check sW [97, 98, 99] [97, 99] [1, 4, 1] = some 2 := by decide +kernel
theorem ex8 : sW.valid = true ∧ (Wt.mk (-1) 0 0 0 []).valid = false := by decide +kernel
end Go.Proofs.Ytnpdhbagfkilkaa
