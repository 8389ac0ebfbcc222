/-
  No cell of these rows narrows 'for every input' (looked for: loops, veiled, ifaces, maps, wideKeys, modest, calm, conditions, laid).
  DERIVED. THE GIVEN ROWS OF THIS SEAT. 7 by the template 'for every input the law returns true; each argument reads behind the call as it read before'; 0 by the template 'total and deterministic' (their statements: YtnpdhbagfkilkaaTotals.lean).
  GIVEN WITH THE SEED: the statements are not yours to turn. If you find one false, say at which input.
  Laid BY PROGRAM, IN A SANDBOX (cutbox-rows.mjs): the forced cells as the released guide's own fill.sh prints them over the translation 388639af740dd00a… (all of the seat's roots in one cut). By AI agents, Wed Nov 11 2026. No macro, syntax, notation, axiom, sorry.
-/
import Derived.Test.YtnpdhbagfkilkaaChecked
import GoSem.Claim
import GoSem.ClaimJoined
import GoSem.ClaimMapViews
import Derived.JoinedTies
import Derived.KernelRfl
namespace Go.Proofs.Ytnpdhbagfkilkaa
/- THE CELL 'sum', in the pinned program and in every row, IS THE sha256 OF THE DUMP (.gsa) THAT YtnpdhbagfkilkaaProg.lean LOADS. Nothing in Lean hashes anything: it is a label: what it is worth is what the hold of that sum in a sandbox is worth. -/
noncomputable def Try.pinned : Pinned := { name := "ytnpdhbagfkilkaa", sum := "388639af740dd00a78d39e3f1002e15c76e9e9f02e4c184797ca5600a8e2b95e", checked := Try.checked }
namespace Rows
def none {H : Type} : Left H := { results := [], args := [] }

/-- 'gazetteerlaw18.EditMatchesReference': WHATEVER THE INPUT: true; the input reads as it did. -/
def editMatchesReferenceSpec : ChangeSpec := { name := "editMatchesReference", fn := fun _ => fun
  | [d1, d2, d3, d4] => { results := [.lit (.bool true)], args := [d1, d2, d3, d4] }
  | _ => none }
def editMatchesReferenceRow : OpenClaim := { program := "ytnpdhbagfkilkaa", sum := "388639af740dd00a78d39e3f1002e15c76e9e9f02e4c184797ca5600a8e2b95e", func := "gazetteer/gazetteerlaw18.EditMatchesReference", spec := "editMatchesReference", unfollowed := true, recurses := true, plainKeys := false, apart := false }
def EditMatchesReferenceSaid : Prop := editMatchesReferenceRow.holds Try.pinned (OpenSpec.ofChange editMatchesReferenceSpec)

/-- ITS FALSE NEIGHBOUR: 'it returns false'. Refute it at one input. -/
def editMatchesReferenceWrong : ChangeSpec := { name := "editMatchesReference", fn := fun _ => fun
  | [d1, d2, d3, d4] => { results := [.lit (.bool false)], args := [d1, d2, d3, d4] }
  | _ => none }
def EditMatchesReferenceWrongFalsely : Prop := editMatchesReferenceRow.holds Try.pinned (OpenSpec.ofChange editMatchesReferenceWrong)

/-- 'gazetteerlaw18.EditLeast': WHATEVER THE INPUT: true; the input reads as it did. -/
def editLeastSpec : ChangeSpec := { name := "editLeast", fn := fun _ => fun
  | [d1, d2, d3, d4] => { results := [.lit (.bool true)], args := [d1, d2, d3, d4] }
  | _ => none }
def editLeastRow : OpenClaim := { program := "ytnpdhbagfkilkaa", sum := "388639af740dd00a78d39e3f1002e15c76e9e9f02e4c184797ca5600a8e2b95e", func := "gazetteer/gazetteerlaw18.EditLeast", spec := "editLeast", unfollowed := true, recurses := true, plainKeys := false, apart := false }
def EditLeastSaid : Prop := editLeastRow.holds Try.pinned (OpenSpec.ofChange editLeastSpec)

/-- ITS FALSE NEIGHBOUR: 'it returns false'. Refute it at one input. -/
def editLeastWrong : ChangeSpec := { name := "editLeast", fn := fun _ => fun
  | [d1, d2, d3, d4] => { results := [.lit (.bool false)], args := [d1, d2, d3, d4] }
  | _ => none }
def EditLeastWrongFalsely : Prop := editLeastRow.holds Try.pinned (OpenSpec.ofChange editLeastWrong)

/-- 'gazetteerlaw18.EditTurns': WHATEVER THE INPUT: true; the input reads as it did. -/
def editTurnsSpec : ChangeSpec := { name := "editTurns", fn := fun _ => fun
  | [d1, d2, d3] => { results := [.lit (.bool true)], args := [d1, d2, d3] }
  | _ => none }
def editTurnsRow : OpenClaim := { program := "ytnpdhbagfkilkaa", sum := "388639af740dd00a78d39e3f1002e15c76e9e9f02e4c184797ca5600a8e2b95e", func := "gazetteer/gazetteerlaw18.EditTurns", spec := "editTurns", unfollowed := true, recurses := true, plainKeys := false, apart := false }
def EditTurnsSaid : Prop := editTurnsRow.holds Try.pinned (OpenSpec.ofChange editTurnsSpec)

/-- ITS FALSE NEIGHBOUR: 'it returns false'. Refute it at one input. -/
def editTurnsWrong : ChangeSpec := { name := "editTurns", fn := fun _ => fun
  | [d1, d2, d3] => { results := [.lit (.bool false)], args := [d1, d2, d3] }
  | _ => none }
def EditTurnsWrongFalsely : Prop := editTurnsRow.holds Try.pinned (OpenSpec.ofChange editTurnsWrong)

/-- 'gazetteerlaw18.EditParts': WHATEVER THE INPUT: true; the input reads as it did. -/
def editPartsSpec : ChangeSpec := { name := "editParts", fn := fun _ => fun
  | [d1, d2, d3, d4, d5] => { results := [.lit (.bool true)], args := [d1, d2, d3, d4, d5] }
  | _ => none }
def editPartsRow : OpenClaim := { program := "ytnpdhbagfkilkaa", sum := "388639af740dd00a78d39e3f1002e15c76e9e9f02e4c184797ca5600a8e2b95e", func := "gazetteer/gazetteerlaw18.EditParts", spec := "editParts", unfollowed := true, recurses := true, plainKeys := false, apart := false }
def EditPartsSaid : Prop := editPartsRow.holds Try.pinned (OpenSpec.ofChange editPartsSpec)

/-- ITS FALSE NEIGHBOUR: 'it returns false'. Refute it at one input. -/
def editPartsWrong : ChangeSpec := { name := "editParts", fn := fun _ => fun
  | [d1, d2, d3, d4, d5] => { results := [.lit (.bool false)], args := [d1, d2, d3, d4, d5] }
  | _ => none }
def EditPartsWrongFalsely : Prop := editPartsRow.holds Try.pinned (OpenSpec.ofChange editPartsWrong)

/-- 'gazetteerlaw18.EditAhead': WHATEVER THE INPUT: true; the input reads as it did. -/
def editAheadSpec : ChangeSpec := { name := "editAhead", fn := fun _ => fun
  | [d1, d2, d3, d4] => { results := [.lit (.bool true)], args := [d1, d2, d3, d4] }
  | _ => none }
def editAheadRow : OpenClaim := { program := "ytnpdhbagfkilkaa", sum := "388639af740dd00a78d39e3f1002e15c76e9e9f02e4c184797ca5600a8e2b95e", func := "gazetteer/gazetteerlaw18.EditAhead", spec := "editAhead", unfollowed := true, recurses := true, plainKeys := false, apart := false }
def EditAheadSaid : Prop := editAheadRow.holds Try.pinned (OpenSpec.ofChange editAheadSpec)

/-- ITS FALSE NEIGHBOUR: 'it returns false'. Refute it at one input. -/
def editAheadWrong : ChangeSpec := { name := "editAhead", fn := fun _ => fun
  | [d1, d2, d3, d4] => { results := [.lit (.bool false)], args := [d1, d2, d3, d4] }
  | _ => none }
def EditAheadWrongFalsely : Prop := editAheadRow.holds Try.pinned (OpenSpec.ofChange editAheadWrong)

/-- 'gazetteerlaw18.EditLonger': WHATEVER THE INPUT: true; the input reads as it did. -/
def editLongerSpec : ChangeSpec := { name := "editLonger", fn := fun _ => fun
  | [d1, d2, d3, d4] => { results := [.lit (.bool true)], args := [d1, d2, d3, d4] }
  | _ => none }
def editLongerRow : OpenClaim := { program := "ytnpdhbagfkilkaa", sum := "388639af740dd00a78d39e3f1002e15c76e9e9f02e4c184797ca5600a8e2b95e", func := "gazetteer/gazetteerlaw18.EditLonger", spec := "editLonger", unfollowed := true, recurses := true, plainKeys := false, apart := false }
def EditLongerSaid : Prop := editLongerRow.holds Try.pinned (OpenSpec.ofChange editLongerSpec)

/-- ITS FALSE NEIGHBOUR: 'it returns false'. Refute it at one input. -/
def editLongerWrong : ChangeSpec := { name := "editLonger", fn := fun _ => fun
  | [d1, d2, d3, d4] => { results := [.lit (.bool false)], args := [d1, d2, d3, d4] }
  | _ => none }
def EditLongerWrongFalsely : Prop := editLongerRow.holds Try.pinned (OpenSpec.ofChange editLongerWrong)

/-- 'gazetteerlaw18.EditWeights': WHATEVER THE INPUT: true; the input reads as it did. -/
def editWeightsSpec : ChangeSpec := { name := "editWeights", fn := fun _ => fun
  | [d1, d2, d3, d4, d5] => { results := [.lit (.bool true)], args := [d1, d2, d3, d4, d5] }
  | _ => none }
def editWeightsRow : OpenClaim := { program := "ytnpdhbagfkilkaa", sum := "388639af740dd00a78d39e3f1002e15c76e9e9f02e4c184797ca5600a8e2b95e", func := "gazetteer/gazetteerlaw18.EditWeights", spec := "editWeights", unfollowed := true, recurses := true, plainKeys := false, apart := false }
def EditWeightsSaid : Prop := editWeightsRow.holds Try.pinned (OpenSpec.ofChange editWeightsSpec)

/-- ITS FALSE NEIGHBOUR: 'it returns false'. Refute it at one input. -/
def editWeightsWrong : ChangeSpec := { name := "editWeights", fn := fun _ => fun
  | [d1, d2, d3, d4, d5] => { results := [.lit (.bool false)], args := [d1, d2, d3, d4, d5] }
  | _ => none }
def EditWeightsWrongFalsely : Prop := editWeightsRow.holds Try.pinned (OpenSpec.ofChange editWeightsWrong)

/- THE SECOND FORM. 'bulk': how many values and letters a reading holds, each counted each time it is reached (what is shared counts as often as it is met; a slice's spare places count too). A statement '..UptoSaid' is the law's where the arguments, and the package variables that the reading takes, are together of bulk at most 1048576: NARROWER than '..Said'. Prove '..Said' where nothing that the law and all that it calls make is longer than what came in: it says more and counts as full. Else prove '..UptoSaid'. A law counts once. -/
mutual
def uptoBulk {H : Type} : DataW H → Nat
  | .lit (.string bytes) => bytes.length + 1
  | .lit _ => 1
  | .nil => 1
  | .ptr d => uptoBulk d + 1
  | .slice elems spare => uptoBulkAll elems + uptoBulkAll spare + 1
  | .agg parts => uptoBulkAll parts + 1
  | .iface _ d => uptoBulk d + 1
  | .map entries => uptoBulkEntries entries + 1
  | .held _ => 1
def uptoBulkAll {H : Type} : List (DataW H) → Nat
  | [] => 0
  | d :: r => uptoBulk d + uptoBulkAll r
def uptoBulkEntries {H : Type} : List (Lit × DataW H) → Nat
  | [] => 0
  | x :: r => uptoBulkEntry x + uptoBulkEntries r
def uptoBulkEntry {H : Type} : Lit × DataW H → Nat
  | (.string bytes, d) => bytes.length + uptoBulk d + 1
  | (_, d) => uptoBulk d + 1
 end
def uptoSmall : (H : Type) → List (DataW H) → Bool := fun _ ds => decide (uptoBulkAll ds ≤ 1048576)
def OpenSpec.upto (s : _root_.Go.ChangeSpec) : _root_.Go.OpenSpec := { _root_.Go.OpenSpec.ofChange s with cond := some uptoSmall }

/-- 'gazetteerlaw18.EditMatchesReference', WHERE WHAT IT READS IS OF BULK AT MOST 1048576: true; the input reads as it did. -/
def editMatchesReferenceUptoRow : OpenClaim := { program := "ytnpdhbagfkilkaa", sum := "388639af740dd00a78d39e3f1002e15c76e9e9f02e4c184797ca5600a8e2b95e", func := "gazetteer/gazetteerlaw18.EditMatchesReference", spec := "editMatchesReference", unfollowed := true, recurses := true, plainKeys := false, apart := false, narrowed := true }
def EditMatchesReferenceUptoSaid : Prop := editMatchesReferenceUptoRow.holds Try.pinned (OpenSpec.upto editMatchesReferenceSpec)

/-- 'gazetteerlaw18.EditLeast', WHERE WHAT IT READS IS OF BULK AT MOST 1048576: true; the input reads as it did. -/
def editLeastUptoRow : OpenClaim := { program := "ytnpdhbagfkilkaa", sum := "388639af740dd00a78d39e3f1002e15c76e9e9f02e4c184797ca5600a8e2b95e", func := "gazetteer/gazetteerlaw18.EditLeast", spec := "editLeast", unfollowed := true, recurses := true, plainKeys := false, apart := false, narrowed := true }
def EditLeastUptoSaid : Prop := editLeastUptoRow.holds Try.pinned (OpenSpec.upto editLeastSpec)

/-- 'gazetteerlaw18.EditTurns', WHERE WHAT IT READS IS OF BULK AT MOST 1048576: true; the input reads as it did. -/
def editTurnsUptoRow : OpenClaim := { program := "ytnpdhbagfkilkaa", sum := "388639af740dd00a78d39e3f1002e15c76e9e9f02e4c184797ca5600a8e2b95e", func := "gazetteer/gazetteerlaw18.EditTurns", spec := "editTurns", unfollowed := true, recurses := true, plainKeys := false, apart := false, narrowed := true }
def EditTurnsUptoSaid : Prop := editTurnsUptoRow.holds Try.pinned (OpenSpec.upto editTurnsSpec)

/-- 'gazetteerlaw18.EditParts', WHERE WHAT IT READS IS OF BULK AT MOST 1048576: true; the input reads as it did. -/
def editPartsUptoRow : OpenClaim := { program := "ytnpdhbagfkilkaa", sum := "388639af740dd00a78d39e3f1002e15c76e9e9f02e4c184797ca5600a8e2b95e", func := "gazetteer/gazetteerlaw18.EditParts", spec := "editParts", unfollowed := true, recurses := true, plainKeys := false, apart := false, narrowed := true }
def EditPartsUptoSaid : Prop := editPartsUptoRow.holds Try.pinned (OpenSpec.upto editPartsSpec)

/-- 'gazetteerlaw18.EditAhead', WHERE WHAT IT READS IS OF BULK AT MOST 1048576: true; the input reads as it did. -/
def editAheadUptoRow : OpenClaim := { program := "ytnpdhbagfkilkaa", sum := "388639af740dd00a78d39e3f1002e15c76e9e9f02e4c184797ca5600a8e2b95e", func := "gazetteer/gazetteerlaw18.EditAhead", spec := "editAhead", unfollowed := true, recurses := true, plainKeys := false, apart := false, narrowed := true }
def EditAheadUptoSaid : Prop := editAheadUptoRow.holds Try.pinned (OpenSpec.upto editAheadSpec)

/-- 'gazetteerlaw18.EditLonger', WHERE WHAT IT READS IS OF BULK AT MOST 1048576: true; the input reads as it did. -/
def editLongerUptoRow : OpenClaim := { program := "ytnpdhbagfkilkaa", sum := "388639af740dd00a78d39e3f1002e15c76e9e9f02e4c184797ca5600a8e2b95e", func := "gazetteer/gazetteerlaw18.EditLonger", spec := "editLonger", unfollowed := true, recurses := true, plainKeys := false, apart := false, narrowed := true }
def EditLongerUptoSaid : Prop := editLongerUptoRow.holds Try.pinned (OpenSpec.upto editLongerSpec)

/-- 'gazetteerlaw18.EditWeights', WHERE WHAT IT READS IS OF BULK AT MOST 1048576: true; the input reads as it did. -/
def editWeightsUptoRow : OpenClaim := { program := "ytnpdhbagfkilkaa", sum := "388639af740dd00a78d39e3f1002e15c76e9e9f02e4c184797ca5600a8e2b95e", func := "gazetteer/gazetteerlaw18.EditWeights", spec := "editWeights", unfollowed := true, recurses := true, plainKeys := false, apart := false, narrowed := true }
def EditWeightsUptoSaid : Prop := editWeightsUptoRow.holds Try.pinned (OpenSpec.upto editWeightsSpec)

end Rows
end Go.Proofs.Ytnpdhbagfkilkaa
