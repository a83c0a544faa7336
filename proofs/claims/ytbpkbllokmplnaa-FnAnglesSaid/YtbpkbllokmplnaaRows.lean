/-
  No cell of these rows narrows 'for every input' (looked for: loops, veiled, ifaces, maps, wideKeys, modest, calm, conditions, laid).
  DERIVED. THE GIVEN ROWS OF THIS SEAT. 7 by the template 'for every input the law returns true; each argument reads behind the call as it read before'; 0 by the template 'total and deterministic' (their statements: YtbpkbllokmplnaaTotals.lean).
  GIVEN WITH THE SEED: the statements are not yours to turn. If you find one false, say at which input.
  Laid BY PROGRAM, IN A SANDBOX (cutbox-rows.mjs): the forced cells as the released guide's own fill.sh prints them over the translation 33ea766dd5b262ac… (all of the seat's roots in one cut). By AI agents, Wed Nov 11 2026. No macro, syntax, notation, axiom, sorry.
-/
import Derived.Test.YtbpkbllokmplnaaChecked
import GoSem.Claim
import GoSem.ClaimJoined
import GoSem.ClaimMapViews
import Derived.JoinedTies
import Derived.KernelRfl
namespace Go.Proofs.Ytbpkbllokmplnaa
/- THE CELL 'sum', in the pinned program and in every row, IS THE sha256 OF THE DUMP (.gsa) THAT YtbpkbllokmplnaaProg.lean LOADS. Nothing in Lean hashes anything: it is a label: what it is worth is what the hold of that sum in a sandbox is worth. -/
noncomputable def Try.pinned : Pinned := { name := "ytbpkbllokmplnaa", sum := "33ea766dd5b262ac96c2e9935b35e8d032d140f32b616a87e53506c94053b13d", checked := Try.checked }
namespace Rows
def none {H : Type} : Left H := { results := [], args := [] }

/-- 'laws.FnExactAssignmentsOf': WHATEVER THE INPUT: true; the input reads as it did. -/
def fnExactAssignmentsOfSpec : ChangeSpec := { name := "fnExactAssignmentsOf", fn := fun _ => fun
  | [d] => { results := [.lit (.bool true)], args := [d] }
  | _ => none }
def fnExactAssignmentsOfRow : OpenClaim := { program := "ytbpkbllokmplnaa", sum := "33ea766dd5b262ac96c2e9935b35e8d032d140f32b616a87e53506c94053b13d", func := "loop.example/g00857/laws.FnExactAssignmentsOf", spec := "fnExactAssignmentsOf", unfollowed := true, recurses := true, apart := false }
def FnExactAssignmentsOfSaid : Prop := fnExactAssignmentsOfRow.holds Try.pinned (OpenSpec.ofChange fnExactAssignmentsOfSpec)

/-- ITS FALSE NEIGHBOUR: 'it returns false'. Refute it at one input. -/
def fnExactAssignmentsOfWrong : ChangeSpec := { name := "fnExactAssignmentsOf", fn := fun _ => fun
  | [d] => { results := [.lit (.bool false)], args := [d] }
  | _ => none }
def FnExactAssignmentsOfWrongFalsely : Prop := fnExactAssignmentsOfRow.holds Try.pinned (OpenSpec.ofChange fnExactAssignmentsOfWrong)

/-- 'laws.FnVertexCount': WHATEVER THE INPUT: true; the input reads as it did. -/
def fnVertexCountSpec : ChangeSpec := { name := "fnVertexCount", fn := fun _ => fun
  | [d] => { results := [.lit (.bool true)], args := [d] }
  | _ => none }
def fnVertexCountRow : OpenClaim := { program := "ytbpkbllokmplnaa", sum := "33ea766dd5b262ac96c2e9935b35e8d032d140f32b616a87e53506c94053b13d", func := "loop.example/g00857/laws.FnVertexCount", spec := "fnVertexCount", unfollowed := true, recurses := true, apart := false }
def FnVertexCountSaid : Prop := fnVertexCountRow.holds Try.pinned (OpenSpec.ofChange fnVertexCountSpec)

/-- ITS FALSE NEIGHBOUR: 'it returns false'. Refute it at one input. -/
def fnVertexCountWrong : ChangeSpec := { name := "fnVertexCount", fn := fun _ => fun
  | [d] => { results := [.lit (.bool false)], args := [d] }
  | _ => none }
def FnVertexCountWrongFalsely : Prop := fnVertexCountRow.holds Try.pinned (OpenSpec.ofChange fnVertexCountWrong)

/-- 'laws.FnCrimps': WHATEVER THE INPUT: true; the input reads as it did. -/
def fnCrimpsSpec : ChangeSpec := { name := "fnCrimps", fn := fun _ => fun
  | [d1, d2] => { results := [.lit (.bool true)], args := [d1, d2] }
  | _ => none }
def fnCrimpsRow : OpenClaim := { program := "ytbpkbllokmplnaa", sum := "33ea766dd5b262ac96c2e9935b35e8d032d140f32b616a87e53506c94053b13d", func := "loop.example/g00857/laws.FnCrimps", spec := "fnCrimps", unfollowed := true, recurses := true, apart := false }
def FnCrimpsSaid : Prop := fnCrimpsRow.holds Try.pinned (OpenSpec.ofChange fnCrimpsSpec)

/-- ITS FALSE NEIGHBOUR: 'it returns false'. Refute it at one input. -/
def fnCrimpsWrong : ChangeSpec := { name := "fnCrimps", fn := fun _ => fun
  | [d1, d2] => { results := [.lit (.bool false)], args := [d1, d2] }
  | _ => none }
def FnCrimpsWrongFalsely : Prop := fnCrimpsRow.holds Try.pinned (OpenSpec.ofChange fnCrimpsWrong)

/-- 'laws.FnAngles': WHATEVER THE INPUT: true; the input reads as it did. -/
def fnAnglesSpec : ChangeSpec := { name := "fnAngles", fn := fun _ => fun
  | [d] => { results := [.lit (.bool true)], args := [d] }
  | _ => none }
def fnAnglesRow : OpenClaim := { program := "ytbpkbllokmplnaa", sum := "33ea766dd5b262ac96c2e9935b35e8d032d140f32b616a87e53506c94053b13d", func := "loop.example/g00857/laws.FnAngles", spec := "fnAngles", unfollowed := true, recurses := true, apart := false }
def FnAnglesSaid : Prop := fnAnglesRow.holds Try.pinned (OpenSpec.ofChange fnAnglesSpec)

/-- ITS FALSE NEIGHBOUR: 'it returns false'. Refute it at one input. -/
def fnAnglesWrong : ChangeSpec := { name := "fnAngles", fn := fun _ => fun
  | [d] => { results := [.lit (.bool false)], args := [d] }
  | _ => none }
def FnAnglesWrongFalsely : Prop := fnAnglesRow.holds Try.pinned (OpenSpec.ofChange fnAnglesWrong)

/-- 'laws.FnExactKawasakiSequences': WHATEVER THE INPUT: true; the input reads as it did. -/
def fnExactKawasakiSequencesSpec : ChangeSpec := { name := "fnExactKawasakiSequences", fn := fun _ => fun
  | [d] => { results := [.lit (.bool true)], args := [d] }
  | _ => none }
def fnExactKawasakiSequencesRow : OpenClaim := { program := "ytbpkbllokmplnaa", sum := "33ea766dd5b262ac96c2e9935b35e8d032d140f32b616a87e53506c94053b13d", func := "loop.example/g00857/laws.FnExactKawasakiSequences", spec := "fnExactKawasakiSequences", unfollowed := true, recurses := true, apart := false }
def FnExactKawasakiSequencesSaid : Prop := fnExactKawasakiSequencesRow.holds Try.pinned (OpenSpec.ofChange fnExactKawasakiSequencesSpec)

/-- ITS FALSE NEIGHBOUR: 'it returns false'. Refute it at one input. -/
def fnExactKawasakiSequencesWrong : ChangeSpec := { name := "fnExactKawasakiSequences", fn := fun _ => fun
  | [d] => { results := [.lit (.bool false)], args := [d] }
  | _ => none }
def FnExactKawasakiSequencesWrongFalsely : Prop := fnExactKawasakiSequencesRow.holds Try.pinned (OpenSpec.ofChange fnExactKawasakiSequencesWrong)

/-- 'laws.FnSequences': WHATEVER THE INPUT: true; the input reads as it did. -/
def fnSequencesSpec : ChangeSpec := { name := "fnSequences", fn := fun _ => fun
  | [d] => { results := [.lit (.bool true)], args := [d] }
  | _ => none }
def fnSequencesRow : OpenClaim := { program := "ytbpkbllokmplnaa", sum := "33ea766dd5b262ac96c2e9935b35e8d032d140f32b616a87e53506c94053b13d", func := "loop.example/g00857/laws.FnSequences", spec := "fnSequences", unfollowed := true, recurses := true, apart := false }
def FnSequencesSaid : Prop := fnSequencesRow.holds Try.pinned (OpenSpec.ofChange fnSequencesSpec)

/-- ITS FALSE NEIGHBOUR: 'it returns false'. Refute it at one input. -/
def fnSequencesWrong : ChangeSpec := { name := "fnSequences", fn := fun _ => fun
  | [d] => { results := [.lit (.bool false)], args := [d] }
  | _ => none }
def FnSequencesWrongFalsely : Prop := fnSequencesRow.holds Try.pinned (OpenSpec.ofChange fnSequencesWrong)

/-- 'laws.FnExactValidRule': WHATEVER THE INPUT: true; the input reads as it did. -/
def fnExactValidRuleSpec : ChangeSpec := { name := "fnExactValidRule", fn := fun _ => fun
  | [d1, d2] => { results := [.lit (.bool true)], args := [d1, d2] }
  | _ => none }
def fnExactValidRuleRow : OpenClaim := { program := "ytbpkbllokmplnaa", sum := "33ea766dd5b262ac96c2e9935b35e8d032d140f32b616a87e53506c94053b13d", func := "loop.example/g00857/laws.FnExactValidRule", spec := "fnExactValidRule", unfollowed := true, recurses := true, apart := false }
def FnExactValidRuleSaid : Prop := fnExactValidRuleRow.holds Try.pinned (OpenSpec.ofChange fnExactValidRuleSpec)

/-- ITS FALSE NEIGHBOUR: 'it returns false'. Refute it at one input. -/
def fnExactValidRuleWrong : ChangeSpec := { name := "fnExactValidRule", fn := fun _ => fun
  | [d1, d2] => { results := [.lit (.bool false)], args := [d1, d2] }
  | _ => none }
def FnExactValidRuleWrongFalsely : Prop := fnExactValidRuleRow.holds Try.pinned (OpenSpec.ofChange fnExactValidRuleWrong)

/- THE SECOND FORM. 'bulk': how many values and letters a reading holds, each counted each time it is reached (what is shared counts as often as it is met; a slice's spare places count too). A statement '..UptoSaid' is the law's where the arguments, and the package variables that the reading takes, are together of bulk at most 1048576: NARROWER than '..Said'. Prove '..Said' where nothing that the law and all that it calls make is longer than what came in: it says more and counts as full. Else prove '..UptoSaid'. A law counts once. -/
mutual
def uptoBulk {H : Type} : DataW H → Nat
  | .lit (.string bytes) => bytes.length + 1
  | .lit _ => 1
  | .nil => 1
  | .ptr d => uptoBulk d + 1
  | .slice elems spare => uptoBulkAll elems + uptoBulkAll spare + 1
  | .agg parts => uptoBulkAll parts + 1
  | .iface _ d => uptoBulk d + 1
  | .map entries => uptoBulkEntries entries + 1
  | .held _ => 1
def uptoBulkAll {H : Type} : List (DataW H) → Nat
  | [] => 0
  | d :: r => uptoBulk d + uptoBulkAll r
def uptoBulkEntries {H : Type} : List (Lit × DataW H) → Nat
  | [] => 0
  | x :: r => uptoBulkEntry x + uptoBulkEntries r
def uptoBulkEntry {H : Type} : Lit × DataW H → Nat
  | (.string bytes, d) => bytes.length + uptoBulk d + 1
  | (_, d) => uptoBulk d + 1
 end
def uptoSmall : (H : Type) → List (DataW H) → Bool := fun _ ds => decide (uptoBulkAll ds ≤ 1048576)
def OpenSpec.upto (s : _root_.Go.ChangeSpec) : _root_.Go.OpenSpec := { _root_.Go.OpenSpec.ofChange s with cond := some uptoSmall }

/-- 'laws.FnExactAssignmentsOf', WHERE WHAT IT READS IS OF BULK AT MOST 1048576: true; the input reads as it did. -/
def fnExactAssignmentsOfUptoRow : OpenClaim := { program := "ytbpkbllokmplnaa", sum := "33ea766dd5b262ac96c2e9935b35e8d032d140f32b616a87e53506c94053b13d", func := "loop.example/g00857/laws.FnExactAssignmentsOf", spec := "fnExactAssignmentsOf", unfollowed := true, recurses := true, apart := false, narrowed := true }
def FnExactAssignmentsOfUptoSaid : Prop := fnExactAssignmentsOfUptoRow.holds Try.pinned (OpenSpec.upto fnExactAssignmentsOfSpec)

/-- 'laws.FnVertexCount', WHERE WHAT IT READS IS OF BULK AT MOST 1048576: true; the input reads as it did. -/
def fnVertexCountUptoRow : OpenClaim := { program := "ytbpkbllokmplnaa", sum := "33ea766dd5b262ac96c2e9935b35e8d032d140f32b616a87e53506c94053b13d", func := "loop.example/g00857/laws.FnVertexCount", spec := "fnVertexCount", unfollowed := true, recurses := true, apart := false, narrowed := true }
def FnVertexCountUptoSaid : Prop := fnVertexCountUptoRow.holds Try.pinned (OpenSpec.upto fnVertexCountSpec)

/-- 'laws.FnCrimps', WHERE WHAT IT READS IS OF BULK AT MOST 1048576: true; the input reads as it did. -/
def fnCrimpsUptoRow : OpenClaim := { program := "ytbpkbllokmplnaa", sum := "33ea766dd5b262ac96c2e9935b35e8d032d140f32b616a87e53506c94053b13d", func := "loop.example/g00857/laws.FnCrimps", spec := "fnCrimps", unfollowed := true, recurses := true, apart := false, narrowed := true }
def FnCrimpsUptoSaid : Prop := fnCrimpsUptoRow.holds Try.pinned (OpenSpec.upto fnCrimpsSpec)

/-- 'laws.FnAngles', WHERE WHAT IT READS IS OF BULK AT MOST 1048576: true; the input reads as it did. -/
def fnAnglesUptoRow : OpenClaim := { program := "ytbpkbllokmplnaa", sum := "33ea766dd5b262ac96c2e9935b35e8d032d140f32b616a87e53506c94053b13d", func := "loop.example/g00857/laws.FnAngles", spec := "fnAngles", unfollowed := true, recurses := true, apart := false, narrowed := true }
def FnAnglesUptoSaid : Prop := fnAnglesUptoRow.holds Try.pinned (OpenSpec.upto fnAnglesSpec)

/-- 'laws.FnExactKawasakiSequences', WHERE WHAT IT READS IS OF BULK AT MOST 1048576: true; the input reads as it did. -/
def fnExactKawasakiSequencesUptoRow : OpenClaim := { program := "ytbpkbllokmplnaa", sum := "33ea766dd5b262ac96c2e9935b35e8d032d140f32b616a87e53506c94053b13d", func := "loop.example/g00857/laws.FnExactKawasakiSequences", spec := "fnExactKawasakiSequences", unfollowed := true, recurses := true, apart := false, narrowed := true }
def FnExactKawasakiSequencesUptoSaid : Prop := fnExactKawasakiSequencesUptoRow.holds Try.pinned (OpenSpec.upto fnExactKawasakiSequencesSpec)

/-- 'laws.FnSequences', WHERE WHAT IT READS IS OF BULK AT MOST 1048576: true; the input reads as it did. -/
def fnSequencesUptoRow : OpenClaim := { program := "ytbpkbllokmplnaa", sum := "33ea766dd5b262ac96c2e9935b35e8d032d140f32b616a87e53506c94053b13d", func := "loop.example/g00857/laws.FnSequences", spec := "fnSequences", unfollowed := true, recurses := true, apart := false, narrowed := true }
def FnSequencesUptoSaid : Prop := fnSequencesUptoRow.holds Try.pinned (OpenSpec.upto fnSequencesSpec)

/-- 'laws.FnExactValidRule', WHERE WHAT IT READS IS OF BULK AT MOST 1048576: true; the input reads as it did. -/
def fnExactValidRuleUptoRow : OpenClaim := { program := "ytbpkbllokmplnaa", sum := "33ea766dd5b262ac96c2e9935b35e8d032d140f32b616a87e53506c94053b13d", func := "loop.example/g00857/laws.FnExactValidRule", spec := "fnExactValidRule", unfollowed := true, recurses := true, apart := false, narrowed := true }
def FnExactValidRuleUptoSaid : Prop := fnExactValidRuleUptoRow.holds Try.pinned (OpenSpec.upto fnExactValidRuleSpec)

end Rows
end Go.Proofs.Ytbpkbllokmplnaa
