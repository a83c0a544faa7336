/-
  No cell of these rows narrows 'for every input' (looked for: loops, veiled, ifaces, maps, wideKeys, modest, calm, conditions, laid).
  DERIVED. THE GIVEN ROWS OF THIS SEAT. 4 by the template 'for every input the law returns true; each argument reads behind the call as it read before'; 0 by the template 'total and deterministic' (their statements: YtakpnhlkalbcoaaTotals.lean).
  GIVEN WITH THE SEED: the statements are not yours to turn. If you find one false, say at which input.
  Laid BY PROGRAM, IN A SANDBOX (cutbox-rows.mjs): the forced cells as the released guide's own fill.sh prints them over the translation c08ab2380529d982… (all of the seat's roots in one cut). By AI agents, Wed Nov 11 2026. No macro, syntax, notation, axiom, sorry.
-/
import Derived.Test.YtakpnhlkalbcoaaChecked
import GoSem.Claim
import GoSem.ClaimJoined
import GoSem.ClaimMapViews
import Derived.JoinedTies
import Derived.KernelRfl
namespace Go.Proofs.Ytakpnhlkalbcoaa
/- THE CELL 'sum', in the pinned program and in every row, IS THE sha256 OF THE DUMP (.gsa) THAT YtakpnhlkalbcoaaProg.lean LOADS. Nothing in Lean hashes anything: it is a label: what it is worth is what the hold of that sum in a sandbox is worth. -/
noncomputable def Try.pinned : Pinned := { name := "ytakpnhlkalbcoaa", sum := "c08ab2380529d9825b97f3b2b9dc4baec7ece5a38c2bfb5834dec7928bbb516f", checked := Try.checked }
namespace Rows
def none {H : Type} : Left H := { results := [], args := [] }

/-- 'laws.FnExactValidRule': WHATEVER THE INPUT: true; the input reads as it did. -/
def fnExactValidRuleSpec : ChangeSpec := { name := "fnExactValidRule", fn := fun _ => fun
  | [d1, d2] => { results := [.lit (.bool true)], args := [d1, d2] }
  | _ => none }
def fnExactValidRuleRow : OpenClaim := { program := "ytakpnhlkalbcoaa", sum := "c08ab2380529d9825b97f3b2b9dc4baec7ece5a38c2bfb5834dec7928bbb516f", func := "loop.example/g00857/laws.FnExactValidRule", spec := "fnExactValidRule", unfollowed := true, recurses := true, apart := false }
def FnExactValidRuleSaid : Prop := fnExactValidRuleRow.holds Try.pinned (OpenSpec.ofChange fnExactValidRuleSpec)

/-- ITS FALSE NEIGHBOUR: 'it returns false'. Refute it at one input. -/
def fnExactValidRuleWrong : ChangeSpec := { name := "fnExactValidRule", fn := fun _ => fun
  | [d1, d2] => { results := [.lit (.bool false)], args := [d1, d2] }
  | _ => none }
def FnExactValidRuleWrongFalsely : Prop := fnExactValidRuleRow.holds Try.pinned (OpenSpec.ofChange fnExactValidRuleWrong)

/-- 'laws.FnExactSamePattern': WHATEVER THE INPUT: true; the input reads as it did. -/
def fnExactSamePatternSpec : ChangeSpec := { name := "fnExactSamePattern", fn := fun _ => fun
  | [d1, d2] => { results := [.lit (.bool true)], args := [d1, d2] }
  | _ => none }
def fnExactSamePatternRow : OpenClaim := { program := "ytakpnhlkalbcoaa", sum := "c08ab2380529d9825b97f3b2b9dc4baec7ece5a38c2bfb5834dec7928bbb516f", func := "loop.example/g00857/laws.FnExactSamePattern", spec := "fnExactSamePattern", apart := false }
def FnExactSamePatternSaid : Prop := fnExactSamePatternRow.holds Try.pinned (OpenSpec.ofChange fnExactSamePatternSpec)

/-- ITS FALSE NEIGHBOUR: 'it returns false'. Refute it at one input. -/
def fnExactSamePatternWrong : ChangeSpec := { name := "fnExactSamePattern", fn := fun _ => fun
  | [d1, d2] => { results := [.lit (.bool false)], args := [d1, d2] }
  | _ => none }
def FnExactSamePatternWrongFalsely : Prop := fnExactSamePatternRow.holds Try.pinned (OpenSpec.ofChange fnExactSamePatternWrong)

/-- 'laws.FnExactCountAssignments': WHATEVER THE INPUT: true; the input reads as it did. -/
def fnExactCountAssignmentsSpec : ChangeSpec := { name := "fnExactCountAssignments", fn := fun _ => fun
  | [d] => { results := [.lit (.bool true)], args := [d] }
  | _ => none }
def fnExactCountAssignmentsRow : OpenClaim := { program := "ytakpnhlkalbcoaa", sum := "c08ab2380529d9825b97f3b2b9dc4baec7ece5a38c2bfb5834dec7928bbb516f", func := "loop.example/g00857/laws.FnExactCountAssignments", spec := "fnExactCountAssignments", unfollowed := true, recurses := true, apart := false }
def FnExactCountAssignmentsSaid : Prop := fnExactCountAssignmentsRow.holds Try.pinned (OpenSpec.ofChange fnExactCountAssignmentsSpec)

/-- ITS FALSE NEIGHBOUR: 'it returns false'. Refute it at one input. -/
def fnExactCountAssignmentsWrong : ChangeSpec := { name := "fnExactCountAssignments", fn := fun _ => fun
  | [d] => { results := [.lit (.bool false)], args := [d] }
  | _ => none }
def FnExactCountAssignmentsWrongFalsely : Prop := fnExactCountAssignmentsRow.holds Try.pinned (OpenSpec.ofChange fnExactCountAssignmentsWrong)

/-- 'laws.FnExactCrimpSectors': WHATEVER THE INPUT: true; the input reads as it did. -/
def fnExactCrimpSectorsSpec : ChangeSpec := { name := "fnExactCrimpSectors", fn := fun _ => fun
  | [d1, d2] => { results := [.lit (.bool true)], args := [d1, d2] }
  | _ => none }
def fnExactCrimpSectorsRow : OpenClaim := { program := "ytakpnhlkalbcoaa", sum := "c08ab2380529d9825b97f3b2b9dc4baec7ece5a38c2bfb5834dec7928bbb516f", func := "loop.example/g00857/laws.FnExactCrimpSectors", spec := "fnExactCrimpSectors", unfollowed := true, recurses := true, apart := false }
def FnExactCrimpSectorsSaid : Prop := fnExactCrimpSectorsRow.holds Try.pinned (OpenSpec.ofChange fnExactCrimpSectorsSpec)

/-- ITS FALSE NEIGHBOUR: 'it returns false'. Refute it at one input. -/
def fnExactCrimpSectorsWrong : ChangeSpec := { name := "fnExactCrimpSectors", fn := fun _ => fun
  | [d1, d2] => { results := [.lit (.bool false)], args := [d1, d2] }
  | _ => none }
def FnExactCrimpSectorsWrongFalsely : Prop := fnExactCrimpSectorsRow.holds Try.pinned (OpenSpec.ofChange fnExactCrimpSectorsWrong)

/- THE SECOND FORM. 'bulk': how many values and letters a reading holds, each counted each time it is reached (what is shared counts as often as it is met; a slice's spare places count too). A statement '..UptoSaid' is the law's where the arguments, and the package variables that the reading takes, are together of bulk at most 1048576: NARROWER than '..Said'. Prove '..Said' where nothing that the law and all that it calls make is longer than what came in: it says more and counts as full. Else prove '..UptoSaid'. A law counts once. -/
mutual
def uptoBulk {H : Type} : DataW H → Nat
  | .lit (.string bytes) => bytes.length + 1
  | .lit _ => 1
  | .nil => 1
  | .ptr d => uptoBulk d + 1
  | .slice elems spare => uptoBulkAll elems + uptoBulkAll spare + 1
  | .agg parts => uptoBulkAll parts + 1
  | .iface _ d => uptoBulk d + 1
  | .map entries => uptoBulkEntries entries + 1
  | .held _ => 1
def uptoBulkAll {H : Type} : List (DataW H) → Nat
  | [] => 0
  | d :: r => uptoBulk d + uptoBulkAll r
def uptoBulkEntries {H : Type} : List (Lit × DataW H) → Nat
  | [] => 0
  | x :: r => uptoBulkEntry x + uptoBulkEntries r
def uptoBulkEntry {H : Type} : Lit × DataW H → Nat
  | (.string bytes, d) => bytes.length + uptoBulk d + 1
  | (_, d) => uptoBulk d + 1
 end
def uptoSmall : (H : Type) → List (DataW H) → Bool := fun _ ds => decide (uptoBulkAll ds ≤ 1048576)
def OpenSpec.upto (s : _root_.Go.ChangeSpec) : _root_.Go.OpenSpec := { _root_.Go.OpenSpec.ofChange s with cond := some uptoSmall }

/-- 'laws.FnExactValidRule', WHERE WHAT IT READS IS OF BULK AT MOST 1048576: true; the input reads as it did. -/
def fnExactValidRuleUptoRow : OpenClaim := { program := "ytakpnhlkalbcoaa", sum := "c08ab2380529d9825b97f3b2b9dc4baec7ece5a38c2bfb5834dec7928bbb516f", func := "loop.example/g00857/laws.FnExactValidRule", spec := "fnExactValidRule", unfollowed := true, recurses := true, apart := false, narrowed := true }
def FnExactValidRuleUptoSaid : Prop := fnExactValidRuleUptoRow.holds Try.pinned (OpenSpec.upto fnExactValidRuleSpec)

/-- 'laws.FnExactSamePattern', WHERE WHAT IT READS IS OF BULK AT MOST 1048576: true; the input reads as it did. -/
def fnExactSamePatternUptoRow : OpenClaim := { program := "ytakpnhlkalbcoaa", sum := "c08ab2380529d9825b97f3b2b9dc4baec7ece5a38c2bfb5834dec7928bbb516f", func := "loop.example/g00857/laws.FnExactSamePattern", spec := "fnExactSamePattern", apart := false, narrowed := true }
def FnExactSamePatternUptoSaid : Prop := fnExactSamePatternUptoRow.holds Try.pinned (OpenSpec.upto fnExactSamePatternSpec)

/-- 'laws.FnExactCountAssignments', WHERE WHAT IT READS IS OF BULK AT MOST 1048576: true; the input reads as it did. -/
def fnExactCountAssignmentsUptoRow : OpenClaim := { program := "ytakpnhlkalbcoaa", sum := "c08ab2380529d9825b97f3b2b9dc4baec7ece5a38c2bfb5834dec7928bbb516f", func := "loop.example/g00857/laws.FnExactCountAssignments", spec := "fnExactCountAssignments", unfollowed := true, recurses := true, apart := false, narrowed := true }
def FnExactCountAssignmentsUptoSaid : Prop := fnExactCountAssignmentsUptoRow.holds Try.pinned (OpenSpec.upto fnExactCountAssignmentsSpec)

/-- 'laws.FnExactCrimpSectors', WHERE WHAT IT READS IS OF BULK AT MOST 1048576: true; the input reads as it did. -/
def fnExactCrimpSectorsUptoRow : OpenClaim := { program := "ytakpnhlkalbcoaa", sum := "c08ab2380529d9825b97f3b2b9dc4baec7ece5a38c2bfb5834dec7928bbb516f", func := "loop.example/g00857/laws.FnExactCrimpSectors", spec := "fnExactCrimpSectors", unfollowed := true, recurses := true, apart := false, narrowed := true }
def FnExactCrimpSectorsUptoSaid : Prop := fnExactCrimpSectorsUptoRow.holds Try.pinned (OpenSpec.upto fnExactCrimpSectorsSpec)

end Rows
end Go.Proofs.Ytakpnhlkalbcoaa
