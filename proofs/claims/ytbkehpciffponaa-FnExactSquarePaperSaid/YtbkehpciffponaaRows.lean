/-
  No cell of these rows narrows 'for every input' (looked for: loops, veiled, ifaces, maps, wideKeys, modest, calm, conditions, laid).
  DERIVED. THE GIVEN ROWS OF THIS SEAT. 11 by the template 'for every input the law returns true; each argument reads behind the call as it read before'; 0 by the template 'total and deterministic' (their statements: YtbkehpciffponaaTotals.lean).
  GIVEN WITH THE SEED: the statements are not yours to turn. If you find one false, say at which input.
  Laid BY PROGRAM, IN A SANDBOX (cutbox-rows.mjs): the forced cells as the released guide's own fill.sh prints them over the translation df9b519210167810… (all of the seat's roots in one cut). By AI agents, Wed Nov 11 2026. No macro, syntax, notation, axiom, sorry.
-/
import Derived.Test.YtbkehpciffponaaChecked
import GoSem.Claim
import GoSem.ClaimJoined
import GoSem.ClaimMapViews
import Derived.JoinedTies
import Derived.KernelRfl
namespace Go.Proofs.Ytbkehpciffponaa
/- THE CELL 'sum', in the pinned program and in every row, IS THE sha256 OF THE DUMP (.gsa) THAT YtbkehpciffponaaProg.lean LOADS. Nothing in Lean hashes anything: it is a label: what it is worth is what the hold of that sum in a sandbox is worth. -/
noncomputable def Try.pinned : Pinned := { name := "ytbkehpciffponaa", sum := "df9b5192101678105a165508398515cc8e3f134ca28ad41f8b60af8884d3b931", checked := Try.checked }
namespace Rows
def none {H : Type} : Left H := { results := [], args := [] }

/-- 'laws.FnExactValidCone': WHATEVER THE INPUT: true; the input reads as it did. -/
def fnExactValidConeSpec : ChangeSpec := { name := "fnExactValidCone", fn := fun _ => fun
  | [d] => { results := [.lit (.bool true)], args := [d] }
  | _ => none }
def fnExactValidConeRow : OpenClaim := { program := "ytbkehpciffponaa", sum := "df9b5192101678105a165508398515cc8e3f134ca28ad41f8b60af8884d3b931", func := "loop.example/g00857/laws.FnExactValidCone", spec := "fnExactValidCone", unfollowed := true, recurses := true, apart := false }
def FnExactValidConeSaid : Prop := fnExactValidConeRow.holds Try.pinned (OpenSpec.ofChange fnExactValidConeSpec)

/-- ITS FALSE NEIGHBOUR: 'it returns false'. Refute it at one input. -/
def fnExactValidConeWrong : ChangeSpec := { name := "fnExactValidCone", fn := fun _ => fun
  | [d] => { results := [.lit (.bool false)], args := [d] }
  | _ => none }
def FnExactValidConeWrongFalsely : Prop := fnExactValidConeRow.holds Try.pinned (OpenSpec.ofChange fnExactValidConeWrong)

/-- 'laws.FnExactAlternatingSum': WHATEVER THE INPUT: true; the input reads as it did. -/
def fnExactAlternatingSumSpec : ChangeSpec := { name := "fnExactAlternatingSum", fn := fun _ => fun
  | [d] => { results := [.lit (.bool true)], args := [d] }
  | _ => none }
def fnExactAlternatingSumRow : OpenClaim := { program := "ytbkehpciffponaa", sum := "df9b5192101678105a165508398515cc8e3f134ca28ad41f8b60af8884d3b931", func := "loop.example/g00857/laws.FnExactAlternatingSum", spec := "fnExactAlternatingSum", unfollowed := true, recurses := true, apart := false }
def FnExactAlternatingSumSaid : Prop := fnExactAlternatingSumRow.holds Try.pinned (OpenSpec.ofChange fnExactAlternatingSumSpec)

/-- ITS FALSE NEIGHBOUR: 'it returns false'. Refute it at one input. -/
def fnExactAlternatingSumWrong : ChangeSpec := { name := "fnExactAlternatingSum", fn := fun _ => fun
  | [d] => { results := [.lit (.bool false)], args := [d] }
  | _ => none }
def FnExactAlternatingSumWrongFalsely : Prop := fnExactAlternatingSumRow.holds Try.pinned (OpenSpec.ofChange fnExactAlternatingSumWrong)

/-- 'laws.FnExactSectorsOf': WHATEVER THE INPUT: true; the input reads as it did. -/
def fnExactSectorsOfSpec : ChangeSpec := { name := "fnExactSectorsOf", fn := fun _ => fun
  | [d] => { results := [.lit (.bool true)], args := [d] }
  | _ => none }
def fnExactSectorsOfRow : OpenClaim := { program := "ytbkehpciffponaa", sum := "df9b5192101678105a165508398515cc8e3f134ca28ad41f8b60af8884d3b931", func := "loop.example/g00857/laws.FnExactSectorsOf", spec := "fnExactSectorsOf", apart := false }
def FnExactSectorsOfSaid : Prop := fnExactSectorsOfRow.holds Try.pinned (OpenSpec.ofChange fnExactSectorsOfSpec)

/-- ITS FALSE NEIGHBOUR: 'it returns false'. Refute it at one input. -/
def fnExactSectorsOfWrong : ChangeSpec := { name := "fnExactSectorsOf", fn := fun _ => fun
  | [d] => { results := [.lit (.bool false)], args := [d] }
  | _ => none }
def FnExactSectorsOfWrongFalsely : Prop := fnExactSectorsOfRow.holds Try.pinned (OpenSpec.ofChange fnExactSectorsOfWrong)

/-- 'laws.FnExactReverseOrder': WHATEVER THE INPUT: true; the input reads as it did. -/
def fnExactReverseOrderSpec : ChangeSpec := { name := "fnExactReverseOrder", fn := fun _ => fun
  | [d] => { results := [.lit (.bool true)], args := [d] }
  | _ => none }
def fnExactReverseOrderRow : OpenClaim := { program := "ytbkehpciffponaa", sum := "df9b5192101678105a165508398515cc8e3f134ca28ad41f8b60af8884d3b931", func := "loop.example/g00857/laws.FnExactReverseOrder", spec := "fnExactReverseOrder", unfollowed := true, recurses := true, apart := false }
def FnExactReverseOrderSaid : Prop := fnExactReverseOrderRow.holds Try.pinned (OpenSpec.ofChange fnExactReverseOrderSpec)

/-- ITS FALSE NEIGHBOUR: 'it returns false'. Refute it at one input. -/
def fnExactReverseOrderWrong : ChangeSpec := { name := "fnExactReverseOrder", fn := fun _ => fun
  | [d] => { results := [.lit (.bool false)], args := [d] }
  | _ => none }
def FnExactReverseOrderWrongFalsely : Prop := fnExactReverseOrderRow.holds Try.pinned (OpenSpec.ofChange fnExactReverseOrderWrong)

/-- 'laws.FnExactSamePolygon': WHATEVER THE INPUT: true; the input reads as it did. -/
def fnExactSamePolygonSpec : ChangeSpec := { name := "fnExactSamePolygon", fn := fun _ => fun
  | [d1, d2] => { results := [.lit (.bool true)], args := [d1, d2] }
  | _ => none }
def fnExactSamePolygonRow : OpenClaim := { program := "ytbkehpciffponaa", sum := "df9b5192101678105a165508398515cc8e3f134ca28ad41f8b60af8884d3b931", func := "loop.example/g00857/laws.FnExactSamePolygon", spec := "fnExactSamePolygon", apart := false }
def FnExactSamePolygonSaid : Prop := fnExactSamePolygonRow.holds Try.pinned (OpenSpec.ofChange fnExactSamePolygonSpec)

/-- ITS FALSE NEIGHBOUR: 'it returns false'. Refute it at one input. -/
def fnExactSamePolygonWrong : ChangeSpec := { name := "fnExactSamePolygon", fn := fun _ => fun
  | [d1, d2] => { results := [.lit (.bool false)], args := [d1, d2] }
  | _ => none }
def FnExactSamePolygonWrongFalsely : Prop := fnExactSamePolygonRow.holds Try.pinned (OpenSpec.ofChange fnExactSamePolygonWrong)

/-- 'laws.FnExactIsKawasaki': WHATEVER THE INPUT: true; the input reads as it did. -/
def fnExactIsKawasakiSpec : ChangeSpec := { name := "fnExactIsKawasaki", fn := fun _ => fun
  | [d] => { results := [.lit (.bool true)], args := [d] }
  | _ => none }
def fnExactIsKawasakiRow : OpenClaim := { program := "ytbkehpciffponaa", sum := "df9b5192101678105a165508398515cc8e3f134ca28ad41f8b60af8884d3b931", func := "loop.example/g00857/laws.FnExactIsKawasaki", spec := "fnExactIsKawasaki", unfollowed := true, recurses := true, apart := false }
def FnExactIsKawasakiSaid : Prop := fnExactIsKawasakiRow.holds Try.pinned (OpenSpec.ofChange fnExactIsKawasakiSpec)

/-- ITS FALSE NEIGHBOUR: 'it returns false'. Refute it at one input. -/
def fnExactIsKawasakiWrong : ChangeSpec := { name := "fnExactIsKawasaki", fn := fun _ => fun
  | [d] => { results := [.lit (.bool false)], args := [d] }
  | _ => none }
def FnExactIsKawasakiWrongFalsely : Prop := fnExactIsKawasakiRow.holds Try.pinned (OpenSpec.ofChange fnExactIsKawasakiWrong)

/-- 'laws.FnExactDirectionsOf': WHATEVER THE INPUT: true; the input reads as it did. -/
def fnExactDirectionsOfSpec : ChangeSpec := { name := "fnExactDirectionsOf", fn := fun _ => fun
  | [d1, d2] => { results := [.lit (.bool true)], args := [d1, d2] }
  | _ => none }
def fnExactDirectionsOfRow : OpenClaim := { program := "ytbkehpciffponaa", sum := "df9b5192101678105a165508398515cc8e3f134ca28ad41f8b60af8884d3b931", func := "loop.example/g00857/laws.FnExactDirectionsOf", spec := "fnExactDirectionsOf", unfollowed := true, recurses := true, apart := false }
def FnExactDirectionsOfSaid : Prop := fnExactDirectionsOfRow.holds Try.pinned (OpenSpec.ofChange fnExactDirectionsOfSpec)

/-- ITS FALSE NEIGHBOUR: 'it returns false'. Refute it at one input. -/
def fnExactDirectionsOfWrong : ChangeSpec := { name := "fnExactDirectionsOf", fn := fun _ => fun
  | [d1, d2] => { results := [.lit (.bool false)], args := [d1, d2] }
  | _ => none }
def FnExactDirectionsOfWrongFalsely : Prop := fnExactDirectionsOfRow.holds Try.pinned (OpenSpec.ofChange fnExactDirectionsOfWrong)

/-- 'laws.FnExactSquarePaper': WHATEVER THE INPUT: true; the input reads as it did. -/
def fnExactSquarePaperSpec : ChangeSpec := { name := "fnExactSquarePaper", fn := fun _ => fun
  | [d] => { results := [.lit (.bool true)], args := [d] }
  | _ => none }
def fnExactSquarePaperRow : OpenClaim := { program := "ytbkehpciffponaa", sum := "df9b5192101678105a165508398515cc8e3f134ca28ad41f8b60af8884d3b931", func := "loop.example/g00857/laws.FnExactSquarePaper", spec := "fnExactSquarePaper", apart := false }
def FnExactSquarePaperSaid : Prop := fnExactSquarePaperRow.holds Try.pinned (OpenSpec.ofChange fnExactSquarePaperSpec)

/-- ITS FALSE NEIGHBOUR: 'it returns false'. Refute it at one input. -/
def fnExactSquarePaperWrong : ChangeSpec := { name := "fnExactSquarePaper", fn := fun _ => fun
  | [d] => { results := [.lit (.bool false)], args := [d] }
  | _ => none }
def FnExactSquarePaperWrongFalsely : Prop := fnExactSquarePaperRow.holds Try.pinned (OpenSpec.ofChange fnExactSquarePaperWrong)

/-- 'laws.FnExactSignNum': WHATEVER THE INPUT: true; the input reads as it did. -/
def fnExactSignNumSpec : ChangeSpec := { name := "fnExactSignNum", fn := fun _ => fun
  | [d] => { results := [.lit (.bool true)], args := [d] }
  | _ => none }
def fnExactSignNumRow : OpenClaim := { program := "ytbkehpciffponaa", sum := "df9b5192101678105a165508398515cc8e3f134ca28ad41f8b60af8884d3b931", func := "loop.example/g00857/laws.FnExactSignNum", spec := "fnExactSignNum", apart := false }
def FnExactSignNumSaid : Prop := fnExactSignNumRow.holds Try.pinned (OpenSpec.ofChange fnExactSignNumSpec)

/-- ITS FALSE NEIGHBOUR: 'it returns false'. Refute it at one input. -/
def fnExactSignNumWrong : ChangeSpec := { name := "fnExactSignNum", fn := fun _ => fun
  | [d] => { results := [.lit (.bool false)], args := [d] }
  | _ => none }
def FnExactSignNumWrongFalsely : Prop := fnExactSignNumRow.holds Try.pinned (OpenSpec.ofChange fnExactSignNumWrong)

/-- 'laws.FnExactMirrorSectors': WHATEVER THE INPUT: true; the input reads as it did. -/
def fnExactMirrorSectorsSpec : ChangeSpec := { name := "fnExactMirrorSectors", fn := fun _ => fun
  | [d] => { results := [.lit (.bool true)], args := [d] }
  | _ => none }
def fnExactMirrorSectorsRow : OpenClaim := { program := "ytbkehpciffponaa", sum := "df9b5192101678105a165508398515cc8e3f134ca28ad41f8b60af8884d3b931", func := "loop.example/g00857/laws.FnExactMirrorSectors", spec := "fnExactMirrorSectors", unfollowed := true, recurses := true, apart := false }
def FnExactMirrorSectorsSaid : Prop := fnExactMirrorSectorsRow.holds Try.pinned (OpenSpec.ofChange fnExactMirrorSectorsSpec)

/-- ITS FALSE NEIGHBOUR: 'it returns false'. Refute it at one input. -/
def fnExactMirrorSectorsWrong : ChangeSpec := { name := "fnExactMirrorSectors", fn := fun _ => fun
  | [d] => { results := [.lit (.bool false)], args := [d] }
  | _ => none }
def FnExactMirrorSectorsWrongFalsely : Prop := fnExactMirrorSectorsRow.holds Try.pinned (OpenSpec.ofChange fnExactMirrorSectorsWrong)

/-- 'laws.FnExactValidRule': WHATEVER THE INPUT: true; the input reads as it did. -/
def fnExactValidRuleSpec : ChangeSpec := { name := "fnExactValidRule", fn := fun _ => fun
  | [d1, d2] => { results := [.lit (.bool true)], args := [d1, d2] }
  | _ => none }
def fnExactValidRuleRow : OpenClaim := { program := "ytbkehpciffponaa", sum := "df9b5192101678105a165508398515cc8e3f134ca28ad41f8b60af8884d3b931", func := "loop.example/g00857/laws.FnExactValidRule", spec := "fnExactValidRule", unfollowed := true, recurses := true, apart := false }
def FnExactValidRuleSaid : Prop := fnExactValidRuleRow.holds Try.pinned (OpenSpec.ofChange fnExactValidRuleSpec)

/-- ITS FALSE NEIGHBOUR: 'it returns false'. Refute it at one input. -/
def fnExactValidRuleWrong : ChangeSpec := { name := "fnExactValidRule", fn := fun _ => fun
  | [d1, d2] => { results := [.lit (.bool false)], args := [d1, d2] }
  | _ => none }
def FnExactValidRuleWrongFalsely : Prop := fnExactValidRuleRow.holds Try.pinned (OpenSpec.ofChange fnExactValidRuleWrong)

/- THE SECOND FORM. 'bulk': how many values and letters a reading holds, each counted each time it is reached (what is shared counts as often as it is met; a slice's spare places count too). A statement '..UptoSaid' is the law's where the arguments, and the package variables that the reading takes, are together of bulk at most 1048576: NARROWER than '..Said'. Prove '..Said' where nothing that the law and all that it calls make is longer than what came in: it says more and counts as full. Else prove '..UptoSaid'. A law counts once. -/
mutual
def uptoBulk {H : Type} : DataW H → Nat
  | .lit (.string bytes) => bytes.length + 1
  | .lit _ => 1
  | .nil => 1
  | .ptr d => uptoBulk d + 1
  | .slice elems spare => uptoBulkAll elems + uptoBulkAll spare + 1
  | .agg parts => uptoBulkAll parts + 1
  | .iface _ d => uptoBulk d + 1
  | .map entries => uptoBulkEntries entries + 1
  | .held _ => 1
def uptoBulkAll {H : Type} : List (DataW H) → Nat
  | [] => 0
  | d :: r => uptoBulk d + uptoBulkAll r
def uptoBulkEntries {H : Type} : List (Lit × DataW H) → Nat
  | [] => 0
  | x :: r => uptoBulkEntry x + uptoBulkEntries r
def uptoBulkEntry {H : Type} : Lit × DataW H → Nat
  | (.string bytes, d) => bytes.length + uptoBulk d + 1
  | (_, d) => uptoBulk d + 1
 end
def uptoSmall : (H : Type) → List (DataW H) → Bool := fun _ ds => decide (uptoBulkAll ds ≤ 1048576)
def OpenSpec.upto (s : _root_.Go.ChangeSpec) : _root_.Go.OpenSpec := { _root_.Go.OpenSpec.ofChange s with cond := some uptoSmall }

/-- 'laws.FnExactValidCone', WHERE WHAT IT READS IS OF BULK AT MOST 1048576: true; the input reads as it did. -/
def fnExactValidConeUptoRow : OpenClaim := { program := "ytbkehpciffponaa", sum := "df9b5192101678105a165508398515cc8e3f134ca28ad41f8b60af8884d3b931", func := "loop.example/g00857/laws.FnExactValidCone", spec := "fnExactValidCone", unfollowed := true, recurses := true, apart := false, narrowed := true }
def FnExactValidConeUptoSaid : Prop := fnExactValidConeUptoRow.holds Try.pinned (OpenSpec.upto fnExactValidConeSpec)

/-- 'laws.FnExactAlternatingSum', WHERE WHAT IT READS IS OF BULK AT MOST 1048576: true; the input reads as it did. -/
def fnExactAlternatingSumUptoRow : OpenClaim := { program := "ytbkehpciffponaa", sum := "df9b5192101678105a165508398515cc8e3f134ca28ad41f8b60af8884d3b931", func := "loop.example/g00857/laws.FnExactAlternatingSum", spec := "fnExactAlternatingSum", unfollowed := true, recurses := true, apart := false, narrowed := true }
def FnExactAlternatingSumUptoSaid : Prop := fnExactAlternatingSumUptoRow.holds Try.pinned (OpenSpec.upto fnExactAlternatingSumSpec)

/-- 'laws.FnExactSectorsOf', WHERE WHAT IT READS IS OF BULK AT MOST 1048576: true; the input reads as it did. -/
def fnExactSectorsOfUptoRow : OpenClaim := { program := "ytbkehpciffponaa", sum := "df9b5192101678105a165508398515cc8e3f134ca28ad41f8b60af8884d3b931", func := "loop.example/g00857/laws.FnExactSectorsOf", spec := "fnExactSectorsOf", apart := false, narrowed := true }
def FnExactSectorsOfUptoSaid : Prop := fnExactSectorsOfUptoRow.holds Try.pinned (OpenSpec.upto fnExactSectorsOfSpec)

/-- 'laws.FnExactReverseOrder', WHERE WHAT IT READS IS OF BULK AT MOST 1048576: true; the input reads as it did. -/
def fnExactReverseOrderUptoRow : OpenClaim := { program := "ytbkehpciffponaa", sum := "df9b5192101678105a165508398515cc8e3f134ca28ad41f8b60af8884d3b931", func := "loop.example/g00857/laws.FnExactReverseOrder", spec := "fnExactReverseOrder", unfollowed := true, recurses := true, apart := false, narrowed := true }
def FnExactReverseOrderUptoSaid : Prop := fnExactReverseOrderUptoRow.holds Try.pinned (OpenSpec.upto fnExactReverseOrderSpec)

/-- 'laws.FnExactSamePolygon', WHERE WHAT IT READS IS OF BULK AT MOST 1048576: true; the input reads as it did. -/
def fnExactSamePolygonUptoRow : OpenClaim := { program := "ytbkehpciffponaa", sum := "df9b5192101678105a165508398515cc8e3f134ca28ad41f8b60af8884d3b931", func := "loop.example/g00857/laws.FnExactSamePolygon", spec := "fnExactSamePolygon", apart := false, narrowed := true }
def FnExactSamePolygonUptoSaid : Prop := fnExactSamePolygonUptoRow.holds Try.pinned (OpenSpec.upto fnExactSamePolygonSpec)

/-- 'laws.FnExactIsKawasaki', WHERE WHAT IT READS IS OF BULK AT MOST 1048576: true; the input reads as it did. -/
def fnExactIsKawasakiUptoRow : OpenClaim := { program := "ytbkehpciffponaa", sum := "df9b5192101678105a165508398515cc8e3f134ca28ad41f8b60af8884d3b931", func := "loop.example/g00857/laws.FnExactIsKawasaki", spec := "fnExactIsKawasaki", unfollowed := true, recurses := true, apart := false, narrowed := true }
def FnExactIsKawasakiUptoSaid : Prop := fnExactIsKawasakiUptoRow.holds Try.pinned (OpenSpec.upto fnExactIsKawasakiSpec)

/-- 'laws.FnExactDirectionsOf', WHERE WHAT IT READS IS OF BULK AT MOST 1048576: true; the input reads as it did. -/
def fnExactDirectionsOfUptoRow : OpenClaim := { program := "ytbkehpciffponaa", sum := "df9b5192101678105a165508398515cc8e3f134ca28ad41f8b60af8884d3b931", func := "loop.example/g00857/laws.FnExactDirectionsOf", spec := "fnExactDirectionsOf", unfollowed := true, recurses := true, apart := false, narrowed := true }
def FnExactDirectionsOfUptoSaid : Prop := fnExactDirectionsOfUptoRow.holds Try.pinned (OpenSpec.upto fnExactDirectionsOfSpec)

/-- 'laws.FnExactSquarePaper', WHERE WHAT IT READS IS OF BULK AT MOST 1048576: true; the input reads as it did. -/
def fnExactSquarePaperUptoRow : OpenClaim := { program := "ytbkehpciffponaa", sum := "df9b5192101678105a165508398515cc8e3f134ca28ad41f8b60af8884d3b931", func := "loop.example/g00857/laws.FnExactSquarePaper", spec := "fnExactSquarePaper", apart := false, narrowed := true }
def FnExactSquarePaperUptoSaid : Prop := fnExactSquarePaperUptoRow.holds Try.pinned (OpenSpec.upto fnExactSquarePaperSpec)

/-- 'laws.FnExactSignNum', WHERE WHAT IT READS IS OF BULK AT MOST 1048576: true; the input reads as it did. -/
def fnExactSignNumUptoRow : OpenClaim := { program := "ytbkehpciffponaa", sum := "df9b5192101678105a165508398515cc8e3f134ca28ad41f8b60af8884d3b931", func := "loop.example/g00857/laws.FnExactSignNum", spec := "fnExactSignNum", apart := false, narrowed := true }
def FnExactSignNumUptoSaid : Prop := fnExactSignNumUptoRow.holds Try.pinned (OpenSpec.upto fnExactSignNumSpec)

/-- 'laws.FnExactMirrorSectors', WHERE WHAT IT READS IS OF BULK AT MOST 1048576: true; the input reads as it did. -/
def fnExactMirrorSectorsUptoRow : OpenClaim := { program := "ytbkehpciffponaa", sum := "df9b5192101678105a165508398515cc8e3f134ca28ad41f8b60af8884d3b931", func := "loop.example/g00857/laws.FnExactMirrorSectors", spec := "fnExactMirrorSectors", unfollowed := true, recurses := true, apart := false, narrowed := true }
def FnExactMirrorSectorsUptoSaid : Prop := fnExactMirrorSectorsUptoRow.holds Try.pinned (OpenSpec.upto fnExactMirrorSectorsSpec)

/-- 'laws.FnExactValidRule', WHERE WHAT IT READS IS OF BULK AT MOST 1048576: true; the input reads as it did. -/
def fnExactValidRuleUptoRow : OpenClaim := { program := "ytbkehpciffponaa", sum := "df9b5192101678105a165508398515cc8e3f134ca28ad41f8b60af8884d3b931", func := "loop.example/g00857/laws.FnExactValidRule", spec := "fnExactValidRule", unfollowed := true, recurses := true, apart := false, narrowed := true }
def FnExactValidRuleUptoSaid : Prop := fnExactValidRuleUptoRow.holds Try.pinned (OpenSpec.upto fnExactValidRuleSpec)

end Rows
end Go.Proofs.Ytbkehpciffponaa
