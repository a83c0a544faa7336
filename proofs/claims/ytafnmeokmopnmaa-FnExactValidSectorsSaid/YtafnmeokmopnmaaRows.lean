/-
  No cell of these rows narrows 'for every input' (looked for: loops, veiled, ifaces, maps, wideKeys, modest, calm, conditions, laid).
  DERIVED. THE GIVEN ROWS OF THIS SEAT. 12 by the template 'for every input the law returns true; each argument reads behind the call as it read before'; 0 by the template 'total and deterministic' (their statements: YtafnmeokmopnmaaTotals.lean).
  GIVEN WITH THE SEED: the statements are not yours to turn. If you find one false, say at which input.
  Laid BY PROGRAM, IN A SANDBOX (cutbox-rows.mjs): the forced cells as the released guide's own fill.sh prints them over the translation 1dddbaa8c2fc3ae9… (all of the seat's roots in one cut). By AI agents, Wed Nov 11 2026. No macro, syntax, notation, axiom, sorry.
-/
import Derived.Test.YtafnmeokmopnmaaChecked
import GoSem.Claim
import GoSem.ClaimJoined
import GoSem.ClaimMapViews
import Derived.JoinedTies
import Derived.KernelRfl
namespace Go.Proofs.Ytafnmeokmopnmaa
/- THE CELL 'sum', in the pinned program and in every row, IS THE sha256 OF THE DUMP (.gsa) THAT YtafnmeokmopnmaaProg.lean LOADS. Nothing in Lean hashes anything: it is a label: what it is worth is what the hold of that sum in a sandbox is worth. -/
noncomputable def Try.pinned : Pinned := { name := "ytafnmeokmopnmaa", sum := "1dddbaa8c2fc3ae9e684891873373a46d052c5a2397783ea157d3ca5827c756f", checked := Try.checked }
namespace Rows
def none {H : Type} : Left H := { results := [], args := [] }

/-- 'laws.FnExactConstants': WHATEVER THE INPUT: true; the input reads as it did. -/
def fnExactConstantsSpec : ChangeSpec := { name := "fnExactConstants", fn := fun _ => fun
  | [] => { results := [.lit (.bool true)], args := [] }
  | _ => none }
def fnExactConstantsRow : OpenClaim := { program := "ytafnmeokmopnmaa", sum := "1dddbaa8c2fc3ae9e684891873373a46d052c5a2397783ea157d3ca5827c756f", func := "loop.example/g00857/laws.FnExactConstants", spec := "fnExactConstants", apart := false }
def FnExactConstantsSaid : Prop := fnExactConstantsRow.holds Try.pinned (OpenSpec.ofChange fnExactConstantsSpec)

/-- ITS FALSE NEIGHBOUR: 'it returns false'. Refute it at one input. -/
def fnExactConstantsWrong : ChangeSpec := { name := "fnExactConstants", fn := fun _ => fun
  | [] => { results := [.lit (.bool false)], args := [] }
  | _ => none }
def FnExactConstantsWrongFalsely : Prop := fnExactConstantsRow.holds Try.pinned (OpenSpec.ofChange fnExactConstantsWrong)

/-- 'laws.FnExactCodeName': WHATEVER THE INPUT: true; the input reads as it did. -/
def fnExactCodeNameSpec : ChangeSpec := { name := "fnExactCodeName", fn := fun _ => fun
  | [d] => { results := [.lit (.bool true)], args := [d] }
  | _ => none }
def fnExactCodeNameRow : OpenClaim := { program := "ytafnmeokmopnmaa", sum := "1dddbaa8c2fc3ae9e684891873373a46d052c5a2397783ea157d3ca5827c756f", func := "loop.example/g00857/laws.FnExactCodeName", spec := "fnExactCodeName", apart := false }
def FnExactCodeNameSaid : Prop := fnExactCodeNameRow.holds Try.pinned (OpenSpec.ofChange fnExactCodeNameSpec)

/-- ITS FALSE NEIGHBOUR: 'it returns false'. Refute it at one input. -/
def fnExactCodeNameWrong : ChangeSpec := { name := "fnExactCodeName", fn := fun _ => fun
  | [d] => { results := [.lit (.bool false)], args := [d] }
  | _ => none }
def FnExactCodeNameWrongFalsely : Prop := fnExactCodeNameRow.holds Try.pinned (OpenSpec.ofChange fnExactCodeNameWrong)

/-- 'laws.FnExactKindBetween': WHATEVER THE INPUT: true; the input reads as it did. -/
def fnExactKindBetweenSpec : ChangeSpec := { name := "fnExactKindBetween", fn := fun _ => fun
  | [d1, d2] => { results := [.lit (.bool true)], args := [d1, d2] }
  | _ => none }
def fnExactKindBetweenRow : OpenClaim := { program := "ytafnmeokmopnmaa", sum := "1dddbaa8c2fc3ae9e684891873373a46d052c5a2397783ea157d3ca5827c756f", func := "loop.example/g00857/laws.FnExactKindBetween", spec := "fnExactKindBetween", apart := false }
def FnExactKindBetweenSaid : Prop := fnExactKindBetweenRow.holds Try.pinned (OpenSpec.ofChange fnExactKindBetweenSpec)

/-- ITS FALSE NEIGHBOUR: 'it returns false'. Refute it at one input. -/
def fnExactKindBetweenWrong : ChangeSpec := { name := "fnExactKindBetween", fn := fun _ => fun
  | [d1, d2] => { results := [.lit (.bool false)], args := [d1, d2] }
  | _ => none }
def FnExactKindBetweenWrongFalsely : Prop := fnExactKindBetweenRow.holds Try.pinned (OpenSpec.ofChange fnExactKindBetweenWrong)

/-- 'laws.FnExactValidNum': WHATEVER THE INPUT: true; the input reads as it did. -/
def fnExactValidNumSpec : ChangeSpec := { name := "fnExactValidNum", fn := fun _ => fun
  | [d] => { results := [.lit (.bool true)], args := [d] }
  | _ => none }
def fnExactValidNumRow : OpenClaim := { program := "ytafnmeokmopnmaa", sum := "1dddbaa8c2fc3ae9e684891873373a46d052c5a2397783ea157d3ca5827c756f", func := "loop.example/g00857/laws.FnExactValidNum", spec := "fnExactValidNum", apart := false }
def FnExactValidNumSaid : Prop := fnExactValidNumRow.holds Try.pinned (OpenSpec.ofChange fnExactValidNumSpec)

/-- ITS FALSE NEIGHBOUR: 'it returns false'. Refute it at one input. -/
def fnExactValidNumWrong : ChangeSpec := { name := "fnExactValidNum", fn := fun _ => fun
  | [d] => { results := [.lit (.bool false)], args := [d] }
  | _ => none }
def FnExactValidNumWrongFalsely : Prop := fnExactValidNumRow.holds Try.pinned (OpenSpec.ofChange fnExactValidNumWrong)

/-- 'laws.FnExactValidLine': WHATEVER THE INPUT: true; the input reads as it did. -/
def fnExactValidLineSpec : ChangeSpec := { name := "fnExactValidLine", fn := fun _ => fun
  | [d] => { results := [.lit (.bool true)], args := [d] }
  | _ => none }
def fnExactValidLineRow : OpenClaim := { program := "ytafnmeokmopnmaa", sum := "1dddbaa8c2fc3ae9e684891873373a46d052c5a2397783ea157d3ca5827c756f", func := "loop.example/g00857/laws.FnExactValidLine", spec := "fnExactValidLine", apart := false }
def FnExactValidLineSaid : Prop := fnExactValidLineRow.holds Try.pinned (OpenSpec.ofChange fnExactValidLineSpec)

/-- ITS FALSE NEIGHBOUR: 'it returns false'. Refute it at one input. -/
def fnExactValidLineWrong : ChangeSpec := { name := "fnExactValidLine", fn := fun _ => fun
  | [d] => { results := [.lit (.bool false)], args := [d] }
  | _ => none }
def FnExactValidLineWrongFalsely : Prop := fnExactValidLineRow.holds Try.pinned (OpenSpec.ofChange fnExactValidLineWrong)

/-- 'laws.FnExactValidPoint': WHATEVER THE INPUT: true; the input reads as it did. -/
def fnExactValidPointSpec : ChangeSpec := { name := "fnExactValidPoint", fn := fun _ => fun
  | [d] => { results := [.lit (.bool true)], args := [d] }
  | _ => none }
def fnExactValidPointRow : OpenClaim := { program := "ytafnmeokmopnmaa", sum := "1dddbaa8c2fc3ae9e684891873373a46d052c5a2397783ea157d3ca5827c756f", func := "loop.example/g00857/laws.FnExactValidPoint", spec := "fnExactValidPoint", apart := false }
def FnExactValidPointSaid : Prop := fnExactValidPointRow.holds Try.pinned (OpenSpec.ofChange fnExactValidPointSpec)

/-- ITS FALSE NEIGHBOUR: 'it returns false'. Refute it at one input. -/
def fnExactValidPointWrong : ChangeSpec := { name := "fnExactValidPoint", fn := fun _ => fun
  | [d] => { results := [.lit (.bool false)], args := [d] }
  | _ => none }
def FnExactValidPointWrongFalsely : Prop := fnExactValidPointRow.holds Try.pinned (OpenSpec.ofChange fnExactValidPointWrong)

/-- 'laws.FnExactValidMotion': WHATEVER THE INPUT: true; the input reads as it did. -/
def fnExactValidMotionSpec : ChangeSpec := { name := "fnExactValidMotion", fn := fun _ => fun
  | [d] => { results := [.lit (.bool true)], args := [d] }
  | _ => none }
def fnExactValidMotionRow : OpenClaim := { program := "ytafnmeokmopnmaa", sum := "1dddbaa8c2fc3ae9e684891873373a46d052c5a2397783ea157d3ca5827c756f", func := "loop.example/g00857/laws.FnExactValidMotion", spec := "fnExactValidMotion", apart := false }
def FnExactValidMotionSaid : Prop := fnExactValidMotionRow.holds Try.pinned (OpenSpec.ofChange fnExactValidMotionSpec)

/-- ITS FALSE NEIGHBOUR: 'it returns false'. Refute it at one input. -/
def fnExactValidMotionWrong : ChangeSpec := { name := "fnExactValidMotion", fn := fun _ => fun
  | [d] => { results := [.lit (.bool false)], args := [d] }
  | _ => none }
def FnExactValidMotionWrongFalsely : Prop := fnExactValidMotionRow.holds Try.pinned (OpenSpec.ofChange fnExactValidMotionWrong)

/-- 'laws.FnVertexCount': WHATEVER THE INPUT: true; the input reads as it did. -/
def fnVertexCountSpec : ChangeSpec := { name := "fnVertexCount", fn := fun _ => fun
  | [d] => { results := [.lit (.bool true)], args := [d] }
  | _ => none }
def fnVertexCountRow : OpenClaim := { program := "ytafnmeokmopnmaa", sum := "1dddbaa8c2fc3ae9e684891873373a46d052c5a2397783ea157d3ca5827c756f", func := "loop.example/g00857/laws.FnVertexCount", spec := "fnVertexCount", unfollowed := true, recurses := true, apart := false }
def FnVertexCountSaid : Prop := fnVertexCountRow.holds Try.pinned (OpenSpec.ofChange fnVertexCountSpec)

/-- ITS FALSE NEIGHBOUR: 'it returns false'. Refute it at one input. -/
def fnVertexCountWrong : ChangeSpec := { name := "fnVertexCount", fn := fun _ => fun
  | [d] => { results := [.lit (.bool false)], args := [d] }
  | _ => none }
def FnVertexCountWrongFalsely : Prop := fnVertexCountRow.holds Try.pinned (OpenSpec.ofChange fnVertexCountWrong)

/-- 'laws.FnExactOrderBetween': WHATEVER THE INPUT: true; the input reads as it did. -/
def fnExactOrderBetweenSpec : ChangeSpec := { name := "fnExactOrderBetween", fn := fun _ => fun
  | [d1, d2, d3, d4] => { results := [.lit (.bool true)], args := [d1, d2, d3, d4] }
  | _ => none }
def fnExactOrderBetweenRow : OpenClaim := { program := "ytafnmeokmopnmaa", sum := "1dddbaa8c2fc3ae9e684891873373a46d052c5a2397783ea157d3ca5827c756f", func := "loop.example/g00857/laws.FnExactOrderBetween", spec := "fnExactOrderBetween", apart := false }
def FnExactOrderBetweenSaid : Prop := fnExactOrderBetweenRow.holds Try.pinned (OpenSpec.ofChange fnExactOrderBetweenSpec)

/-- ITS FALSE NEIGHBOUR: 'it returns false'. Refute it at one input. -/
def fnExactOrderBetweenWrong : ChangeSpec := { name := "fnExactOrderBetween", fn := fun _ => fun
  | [d1, d2, d3, d4] => { results := [.lit (.bool false)], args := [d1, d2, d3, d4] }
  | _ => none }
def FnExactOrderBetweenWrongFalsely : Prop := fnExactOrderBetweenRow.holds Try.pinned (OpenSpec.ofChange fnExactOrderBetweenWrong)

/-- 'laws.FnExactValidSectors': WHATEVER THE INPUT: true; the input reads as it did. -/
def fnExactValidSectorsSpec : ChangeSpec := { name := "fnExactValidSectors", fn := fun _ => fun
  | [d] => { results := [.lit (.bool true)], args := [d] }
  | _ => none }
def fnExactValidSectorsRow : OpenClaim := { program := "ytafnmeokmopnmaa", sum := "1dddbaa8c2fc3ae9e684891873373a46d052c5a2397783ea157d3ca5827c756f", func := "loop.example/g00857/laws.FnExactValidSectors", spec := "fnExactValidSectors", unfollowed := true, recurses := true, apart := false }
def FnExactValidSectorsSaid : Prop := fnExactValidSectorsRow.holds Try.pinned (OpenSpec.ofChange fnExactValidSectorsSpec)

/-- ITS FALSE NEIGHBOUR: 'it returns false'. Refute it at one input. -/
def fnExactValidSectorsWrong : ChangeSpec := { name := "fnExactValidSectors", fn := fun _ => fun
  | [d] => { results := [.lit (.bool false)], args := [d] }
  | _ => none }
def FnExactValidSectorsWrongFalsely : Prop := fnExactValidSectorsRow.holds Try.pinned (OpenSpec.ofChange fnExactValidSectorsWrong)

/-- 'laws.FnExactMoveDirection': WHATEVER THE INPUT: true; the input reads as it did. -/
def fnExactMoveDirectionSpec : ChangeSpec := { name := "fnExactMoveDirection", fn := fun _ => fun
  | [d1, d2] => { results := [.lit (.bool true)], args := [d1, d2] }
  | _ => none }
def fnExactMoveDirectionRow : OpenClaim := { program := "ytafnmeokmopnmaa", sum := "1dddbaa8c2fc3ae9e684891873373a46d052c5a2397783ea157d3ca5827c756f", func := "loop.example/g00857/laws.FnExactMoveDirection", spec := "fnExactMoveDirection", apart := false }
def FnExactMoveDirectionSaid : Prop := fnExactMoveDirectionRow.holds Try.pinned (OpenSpec.ofChange fnExactMoveDirectionSpec)

/-- ITS FALSE NEIGHBOUR: 'it returns false'. Refute it at one input. -/
def fnExactMoveDirectionWrong : ChangeSpec := { name := "fnExactMoveDirection", fn := fun _ => fun
  | [d1, d2] => { results := [.lit (.bool false)], args := [d1, d2] }
  | _ => none }
def FnExactMoveDirectionWrongFalsely : Prop := fnExactMoveDirectionRow.holds Try.pinned (OpenSpec.ofChange fnExactMoveDirectionWrong)

/-- 'laws.FnExactFloorNum': WHATEVER THE INPUT: true; the input reads as it did. -/
def fnExactFloorNumSpec : ChangeSpec := { name := "fnExactFloorNum", fn := fun _ => fun
  | [d] => { results := [.lit (.bool true)], args := [d] }
  | _ => none }
def fnExactFloorNumRow : OpenClaim := { program := "ytafnmeokmopnmaa", sum := "1dddbaa8c2fc3ae9e684891873373a46d052c5a2397783ea157d3ca5827c756f", func := "loop.example/g00857/laws.FnExactFloorNum", spec := "fnExactFloorNum", apart := false }
def FnExactFloorNumSaid : Prop := fnExactFloorNumRow.holds Try.pinned (OpenSpec.ofChange fnExactFloorNumSpec)

/-- ITS FALSE NEIGHBOUR: 'it returns false'. Refute it at one input. -/
def fnExactFloorNumWrong : ChangeSpec := { name := "fnExactFloorNum", fn := fun _ => fun
  | [d] => { results := [.lit (.bool false)], args := [d] }
  | _ => none }
def FnExactFloorNumWrongFalsely : Prop := fnExactFloorNumRow.holds Try.pinned (OpenSpec.ofChange fnExactFloorNumWrong)

/- THE SECOND FORM. 'bulk': how many values and letters a reading holds, each counted each time it is reached (what is shared counts as often as it is met; a slice's spare places count too). A statement '..UptoSaid' is the law's where the arguments, and the package variables that the reading takes, are together of bulk at most 1048576: NARROWER than '..Said'. Prove '..Said' where nothing that the law and all that it calls make is longer than what came in: it says more and counts as full. Else prove '..UptoSaid'. A law counts once. -/
mutual
def uptoBulk {H : Type} : DataW H → Nat
  | .lit (.string bytes) => bytes.length + 1
  | .lit _ => 1
  | .nil => 1
  | .ptr d => uptoBulk d + 1
  | .slice elems spare => uptoBulkAll elems + uptoBulkAll spare + 1
  | .agg parts => uptoBulkAll parts + 1
  | .iface _ d => uptoBulk d + 1
  | .map entries => uptoBulkEntries entries + 1
  | .held _ => 1
def uptoBulkAll {H : Type} : List (DataW H) → Nat
  | [] => 0
  | d :: r => uptoBulk d + uptoBulkAll r
def uptoBulkEntries {H : Type} : List (Lit × DataW H) → Nat
  | [] => 0
  | x :: r => uptoBulkEntry x + uptoBulkEntries r
def uptoBulkEntry {H : Type} : Lit × DataW H → Nat
  | (.string bytes, d) => bytes.length + uptoBulk d + 1
  | (_, d) => uptoBulk d + 1
 end
def uptoSmall : (H : Type) → List (DataW H) → Bool := fun _ ds => decide (uptoBulkAll ds ≤ 1048576)
def OpenSpec.upto (s : _root_.Go.ChangeSpec) : _root_.Go.OpenSpec := { _root_.Go.OpenSpec.ofChange s with cond := some uptoSmall }

/-- 'laws.FnExactConstants', WHERE WHAT IT READS IS OF BULK AT MOST 1048576: true; the input reads as it did. -/
def fnExactConstantsUptoRow : OpenClaim := { program := "ytafnmeokmopnmaa", sum := "1dddbaa8c2fc3ae9e684891873373a46d052c5a2397783ea157d3ca5827c756f", func := "loop.example/g00857/laws.FnExactConstants", spec := "fnExactConstants", apart := false, narrowed := true }
def FnExactConstantsUptoSaid : Prop := fnExactConstantsUptoRow.holds Try.pinned (OpenSpec.upto fnExactConstantsSpec)

/-- 'laws.FnExactCodeName', WHERE WHAT IT READS IS OF BULK AT MOST 1048576: true; the input reads as it did. -/
def fnExactCodeNameUptoRow : OpenClaim := { program := "ytafnmeokmopnmaa", sum := "1dddbaa8c2fc3ae9e684891873373a46d052c5a2397783ea157d3ca5827c756f", func := "loop.example/g00857/laws.FnExactCodeName", spec := "fnExactCodeName", apart := false, narrowed := true }
def FnExactCodeNameUptoSaid : Prop := fnExactCodeNameUptoRow.holds Try.pinned (OpenSpec.upto fnExactCodeNameSpec)

/-- 'laws.FnExactKindBetween', WHERE WHAT IT READS IS OF BULK AT MOST 1048576: true; the input reads as it did. -/
def fnExactKindBetweenUptoRow : OpenClaim := { program := "ytafnmeokmopnmaa", sum := "1dddbaa8c2fc3ae9e684891873373a46d052c5a2397783ea157d3ca5827c756f", func := "loop.example/g00857/laws.FnExactKindBetween", spec := "fnExactKindBetween", apart := false, narrowed := true }
def FnExactKindBetweenUptoSaid : Prop := fnExactKindBetweenUptoRow.holds Try.pinned (OpenSpec.upto fnExactKindBetweenSpec)

/-- 'laws.FnExactValidNum', WHERE WHAT IT READS IS OF BULK AT MOST 1048576: true; the input reads as it did. -/
def fnExactValidNumUptoRow : OpenClaim := { program := "ytafnmeokmopnmaa", sum := "1dddbaa8c2fc3ae9e684891873373a46d052c5a2397783ea157d3ca5827c756f", func := "loop.example/g00857/laws.FnExactValidNum", spec := "fnExactValidNum", apart := false, narrowed := true }
def FnExactValidNumUptoSaid : Prop := fnExactValidNumUptoRow.holds Try.pinned (OpenSpec.upto fnExactValidNumSpec)

/-- 'laws.FnExactValidLine', WHERE WHAT IT READS IS OF BULK AT MOST 1048576: true; the input reads as it did. -/
def fnExactValidLineUptoRow : OpenClaim := { program := "ytafnmeokmopnmaa", sum := "1dddbaa8c2fc3ae9e684891873373a46d052c5a2397783ea157d3ca5827c756f", func := "loop.example/g00857/laws.FnExactValidLine", spec := "fnExactValidLine", apart := false, narrowed := true }
def FnExactValidLineUptoSaid : Prop := fnExactValidLineUptoRow.holds Try.pinned (OpenSpec.upto fnExactValidLineSpec)

/-- 'laws.FnExactValidPoint', WHERE WHAT IT READS IS OF BULK AT MOST 1048576: true; the input reads as it did. -/
def fnExactValidPointUptoRow : OpenClaim := { program := "ytafnmeokmopnmaa", sum := "1dddbaa8c2fc3ae9e684891873373a46d052c5a2397783ea157d3ca5827c756f", func := "loop.example/g00857/laws.FnExactValidPoint", spec := "fnExactValidPoint", apart := false, narrowed := true }
def FnExactValidPointUptoSaid : Prop := fnExactValidPointUptoRow.holds Try.pinned (OpenSpec.upto fnExactValidPointSpec)

/-- 'laws.FnExactValidMotion', WHERE WHAT IT READS IS OF BULK AT MOST 1048576: true; the input reads as it did. -/
def fnExactValidMotionUptoRow : OpenClaim := { program := "ytafnmeokmopnmaa", sum := "1dddbaa8c2fc3ae9e684891873373a46d052c5a2397783ea157d3ca5827c756f", func := "loop.example/g00857/laws.FnExactValidMotion", spec := "fnExactValidMotion", apart := false, narrowed := true }
def FnExactValidMotionUptoSaid : Prop := fnExactValidMotionUptoRow.holds Try.pinned (OpenSpec.upto fnExactValidMotionSpec)

/-- 'laws.FnVertexCount', WHERE WHAT IT READS IS OF BULK AT MOST 1048576: true; the input reads as it did. -/
def fnVertexCountUptoRow : OpenClaim := { program := "ytafnmeokmopnmaa", sum := "1dddbaa8c2fc3ae9e684891873373a46d052c5a2397783ea157d3ca5827c756f", func := "loop.example/g00857/laws.FnVertexCount", spec := "fnVertexCount", unfollowed := true, recurses := true, apart := false, narrowed := true }
def FnVertexCountUptoSaid : Prop := fnVertexCountUptoRow.holds Try.pinned (OpenSpec.upto fnVertexCountSpec)

/-- 'laws.FnExactOrderBetween', WHERE WHAT IT READS IS OF BULK AT MOST 1048576: true; the input reads as it did. -/
def fnExactOrderBetweenUptoRow : OpenClaim := { program := "ytafnmeokmopnmaa", sum := "1dddbaa8c2fc3ae9e684891873373a46d052c5a2397783ea157d3ca5827c756f", func := "loop.example/g00857/laws.FnExactOrderBetween", spec := "fnExactOrderBetween", apart := false, narrowed := true }
def FnExactOrderBetweenUptoSaid : Prop := fnExactOrderBetweenUptoRow.holds Try.pinned (OpenSpec.upto fnExactOrderBetweenSpec)

/-- 'laws.FnExactValidSectors', WHERE WHAT IT READS IS OF BULK AT MOST 1048576: true; the input reads as it did. -/
def fnExactValidSectorsUptoRow : OpenClaim := { program := "ytafnmeokmopnmaa", sum := "1dddbaa8c2fc3ae9e684891873373a46d052c5a2397783ea157d3ca5827c756f", func := "loop.example/g00857/laws.FnExactValidSectors", spec := "fnExactValidSectors", unfollowed := true, recurses := true, apart := false, narrowed := true }
def FnExactValidSectorsUptoSaid : Prop := fnExactValidSectorsUptoRow.holds Try.pinned (OpenSpec.upto fnExactValidSectorsSpec)

/-- 'laws.FnExactMoveDirection', WHERE WHAT IT READS IS OF BULK AT MOST 1048576: true; the input reads as it did. -/
def fnExactMoveDirectionUptoRow : OpenClaim := { program := "ytafnmeokmopnmaa", sum := "1dddbaa8c2fc3ae9e684891873373a46d052c5a2397783ea157d3ca5827c756f", func := "loop.example/g00857/laws.FnExactMoveDirection", spec := "fnExactMoveDirection", apart := false, narrowed := true }
def FnExactMoveDirectionUptoSaid : Prop := fnExactMoveDirectionUptoRow.holds Try.pinned (OpenSpec.upto fnExactMoveDirectionSpec)

/-- 'laws.FnExactFloorNum', WHERE WHAT IT READS IS OF BULK AT MOST 1048576: true; the input reads as it did. -/
def fnExactFloorNumUptoRow : OpenClaim := { program := "ytafnmeokmopnmaa", sum := "1dddbaa8c2fc3ae9e684891873373a46d052c5a2397783ea157d3ca5827c756f", func := "loop.example/g00857/laws.FnExactFloorNum", spec := "fnExactFloorNum", apart := false, narrowed := true }
def FnExactFloorNumUptoSaid : Prop := fnExactFloorNumUptoRow.holds Try.pinned (OpenSpec.upto fnExactFloorNumSpec)

end Rows
end Go.Proofs.Ytafnmeokmopnmaa
