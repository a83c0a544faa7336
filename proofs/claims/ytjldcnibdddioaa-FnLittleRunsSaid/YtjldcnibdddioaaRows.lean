/-
  No cell of these rows narrows 'for every input' (looked for: loops, veiled, ifaces, maps, wideKeys, modest, calm, conditions, laid).
  DERIVED. THE GIVEN ROWS OF THIS SEAT. 10 by the template 'for every input the law returns true; each argument reads behind the call as it read before'; 0 by the template 'total and deterministic' (their statements: YtjldcnibdddioaaTotals.lean).
  GIVEN WITH THE SEED: the statements are not yours to turn. If you find one false, say at which input.
  Laid BY PROGRAM, IN A SANDBOX (cutbox-rows.mjs): the forced cells as the released guide's own fill.sh prints them over the translation 7fbcc557f038a671… (all of the seat's roots in one cut). By AI agents, Wed Nov 11 2026. No macro, syntax, notation, axiom, sorry.
-/
import Derived.Test.YtjldcnibdddioaaChecked
import GoSem.Claim
import GoSem.ClaimJoined
import GoSem.ClaimMapViews
import Derived.JoinedTies
import Derived.KernelRfl
namespace Go.Proofs.Ytjldcnibdddioaa
/- THE CELL 'sum', in the pinned program and in every row, IS THE sha256 OF THE DUMP (.gsa) THAT YtjldcnibdddioaaProg.lean LOADS. Nothing in Lean hashes anything: it is a label: what it is worth is what the hold of that sum in a sandbox is worth. -/
noncomputable def Try.pinned : Pinned := { name := "ytjldcnibdddioaa", sum := "7fbcc557f038a671452644677d3b2fa77402ee751e2ae16445a1dfa4cff31f9a", checked := Try.checked }
namespace Rows
def none {H : Type} : Left H := { results := [], args := [] }

/-- 'laws.FnExactRotateSectors': WHATEVER THE INPUT: true; the input reads as it did. -/
def fnExactRotateSectorsSpec : ChangeSpec := { name := "fnExactRotateSectors", fn := fun _ => fun
  | [d1, d2] => { results := [.lit (.bool true)], args := [d1, d2] }
  | _ => none }
def fnExactRotateSectorsRow : OpenClaim := { program := "ytjldcnibdddioaa", sum := "7fbcc557f038a671452644677d3b2fa77402ee751e2ae16445a1dfa4cff31f9a", func := "loop.example/g00857/laws.FnExactRotateSectors", spec := "fnExactRotateSectors", unfollowed := true, recurses := true, apart := false }
def FnExactRotateSectorsSaid : Prop := fnExactRotateSectorsRow.holds Try.pinned (OpenSpec.ofChange fnExactRotateSectorsSpec)

/-- ITS FALSE NEIGHBOUR: 'it returns false'. Refute it at one input. -/
def fnExactRotateSectorsWrong : ChangeSpec := { name := "fnExactRotateSectors", fn := fun _ => fun
  | [d1, d2] => { results := [.lit (.bool false)], args := [d1, d2] }
  | _ => none }
def FnExactRotateSectorsWrongFalsely : Prop := fnExactRotateSectorsRow.holds Try.pinned (OpenSpec.ofChange fnExactRotateSectorsWrong)

/-- 'laws.FnLittleRuns': WHATEVER THE INPUT: true; the input reads as it did. -/
def fnLittleRunsSpec : ChangeSpec := { name := "fnLittleRuns", fn := fun _ => fun
  | [d] => { results := [.lit (.bool true)], args := [d] }
  | _ => none }
def fnLittleRunsRow : OpenClaim := { program := "ytjldcnibdddioaa", sum := "7fbcc557f038a671452644677d3b2fa77402ee751e2ae16445a1dfa4cff31f9a", func := "loop.example/g00857/laws.FnLittleRuns", spec := "fnLittleRuns", unfollowed := true, recurses := true, apart := false }
def FnLittleRunsSaid : Prop := fnLittleRunsRow.holds Try.pinned (OpenSpec.ofChange fnLittleRunsSpec)

/-- ITS FALSE NEIGHBOUR: 'it returns false'. Refute it at one input. -/
def fnLittleRunsWrong : ChangeSpec := { name := "fnLittleRuns", fn := fun _ => fun
  | [d] => { results := [.lit (.bool false)], args := [d] }
  | _ => none }
def FnLittleRunsWrongFalsely : Prop := fnLittleRunsRow.holds Try.pinned (OpenSpec.ofChange fnLittleRunsWrong)

/-- 'laws.FnExactCompareNum': WHATEVER THE INPUT: true; the input reads as it did. -/
def fnExactCompareNumSpec : ChangeSpec := { name := "fnExactCompareNum", fn := fun _ => fun
  | [d1, d2] => { results := [.lit (.bool true)], args := [d1, d2] }
  | _ => none }
def fnExactCompareNumRow : OpenClaim := { program := "ytjldcnibdddioaa", sum := "7fbcc557f038a671452644677d3b2fa77402ee751e2ae16445a1dfa4cff31f9a", func := "loop.example/g00857/laws.FnExactCompareNum", spec := "fnExactCompareNum", apart := false }
def FnExactCompareNumSaid : Prop := fnExactCompareNumRow.holds Try.pinned (OpenSpec.ofChange fnExactCompareNumSpec)

/-- ITS FALSE NEIGHBOUR: 'it returns false'. Refute it at one input. -/
def fnExactCompareNumWrong : ChangeSpec := { name := "fnExactCompareNum", fn := fun _ => fun
  | [d1, d2] => { results := [.lit (.bool false)], args := [d1, d2] }
  | _ => none }
def FnExactCompareNumWrongFalsely : Prop := fnExactCompareNumRow.holds Try.pinned (OpenSpec.ofChange fnExactCompareNumWrong)

/-- 'laws.FnExactLittleRuns': WHATEVER THE INPUT: true; the input reads as it did. -/
def fnExactLittleRunsSpec : ChangeSpec := { name := "fnExactLittleRuns", fn := fun _ => fun
  | [d] => { results := [.lit (.bool true)], args := [d] }
  | _ => none }
def fnExactLittleRunsRow : OpenClaim := { program := "ytjldcnibdddioaa", sum := "7fbcc557f038a671452644677d3b2fa77402ee751e2ae16445a1dfa4cff31f9a", func := "loop.example/g00857/laws.FnExactLittleRuns", spec := "fnExactLittleRuns", unfollowed := true, recurses := true, apart := false }
def FnExactLittleRunsSaid : Prop := fnExactLittleRunsRow.holds Try.pinned (OpenSpec.ofChange fnExactLittleRunsSpec)

/-- ITS FALSE NEIGHBOUR: 'it returns false'. Refute it at one input. -/
def fnExactLittleRunsWrong : ChangeSpec := { name := "fnExactLittleRuns", fn := fun _ => fun
  | [d] => { results := [.lit (.bool false)], args := [d] }
  | _ => none }
def FnExactLittleRunsWrongFalsely : Prop := fnExactLittleRunsRow.holds Try.pinned (OpenSpec.ofChange fnExactLittleRunsWrong)

/-- 'laws.FnExactSamePattern': WHATEVER THE INPUT: true; the input reads as it did. -/
def fnExactSamePatternSpec : ChangeSpec := { name := "fnExactSamePattern", fn := fun _ => fun
  | [d1, d2] => { results := [.lit (.bool true)], args := [d1, d2] }
  | _ => none }
def fnExactSamePatternRow : OpenClaim := { program := "ytjldcnibdddioaa", sum := "7fbcc557f038a671452644677d3b2fa77402ee751e2ae16445a1dfa4cff31f9a", func := "loop.example/g00857/laws.FnExactSamePattern", spec := "fnExactSamePattern", apart := false }
def FnExactSamePatternSaid : Prop := fnExactSamePatternRow.holds Try.pinned (OpenSpec.ofChange fnExactSamePatternSpec)

/-- ITS FALSE NEIGHBOUR: 'it returns false'. Refute it at one input. -/
def fnExactSamePatternWrong : ChangeSpec := { name := "fnExactSamePattern", fn := fun _ => fun
  | [d1, d2] => { results := [.lit (.bool false)], args := [d1, d2] }
  | _ => none }
def FnExactSamePatternWrongFalsely : Prop := fnExactSamePatternRow.holds Try.pinned (OpenSpec.ofChange fnExactSamePatternWrong)

/-- 'laws.FnExactSectorSymmetries': WHATEVER THE INPUT: true; the input reads as it did. -/
def fnExactSectorSymmetriesSpec : ChangeSpec := { name := "fnExactSectorSymmetries", fn := fun _ => fun
  | [d] => { results := [.lit (.bool true)], args := [d] }
  | _ => none }
def fnExactSectorSymmetriesRow : OpenClaim := { program := "ytjldcnibdddioaa", sum := "7fbcc557f038a671452644677d3b2fa77402ee751e2ae16445a1dfa4cff31f9a", func := "loop.example/g00857/laws.FnExactSectorSymmetries", spec := "fnExactSectorSymmetries", unfollowed := true, recurses := true, apart := false }
def FnExactSectorSymmetriesSaid : Prop := fnExactSectorSymmetriesRow.holds Try.pinned (OpenSpec.ofChange fnExactSectorSymmetriesSpec)

/-- ITS FALSE NEIGHBOUR: 'it returns false'. Refute it at one input. -/
def fnExactSectorSymmetriesWrong : ChangeSpec := { name := "fnExactSectorSymmetries", fn := fun _ => fun
  | [d] => { results := [.lit (.bool false)], args := [d] }
  | _ => none }
def FnExactSectorSymmetriesWrongFalsely : Prop := fnExactSectorSymmetriesRow.holds Try.pinned (OpenSpec.ofChange fnExactSectorSymmetriesWrong)

/-- 'laws.FnExactComparePoints': WHATEVER THE INPUT: true; the input reads as it did. -/
def fnExactComparePointsSpec : ChangeSpec := { name := "fnExactComparePoints", fn := fun _ => fun
  | [d1, d2] => { results := [.lit (.bool true)], args := [d1, d2] }
  | _ => none }
def fnExactComparePointsRow : OpenClaim := { program := "ytjldcnibdddioaa", sum := "7fbcc557f038a671452644677d3b2fa77402ee751e2ae16445a1dfa4cff31f9a", func := "loop.example/g00857/laws.FnExactComparePoints", spec := "fnExactComparePoints", apart := false }
def FnExactComparePointsSaid : Prop := fnExactComparePointsRow.holds Try.pinned (OpenSpec.ofChange fnExactComparePointsSpec)

/-- ITS FALSE NEIGHBOUR: 'it returns false'. Refute it at one input. -/
def fnExactComparePointsWrong : ChangeSpec := { name := "fnExactComparePoints", fn := fun _ => fun
  | [d1, d2] => { results := [.lit (.bool false)], args := [d1, d2] }
  | _ => none }
def FnExactComparePointsWrongFalsely : Prop := fnExactComparePointsRow.holds Try.pinned (OpenSpec.ofChange fnExactComparePointsWrong)

/-- 'laws.FnExactCanonicalSectors': WHATEVER THE INPUT: true; the input reads as it did. -/
def fnExactCanonicalSectorsSpec : ChangeSpec := { name := "fnExactCanonicalSectors", fn := fun _ => fun
  | [d] => { results := [.lit (.bool true)], args := [d] }
  | _ => none }
def fnExactCanonicalSectorsRow : OpenClaim := { program := "ytjldcnibdddioaa", sum := "7fbcc557f038a671452644677d3b2fa77402ee751e2ae16445a1dfa4cff31f9a", func := "loop.example/g00857/laws.FnExactCanonicalSectors", spec := "fnExactCanonicalSectors", unfollowed := true, recurses := true, apart := false }
def FnExactCanonicalSectorsSaid : Prop := fnExactCanonicalSectorsRow.holds Try.pinned (OpenSpec.ofChange fnExactCanonicalSectorsSpec)

/-- ITS FALSE NEIGHBOUR: 'it returns false'. Refute it at one input. -/
def fnExactCanonicalSectorsWrong : ChangeSpec := { name := "fnExactCanonicalSectors", fn := fun _ => fun
  | [d] => { results := [.lit (.bool false)], args := [d] }
  | _ => none }
def FnExactCanonicalSectorsWrongFalsely : Prop := fnExactCanonicalSectorsRow.holds Try.pinned (OpenSpec.ofChange fnExactCanonicalSectorsWrong)

/-- 'laws.FnExactCountAssignments': WHATEVER THE INPUT: true; the input reads as it did. -/
def fnExactCountAssignmentsSpec : ChangeSpec := { name := "fnExactCountAssignments", fn := fun _ => fun
  | [d] => { results := [.lit (.bool true)], args := [d] }
  | _ => none }
def fnExactCountAssignmentsRow : OpenClaim := { program := "ytjldcnibdddioaa", sum := "7fbcc557f038a671452644677d3b2fa77402ee751e2ae16445a1dfa4cff31f9a", func := "loop.example/g00857/laws.FnExactCountAssignments", spec := "fnExactCountAssignments", unfollowed := true, recurses := true, apart := false }
def FnExactCountAssignmentsSaid : Prop := fnExactCountAssignmentsRow.holds Try.pinned (OpenSpec.ofChange fnExactCountAssignmentsSpec)

/-- ITS FALSE NEIGHBOUR: 'it returns false'. Refute it at one input. -/
def fnExactCountAssignmentsWrong : ChangeSpec := { name := "fnExactCountAssignments", fn := fun _ => fun
  | [d] => { results := [.lit (.bool false)], args := [d] }
  | _ => none }
def FnExactCountAssignmentsWrongFalsely : Prop := fnExactCountAssignmentsRow.holds Try.pinned (OpenSpec.ofChange fnExactCountAssignmentsWrong)

/-- 'laws.FnExactCrimpSectors': WHATEVER THE INPUT: true; the input reads as it did. -/
def fnExactCrimpSectorsSpec : ChangeSpec := { name := "fnExactCrimpSectors", fn := fun _ => fun
  | [d1, d2] => { results := [.lit (.bool true)], args := [d1, d2] }
  | _ => none }
def fnExactCrimpSectorsRow : OpenClaim := { program := "ytjldcnibdddioaa", sum := "7fbcc557f038a671452644677d3b2fa77402ee751e2ae16445a1dfa4cff31f9a", func := "loop.example/g00857/laws.FnExactCrimpSectors", spec := "fnExactCrimpSectors", unfollowed := true, recurses := true, apart := false }
def FnExactCrimpSectorsSaid : Prop := fnExactCrimpSectorsRow.holds Try.pinned (OpenSpec.ofChange fnExactCrimpSectorsSpec)

/-- ITS FALSE NEIGHBOUR: 'it returns false'. Refute it at one input. -/
def fnExactCrimpSectorsWrong : ChangeSpec := { name := "fnExactCrimpSectors", fn := fun _ => fun
  | [d1, d2] => { results := [.lit (.bool false)], args := [d1, d2] }
  | _ => none }
def FnExactCrimpSectorsWrongFalsely : Prop := fnExactCrimpSectorsRow.holds Try.pinned (OpenSpec.ofChange fnExactCrimpSectorsWrong)

/- THE SECOND FORM. 'bulk': how many values and letters a reading holds, each counted each time it is reached (what is shared counts as often as it is met; a slice's spare places count too). A statement '..UptoSaid' is the law's where the arguments, and the package variables that the reading takes, are together of bulk at most 1048576: NARROWER than '..Said'. Prove '..Said' where nothing that the law and all that it calls make is longer than what came in: it says more and counts as full. Else prove '..UptoSaid'. A law counts once. -/
mutual
def uptoBulk {H : Type} : DataW H → Nat
  | .lit (.string bytes) => bytes.length + 1
  | .lit _ => 1
  | .nil => 1
  | .ptr d => uptoBulk d + 1
  | .slice elems spare => uptoBulkAll elems + uptoBulkAll spare + 1
  | .agg parts => uptoBulkAll parts + 1
  | .iface _ d => uptoBulk d + 1
  | .map entries => uptoBulkEntries entries + 1
  | .held _ => 1
def uptoBulkAll {H : Type} : List (DataW H) → Nat
  | [] => 0
  | d :: r => uptoBulk d + uptoBulkAll r
def uptoBulkEntries {H : Type} : List (Lit × DataW H) → Nat
  | [] => 0
  | x :: r => uptoBulkEntry x + uptoBulkEntries r
def uptoBulkEntry {H : Type} : Lit × DataW H → Nat
  | (.string bytes, d) => bytes.length + uptoBulk d + 1
  | (_, d) => uptoBulk d + 1
 end
def uptoSmall : (H : Type) → List (DataW H) → Bool := fun _ ds => decide (uptoBulkAll ds ≤ 1048576)
def OpenSpec.upto (s : _root_.Go.ChangeSpec) : _root_.Go.OpenSpec := { _root_.Go.OpenSpec.ofChange s with cond := some uptoSmall }

/-- 'laws.FnExactRotateSectors', WHERE WHAT IT READS IS OF BULK AT MOST 1048576: true; the input reads as it did. -/
def fnExactRotateSectorsUptoRow : OpenClaim := { program := "ytjldcnibdddioaa", sum := "7fbcc557f038a671452644677d3b2fa77402ee751e2ae16445a1dfa4cff31f9a", func := "loop.example/g00857/laws.FnExactRotateSectors", spec := "fnExactRotateSectors", unfollowed := true, recurses := true, apart := false, narrowed := true }
def FnExactRotateSectorsUptoSaid : Prop := fnExactRotateSectorsUptoRow.holds Try.pinned (OpenSpec.upto fnExactRotateSectorsSpec)

/-- 'laws.FnLittleRuns', WHERE WHAT IT READS IS OF BULK AT MOST 1048576: true; the input reads as it did. -/
def fnLittleRunsUptoRow : OpenClaim := { program := "ytjldcnibdddioaa", sum := "7fbcc557f038a671452644677d3b2fa77402ee751e2ae16445a1dfa4cff31f9a", func := "loop.example/g00857/laws.FnLittleRuns", spec := "fnLittleRuns", unfollowed := true, recurses := true, apart := false, narrowed := true }
def FnLittleRunsUptoSaid : Prop := fnLittleRunsUptoRow.holds Try.pinned (OpenSpec.upto fnLittleRunsSpec)

/-- 'laws.FnExactCompareNum', WHERE WHAT IT READS IS OF BULK AT MOST 1048576: true; the input reads as it did. -/
def fnExactCompareNumUptoRow : OpenClaim := { program := "ytjldcnibdddioaa", sum := "7fbcc557f038a671452644677d3b2fa77402ee751e2ae16445a1dfa4cff31f9a", func := "loop.example/g00857/laws.FnExactCompareNum", spec := "fnExactCompareNum", apart := false, narrowed := true }
def FnExactCompareNumUptoSaid : Prop := fnExactCompareNumUptoRow.holds Try.pinned (OpenSpec.upto fnExactCompareNumSpec)

/-- 'laws.FnExactLittleRuns', WHERE WHAT IT READS IS OF BULK AT MOST 1048576: true; the input reads as it did. -/
def fnExactLittleRunsUptoRow : OpenClaim := { program := "ytjldcnibdddioaa", sum := "7fbcc557f038a671452644677d3b2fa77402ee751e2ae16445a1dfa4cff31f9a", func := "loop.example/g00857/laws.FnExactLittleRuns", spec := "fnExactLittleRuns", unfollowed := true, recurses := true, apart := false, narrowed := true }
def FnExactLittleRunsUptoSaid : Prop := fnExactLittleRunsUptoRow.holds Try.pinned (OpenSpec.upto fnExactLittleRunsSpec)

/-- 'laws.FnExactSamePattern', WHERE WHAT IT READS IS OF BULK AT MOST 1048576: true; the input reads as it did. -/
def fnExactSamePatternUptoRow : OpenClaim := { program := "ytjldcnibdddioaa", sum := "7fbcc557f038a671452644677d3b2fa77402ee751e2ae16445a1dfa4cff31f9a", func := "loop.example/g00857/laws.FnExactSamePattern", spec := "fnExactSamePattern", apart := false, narrowed := true }
def FnExactSamePatternUptoSaid : Prop := fnExactSamePatternUptoRow.holds Try.pinned (OpenSpec.upto fnExactSamePatternSpec)

/-- 'laws.FnExactSectorSymmetries', WHERE WHAT IT READS IS OF BULK AT MOST 1048576: true; the input reads as it did. -/
def fnExactSectorSymmetriesUptoRow : OpenClaim := { program := "ytjldcnibdddioaa", sum := "7fbcc557f038a671452644677d3b2fa77402ee751e2ae16445a1dfa4cff31f9a", func := "loop.example/g00857/laws.FnExactSectorSymmetries", spec := "fnExactSectorSymmetries", unfollowed := true, recurses := true, apart := false, narrowed := true }
def FnExactSectorSymmetriesUptoSaid : Prop := fnExactSectorSymmetriesUptoRow.holds Try.pinned (OpenSpec.upto fnExactSectorSymmetriesSpec)

/-- 'laws.FnExactComparePoints', WHERE WHAT IT READS IS OF BULK AT MOST 1048576: true; the input reads as it did. -/
def fnExactComparePointsUptoRow : OpenClaim := { program := "ytjldcnibdddioaa", sum := "7fbcc557f038a671452644677d3b2fa77402ee751e2ae16445a1dfa4cff31f9a", func := "loop.example/g00857/laws.FnExactComparePoints", spec := "fnExactComparePoints", apart := false, narrowed := true }
def FnExactComparePointsUptoSaid : Prop := fnExactComparePointsUptoRow.holds Try.pinned (OpenSpec.upto fnExactComparePointsSpec)

/-- 'laws.FnExactCanonicalSectors', WHERE WHAT IT READS IS OF BULK AT MOST 1048576: true; the input reads as it did. -/
def fnExactCanonicalSectorsUptoRow : OpenClaim := { program := "ytjldcnibdddioaa", sum := "7fbcc557f038a671452644677d3b2fa77402ee751e2ae16445a1dfa4cff31f9a", func := "loop.example/g00857/laws.FnExactCanonicalSectors", spec := "fnExactCanonicalSectors", unfollowed := true, recurses := true, apart := false, narrowed := true }
def FnExactCanonicalSectorsUptoSaid : Prop := fnExactCanonicalSectorsUptoRow.holds Try.pinned (OpenSpec.upto fnExactCanonicalSectorsSpec)

/-- 'laws.FnExactCountAssignments', WHERE WHAT IT READS IS OF BULK AT MOST 1048576: true; the input reads as it did. -/
def fnExactCountAssignmentsUptoRow : OpenClaim := { program := "ytjldcnibdddioaa", sum := "7fbcc557f038a671452644677d3b2fa77402ee751e2ae16445a1dfa4cff31f9a", func := "loop.example/g00857/laws.FnExactCountAssignments", spec := "fnExactCountAssignments", unfollowed := true, recurses := true, apart := false, narrowed := true }
def FnExactCountAssignmentsUptoSaid : Prop := fnExactCountAssignmentsUptoRow.holds Try.pinned (OpenSpec.upto fnExactCountAssignmentsSpec)

/-- 'laws.FnExactCrimpSectors', WHERE WHAT IT READS IS OF BULK AT MOST 1048576: true; the input reads as it did. -/
def fnExactCrimpSectorsUptoRow : OpenClaim := { program := "ytjldcnibdddioaa", sum := "7fbcc557f038a671452644677d3b2fa77402ee751e2ae16445a1dfa4cff31f9a", func := "loop.example/g00857/laws.FnExactCrimpSectors", spec := "fnExactCrimpSectors", unfollowed := true, recurses := true, apart := false, narrowed := true }
def FnExactCrimpSectorsUptoSaid : Prop := fnExactCrimpSectorsUptoRow.holds Try.pinned (OpenSpec.upto fnExactCrimpSectorsSpec)

end Rows
end Go.Proofs.Ytjldcnibdddioaa
