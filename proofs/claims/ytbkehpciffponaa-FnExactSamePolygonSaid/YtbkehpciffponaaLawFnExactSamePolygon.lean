-- Printed for this claim by this session's program pp.py, which drives the kit's print with additions. Not trusted: Lean checks it.
import Derived.Test.YtbkehpciffponaaRows
import Derived.Test.YtbkehpciffponaaPFnExactSamePolygonx3
import Derived.Test.YtbkehpciffponaaPureFnExactSamePolygon
import Derived.Test.YtbkehpciffponaaOpen
import Derived.WalkKit
import Derived.ProofKit
import Derived.OpenShut
import Derived.ShutString
import Derived.ChangeOld
import Derived.Below
import Derived.SizedLaws
namespace Go.Proofs.Ytbkehpciffponaa.fnExactSamePolygon
open Go.ChangeShapes Go.WideShapes Go.ChangeAt Go.RowKit Go.Proofs.Ytbkehpciffponaa.PFnExactSamePolygon Go.Proofs.YtbkehpciffponaaW.PrintWords
open Go.ChangeMaps (open_string shut_string)
set_option linter.unusedVariables false
theorem own : ownKnob Try.prog.godebug = none := by kernel_rfl
theorem laidOut : laidOutB Try.prog = true := by kernel_rfl
theorem op44 : Open.Opens Try.prog 44 k44 ok44 := Open.opens_iso _ (fun x => ⟨x.1, x.2.1, x.2.2⟩) (fun _ => rfl) (Open.opens_struct Try.underlying44 (by kernel_rfl) (Open.line_cons (Open.opens_int Try.underlying2 (by kernel_rfl)) rfl (Open.line_cons (Open.opens_int Try.underlying2 (by kernel_rfl)) rfl (Open.line_one (Open.opens_int Try.underlying2 (by kernel_rfl))) (by decide +kernel)) (by decide +kernel)))
theorem op65 : Open.Opens Try.prog 65 k65 ok65 := Open.opens_iso _ (fun x => ⟨x.1, x.2⟩) (fun _ => rfl) (Open.opens_struct Try.underlying65 (by kernel_rfl) (Open.line_cons op44 rfl (Open.line_one op44) (by decide +kernel)))
set_option maxRecDepth 100000 in
theorem lifted (os : Os) (started : os.Started) (H : Type) (enc : TypeId × Value → H) :
    ReturnsInHanded {} Try.checked os 7 .any (Rows.fnExactSamePolygonSpec.pre6 enc Try.prog Try.f7 Rows.fnExactSamePolygonRow.domain false) (Rows.fnExactSamePolygonSpec.post enc Try.prog Try.f7 false true false false) := by
  refine returnsInHanded_of_change_sized (C := Try.checked) own started (by kernel_rfl) Try.func7
    (ChangeSpec.witness6 (enc := enc) (C := Try.checked) false ⟨#[], #[.slice none 0 0, .slice none 0 0], []⟩ 8 (by kernel_rfl) (by kernel_rfl) (by kernel_rfl) (by kernel_rfl)) ?_
  intro W base args ds gs before hval0 hW hcnd hsz0 _
  have hval : ∀ (j : Nat) t v, Try.f7.params[j]? = some t → args[j]? = some v → Value.okWide Try.prog W .any base t v := hval0
  have hW' := hW
  obtain ⟨p, q, hA0, hV, rfl, hfz, hnd⟩ := hW
  have hA : DataW.TrodAll enc Try.prog W 0 (fun _ => true) true Try.f7.params.toList args.toList ds p := hA0
  rw [Try.params7] at hA hval
  obtain ⟨v0, vs0, d0, ds0, p0, q0, hargs, rfl, rfl, h0, r0⟩ := trodAll_cons hA
  obtain ⟨v1, vs1, d1, ds1, p1, q1, rfl, rfl, rfl, h1, r1⟩ := trodAll_cons r0
  obtain ⟨rfl, rfl, rfl⟩ := trodAll_nil r1
  obtain rfl : args = #[v0, v1] := by cases args; simp_all
  obtain ⟨rfl, rfl⟩ := trodVars_none hV
  have kk0 := h0
  have lt0 : ∀ x ∈ p0, x.block < W.heap.size := by obtain ⟨m, hm⟩ := kk0; exact DataW.trod_lt m _ _ _ hm
  obtain ⟨l0, A0, c0, rfl, hc0, hr0, ok0_⟩ := Open.open_row Try.underlying31 (Open.opens_slice Try.underlying31 (by kernel_rfl) op65) (hval 0 31 v0 rfl rfl) h0
  have kk1 := h1
  have lt1 : ∀ x ∈ p1, x.block < W.heap.size := by obtain ⟨m, hm⟩ := kk1; exact DataW.trod_lt m _ _ _ hm
  obtain ⟨l1, A1, c1, rfl, hc1, hr1, ok1_⟩ := Open.open_row Try.underlying31 (Open.opens_slice Try.underlying31 (by kernel_rfl) op65) (hval 1 31 v1 rfl rfl) h1
  clear hA0 hval0 hsz0
  obtain ⟨k, hP⟩ := Pure.FnExactSamePolygon l0 l1 ok0_ ok1_
  refine (PFnExactSamePolygon.laws_FnExactSamePolygon.calls k _ _ l0 _ _ l1 true W hr0 hc0 hr1 hc1 hP).mono fun e W' ⟨he, bel0⟩ => ?_
  have bel : Below W.heap.size W W' := bel0
  subst he
  exact ⟨_, rfl, _, _, _, [], _, [], hW', trodAll_mk1 (shut_bool Try.underlying4 _), (trodAll_cons_mk (Below.trod laidOut (by kernel_rfl) (of_decide_eq_true (by kernel_rfl)) kk0 bel lt0) (trodAll_cons_mk (Below.trod laidOut (by kernel_rfl) (of_decide_eq_true (by kernel_rfl)) kk1 bel lt1) trodAll_mk0)), rfl, bel.frame _, fun h => by cases h⟩
theorem over : Rows.fnExactSamePolygonRow.holds Try.pinned (OpenSpec.ofChange Rows.fnExactSamePolygonSpec) :=
  OpenClaim.holds_of_wide 7 Try.f7 rfl rfl rfl rfl rfl rfl rfl ⟨rfl, rfl, rfl, rfl, rfl⟩ rfl rfl rfl rfl rfl (by kernel_rfl) Try.func7 (by kernel_rfl)
    (of_decide_eq_true (by kernel_rfl)) (by unfold Func.isWrapper; first | (rw [if_pos (by decide +kernel)]; kernel_rfl) | (rw [if_neg (by decide +kernel)]; exact ⟨rfl, rfl⟩))
    (fun os started H enc _ => lifted os started H enc)
theorem proved : Rows.FnExactSamePolygonSaid := over
#print axioms proved
end Go.Proofs.Ytbkehpciffponaa.fnExactSamePolygon
namespace Go.Proofs.Ytbkehpciffponaa
/-- The row, under a short name, for the claim. -/
theorem fnExactSamePolygon_holds : Rows.FnExactSamePolygonSaid := fnExactSamePolygon.proved
end Go.Proofs.Ytbkehpciffponaa
