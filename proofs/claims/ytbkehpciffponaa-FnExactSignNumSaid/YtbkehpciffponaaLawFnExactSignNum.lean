-- Printed for this claim by this session's program pp.py, which drives the kit's print with additions. Not trusted: Lean checks it.
import Derived.Test.YtbkehpciffponaaRows
import Derived.Test.YtbkehpciffponaaPFnExactSignNumx2
import Derived.Test.YtbkehpciffponaaPureFnExactSignNum
import Derived.Test.YtbkehpciffponaaOpen
import Derived.WalkKit
import Derived.ProofKit
import Derived.OpenShut
import Derived.ShutString
import Derived.ChangeOld
import Derived.Below
import Derived.SizedLaws
namespace Go.Proofs.Ytbkehpciffponaa.fnExactSignNum
open Go.ChangeShapes Go.WideShapes Go.ChangeAt Go.RowKit Go.Proofs.Ytbkehpciffponaa.PFnExactSignNum Go.Proofs.YtbkehpciffponaaW.PrintWords
open Go.ChangeMaps (open_string shut_string)
set_option linter.unusedVariables false
theorem own : ownKnob Try.prog.godebug = none := by kernel_rfl
theorem laidOut : laidOutB Try.prog = true := by kernel_rfl
theorem op44 : Open.Opens Try.prog 44 k44 ok44 := Open.opens_iso _ (fun x => ⟨x.1, x.2.1, x.2.2⟩) (fun _ => rfl) (Open.opens_struct Try.underlying44 (by kernel_rfl) (Open.line_cons (Open.opens_int Try.underlying2 (by kernel_rfl)) rfl (Open.line_cons (Open.opens_int Try.underlying2 (by kernel_rfl)) rfl (Open.line_one (Open.opens_int Try.underlying2 (by kernel_rfl))) (by decide +kernel)) (by decide +kernel)))
set_option maxRecDepth 100000 in
theorem lifted (os : Os) (started : os.Started) (H : Type) (enc : TypeId × Value → H) :
    ReturnsInHanded {} Try.checked os 11 .any (Rows.fnExactSignNumSpec.pre6 enc Try.prog Try.f11 Rows.fnExactSignNumRow.domain false) (Rows.fnExactSignNumSpec.post enc Try.prog Try.f11 false true false false) := by
  refine returnsInHanded_of_change_sized (C := Try.checked) own started (by kernel_rfl) Try.func11
    (ChangeSpec.witness6 (enc := enc) (C := Try.checked) false ⟨#[], #[(.agg #[.int .i64 0, .int .i64 0, .int .i64 0])], []⟩ 8 (by kernel_rfl) (by kernel_rfl) (by kernel_rfl) (by kernel_rfl)) ?_
  intro W base args ds gs before hval0 hW hcnd hsz0 _
  have hval : ∀ (j : Nat) t v, Try.f11.params[j]? = some t → args[j]? = some v → Value.okWide Try.prog W .any base t v := hval0
  have hW' := hW
  obtain ⟨p, q, hA0, hV, rfl, hfz, hnd⟩ := hW
  have hA : DataW.TrodAll enc Try.prog W 0 (fun _ => true) true Try.f11.params.toList args.toList ds p := hA0
  rw [Try.params11] at hA hval
  obtain ⟨v0, vs0, d0, ds0, p0, q0, hargs, rfl, rfl, h0, r0⟩ := trodAll_cons hA
  obtain ⟨rfl, rfl, rfl⟩ := trodAll_nil r0
  obtain rfl : args = #[v0] := by cases args; simp_all
  obtain ⟨rfl, rfl⟩ := trodVars_none hV
  have kk0 := h0
  have lt0 : ∀ x ∈ p0, x.block < W.heap.size := by obtain ⟨m, hm⟩ := kk0; exact DataW.trod_lt m _ _ _ hm
  obtain ⟨y0, cs0, rfl, K0, ok0_⟩ := Open.open_agg Try.underlying44 op44 (hval 0 44 v0 rfl rfl) h0
  have e0 := k44_open K0
  obtain rfl : cs0 = #[.int .i64 y0.f0, .int .i64 y0.f1, .int .i64 y0.f2] := by cases cs0; simpa using e0
  clear hA0 hval0 hsz0
  obtain ⟨k, hP⟩ := Pure.FnExactSignNum y0.f0 y0.f1 y0.f2 ok0_
  refine (PFnExactSignNum.laws_FnExactSignNum.calls k y0.f0 y0.f1 y0.f2 true W  hP).mono fun e W' ⟨he, bel0⟩ => ?_
  have bel : Below W.heap.size W W' := bel0
  subst he
  exact ⟨_, rfl, _, _, _, [], _, [], hW', trodAll_mk1 (shut_bool Try.underlying4 _), (trodAll_cons_mk (Below.trod laidOut (by kernel_rfl) (of_decide_eq_true (by kernel_rfl)) kk0 bel lt0) trodAll_mk0), rfl, bel.frame _, fun h => by cases h⟩
theorem over : Rows.fnExactSignNumRow.holds Try.pinned (OpenSpec.ofChange Rows.fnExactSignNumSpec) :=
  OpenClaim.holds_of_wide 11 Try.f11 rfl rfl rfl rfl rfl rfl rfl ⟨rfl, rfl, rfl, rfl, rfl⟩ rfl rfl rfl rfl rfl (by kernel_rfl) Try.func11 (by kernel_rfl)
    (of_decide_eq_true (by kernel_rfl)) (by unfold Func.isWrapper; first | (rw [if_pos (by decide +kernel)]; kernel_rfl) | (rw [if_neg (by decide +kernel)]; exact ⟨rfl, rfl⟩))
    (fun os started H enc _ => lifted os started H enc)
theorem proved : Rows.FnExactSignNumSaid := over
#print axioms proved
end Go.Proofs.Ytbkehpciffponaa.fnExactSignNum
namespace Go.Proofs.Ytbkehpciffponaa
/-- The row, under a short name, for the claim. -/
theorem fnExactSignNum_holds : Rows.FnExactSignNumSaid := fnExactSignNum.proved
end Go.Proofs.Ytbkehpciffponaa
