-- Printed for this claim by this session's program pp.py, which drives the kit's print with additions. Not trusted: Lean checks it.
import Derived.Test.YtakpnhlkalbcoaaRows
import Derived.Test.YtakpnhlkalbcoaaPFnExactSamePatternx6
import Derived.Test.YtakpnhlkalbcoaaPureFnExactSamePattern
import Derived.Test.YtakpnhlkalbcoaaOpen
import Derived.WalkKit
import Derived.ProofKit
import Derived.OpenShut
import Derived.ShutString
import Derived.ChangeOld
import Derived.Below
import Derived.SizedLaws
namespace Go.Proofs.Ytakpnhlkalbcoaa.fnExactSamePattern
open Go.ChangeShapes Go.WideShapes Go.ChangeAt Go.RowKit Go.Proofs.Ytakpnhlkalbcoaa.PFnExactSamePattern Go.Proofs.YtakpnhlkalbcoaaW.PrintWords
open Go.ChangeMaps (open_string shut_string)
set_option linter.unusedVariables false
theorem own : ownKnob Try.prog.godebug = none := by kernel_rfl
theorem laidOut : laidOutB Try.prog = true := by kernel_rfl
theorem op74 : Open.Opens Try.prog 74 k74 ok74 := Open.opens_iso _ (fun x => ⟨x.1, x.2.1, x.2.2⟩) (fun _ => rfl) (Open.opens_struct Try.underlying74 (by kernel_rfl) (Open.line_cons (Open.opens_int Try.underlying2 (by kernel_rfl)) rfl (Open.line_cons (Open.opens_int Try.underlying2 (by kernel_rfl)) rfl (Open.line_one (Open.opens_int Try.underlying2 (by kernel_rfl))) (by decide +kernel)) (by decide +kernel)))
theorem op76 : Open.Opens Try.prog 76 k76 ok76 := Open.opens_iso _ (fun x => ⟨x.1, x.2⟩) (fun _ => rfl) (Open.opens_struct Try.underlying76 (by kernel_rfl) (Open.line_cons op74 rfl (Open.line_one op74) (by decide +kernel)))
theorem op78 : Open.Opens Try.prog 78 k78 ok78 := Open.opens_iso _ (fun x => ⟨x.1, x.2.1, x.2.2⟩) (fun _ => rfl) (Open.opens_struct Try.underlying78 (by kernel_rfl) (Open.line_cons (Open.opens_int Try.underlying2 (by kernel_rfl)) rfl (Open.line_cons (Open.opens_int Try.underlying2 (by kernel_rfl)) rfl (Open.line_one (Open.opens_int Try.underlying2 (by kernel_rfl))) (by decide +kernel)) (by decide +kernel)))
theorem op34 : Open.Opens Try.prog 34 k34 ok34 := Open.opens_iso _ (fun x => ⟨x.1, x.2⟩) (fun _ => rfl) (Open.opens_struct Try.underlying34 (by kernel_rfl) (Open.line_cons (Open.opens_slice Try.underlying31 (by kernel_rfl) op76) rfl (Open.line_one (Open.opens_slice Try.underlying32 (by kernel_rfl) op78)) (by decide +kernel)))
set_option maxRecDepth 100000 in
theorem lifted (os : Os) (started : os.Started) (H : Type) (enc : TypeId × Value → H) :
    ReturnsInHanded {} Try.checked os 4 .any (Rows.fnExactSamePatternSpec.pre6 enc Try.prog Try.f4 Rows.fnExactSamePatternRow.domain false) (Rows.fnExactSamePatternSpec.post enc Try.prog Try.f4 false true false false) := by
  refine returnsInHanded_of_change_sized (C := Try.checked) own started (by kernel_rfl) Try.func4
    (ChangeSpec.witness6 (enc := enc) (C := Try.checked) false ⟨#[], #[(.agg #[.slice none 0 0, .slice none 0 0]), (.agg #[.slice none 0 0, .slice none 0 0])], []⟩ 8 (by kernel_rfl) (by kernel_rfl) (by kernel_rfl) (by kernel_rfl)) ?_
  intro W base args ds gs before hval0 hW hcnd hsz0 _
  have hval : ∀ (j : Nat) t v, Try.f4.params[j]? = some t → args[j]? = some v → Value.okWide Try.prog W .any base t v := hval0
  have hW' := hW
  obtain ⟨p, q, hA0, hV, rfl, hfz, hnd⟩ := hW
  have hA : DataW.TrodAll enc Try.prog W 0 (fun _ => true) true Try.f4.params.toList args.toList ds p := hA0
  rw [Try.params4] at hA hval
  obtain ⟨v0, vs0, d0, ds0, p0, q0, hargs, rfl, rfl, h0, r0⟩ := trodAll_cons hA
  obtain ⟨v1, vs1, d1, ds1, p1, q1, rfl, rfl, rfl, h1, r1⟩ := trodAll_cons r0
  obtain ⟨rfl, rfl, rfl⟩ := trodAll_nil r1
  obtain rfl : args = #[v0, v1] := by cases args; simp_all
  obtain ⟨rfl, rfl⟩ := trodVars_none hV
  have kk0 := h0
  have lt0 : ∀ x ∈ p0, x.block < W.heap.size := by obtain ⟨m, hm⟩ := kk0; exact DataW.trod_lt m _ _ _ hm
  obtain ⟨y0, cs0, rfl, K0, ok0_⟩ := Open.open_agg Try.underlying34 op34 (hval 0 34 v0 rfl rfl) h0
  obtain ⟨A0_0, c0_0, A0_1, c0_1, e0, hc0_0, hr0_0, hc0_1, hr0_1⟩ := k34_open K0
  obtain rfl : cs0 = #[.slice A0_0 y0.f0.length c0_0, .slice A0_1 y0.f1.length c0_1] := by cases cs0; simpa using e0
  have kk1 := h1
  have lt1 : ∀ x ∈ p1, x.block < W.heap.size := by obtain ⟨m, hm⟩ := kk1; exact DataW.trod_lt m _ _ _ hm
  obtain ⟨y1, cs1, rfl, K1, ok1_⟩ := Open.open_agg Try.underlying34 op34 (hval 1 34 v1 rfl rfl) h1
  obtain ⟨A1_0, c1_0, A1_1, c1_1, e1, hc1_0, hr1_0, hc1_1, hr1_1⟩ := k34_open K1
  obtain rfl : cs1 = #[.slice A1_0 y1.f0.length c1_0, .slice A1_1 y1.f1.length c1_1] := by cases cs1; simpa using e1
  clear hA0 hval0 hsz0
  obtain ⟨k, hP⟩ := Pure.FnExactSamePattern y0.f0 y0.f1 y1.f0 y1.f1 ok0_ ok1_
  refine (PFnExactSamePattern.laws_FnExactSamePattern.calls k _ _ y0.f0 _ _ y0.f1 _ _ y1.f0 _ _ y1.f1 true W hr0_0 hc0_0 hr0_1 hc0_1 hr1_0 hc1_0 hr1_1 hc1_1 hP).mono fun e W' ⟨he, bel0⟩ => ?_
  have bel : Below W.heap.size W W' := bel0
  subst he
  exact ⟨_, rfl, _, _, _, [], _, [], hW', trodAll_mk1 (shut_bool Try.underlying4 _), (trodAll_cons_mk (Below.trod laidOut (by kernel_rfl) (of_decide_eq_true (by kernel_rfl)) kk0 bel lt0) (trodAll_cons_mk (Below.trod laidOut (by kernel_rfl) (of_decide_eq_true (by kernel_rfl)) kk1 bel lt1) trodAll_mk0)), rfl, bel.frame _, fun h => by cases h⟩
theorem over : Rows.fnExactSamePatternRow.holds Try.pinned (OpenSpec.ofChange Rows.fnExactSamePatternSpec) :=
  OpenClaim.holds_of_wide 4 Try.f4 rfl rfl rfl rfl rfl rfl rfl ⟨rfl, rfl, rfl, rfl, rfl⟩ rfl rfl rfl rfl rfl (by kernel_rfl) Try.func4 (by kernel_rfl)
    (of_decide_eq_true (by kernel_rfl)) (by unfold Func.isWrapper; first | (rw [if_pos (by decide +kernel)]; kernel_rfl) | (rw [if_neg (by decide +kernel)]; exact ⟨rfl, rfl⟩))
    (fun os started H enc _ => lifted os started H enc)
theorem proved : Rows.FnExactSamePatternSaid := over
#print axioms proved
end Go.Proofs.Ytakpnhlkalbcoaa.fnExactSamePattern
namespace Go.Proofs.Ytakpnhlkalbcoaa
/-- The row, under a short name, for the claim. -/
theorem fnExactSamePattern_holds : Rows.FnExactSamePatternSaid := fnExactSamePattern.proved
end Go.Proofs.Ytakpnhlkalbcoaa
