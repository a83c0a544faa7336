-- Printed for this claim by this session's program pp.py, which drives the kit's print with additions. Not trusted: Lean checks it.
import Derived.Test.YtakpnhlkalbcoaaDoorRows
import Derived.Test.YtakpnhlkalbcoaaDoorZ1PFnExactDirectionOfx9
import Derived.Test.YtakpnhlkalbcoaaDoorZ1PureFnExactDirectionOf
import Derived.Test.YtakpnhlkalbcoaaDoorZ1Open
import Derived.WalkKit
import Derived.ProofKit
import Derived.OpenShut
import Derived.ShutString
import Derived.ChangeOld
import Derived.Below
import Derived.SizedLaws
import Derived.Test.YtakpnhlkalbcoaaDoorCards
import Derived.Test.YtakpnhlkalbcoaaDoorTie
import Derived.Test.YtakpnhlkalbcoaaDoorZ1Flat
import Derived.OpenVars
import Derived.LaidMore
import Derived.MakeChecks
import Derived.SevenTiedAt
import Derived.WalkLawsBesides
namespace Go.Proofs.YtakpnhlkalbcoaaDoor.fnExactDirectionOf
open Go.ChangeShapes Go.WideShapes Go.ChangeAt Go.RowKit Go.Proofs.YtakpnhlkalbcoaaDoor.PFnExactDirectionOf Go.Proofs.YtakpnhlkalbcoaaDoorW.PrintWords
open Go.ChangeMaps (open_string shut_string)
set_option linter.unusedVariables false
theorem own : ownKnob Tryd.prog.godebug = none := by kernel_rfl
theorem laidOut : laidOutB Tryd.prog = true := by kernel_rfl
theorem op23 : Open.Opens Tryd.prog 23 k23 ok23 := Open.opens_iso _ (fun x => ⟨x.1, x.2.1, x.2.2⟩) (fun _ => rfl) (Open.opens_struct Tryd.underlying23 (by kernel_rfl) (Open.line_cons (Open.opens_int Tryd.underlying2 (by kernel_rfl)) rfl (Open.line_cons (Open.opens_int Tryd.underlying2 (by kernel_rfl)) rfl (Open.line_one (Open.opens_int Tryd.underlying2 (by kernel_rfl))) (by decide +kernel)) (by decide +kernel)))
theorem op25 : Open.Opens Tryd.prog 25 k25 ok25 := Open.opens_iso _ (fun x => ⟨x.1, x.2⟩) (fun _ => rfl) (Open.opens_struct Tryd.underlying25 (by kernel_rfl) (Open.line_cons op23 rfl (Open.line_one op23) (by decide +kernel)))
theorem fl2 : Flat.Flat Tryd.prog 2 1 Flat.flat1 := Flat.flat_int Tryd.underlying2 (by kernel_rfl)
theorem fl27 : Flat.Flat Tryd.prog 27 3 (Flat.flatUp Flat.flat1) := Flat.flat_struct2 (s := 1) Tryd.underlying27 fl2 (by kernel_rfl) (by decide +kernel)
theorem fl29 : Flat.Flat Tryd.prog 29 6 (Flat.flatUp (Flat.flatUp Flat.flat1)) := Flat.flat_struct2 (s := 3) Tryd.underlying29 fl27 (by kernel_rfl) (by decide +kernel)
theorem flV : Flat.Flat Tryd.prog 70 (8 * 6) (Flat.flatUp (Flat.flatUp (Flat.flatUp Flat.flat1))) := Flat.flat_array Tryd.underlying70 (by kernel_rfl) fl29
theorem gV : Tryd.prog.globalNamed "loop.example/g00857/impl.vectors" = some 0 := by kernel_rfl
theorem tV : (Tryd.prog.globals[0]?).map (·.type) = some 70 := by kernel_rfl
/-- What the row's list gives: the cells. -/
theorem laidV {W : World} (h : laidMetH Tryd.prog Rows.fnExactDirectionOfRow.laid W) : LaidV W := by
  rw [MakeChecks.laidMetH_plain _ _ _ (by kernel_rfl)] at h
  obtain ⟨ps, ⟨g0, t0, cs0, f0, p0, q0, hg0, ht0, hv0, hd0, _⟩, _⟩ := h
  obtain rfl := Option.some.inj (gV.symm.trans hg0)
  obtain rfl := Option.some.inj (tV.symm.trans ht0)
  have hc : cs0.toList = gvCells0 := (flV.op hd0).1.trans (by rfl)
  refine laidV_of_cells fun off => ?_
  rw [World.var?_cell hg0 hv0 off, ← hc, Array.getElem?_toList]
/-- The door's own heap meets the condition. -/
theorem door_met (os : Os) (args : Array Value) : laidMetH Tryd.prog Rows.fnExactDirectionOfRow.laid ((World.doorLaid Tryd.prog 4000 os).forCall (fun _ _ => 0) ⟨#[], args, []⟩).memory :=
  laidMetH_of_parts3 (fuel := 8) (laidMet_of_run' 8 (by kernel_rfl) (by kernel_rfl)) (by kernel_rfl) (by kernel_rfl)
set_option maxRecDepth 100000 in
theorem lifted (os : Os) (started : os.Started) (H : Type) (enc : TypeId × Value → H) :
    ReturnsInHanded {} Tryd.checked os 3 .any (fun w args => (Rows.fnExactDirectionOfSpec.pre enc Tryd.prog Tryd.f3 [] false w args ∧ laidMetH Tryd.prog Rows.fnExactDirectionOfRow.laid w) ∧ sizedMet enc Tryd.prog Tryd.f3 (OpenSpec.ofChange Rows.fnExactDirectionOfSpec) false w args)
      (Rows.fnExactDirectionOfSpec.post enc Tryd.prog Tryd.f3 false true false false) := by
  refine returnsInHanded_of_change_and (C := Tryd.checked) (X := fun w _ => laidMetH Tryd.prog Rows.fnExactDirectionOfRow.laid w) (fun _ _ _ hh h => h.of_heap hh) own started (by kernel_rfl) Tryd.func3
    (ChangeSpec.witness_shaped (enc := enc) (C := Tryd.checked) (os := os) (X := fun w _ => laidMetH Tryd.prog Rows.fnExactDirectionOfRow.laid w) false (World.doorLaid Tryd.prog 4000 os) #[(.agg #[.int .i64 0, .int .i64 0, .int .i64 0, .int .i64 0, .int .i64 0, .int .i64 0]), (.agg #[.int .i64 0, .int .i64 0, .int .i64 0, .int .i64 0, .int .i64 0, .int .i64 0])] 8 rfl (World.shaped_of_RefB (by kernel_rfl) (by kernel_rfl)) (by kernel_rfl) (by kernel_rfl) (by kernel_rfl) (door_met os _)) ?_
  intro W base args ds gs before hval0 hW _ hsz0 hL _
  have hval : ∀ (j : Nat) t v, Tryd.f3.params[j]? = some t → args[j]? = some v → Value.okWide Tryd.prog W .any base t v := hval0
  have hW' := hW
  obtain ⟨p, q, hA0, hV, rfl, hfz, hnd⟩ := hW
  have hA : DataW.TrodAll enc Tryd.prog W 0 (fun _ => true) true Tryd.f3.params.toList args.toList ds p := hA0
  rw [Tryd.params3] at hA hval
  obtain ⟨v0, vs0, d0, ds0, p0, q0, hargs, rfl, rfl, h0, r0⟩ := trodAll_cons hA
  obtain ⟨v1, vs1, d1, ds1, p1, q1, rfl, rfl, rfl, h1, r1⟩ := trodAll_cons r0
  obtain ⟨rfl, rfl, rfl⟩ := trodAll_nil r1
  obtain rfl : args = #[v0, v1] := by cases args; simp_all
  have hV0 : DataW.TrodVars enc Tryd.prog W (fun _ => true) Rows.fnExactDirectionOfSpec.vars gs q := hV
  have hV' := hV0
  obtain ⟨g_, t_, cs_, fu_, d_, pv_, rfl, hg_, ht_, hv_, hd_, hq_⟩ := trodVars_one hV0
  have kk0 := h0
  have lt0 : ∀ x ∈ p0, x.block < W.heap.size := by obtain ⟨m, hm⟩ := kk0; exact DataW.trod_lt m _ _ _ hm
  obtain ⟨y0, cs0, rfl, K0, ok0_⟩ := Open.open_agg Tryd.underlying25 op25 (hval 0 25 v0 rfl rfl) h0
  have e0 := k25_open K0
  obtain rfl : cs0 = #[.int .i64 y0.f0.f0, .int .i64 y0.f0.f1, .int .i64 y0.f0.f2, .int .i64 y0.f1.f0, .int .i64 y0.f1.f1, .int .i64 y0.f1.f2] := by cases cs0; simpa using e0
  have kk1 := h1
  have lt1 : ∀ x ∈ p1, x.block < W.heap.size := by obtain ⟨m, hm⟩ := kk1; exact DataW.trod_lt m _ _ _ hm
  obtain ⟨y1, cs1, rfl, K1, ok1_⟩ := Open.open_agg Tryd.underlying25 op25 (hval 1 25 v1 rfl rfl) h1
  have e1 := k25_open K1
  obtain rfl : cs1 = #[.int .i64 y1.f0.f0, .int .i64 y1.f0.f1, .int .i64 y1.f0.f2, .int .i64 y1.f1.f0, .int .i64 y1.f1.f1, .int .i64 y1.f1.f2] := by cases cs1; simpa using e1
  clear hA0 hval0 hsz0
  obtain ⟨k, hP⟩ := Pure.FnExactDirectionOf y0.f0.f0 y0.f0.f1 y0.f0.f2 y0.f1.f0 y0.f1.f1 y0.f1.f2 y1.f0.f0 y1.f0.f1 y1.f0.f2 y1.f1.f0 y1.f1.f1 y1.f1.f2 ok0_ ok1_
  refine (PFnExactDirectionOf.laws_FnExactDirectionOf.calls k y0.f0.f0 y0.f0.f1 y0.f0.f2 y0.f1.f0 y0.f1.f1 y0.f1.f2 y1.f0.f0 y1.f0.f1 y1.f0.f2 y1.f1.f0 y1.f1.f1 y1.f1.f2 true W (laidV hL)  hP).mono fun e W' ⟨he, bel0⟩ => ?_
  have bel : Below W.heap.size W W' := bel0
  subst he
  exact ⟨_, rfl, _, _, _, [], _, _, hW', trodAll_mk1 (shut_bool Tryd.underlying4 _), (trodAll_cons_mk (Below.trod laidOut (by kernel_rfl) (of_decide_eq_true (by kernel_rfl)) kk0 bel lt0) (trodAll_cons_mk (Below.trod laidOut (by kernel_rfl) (of_decide_eq_true (by kernel_rfl)) kk1 bel lt1) trodAll_mk0)), Below.trodVars laidOut bel (by kernel_rfl) hV', bel.frame _, fun h => by cases h⟩
theorem over : Rows.fnExactDirectionOfRow.holds Tryd.pinned (OpenSpec.ofChange Rows.fnExactDirectionOfSpec) :=
  OpenClaim.holds_of_wide 3 Tryd.f3 rfl rfl rfl rfl rfl rfl rfl ⟨rfl, rfl, rfl, rfl, rfl⟩ rfl rfl rfl rfl rfl (by kernel_rfl) Tryd.func3 (by kernel_rfl)
    (of_decide_eq_true (by kernel_rfl)) (by unfold Func.isWrapper; first | (rw [if_pos (by decide +kernel)]; kernel_rfl) | (rw [if_neg (by decide +kernel)]; exact ⟨rfl, rfl⟩))
    (fun os started H enc _ => lifted os started H enc)
theorem proved : Rows.FnExactDirectionOfSaid := over
#print axioms proved
/-- No parameter wants a stand-in. -/
theorem plain (f : FuncId) (fn : Func) (hf : Tryd.pinned.checked.prog.funcNamed "loop.example/g00857/laws.FnExactDirectionOf" = some f) (hfn : Tryd.pinned.checked.prog.funcs[f]? = some fn) :
    false = Tryd.pinned.checked.prog.looks [] ∧ ∀ (j : Nat) t, fn.params[j]? = some t → Tryd.pinned.checked.prog.wantsStandIn t = false := by
  obtain rfl : f = 3 := Option.some.inj ((show Tryd.prog.funcNamed "loop.example/g00857/laws.FnExactDirectionOf" = some 3 by kernel_rfl).symm.trans hf) |>.symm
  obtain rfl : fn = Tryd.f3 := (Option.some.inj (Tryd.func3.symm.trans hfn)).symm
  refine ⟨by kernel_rfl, fun j t ht => ?_⟩
  rw [Tryd.params3] at ht
  have hm := Array.mem_of_getElem? ht
  have : t = 25 ∨ t = 25 := by simpa using hm
  rcases this with rfl | rfl
  · exact (show Tryd.prog.wantsStandIn 25 = false by kernel_rfl)
  · exact (show Tryd.prog.wantsStandIn 25 = false by kernel_rfl)
theorem card : Rows.FnExactDirectionOfCardSaid :=
  Claim7.holds_tied_plain_at .later [] _ _ _ _ proved (fun _ h => by cases h) (by kernel_rfl) (fun _ h => by cases h) fnExactDirectionOf_row_tie rfl ⟨rfl, rfl⟩ (by kernel_rfl) rfl plain (by kernel_rfl)
#print axioms card
end Go.Proofs.YtakpnhlkalbcoaaDoor.fnExactDirectionOf
namespace Go.Proofs.YtakpnhlkalbcoaaDoor
theorem fnExactDirectionOfCard_holds : Rows.FnExactDirectionOfCardSaid := fnExactDirectionOf.card
end Go.Proofs.YtakpnhlkalbcoaaDoor
namespace Go.Proofs.YtakpnhlkalbcoaaDoor.fnExactDirectionOf
end Go.Proofs.YtakpnhlkalbcoaaDoor.fnExactDirectionOf
namespace Go.Proofs.YtakpnhlkalbcoaaDoor
/-- The row, under a short name, for the claim. -/
theorem fnExactDirectionOf_holds : Rows.FnExactDirectionOfSaid := fnExactDirectionOf.proved
end Go.Proofs.YtakpnhlkalbcoaaDoor
