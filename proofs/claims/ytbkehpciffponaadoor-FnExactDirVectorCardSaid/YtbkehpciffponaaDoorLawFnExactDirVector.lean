-- Printed for this claim by this session's program pp.py, which drives the kit's print with additions. Not trusted: Lean checks it.
import Derived.Test.YtbkehpciffponaaDoorRows
import Derived.Test.YtbkehpciffponaaDoorPFnExactDirVectorx1
import Derived.Test.YtbkehpciffponaaDoorPureFnExactDirVector
import Derived.Test.YtbkehpciffponaaDoorOpen
import Derived.WalkKit
import Derived.ProofKit
import Derived.OpenShut
import Derived.ShutString
import Derived.ChangeOld
import Derived.Below
import Derived.SizedLaws
import Derived.Test.YtbkehpciffponaaDoorCards
import Derived.Test.YtbkehpciffponaaDoorTie
import Derived.Test.YtbkehpciffponaaDoorFlat
import Derived.OpenVars
import Derived.LaidMore
import Derived.MakeChecks
import Derived.SevenTiedAt
import Derived.WalkLawsBesides
namespace Go.Proofs.YtbkehpciffponaaDoor.fnExactDirVector
open Go.ChangeShapes Go.WideShapes Go.ChangeAt Go.RowKit Go.Proofs.YtbkehpciffponaaDoor.PFnExactDirVector Go.Proofs.YtbkehpciffponaaDoorW.PrintWords
open Go.ChangeMaps (open_string shut_string)
set_option linter.unusedVariables false
theorem own : ownKnob Tryd.prog.godebug = none := by kernel_rfl
theorem laidOut : laidOutB Tryd.prog = true := by kernel_rfl
theorem fl2 : Flat.Flat Tryd.prog 2 1 Flat.flat1 := Flat.flat_int Tryd.underlying2 (by kernel_rfl)
theorem fl23 : Flat.Flat Tryd.prog 23 3 (Flat.flatUp Flat.flat1) := Flat.flat_struct2 (s := 1) Tryd.underlying23 fl2 (by kernel_rfl) (by decide +kernel)
theorem fl25 : Flat.Flat Tryd.prog 25 6 (Flat.flatUp (Flat.flatUp Flat.flat1)) := Flat.flat_struct2 (s := 3) Tryd.underlying25 fl23 (by kernel_rfl) (by decide +kernel)
theorem flV : Flat.Flat Tryd.prog 33 (8 * 6) (Flat.flatUp (Flat.flatUp (Flat.flatUp Flat.flat1))) := Flat.flat_array Tryd.underlying33 (by kernel_rfl) fl25
theorem gV : Tryd.prog.globalNamed "loop.example/g00857/impl.vectors" = some 0 := by kernel_rfl
theorem tV : (Tryd.prog.globals[0]?).map (·.type) = some 33 := by kernel_rfl
/-- What the row's list gives: the cells. -/
theorem laidV {W : World} (h : laidMetH Tryd.prog Rows.fnExactDirVectorRow.laid W) : LaidV W := by
  rw [MakeChecks.laidMetH_plain _ _ _ (by kernel_rfl)] at h
  obtain ⟨ps, ⟨g0, t0, cs0, f0, p0, q0, hg0, ht0, hv0, hd0, _⟩, _⟩ := h
  obtain rfl := Option.some.inj (gV.symm.trans hg0)
  obtain rfl := Option.some.inj (tV.symm.trans ht0)
  have hc : cs0.toList = gvCells0 := (flV.op hd0).1.trans (by rfl)
  refine laidV_of_cells fun off => ?_
  rw [World.var?_cell hg0 hv0 off, ← hc, Array.getElem?_toList]
/-- The door's own heap meets the condition. -/
theorem door_met (os : Os) (args : Array Value) : laidMetH Tryd.prog Rows.fnExactDirVectorRow.laid ((World.doorLaid Tryd.prog 4000 os).forCall (fun _ _ => 0) ⟨#[], args, []⟩).memory :=
  laidMetH_of_parts3 (fuel := 8) (laidMet_of_run' 8 (by kernel_rfl) (by kernel_rfl)) (by kernel_rfl) (by kernel_rfl)
set_option maxRecDepth 100000 in
theorem lifted (os : Os) (started : os.Started) (H : Type) (enc : TypeId × Value → H) :
    ReturnsInHanded {} Tryd.checked os 3 .any (fun w args => (Rows.fnExactDirVectorSpec.pre enc Tryd.prog Tryd.f3 [] false w args ∧ laidMetH Tryd.prog Rows.fnExactDirVectorRow.laid w) ∧ sizedMet enc Tryd.prog Tryd.f3 (OpenSpec.ofChange Rows.fnExactDirVectorSpec) false w args)
      (Rows.fnExactDirVectorSpec.post enc Tryd.prog Tryd.f3 false true false false) := by
  refine returnsInHanded_of_change_and (C := Tryd.checked) (X := fun w _ => laidMetH Tryd.prog Rows.fnExactDirVectorRow.laid w) (fun _ _ _ hh h => h.of_heap hh) own started (by kernel_rfl) Tryd.func3
    (ChangeSpec.witness_shaped (enc := enc) (C := Tryd.checked) (os := os) (X := fun w _ => laidMetH Tryd.prog Rows.fnExactDirVectorRow.laid w) false (World.doorLaid Tryd.prog 4000 os) #[.int .i64 0] 8 rfl (World.shaped_of_RefB (by kernel_rfl) (by kernel_rfl)) (by kernel_rfl) (by kernel_rfl) (by kernel_rfl) (door_met os _)) ?_
  intro W base args ds gs before hval0 hW _ hsz0 hL _
  have hval : ∀ (j : Nat) t v, Tryd.f3.params[j]? = some t → args[j]? = some v → Value.okWide Tryd.prog W .any base t v := hval0
  have hW' := hW
  obtain ⟨p, q, hA0, hV, rfl, hfz, hnd⟩ := hW
  have hA : DataW.TrodAll enc Tryd.prog W 0 (fun _ => true) true Tryd.f3.params.toList args.toList ds p := hA0
  rw [Tryd.params3] at hA hval
  obtain ⟨v0, vs0, d0, ds0, p0, q0, hargs, rfl, rfl, h0, r0⟩ := trodAll_cons hA
  obtain ⟨rfl, rfl, rfl⟩ := trodAll_nil r0
  obtain rfl : args = #[v0] := by cases args; simp_all
  have hV0 : DataW.TrodVars enc Tryd.prog W (fun _ => true) Rows.fnExactDirVectorSpec.vars gs q := hV
  have hV' := hV0
  obtain ⟨g_, t_, cs_, fu_, d_, pv_, rfl, hg_, ht_, hv_, hd_, hq_⟩ := trodVars_one hV0
  obtain ⟨a0, rfl, rfl, rfl, w0⟩ := open_int Tryd.underlying2 (hval 0 2 v0 rfl rfl) h0
  clear hA0 hval0 hsz0
  have hP := Pure.FnExactDirVector a0 w0
  refine (PFnExactDirVector.laws_FnExactDirVector.calls a0 true W (laidV hL)  hP).mono fun e W' ⟨he, bel0⟩ => ?_
  have bel : Below W.heap.size W W' := bel0
  subst he
  exact ⟨_, rfl, _, _, _, [], _, _, hW', trodAll_mk1 (shut_bool Tryd.underlying4 _), (trodAll_cons_mk (shut_int Tryd.underlying2 w0) trodAll_mk0), Below.trodVars laidOut bel (by kernel_rfl) hV', bel.frame _, fun h => by cases h⟩
theorem over : Rows.fnExactDirVectorRow.holds Tryd.pinned (OpenSpec.ofChange Rows.fnExactDirVectorSpec) :=
  OpenClaim.holds_of_wide 3 Tryd.f3 rfl rfl rfl rfl rfl rfl rfl ⟨rfl, rfl, rfl, rfl, rfl⟩ rfl rfl rfl rfl rfl (by kernel_rfl) Tryd.func3 (by kernel_rfl)
    (of_decide_eq_true (by kernel_rfl)) (by unfold Func.isWrapper; first | (rw [if_pos (by decide +kernel)]; kernel_rfl) | (rw [if_neg (by decide +kernel)]; exact ⟨rfl, rfl⟩))
    (fun os started H enc _ => lifted os started H enc)
theorem proved : Rows.FnExactDirVectorSaid := over
#print axioms proved
/-- No parameter wants a stand-in. -/
theorem plain (f : FuncId) (fn : Func) (hf : Tryd.pinned.checked.prog.funcNamed "loop.example/g00857/laws.FnExactDirVector" = some f) (hfn : Tryd.pinned.checked.prog.funcs[f]? = some fn) :
    false = Tryd.pinned.checked.prog.looks [] ∧ ∀ (j : Nat) t, fn.params[j]? = some t → Tryd.pinned.checked.prog.wantsStandIn t = false := by
  obtain rfl : f = 3 := Option.some.inj ((show Tryd.prog.funcNamed "loop.example/g00857/laws.FnExactDirVector" = some 3 by kernel_rfl).symm.trans hf) |>.symm
  obtain rfl : fn = Tryd.f3 := (Option.some.inj (Tryd.func3.symm.trans hfn)).symm
  refine ⟨by kernel_rfl, fun j t ht => ?_⟩
  rw [Tryd.params3] at ht
  have hm := Array.mem_of_getElem? ht
  have : t = 2 := by simpa using hm
  rcases this with rfl
  · exact (show Tryd.prog.wantsStandIn 2 = false by kernel_rfl)
theorem card : Rows.FnExactDirVectorCardSaid :=
  Claim7.holds_tied_plain_at .later [] _ _ _ _ proved (fun _ h => by cases h) (by kernel_rfl) (fun _ h => by cases h) fnExactDirVector_row_tie rfl ⟨rfl, rfl⟩ (by kernel_rfl) rfl plain (by kernel_rfl)
#print axioms card
end Go.Proofs.YtbkehpciffponaaDoor.fnExactDirVector
namespace Go.Proofs.YtbkehpciffponaaDoor
theorem fnExactDirVectorCard_holds : Rows.FnExactDirVectorCardSaid := fnExactDirVector.card
end Go.Proofs.YtbkehpciffponaaDoor
namespace Go.Proofs.YtbkehpciffponaaDoor.fnExactDirVector
end Go.Proofs.YtbkehpciffponaaDoor.fnExactDirVector
namespace Go.Proofs.YtbkehpciffponaaDoor
/-- The row, under a short name, for the claim. -/
theorem fnExactDirVector_holds : Rows.FnExactDirVectorSaid := fnExactDirVector.proved
end Go.Proofs.YtbkehpciffponaaDoor
