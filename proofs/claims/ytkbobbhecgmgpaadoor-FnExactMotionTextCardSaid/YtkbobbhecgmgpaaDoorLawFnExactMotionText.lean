-- Printed for this claim by this session's program pp.py, which drives the kit's print with additions. Not trusted: Lean checks it.
import Derived.Test.YtkbobbhecgmgpaaDoorRows
import Derived.Test.YtkbobbhecgmgpaaDoorPFnExactMotionTextx5
import Derived.Test.YtkbobbhecgmgpaaDoorPureFnExactMotionText
import Derived.Test.YtkbobbhecgmgpaaDoorOpen
import Derived.WalkKit
import Derived.ProofKit
import Derived.OpenShut
import Derived.ShutString
import Derived.ChangeOld
import Derived.Below
import Derived.SizedLaws
import Derived.Test.YtkbobbhecgmgpaaDoorCards
import Derived.Test.YtkbobbhecgmgpaaDoorTie
import Derived.Test.YtkbobbhecgmgpaaDoorFlat
import Derived.OpenVars
import Derived.LaidMore
import Derived.MakeChecks
import Derived.SevenTiedAt
import Derived.WalkLawsBesides
namespace Go.Proofs.YtkbobbhecgmgpaaDoor.fnExactMotionText
open Go.ChangeShapes Go.WideShapes Go.ChangeAt Go.RowKit Go.Proofs.YtkbobbhecgmgpaaDoor.PFnExactMotionText Go.Proofs.YtkbobbhecgmgpaaDoorW.PrintWords
open Go.ChangeMaps (open_string shut_string)
set_option linter.unusedVariables false
theorem own : ownKnob Tryd.prog.godebug = none := by kernel_rfl
theorem laidOut : laidOutB Tryd.prog = true := by kernel_rfl
theorem op24 : Open.Opens Tryd.prog 24 k24 ok24 := Open.opens_iso _ (fun x => ⟨x.1, x.2.1, x.2.2⟩) (fun _ => rfl) (Open.opens_struct Tryd.underlying24 (by kernel_rfl) (Open.line_cons (Open.opens_int Tryd.underlying2 (by kernel_rfl)) rfl (Open.line_cons (Open.opens_int Tryd.underlying2 (by kernel_rfl)) rfl (Open.line_one (Open.opens_int Tryd.underlying2 (by kernel_rfl))) (by decide +kernel)) (by decide +kernel)))
theorem op49 : Open.Opens Tryd.prog 49 k49 ok49 := Open.opens_iso _ (fun x => ⟨x.1, x.2.1, x.2.2.1, x.2.2.2⟩) (fun _ => rfl) (Open.opens_struct Tryd.underlying49 (by kernel_rfl) (Open.line_cons (Open.opens_int Tryd.underlying2 (by kernel_rfl)) rfl (Open.line_cons (Open.opens_bool Tryd.underlying4 (by kernel_rfl)) rfl (Open.line_cons op24 rfl (Open.line_one op24) (by decide +kernel)) (by decide +kernel)) (by decide +kernel)))
/-- What the rest of a list of variables says. -/
theorem laidTail {P : Program} {x : String × DataW Unit} {r : List (String × DataW Unit)} {w : World} (h : laidMet P (x :: r) w) : laidMet P r w := by
  obtain ⟨ps, hv, hnd, hrows⟩ := h
  obtain ⟨n, d⟩ := x
  obtain ⟨g, t, cs, fuel, p, q, _, _, _, _, hq, rfl⟩ := hv
  exact ⟨q, hq, List.Nodup.sublist (List.sublist_append_right _ _) hnd, fun b off hm => hrows b off (List.mem_append_right _ hm)⟩
theorem laidV3 {W : World} {r : List (String × DataW Unit)} (h : laidMet Tryd.prog (("internal/strconv.uint64pow10", Rows.laid_internal_strconv_uint64pow10) :: r) W) : LaidV3 W := by
  rw [show (Rows.laid_internal_strconv_uint64pow10 : DataW Unit) = Lib.tabData .u64 Lib.pow10Tab from by kernel_rfl] at h
  exact Lib.tabIs_of_head (g := 3) (t := 104) (e := 97) (n := 20) (by kernel_rfl) (by kernel_rfl) Tryd.underlying104 Tryd.underlying97 (by kernel_rfl) (by kernel_rfl) h
/-- One variable's reading more. -/
theorem varsCons {H : Type} {enc : TypeId × Value → H} {P : Program} {w : World} {sp : Nat → Bool} {n : String} {ns : List String} {gs : List (DataW H)} {ps : List MemPlace} (h : DataW.TrodVars enc P w sp (n :: ns) gs ps) : ∃ d ds, gs = d :: ds ∧ ∃ q, DataW.TrodVars enc P w sp ns ds q := by
  cases gs with
  | nil => exact h.elim
  | cons d ds =>
    obtain ⟨_, _, _, _, _, q, _, _, _, _, hs, _⟩ := h
    exact ⟨d, ds, rfl, q, hs⟩
/-- What the row's list gives. -/
theorem laidV {W : World} (h : laidMetH Tryd.prog Rows.fnExactMotionTextRow.laid W) : LaidV W := by
  rw [MakeChecks.laidMetH_plain _ _ _ (by kernel_rfl)] at h
  have h0 : laidMet Tryd.prog [("math/bits.deBruijn32tab", Rows.laid_math_bits_deBruijn32tab), ("math/bits.deBruijn64tab", Rows.laid_math_bits_deBruijn64tab), ("internal/strconv.uint64pow10", Rows.laid_internal_strconv_uint64pow10)] W := h
  have h1 := laidTail h0
  have h2 := laidTail h1
  exact ⟨laidV3 h2⟩
/-- The door's own heap meets the condition. -/
theorem door_met (os : Os) (args : Array Value) : laidMetH Tryd.prog Rows.fnExactMotionTextRow.laid ((World.doorLaid Tryd.prog 4000 os).forCall (fun _ _ => 0) ⟨#[], args, []⟩).memory :=
  laidMetH_of_parts3 (fuel := 8) (laidMet_of_run' 8 (by kernel_rfl) (by kernel_rfl)) (by kernel_rfl) (by kernel_rfl)
set_option maxRecDepth 100000 in
theorem lifted (os : Os) (started : os.Started) (H : Type) (enc : TypeId × Value → H) :
    ReturnsInHanded {} Tryd.checked os 8 .any (fun w args => (Rows.fnExactMotionTextSpec.pre enc Tryd.prog Tryd.f8 [] false w args ∧ laidMetH Tryd.prog Rows.fnExactMotionTextRow.laid w) ∧ sizedMet enc Tryd.prog Tryd.f8 (OpenSpec.ofChange Rows.fnExactMotionTextSpec) false w args)
      (Rows.fnExactMotionTextSpec.post enc Tryd.prog Tryd.f8 false true false false) := by
  refine returnsInHanded_of_change_and (C := Tryd.checked) (X := fun w _ => laidMetH Tryd.prog Rows.fnExactMotionTextRow.laid w) (fun _ _ _ hh h => h.of_heap hh) own started (by kernel_rfl) Tryd.func8
    (ChangeSpec.witness_shaped (enc := enc) (C := Tryd.checked) (os := os) (X := fun w _ => laidMetH Tryd.prog Rows.fnExactMotionTextRow.laid w) false (World.doorLaid Tryd.prog 4000 os) #[(.agg #[.int .i64 0, .bool false, .int .i64 0, .int .i64 0, .int .i64 0, .int .i64 0, .int .i64 0, .int .i64 0])] 8 rfl (World.shaped_of_RefB (by kernel_rfl) (by kernel_rfl)) (by kernel_rfl) (by kernel_rfl) (by kernel_rfl) (door_met os _)) ?_
  intro W base args ds gs before hval0 hW hcnd hsz0 hL _
  have hval : ∀ (j : Nat) t v, Tryd.f8.params[j]? = some t → args[j]? = some v → Value.okWide Tryd.prog W .any base t v := hval0
  have hW' := hW
  obtain ⟨p, q, hA0, hV, rfl, hfz, hnd⟩ := hW
  have hA : DataW.TrodAll enc Tryd.prog W 0 (fun _ => true) true Tryd.f8.params.toList args.toList ds p := hA0
  rw [Tryd.params8] at hA hval
  obtain ⟨v0, vs0, d0, ds0, p0, q0, hargs, rfl, rfl, h0, r0⟩ := trodAll_cons hA
  obtain ⟨rfl, rfl, rfl⟩ := trodAll_nil r0
  obtain rfl : args = #[v0] := by cases args; simp_all
  have hV' : DataW.TrodVars enc Tryd.prog W (fun _ => true) Rows.fnExactMotionTextSpec.vars gs q := hV
  obtain ⟨rfl, _⟩ := trodVars_none hV
  have kk0 := h0
  have lt0 : ∀ x ∈ p0, x.block < W.heap.size := by obtain ⟨m, hm⟩ := kk0; exact DataW.trod_lt m _ _ _ hm
  obtain ⟨y0, cs0, rfl, K0, ok0_⟩ := Open.open_agg Tryd.underlying49 op49 (hval 0 49 v0 rfl rfl) h0
  have e0 := k49_open K0
  obtain rfl : cs0 = #[.int .i64 y0.f0, .bool y0.f1, .int .i64 y0.f2.f0, .int .i64 y0.f2.f1, .int .i64 y0.f2.f2, .int .i64 y0.f3.f0, .int .i64 y0.f3.f1, .int .i64 y0.f3.f2] := by cases cs0; simpa using e0
  clear hA0 hval0 hsz0
  obtain ⟨k, hP⟩ := Pure.FnExactMotionText y0.f0 y0.f1 y0.f2.f0 y0.f2.f1 y0.f2.f2 y0.f3.f0 y0.f3.f1 y0.f3.f2 ok0_
  refine (PFnExactMotionText.laws_FnExactMotionText.calls k y0.f0 y0.f1 y0.f2.f0 y0.f2.f1 y0.f2.f2 y0.f3.f0 y0.f3.f1 y0.f3.f2 true W (laidV hL)  hP).mono fun e W' ⟨he, bel0⟩ => ?_
  have bel : Below W.heap.size W W' := bel0
  subst he
  exact ⟨_, rfl, _, _, _, [], _, _, hW', trodAll_mk1 (shut_bool Tryd.underlying4 _), (trodAll_cons_mk (Below.trod laidOut (by kernel_rfl) (of_decide_eq_true (by kernel_rfl)) kk0 bel lt0) trodAll_mk0), Below.trodVars laidOut bel (by kernel_rfl) hV', bel.frame _, fun h => by cases h⟩
theorem over : Rows.fnExactMotionTextRow.holds Tryd.pinned (OpenSpec.ofChange Rows.fnExactMotionTextSpec) :=
  OpenClaim.holds_of_wide 8 Tryd.f8 rfl rfl rfl rfl rfl rfl rfl ⟨rfl, rfl, rfl, rfl, rfl⟩ rfl rfl rfl rfl rfl (by kernel_rfl) Tryd.func8 (by kernel_rfl)
    (of_decide_eq_true (by kernel_rfl)) (by unfold Func.isWrapper; first | (rw [if_pos (by decide +kernel)]; kernel_rfl) | (rw [if_neg (by decide +kernel)]; exact ⟨rfl, rfl⟩))
    (fun os started H enc _ => lifted os started H enc)
theorem proved : Rows.FnExactMotionTextSaid := over
#print axioms proved
/-- No parameter wants a stand-in. -/
theorem plain (f : FuncId) (fn : Func) (hf : Tryd.pinned.checked.prog.funcNamed "loop.example/g00857/laws.FnExactMotionText" = some f) (hfn : Tryd.pinned.checked.prog.funcs[f]? = some fn) :
    false = Tryd.pinned.checked.prog.looks [] ∧ ∀ (j : Nat) t, fn.params[j]? = some t → Tryd.pinned.checked.prog.wantsStandIn t = false := by
  obtain rfl : f = 8 := Option.some.inj ((show Tryd.prog.funcNamed "loop.example/g00857/laws.FnExactMotionText" = some 8 by kernel_rfl).symm.trans hf) |>.symm
  obtain rfl : fn = Tryd.f8 := (Option.some.inj (Tryd.func8.symm.trans hfn)).symm
  refine ⟨by kernel_rfl, fun j t ht => ?_⟩
  rw [Tryd.params8] at ht
  have hm := Array.mem_of_getElem? ht
  have : t = 49 := by simpa using hm
  rcases this with rfl
  · exact (show Tryd.prog.wantsStandIn 49 = false by kernel_rfl)
theorem card : Rows.FnExactMotionTextCardSaid :=
  Claim7.holds_tied_plain_at .later [] _ _ _ _ proved (fun _ h => by cases h) (by kernel_rfl) (fun _ h => by cases h) fnExactMotionText_row_tie rfl ⟨rfl, rfl⟩ (by kernel_rfl) rfl plain (by kernel_rfl)
#print axioms card
end Go.Proofs.YtkbobbhecgmgpaaDoor.fnExactMotionText
namespace Go.Proofs.YtkbobbhecgmgpaaDoor
theorem fnExactMotionTextCard_holds : Rows.FnExactMotionTextCardSaid := fnExactMotionText.card
end Go.Proofs.YtkbobbhecgmgpaaDoor
namespace Go.Proofs.YtkbobbhecgmgpaaDoor.fnExactMotionText
end Go.Proofs.YtkbobbhecgmgpaaDoor.fnExactMotionText
namespace Go.Proofs.YtkbobbhecgmgpaaDoor
/-- The row, under a short name, for the claim. -/
theorem fnExactMotionText_holds : Rows.FnExactMotionTextSaid := fnExactMotionText.proved
end Go.Proofs.YtkbobbhecgmgpaaDoor
