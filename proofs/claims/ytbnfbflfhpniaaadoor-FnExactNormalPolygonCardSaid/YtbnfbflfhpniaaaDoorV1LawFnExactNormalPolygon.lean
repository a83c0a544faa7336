-- Printed for this claim by this session's program pp.py, which drives the kit's print with additions. Not trusted: Lean checks it.
import Derived.Test.YtbnfbflfhpniaaaDoorRows
import Derived.Test.YtbnfbflfhpniaaaDoorV1PFnExactNormalPolygonx17
import Derived.Test.YtbnfbflfhpniaaaDoorV1PureFnExactNormalPolygon
import Derived.Test.YtbnfbflfhpniaaaDoorV1Open
import Derived.WalkKit
import Derived.ProofKit
import Derived.OpenShut
import Derived.ShutString
import Derived.ChangeOld
import Derived.Below
import Derived.SizedLaws
import Derived.Test.YtbnfbflfhpniaaaDoorCards
import Derived.Test.YtbnfbflfhpniaaaDoorTie
import Derived.Test.YtbnfbflfhpniaaaDoorV1Flat
import Derived.OpenVars
import Derived.LaidMore
import Derived.MakeChecks
import Derived.SevenTiedAt
import Derived.WalkLawsBesides
namespace Go.Proofs.YtbnfbflfhpniaaaDoor.fnExactNormalPolygon
open Go.ChangeShapes Go.WideShapes Go.ChangeAt Go.RowKit Go.Proofs.YtbnfbflfhpniaaaDoor.PFnExactNormalPolygon Go.Proofs.YtbnfbflfhpniaaaDoorW.PrintWords
open Go.ChangeMaps (open_string shut_string)
set_option linter.unusedVariables false
theorem own : ownKnob Tryd.prog.godebug = none := by kernel_rfl
theorem laidOut : laidOutB Tryd.prog = true := by kernel_rfl
theorem op39 : Open.Opens Tryd.prog 39 k39 ok39 := Open.opens_iso _ (fun x => ⟨x.1, x.2.1, x.2.2⟩) (fun _ => rfl) (Open.opens_struct Tryd.underlying39 (by kernel_rfl) (Open.line_cons (Open.opens_int Tryd.underlying2 (by kernel_rfl)) rfl (Open.line_cons (Open.opens_int Tryd.underlying2 (by kernel_rfl)) rfl (Open.line_one (Open.opens_int Tryd.underlying2 (by kernel_rfl))) (by decide +kernel)) (by decide +kernel)))
theorem op41 : Open.Opens Tryd.prog 41 k41 ok41 := Open.opens_iso _ (fun x => ⟨x.1, x.2⟩) (fun _ => rfl) (Open.opens_struct Tryd.underlying41 (by kernel_rfl) (Open.line_cons op39 rfl (Open.line_one op39) (by decide +kernel)))
theorem laidTail {P : Program} {x : String × DataW Unit} {r : List (String × DataW Unit)} {w : World} (h : laidMet P (x :: r) w) : laidMet P r w := by
  obtain ⟨ps, hv, hnd, hrows⟩ := h
  obtain ⟨n, d⟩ := x
  obtain ⟨g, t, cs, fuel, p, q, _, _, _, _, hq, rfl⟩ := hv
  exact ⟨q, hq, List.Nodup.sublist (List.sublist_append_right _ _) hnd, fun b off hm => hrows b off (List.mem_append_right _ hm)⟩
theorem fl2 : Flat.Flat Tryd.prog 2 1 Flat.flat1 := Flat.flat_int Tryd.underlying2 (by kernel_rfl)
theorem fl33 : Flat.Flat Tryd.prog 33 3 (Flat.flatUp Flat.flat1) := Flat.flat_struct2 (s := 1) Tryd.underlying33 fl2 (by kernel_rfl) (by decide +kernel)
theorem fl35 : Flat.Flat Tryd.prog 35 6 (Flat.flatUp (Flat.flatUp Flat.flat1)) := Flat.flat_struct2 (s := 3) Tryd.underlying35 fl33 (by kernel_rfl) (by decide +kernel)
theorem flV : Flat.Flat Tryd.prog 84 (8 * 6) (Flat.flatUp (Flat.flatUp (Flat.flatUp Flat.flat1))) := Flat.flat_array Tryd.underlying84 (by kernel_rfl) fl35
theorem gV : Tryd.prog.globalNamed "loop.example/g00857/impl.vectors" = some 0 := by kernel_rfl
theorem tV : (Tryd.prog.globals[0]?).map (·.type) = some 84 := by kernel_rfl
theorem laidV0 {W : World} {r : List (String × DataW Unit)} (h : laidMet Tryd.prog (("loop.example/g00857/impl.vectors", Rows.laid_loop_example_g00857_impl_vectors) :: r) W) : LaidV0 W := by
  obtain ⟨ps, ⟨g0, t0, cs0, f0, p0, q0, hg0, ht0, hv0, hd0, _⟩, _⟩ := h
  obtain rfl := Option.some.inj (gV.symm.trans hg0)
  obtain rfl := Option.some.inj (tV.symm.trans ht0)
  have hc : cs0.toList = gvCells0 := (flV.op hd0).1.trans (by rfl)
  refine LaidV0.of_cells fun off => ?_
  rw [World.var?_cell hg0 hv0 off, ← hc, Array.getElem?_toList]
theorem varsCons {H : Type} {enc : TypeId × Value → H} {P : Program} {w : World} {sp : Nat → Bool} {n : String} {ns : List String} {gs : List (DataW H)} {ps : List MemPlace} (h : DataW.TrodVars enc P w sp (n :: ns) gs ps) : ∃ d ds, gs = d :: ds ∧ ∃ q, DataW.TrodVars enc P w sp ns ds q := by
  cases gs with
  | nil => exact h.elim
  | cons d ds =>
    obtain ⟨_, _, _, _, _, q, _, _, _, _, hs, _⟩ := h
    exact ⟨d, ds, rfl, q, hs⟩
theorem laidV {W : World} (h : laidMetH Tryd.prog Rows.fnExactNormalPolygonRow.laid W) : LaidV W := by
  rw [MakeChecks.laidMetH_plain _ _ _ (by kernel_rfl)] at h
  have h0 : laidMet Tryd.prog [("loop.example/g00857/impl.vectors", Rows.laid_loop_example_g00857_impl_vectors)] W := h
  exact ⟨laidV0 h0⟩
theorem door_met (os : Os) (args : Array Value) : laidMetH Tryd.prog Rows.fnExactNormalPolygonRow.laid ((World.doorLaid Tryd.prog 4000 os).forCall (fun _ _ => 0) ⟨#[], args, []⟩).memory :=
  laidMetH_of_parts3 (fuel := 8) (laidMet_of_run' 8 (by kernel_rfl) (by kernel_rfl)) (by kernel_rfl) (by kernel_rfl)
set_option maxRecDepth 100000 in
theorem lifted (os : Os) (started : os.Started) (H : Type) (enc : TypeId × Value → H) :
    ReturnsInHanded {} Tryd.checked os 3 .any (fun w args => (Rows.fnExactNormalPolygonSpec.pre enc Tryd.prog Tryd.f3 [] false w args ∧ laidMetH Tryd.prog Rows.fnExactNormalPolygonRow.laid w) ∧ sizedMet enc Tryd.prog Tryd.f3 (OpenSpec.ofChange Rows.fnExactNormalPolygonSpec) false w args)
      (Rows.fnExactNormalPolygonSpec.post enc Tryd.prog Tryd.f3 false true false false) := by
  refine returnsInHanded_of_change_and (C := Tryd.checked) (X := fun w _ => laidMetH Tryd.prog Rows.fnExactNormalPolygonRow.laid w) (fun _ _ _ hh h => h.of_heap hh) own started (by kernel_rfl) Tryd.func3
    (ChangeSpec.witness_shaped (enc := enc) (C := Tryd.checked) (os := os) (X := fun w _ => laidMetH Tryd.prog Rows.fnExactNormalPolygonRow.laid w) false (World.doorLaid Tryd.prog 4000 os) #[.slice none 0 0] 8 rfl (World.shaped_of_RefB (by kernel_rfl) (by kernel_rfl)) (by kernel_rfl) (by kernel_rfl) (by kernel_rfl) (door_met os _)) ?_
  intro W base args ds gs before hval0 hW hcnd hsz0 hL _
  have hval : ∀ (j : Nat) t v, Tryd.f3.params[j]? = some t → args[j]? = some v → Value.okWide Tryd.prog W .any base t v := hval0
  have hW' := hW
  obtain ⟨p, q, hA0, hV, rfl, hfz, hnd⟩ := hW
  have hA : DataW.TrodAll enc Tryd.prog W 0 (fun _ => true) true Tryd.f3.params.toList args.toList ds p := hA0
  rw [Tryd.params3] at hA hval
  obtain ⟨v0, vs0, d0, ds0, p0, q0, hargs, rfl, rfl, h0, r0⟩ := trodAll_cons hA
  obtain ⟨rfl, rfl, rfl⟩ := trodAll_nil r0
  obtain rfl : args = #[v0] := by cases args; simp_all
  have hV' : DataW.TrodVars enc Tryd.prog W (fun _ => true) Rows.fnExactNormalPolygonSpec.vars gs q := hV
  obtain ⟨e0_, g0_, rfl, q0_, hV0_⟩ := varsCons hV
  obtain ⟨rfl, _⟩ := trodVars_none hV0_
  have kk0 := h0
  have lt0 : ∀ x ∈ p0, x.block < W.heap.size := by obtain ⟨m, hm⟩ := kk0; exact DataW.trod_lt m _ _ _ hm
  obtain ⟨l0, A0, c0, rfl, hc0, hr0, ok0_⟩ := Open.open_row Tryd.underlying22 (Open.opens_slice Tryd.underlying22 (by kernel_rfl) op41) (hval 0 22 v0 rfl rfl) h0
  clear hA0 hval0 hsz0
  obtain ⟨k, hP⟩ := Pure.FnExactNormalPolygon l0 ok0_
  refine (PFnExactNormalPolygon.laws_FnExactNormalPolygon.calls k _ _ l0 true W (laidV hL) hr0 hc0 hP).mono fun e W' ⟨he, bel0⟩ => ?_
  have bel : Below W.heap.size W W' := bel0
  subst he
  exact ⟨_, rfl, _, _, _, [], _, _, hW', trodAll_mk1 (shut_bool Tryd.underlying4 _), (trodAll_cons_mk (Below.trod laidOut (by kernel_rfl) (of_decide_eq_true (by kernel_rfl)) kk0 bel lt0) trodAll_mk0), Below.trodVars laidOut bel (by kernel_rfl) hV', bel.frame _, fun h => by cases h⟩
theorem over : Rows.fnExactNormalPolygonRow.holds Tryd.pinned (OpenSpec.ofChange Rows.fnExactNormalPolygonSpec) :=
  OpenClaim.holds_of_wide 3 Tryd.f3 rfl rfl rfl rfl rfl rfl rfl ⟨rfl, rfl, rfl, rfl, rfl⟩ rfl rfl rfl rfl rfl (by kernel_rfl) Tryd.func3 (by kernel_rfl)
    (of_decide_eq_true (by kernel_rfl)) (by unfold Func.isWrapper; first | (rw [if_pos (by decide +kernel)]; kernel_rfl) | (rw [if_neg (by decide +kernel)]; exact ⟨rfl, rfl⟩))
    (fun os started H enc _ => lifted os started H enc)
theorem proved : Rows.FnExactNormalPolygonSaid := over
#print axioms proved
theorem plain (f : FuncId) (fn : Func) (hf : Tryd.pinned.checked.prog.funcNamed "loop.example/g00857/laws.FnExactNormalPolygon" = some f) (hfn : Tryd.pinned.checked.prog.funcs[f]? = some fn) :
    false = Tryd.pinned.checked.prog.looks [] ∧ ∀ (j : Nat) t, fn.params[j]? = some t → Tryd.pinned.checked.prog.wantsStandIn t = false := by
  obtain rfl : f = 3 := Option.some.inj ((show Tryd.prog.funcNamed "loop.example/g00857/laws.FnExactNormalPolygon" = some 3 by kernel_rfl).symm.trans hf) |>.symm
  obtain rfl : fn = Tryd.f3 := (Option.some.inj (Tryd.func3.symm.trans hfn)).symm
  refine ⟨by kernel_rfl, fun j t ht => ?_⟩
  rw [Tryd.params3] at ht
  have hm := Array.mem_of_getElem? ht
  have : t = 22 := by simpa using hm
  rcases this with rfl
  · exact (show Tryd.prog.wantsStandIn 22 = false by kernel_rfl)
theorem card : Rows.FnExactNormalPolygonCardSaid :=
  Claim7.holds_tied_plain_at .later [] _ _ _ _ proved (fun _ h => by cases h) (by kernel_rfl) (fun _ h => by cases h) fnExactNormalPolygon_row_tie rfl ⟨rfl, rfl⟩ (by kernel_rfl) rfl plain (by kernel_rfl)
#print axioms card
end Go.Proofs.YtbnfbflfhpniaaaDoor.fnExactNormalPolygon
namespace Go.Proofs.YtbnfbflfhpniaaaDoor
theorem fnExactNormalPolygonCard_holds : Rows.FnExactNormalPolygonCardSaid := fnExactNormalPolygon.card
end Go.Proofs.YtbnfbflfhpniaaaDoor
namespace Go.Proofs.YtbnfbflfhpniaaaDoor.fnExactNormalPolygon
end Go.Proofs.YtbnfbflfhpniaaaDoor.fnExactNormalPolygon
namespace Go.Proofs.YtbnfbflfhpniaaaDoor
theorem fnExactNormalPolygon_holds : Rows.FnExactNormalPolygonSaid := fnExactNormalPolygon.proved
end Go.Proofs.YtbnfbflfhpniaaaDoor
