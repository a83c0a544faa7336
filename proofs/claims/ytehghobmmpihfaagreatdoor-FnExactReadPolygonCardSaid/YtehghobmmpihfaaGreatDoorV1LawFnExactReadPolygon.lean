-- Printed for this claim by this session's program pp.py, which drives the kit's print with additions. Not trusted: Lean checks it.
import Derived.ProofKit
import Derived.ShutString
import Derived.ChangeOld
import Derived.SizedLaws
import Derived.Lay
import Derived.Lib.LaidU8
import Derived.PinnedBridge
import Derived.Stop.LaidErr
import Derived.LaidLaws
import Derived.OpenVars
import Derived.LaidMore
import Derived.MakeChecks
import Derived.WalkLawsBesides
import Derived.Test.YtehghobmmpihfaaGreatDoorV1PureFnExactReadPolygon
import Derived.Test.YtehghobmmpihfaaGreatDoorV1Open
import Derived.Test.YtehghobmmpihfaaGreatDoorCards
import Derived.Test.YtehghobmmpihfaaGreatDoorTie
import Derived.Test.YtehghobmmpihfaaGreatDoorV1Flat
namespace Go.Proofs.YtehghobmmpihfaaGreatDoor.fnExactReadPolygon
open Go.ChangeShapes Go.WideShapes Go.ChangeAt Go.RowKit Go.Proofs.YtehghobmmpihfaaGreatDoor.PFnExactReadPolygon Go.Proofs.YtehghobmmpihfaaGreatDoorW.PrintWords
open Go.ChangeMaps (open_string shut_string)
set_option linter.unusedVariables false
theorem own : ownKnob Tryz.prog.godebug = none := by kernel_rfl
theorem laidOut : laidOutB Tryz.prog = true := by kernel_rfl
theorem zgO {P : Program} {x : String × DataW Unit} {r : List (String × DataW Unit)} {w : World} (h : laidMet P (x :: r) w) : laidMet P r w := by
  obtain ⟨ps, hv, hnd, hrows⟩ := h
  obtain ⟨n, d⟩ := x
  obtain ⟨g, t, cs, fuel, p, q, _, _, _, _, hq, rfl⟩ := hv
  exact ⟨q, hq, List.Nodup.sublist (List.sublist_append_right _ _) hnd, fun b off hm => hrows b off (List.mem_append_right _ hm)⟩
theorem laidV6 {W : World} {r : List (String × DataW Unit)} (h : laidMet Tryz.prog (("internal/strconv.uint64pow10", Rows.laid_internal_strconv_uint64pow10) :: r) W) : LaidV6 W := by
  rw [show (Rows.laid_internal_strconv_uint64pow10 : DataW Unit) = Lib.tabData .u64 Lib.pow10Tab from by kernel_rfl] at h
  exact Lib.tabIs_of_head (g := 6) (t := 152) (e := 76) (n := 20) (by kernel_rfl) (by kernel_rfl) Tryz.underlying152 Tryz.underlying76 (by kernel_rfl) (by kernel_rfl) h
theorem row5 (u : TypeId) (h : Tryz.prog.typeName? 3 u = some "*errors.errorString") : u = 148 :=
  typeName_ptr_named (nm := "errors.errorString") (by rw [show "*" ++ "errors.errorString" = "*errors.errorString" by decide]; kernel_rfl) (by kernel_rfl) (by decide) u (by rw [show "*" ++ "errors.errorString" = "*errors.errorString" by decide]; exact h)
theorem laidV5 {W : World} (h : laidMet Tryz.prog [("math/bits.deBruijn32tab", Rows.laid_math_bits_deBruijn32tab), ("math/bits.deBruijn64tab", Rows.laid_math_bits_deBruijn64tab), ("internal/strconv.uint64pow10", Rows.laid_internal_strconv_uint64pow10), ("unicode/utf8.acceptRanges", Rows.laid_unicode_utf8_acceptRanges), ("strconv.ErrRange", Rows.laid_strconv_ErrRange), ("strconv.ErrSyntax", Rows.laid_strconv_ErrSyntax), ("loop.example/g00857/impl.vectors", Rows.laid_loop_example_g00857_impl_vectors), ("unicode/utf8.first", Rows.laid_unicode_utf8_first)] W) : LaidV5 W := by
  obtain ⟨a, t, hv, _⟩ := laid_sentinel (g := 5) (ti := 94) (tp := 148) (te := 150) (ts := 9) (zgO (zgO (zgO (zgO h)))) (by kernel_rfl) (by kernel_rfl) Tryz.underlying94 row5 Tryz.underlying148 Tryz.underlying150 rfl rfl Tryz.underlying9 (by kernel_rfl) (by kernel_rfl)
  exact ⟨_, (World.var?_cell (by kernel_rfl) hv 0).trans rfl, Or.inr ⟨_, _, rfl⟩⟩
theorem row4 (u : TypeId) (h : Tryz.prog.typeName? 3 u = some "*errors.errorString") : u = 148 :=
  typeName_ptr_named (nm := "errors.errorString") (by rw [show "*" ++ "errors.errorString" = "*errors.errorString" by decide]; kernel_rfl) (by kernel_rfl) (by decide) u (by rw [show "*" ++ "errors.errorString" = "*errors.errorString" by decide]; exact h)
theorem laidV4 {W : World} (h : laidMet Tryz.prog [("math/bits.deBruijn32tab", Rows.laid_math_bits_deBruijn32tab), ("math/bits.deBruijn64tab", Rows.laid_math_bits_deBruijn64tab), ("internal/strconv.uint64pow10", Rows.laid_internal_strconv_uint64pow10), ("unicode/utf8.acceptRanges", Rows.laid_unicode_utf8_acceptRanges), ("strconv.ErrRange", Rows.laid_strconv_ErrRange), ("strconv.ErrSyntax", Rows.laid_strconv_ErrSyntax), ("loop.example/g00857/impl.vectors", Rows.laid_loop_example_g00857_impl_vectors), ("unicode/utf8.first", Rows.laid_unicode_utf8_first)] W) : LaidV4 W := by
  obtain ⟨a, t, hv, _⟩ := laid_sentinel (g := 4) (ti := 94) (tp := 148) (te := 150) (ts := 9) (zgO (zgO (zgO (zgO (zgO h))))) (by kernel_rfl) (by kernel_rfl) Tryz.underlying94 row4 Tryz.underlying148 Tryz.underlying150 rfl rfl Tryz.underlying9 (by kernel_rfl) (by kernel_rfl)
  exact ⟨_, (World.var?_cell (by kernel_rfl) hv 0).trans rfl, Or.inr ⟨_, _, rfl⟩⟩
theorem fl2 : Flat.Flat Tryz.prog 2 1 Flat.flat1 := Flat.flat_int Tryz.underlying2 (by kernel_rfl)
theorem fl31 : Flat.Flat Tryz.prog 31 3 (Flat.flatUp Flat.flat1) := Flat.flat_struct2 (s := 1) Tryz.underlying31 fl2 (by kernel_rfl) (by decide +kernel)
theorem fl33 : Flat.Flat Tryz.prog 33 6 (Flat.flatUp (Flat.flatUp Flat.flat1)) := Flat.flat_struct2 (s := 3) Tryz.underlying33 fl31 (by kernel_rfl) (by decide +kernel)
theorem flV : Flat.Flat Tryz.prog 116 (8 * 6) (Flat.flatUp (Flat.flatUp (Flat.flatUp Flat.flat1))) := Flat.flat_array Tryz.underlying116 (by kernel_rfl) fl33
theorem gV : Tryz.prog.globalNamed "loop.example/g00857/impl.vectors" = some 1 := by kernel_rfl
theorem tV : (Tryz.prog.globals[1]?).map (·.type) = some 116 := by kernel_rfl
theorem laidV1 {W : World} {r : List (String × DataW Unit)} (h : laidMet Tryz.prog (("loop.example/g00857/impl.vectors", Rows.laid_loop_example_g00857_impl_vectors) :: r) W) : LaidV1 W := by
  obtain ⟨ps, ⟨g0, t0, cs0, f0, p0, q0, hg0, ht0, hv0, hd0, _⟩, _⟩ := h
  obtain rfl := Option.some.inj (gV.symm.trans hg0)
  obtain rfl := Option.some.inj (tV.symm.trans ht0)
  have hc : cs0.toList = gvCells1 := (flV.op hd0).1.trans (by rfl)
  refine LaidV1.of_cells fun off => ?_
  rw [World.var?_cell hg0 hv0 off, ← hc, Array.getElem?_toList]
theorem readsOf {P : Program} {w : World} {l : List (String × DataW Unit)} (h : laidMet P l w) {n : String} {d d' : DataW Unit} (hm : (n, d) ∈ l) (e : d = d') : Lib.VarReads P w n d' := e ▸ Lib.laidMet.reads h hm
theorem laidV2 {W : World} (h : laidMet Tryz.prog [("math/bits.deBruijn32tab", Rows.laid_math_bits_deBruijn32tab), ("math/bits.deBruijn64tab", Rows.laid_math_bits_deBruijn64tab), ("internal/strconv.uint64pow10", Rows.laid_internal_strconv_uint64pow10), ("unicode/utf8.acceptRanges", Rows.laid_unicode_utf8_acceptRanges), ("strconv.ErrRange", Rows.laid_strconv_ErrRange), ("strconv.ErrSyntax", Rows.laid_strconv_ErrSyntax), ("loop.example/g00857/impl.vectors", Rows.laid_loop_example_g00857_impl_vectors), ("unicode/utf8.first", Rows.laid_unicode_utf8_first)] W) : LaidV2 W :=
  utf8Tabs_of_reads (ρ := Tryz.lays271_ren) { Tryz.lays271 with } ⟨by kernel_rfl, by kernel_rfl, by kernel_rfl, by kernel_rfl, by kernel_rfl, by kernel_rfl, by kernel_rfl⟩ (readsOf h (.tail _ (.tail _ (.tail _ (.tail _ (.tail _ (.tail _ (.tail _ (.head _)))))))) Pinned.utf8First_eq) (readsOf h (.tail _ (.tail _ (.tail _ (.head _)))) (by kernel_rfl))
theorem laidV0 {W : World} (h : W.ShapedOpen Tryz.prog) : LaidV0 W := Go.Proofs.cell_of_shapedOpen_int (t := 3) (zero := #[.int .i64 0]) h (of_decide_eq_true (by kernel_rfl)) (by kernel_rfl) rfl (by kernel_rfl) (by kernel_rfl) Tryz.underlying3
theorem varsCons {H : Type} {enc : TypeId × Value → H} {P : Program} {w : World} {sp : Nat → Bool} {n : String} {ns : List String} {gs : List (DataW H)} {ps : List MemPlace} (h : DataW.TrodVars enc P w sp (n :: ns) gs ps) : ∃ d ds, gs = d :: ds ∧ ∃ q, DataW.TrodVars enc P w sp ns ds q := by
  cases gs with
  | nil => exact h.elim
  | cons d ds =>
    obtain ⟨_, _, _, _, _, q, _, _, _, _, hs, _⟩ := h
    exact ⟨d, ds, rfl, q, hs⟩
theorem laidV {W : World} (h : laidMetH Tryz.prog Rows.fnExactReadPolygonRow.laid W) (hsh : W.ShapedOpen Tryz.prog) : LaidV W := by
  rw [MakeChecks.laidMetH_plain _ _ _ (by kernel_rfl)] at h
  have h0 : laidMet Tryz.prog [("math/bits.deBruijn32tab", Rows.laid_math_bits_deBruijn32tab), ("math/bits.deBruijn64tab", Rows.laid_math_bits_deBruijn64tab), ("internal/strconv.uint64pow10", Rows.laid_internal_strconv_uint64pow10), ("unicode/utf8.acceptRanges", Rows.laid_unicode_utf8_acceptRanges), ("strconv.ErrRange", Rows.laid_strconv_ErrRange), ("strconv.ErrSyntax", Rows.laid_strconv_ErrSyntax), ("loop.example/g00857/impl.vectors", Rows.laid_loop_example_g00857_impl_vectors), ("unicode/utf8.first", Rows.laid_unicode_utf8_first)] W := h
  have h1 := zgO h0
  have h2 := zgO h1
  have h3 := zgO h2
  have h4 := zgO h3
  have h5 := zgO h4
  have h6 := zgO h5
  have h7 := zgO h6
  exact ⟨laidV6 h2, laidV5 h0, laidV4 h0, laidV1 h6, laidV2 h0, laidV0 hsh⟩
theorem ret_shaped {H : Type} {enc : TypeId × Value → H} {a : Assume} {C : Checked} {os : Os} {f : FuncId} {fn : Func} {s : ChangeSpec} {conds : List PathCond} {apart fresh handsOn again : Bool} {X : World → Array Value → Prop}
    (hX : ∀ (w w' : World) (args : Array Value), w.heap = w'.heap → X w args → X w' args) (own : ownKnob C.prog.godebug = none) (started : os.Started) (noInit : C.prog.inits.idxOf? f = none) (hfn : C.prog.funcs[f]? = some fn)
    (witness : ∃ (w : World) (tape : Tape) (i : Input), w.os = os ∧ (w.forCall tape i).Shaped C.prog ∧ i.vars = [] ∧ Input.okWide C.prog (w.forCall tape i) .any w.heap.size f i ∧ ((s.pre enc C.prog fn conds apart (w.forCall tape i).memory i.args ∧ X (w.forCall tape i).memory i.args) ∧ sizedMet enc C.prog fn (OpenSpec.ofChange s) apart (w.forCall tape i).memory i.args) ∧ a.holds C.prog (lone (Frame.enter C.prog f i.args .normal) [] (w.forCall tape i)))
    (contract : ∀ (W : World) (base : Nat) (args : Array Value) (ds gs : List (DataW H)) (before : List MemPlace), (∀ (j : Nat) t v, fn.params[j]? = some t → args[j]? = some v → Value.okWide C.prog W .any base t v) → DataW.Whole enc C.prog fn.params.toList s.vars apart W args.toList ds gs before → conds.all (PathCond.test C.prog ⟨fn.params.toList, ds, s.plain.varTypes C.prog, gs⟩) = true →
      (DataW.weightsEach C.prog (fn.params.toList ++ s.plain.varTypes C.prog) (ds ++ gs)).all (· ≤ reachBytes) = true → X W args → W.ShapedOpen C.prog → a.holds C.prog (lone (Frame.enter C.prog f args .normal) [] W) → Calls C.prog f args W fun e W' => ∃ v, e = .returned v ∧ s.post enc C.prog fn apart fresh handsOn again W args v W') :
    ReturnsInHanded a C os f .any (fun w args => (s.pre enc C.prog fn conds apart w args ∧ X w args) ∧ sizedMet enc C.prog fn (OpenSpec.ofChange s) apart w args) (s.post enc C.prog fn apart fresh handsOn again) := by
  refine returnsInHanded_of_calls own started noInit witness ?_
  rintro w tape i _ hsh _ ⟨_, _, _, fn', hfn', _, _, _, _, hval⟩ ⟨⟨⟨ds, gs, before, hw, hc⟩, hx⟩, hz⟩ hh
  obtain rfl : fn' = fn := Option.some.inj (hfn'.symm.trans hfn)
  refine (contract (w.forCall tape i) w.heap.size i.args ds gs before hval (DataW.Whole.of_heap (w' := w.forCall tape i) (by rfl) hw) hc (hz.weights hw) (hX _ _ _ (by rfl) hx) hsh hh).mono ?_
  rintro e W' ⟨v, rfl, hp⟩
  exact ChangeSpec.post_blind hp
theorem door_met (os : Os) (args : Array Value) : laidMetH Tryz.prog Rows.fnExactReadPolygonRow.laid ((World.laidAll Tryz.prog os Rows.fnExactReadPolygonRow.laid).forCall (fun _ _ => 0) ⟨#[], args, []⟩).memory := by
  rw [MakeChecks.laidMetH_plain _ _ _ (by kernel_rfl)]
  exact laidMet_laidAll _ (by kernel_rfl) (by kernel_rfl)
set_option maxRecDepth 100000 in
theorem lifted (os : Os) (started : os.Started) (H : Type) (enc : TypeId × Value → H) :
    ReturnsInHanded {} Tryz.checked os 3 .any (fun w args => (Rows.fnExactReadPolygonSpec.pre enc Tryz.prog Tryz.f3 [] false w args ∧ laidMetH Tryz.prog Rows.fnExactReadPolygonRow.laid w) ∧ sizedMet enc Tryz.prog Tryz.f3 (OpenSpec.ofChange Rows.fnExactReadPolygonSpec) false w args)
      (Rows.fnExactReadPolygonSpec.post enc Tryz.prog Tryz.f3 false true false false) := by
  refine ret_shaped (C := Tryz.checked) (X := fun w _ => laidMetH Tryz.prog Rows.fnExactReadPolygonRow.laid w) (fun _ _ _ hh h => h.of_heap hh) own started (by kernel_rfl) Tryz.func3
    (ChangeSpec.witness_shaped (enc := enc) (C := Tryz.checked) (os := os) (X := fun w _ => laidMetH Tryz.prog Rows.fnExactReadPolygonRow.laid w) false (World.laidAll Tryz.prog os Rows.fnExactReadPolygonRow.laid) #[.string ByteArray.empty] 8 (World.laidAll_os _ _ _) (World.shaped_of_ZipB (by kernel_rfl) (by kernel_rfl)) (by kernel_rfl) (by kernel_rfl) (by kernel_rfl) (door_met os _)) ?_
  intro W base args ds gs before hval0 hW hcnd hsz0 hL hsh _
  have hval : ∀ (j : Nat) t v, Tryz.f3.params[j]? = some t → args[j]? = some v → Value.okWide Tryz.prog W .any base t v := hval0
  have hW' := hW
  obtain ⟨p, q, hA0, hV, rfl, hfz, hnd⟩ := hW
  have hA : DataW.TrodAll enc Tryz.prog W 0 (fun _ => true) true Tryz.f3.params.toList args.toList ds p := hA0
  rw [Tryz.params3] at hA hval
  obtain ⟨v0, vs0, d0, ds0, p0, q0, hargs, rfl, rfl, h0, r0⟩ := trodAll_cons hA
  obtain ⟨rfl, rfl, rfl⟩ := trodAll_nil r0
  obtain rfl : args = #[v0] := by cases args; simp_all
  have hV' : DataW.TrodVars enc Tryz.prog W (fun _ => true) Rows.fnExactReadPolygonSpec.vars gs q := hV
  obtain ⟨e0_, g0_, rfl, q0_, hV0_⟩ := varsCons hV
  obtain ⟨rfl, _⟩ := trodVars_none hV0_
  obtain ⟨a0, rfl, rfl, rfl, y0⟩ := open_string Tryz.underlying9 (hval 0 9 v0 rfl rfl) h0
  clear hA0 hval0 hsz0
  obtain ⟨k, hP⟩ := Pure.FnExactReadPolygon a0 y0
  refine (PFnExactReadPolygon.laws_FnExactReadPolygon.calls k a0 true W (laidV hL hsh)  hP).mono fun e W' ⟨he, bel0⟩ => ?_
  have bel : Below W.heap.size W W' := bel0
  subst he
  exact ⟨_, rfl, _, _, _, [], _, _, hW', trodAll_mk1 (shut_bool Tryz.underlying4 _), (trodAll_cons_mk (shut_string Tryz.underlying9 y0) trodAll_mk0), Below.trodVars laidOut bel (by kernel_rfl) hV', bel.frame _, fun h => by cases h⟩
theorem over : Rows.fnExactReadPolygonRow.holds Tryz.pinned (OpenSpec.ofChange Rows.fnExactReadPolygonSpec) :=
  OpenClaim.holds_of_wide 3 Tryz.f3 rfl rfl rfl rfl rfl rfl rfl ⟨rfl, rfl, rfl, rfl, rfl⟩ rfl rfl rfl rfl rfl (by kernel_rfl) Tryz.func3 (by kernel_rfl)
    (of_decide_eq_true (by kernel_rfl)) (by unfold Func.isWrapper; first | (rw [if_pos (by decide +kernel)]; kernel_rfl) | (rw [if_neg (by decide +kernel)]; exact ⟨rfl, rfl⟩))
    (fun os started H enc _ => lifted os started H enc)
theorem proved : Rows.FnExactReadPolygonSaid := over
#print axioms proved
theorem plain (f : FuncId) (fn : Func) (hf : Tryz.pinned.checked.prog.funcNamed "loop.example/g00857/laws.FnExactReadPolygon" = some f) (hfn : Tryz.pinned.checked.prog.funcs[f]? = some fn) :
    true = Tryz.pinned.checked.prog.looks [] ∧ ∀ (j : Nat) t, fn.params[j]? = some t → Tryz.pinned.checked.prog.wantsStandIn t = false := by
  obtain rfl : f = 3 := Option.some.inj ((show Tryz.prog.funcNamed "loop.example/g00857/laws.FnExactReadPolygon" = some 3 by kernel_rfl).symm.trans hf) |>.symm
  obtain rfl : fn = Tryz.f3 := (Option.some.inj (Tryz.func3.symm.trans hfn)).symm
  refine ⟨by kernel_rfl, fun j t ht => ?_⟩
  rw [Tryz.params3] at ht
  have hm := Array.mem_of_getElem? ht
  have : t = 9 := by simpa using hm
  rcases this with rfl
  · exact (show Tryz.prog.wantsStandIn 9 = false by kernel_rfl)
theorem card : Rows.FnExactReadPolygonCardSaid :=
  Claim7.holds_tied_plain_at .later [] _ _ _ _ proved (fun _ h => by cases h) (by kernel_rfl) (fun _ h => by cases h) fnExactReadPolygon_row_tie rfl ⟨rfl, rfl⟩ (by kernel_rfl) rfl plain (by kernel_rfl)
#print axioms card
end Go.Proofs.YtehghobmmpihfaaGreatDoor.fnExactReadPolygon
namespace Go.Proofs.YtehghobmmpihfaaGreatDoor
theorem fnExactReadPolygonCard_holds : Rows.FnExactReadPolygonCardSaid := fnExactReadPolygon.card
end Go.Proofs.YtehghobmmpihfaaGreatDoor
namespace Go.Proofs.YtehghobmmpihfaaGreatDoor.fnExactReadPolygon
end Go.Proofs.YtehghobmmpihfaaGreatDoor.fnExactReadPolygon
namespace Go.Proofs.YtehghobmmpihfaaGreatDoor
theorem fnExactReadPolygon_holds : Rows.FnExactReadPolygonSaid := fnExactReadPolygon.proved
end Go.Proofs.YtehghobmmpihfaaGreatDoor
