-- Printed for this claim by this session's program pp.py, which drives the kit's print with additions. Not trusted: Lean checks it.
import Derived.Test.YtbnfbflfhpniaaaDoorV1PFnExactNormalPolygonx0
import Derived.Test.YtbnfbflfhpniaaaDoorV1PFnExactNormalPolygonx2
import Derived.Test.YtbnfbflfhpniaaaDoorV1PFnExactNormalPolygonx4
import Derived.Test.YtbnfbflfhpniaaaDoorV1PFnExactNormalPolygonx7
namespace Go.Proofs.YtbnfbflfhpniaaaDoor.PFnExactNormalPolygon
open Go.RowKit Go.Proofs.YtbnfbflfhpniaaaDoorW.PrintWords Go.Proofs.YtbnfbflfhpniaaaDoorW.PrintLast Go.Proofs.YtbnfbflfhpniaaaDoorW.PrintMore
attribute [local go_sem] zbB ziC zrC zhD znE zuB znH zkT   -- for this text's walks alone
set_option linter.unusedVariables false
set_option maxHeartbeats 8000000
set_option maxRecDepth 100000
set_option linter.unusedSimpArgs false

def zbL.l0 : Nat → List (S35) → List (S35) → Int → Option ((List (S35)))
 | 0, _, _, _ => none
 | k + 1, x0, x3, x4 => if x4 ≥ 0 then (if 0 ≤ x4 then (if x4 < (x0.length : Int) then (if x3.length < 2932031007402 then (zbL.l0 k x0 (x3 ++ [(⟨(⟨(zmE x0 x4).f0.f0, (zmE x0 x4).f0.f1, (zmE x0 x4).f0.f2⟩ : S33), (⟨(zmE x0 x4).f1.f0, (zmE x0 x4).f1.f1, (zmE x0 x4).f1.f2⟩ : S33)⟩ : S35)]) (wrap64 (x4 - 1))) else (none)) else (none)) else (none)) else (some x3)
def zbL.f (k : Nat) (l0 : List (S35)) : Option ((List (S35))) := zbL.l0 k l0 (([] : List (S35))) (wrap64 ((l0.length : Int) - 1))
theorem zbL.mono_l : ∀ k, (∀ y0 y1 y2, LeO (zbL.l0 k y0 y1 y2) (zbL.l0 (k + 1) y0 y1 y2))
 | 0 => fun _ _ _ r h => by simp [zbL.l0] at h
 | k + 1 => by
  have ih0 := zbL.mono_l k
  ·intro y0 y1 y2
   unfold zbL.l0
   repeat' first
   | (with_reducible exact ih0 _ _ _)
   | (with_reducible exact LeO.refl _)
   | (with_reducible exact LeO.none _)
   | (with_reducible refine LeO.ite ?_ ?_)
   | (with_reducible refine LeO.bind ?_ (fun _ => ?_))
   | exact ih0 _ _ _
   | exact LeO.none _
   | refine LeO.ite ?_ ?_
   | refine LeO.bind ?_ (fun _ => ?_)
theorem zbL.mono : ∀ a0 k, LeO (zbL.f k a0) (zbL.f (k + 1) a0) := by
 intro a0 k
 have ih0 := zbL.mono_l k
 unfold zbL.f
 repeat' first
   | (with_reducible exact ih0 _ _ _)
   | (with_reducible exact LeO.refl _)
   | (with_reducible exact LeO.none _)
   | (with_reducible refine LeO.ite ?_ ?_)
   | (with_reducible refine LeO.bind ?_ (fun _ => ?_))
   | exact ih0 _ _ _
   | exact LeO.none _
   | refine LeO.ite ?_ ?_
   | refine LeO.bind ?_ (fun _ => ?_)
theorem zbL.calls (k : Nat) (A0 : Option Addr) (c0 : Nat) (l0 : List (S35)) (r : List (S35)) (w : World) (hr0 : Kd.C k35 w A0 l0.length l0) (hc0 : l0.length ≤ c0) (h : zbL.f k l0 = some r) :
  Calls Tryd.prog 14 #[.slice A0 l0.length c0] w fun e w' => ∃ v0_ : Value, e = .returned (v0_) ∧ Kd.R k35 35 w' w.heap.size (fun _ => True) v0_ r ∧ Below w.heap.size w w' := by
 have hu35 := Tryd.underlying35
 have HR0 := zpS hr0
 have HC0 := zpS hc0
 clear hr0 hc0
 have HB := zpS (Below.refl w.heap.size w)
 have H : (zbL.l0 k l0 (([] : List (S35))) (wrap64 ((l0.length : Int) - 1))) = some r := h
 clear h
 obtain ⟨y272, hy272⟩ : ∃ y_ : List (S35), y_ = (([] : List (S35))) := ⟨_, rfl⟩
 replace H : (zbL.l0 k l0 y272 (wrap64 ((l0.length : Int) - 1))) = some r := by first | (rw [hy272]; with_reducible exact H) | (have H2_ := (Option.bind_some _ _).symm.trans H; rw [hy272]; with_reducible exact H2_) | (have H2_ := (Option.bind_some _ _).symm.trans H; with_reducible exact H2_) | with_reducible exact H | (rw [hy272]; exact H) | exact H
 have Ny272 := zpS hy272
 clear hy272
 have H' := zpS H
 clear H
 go_enter Tryd.func14, Tryd.ntmps14
 go_wp2_with (first | ((with_reducible refine zpZ (N := 5) rfl ?_); refine Kd.R_lit k35 _ 35 ?hg (N := 5) ?hd (xs := ([] : List (S35))) (inner := []) (ok := fun _ => True) (okp := fun _ => True) ?hr ?hp (fun _ hk => hk) trivial (Below.refl _ _) (Nat.le_refl _) (by simp) ?_; (case hd => rfl); (case hg => rfl); (case hr => first | (go_simp; done) | (go_simp; rfl)); (case hp => exact (zfH.none _ _)); intro v273 w2 ho3 hb hg_ hnew_; clear hg_ hnew_; (first | rw [← Ny272.out] at ho3 | (simp only [Int.reduceToNat] at ho3; rw [← Ny272.out] at ho3)); have n0_ := zpS (Kd.R_lower ho3 (zuA bb_)); have n1_ := (ns_ hb); clear HB; have HO274 := n0_; have HB := n1_; clear n0_ n1_; clear hb ho3))
 (try go_simp)
 go_loopg [3, 4] k (fun kq v3 v4 w' => ∃ (x3_1 : List (S35)) (x4_1 : Int), v4 = .int .i64 x4_1 ∧ Aside0 (zbL.l0 kq l0 x3_1 x4_1 = some r) ∧ Aside0 (kq ≤ k) ∧ Aside0 (Kd.R k35 35 w' w.heap.size (fun _ => True) v3 x3_1) ∧ Aside0 (Below w.heap.size w w'))
 case atStart => exact ⟨(y272), (wrap64 ((l0.length : Int) - 1)), (by first | rfl | (simp; done) | (simp [*]; done)), H', ⟨Nat.le_refl _⟩, ⟨by (with_reducible repeat (first | apply Kd.R_alloc | apply Kd.R_drewN | apply Kd.R_drew)); exact HO274.out⟩, ⟨bb_⟩⟩
 case round =>
  clear H'
  try clear c1
  try clear p2
  obtain ⟨x3_1, x4_1, rfl, HA, HK1, HO_3, HB⟩ := hrel
  cases gk with
  | zero => exact absurd HA.out (by simp [zbL.l0])
  | succ k1 =>
   have H := HA.out
   clear HA
   simp only [zbL.l0] at H
   by_cases c4 : x4_1 ≥ 0
   ·rw [if_pos c4] at H
    have c4b0 : decide (0 ≤ x4_1) = true := decide_eq_true c4
    clear c4
    by_cases c5 : 0 ≤ x4_1
    ·rw [if_pos c5] at H
     have c5b0 : decide (0 ≤ x4_1) = true := decide_eq_true c5
     clear c5
     by_cases c6 : x4_1 < (l0.length : Int)
     ·rw [if_pos c6] at H
      have c6b0 : decide (x4_1 < (l0.length : Int)) = true := decide_eq_true c6
      clear c6
      by_cases c7 : x3_1.length < 2932031007402
      ·rw [if_pos c7] at H
       have LMc7 := zpS c7
       clear c7
       obtain ⟨y276, hy276⟩ : ∃ y_ : List (S35), y_ = (x3_1 ++ [(⟨(⟨(zmE l0 x4_1).f0.f0, (zmE l0 x4_1).f0.f1, (zmE l0 x4_1).f0.f2⟩ : S33), (⟨(zmE l0 x4_1).f1.f0, (zmE l0 x4_1).f1.f1, (zmE l0 x4_1).f1.f2⟩ : S33)⟩ : S35)]) := ⟨_, rfl⟩
       replace H : (zbL.l0 k1 l0 y276 (wrap64 (x4_1 - 1))) = some r := by first | (rw [hy276]; with_reducible exact H) | (have H2_ := (Option.bind_some _ _).symm.trans H; rw [hy276]; with_reducible exact H2_) | (have H2_ := (Option.bind_some _ _).symm.trans H; with_reducible exact H2_) | with_reducible exact H | (rw [hy276]; exact H) | exact H
       have Ny276 := zpS hy276
       clear hy276
       have H' := zpS H
       clear H
       have p275 : 0 ≤ (x4_1 : Int) := dt_
       have q275 : x4_1 < (l0.length : Int) := dt_
       obtain ⟨ad275, e275, hx275_0, hx275_1, hx275_2, hx275_3, hx275_4, hx275_5⟩ := zcN HR0.out x4_1 p275 q275
       cases e275
       replace hx275_0 := zeA HB.out hx275_0
       replace hx275_1 := zeA HB.out hx275_1
       replace hx275_2 := zeA HB.out hx275_2
       replace hx275_3 := zeA HB.out hx275_3
       replace hx275_4 := zeA HB.out hx275_4
       replace hx275_5 := zeA HB.out hx275_5
       replace p275 := eq_true p275
       replace q275 := eq_true q275
       go_wp2_with (first | ((with_reducible refine zcL (b := .append) (xs := #[.tmp 13, .tmp 18]) rfl ?_); at_builtin; refine Kd.R_append k35 (w0 := w) w.heap.size rfl (.tmp 13) (.tmp 18) 24 35 (.agg #[(.int .i64 0), (.int .i64 0), (.int .i64 0), (.int .i64 0), (.int .i64 0), (.int .i64 0)]) 48 rfl Tryd.underlying24 info35 rfl (by decide) (by omega) u3 x3_1 (⟨(⟨(zmE l0 x4_1).f0.f0, (zmE l0 x4_1).f0.f1, (zmE l0 x4_1).f0.f2⟩ : S33), (⟨(zmE l0 x4_1).f1.f0, (zmE l0 x4_1).f1.f1, (zmE l0 x4_1).f1.f2⟩ : S33)⟩ : S35) [.int .i64 ((zmE l0 x4_1).f0.f0), .int .i64 ((zmE l0 x4_1).f0.f1), .int .i64 ((zmE l0 x4_1).f0.f2), .int .i64 ((zmE l0 x4_1).f1.f0), .int .i64 ((zmE l0 x4_1).f1.f1), .int .i64 ((zmE l0 x4_1).f1.f2)] (fun _ => True) (fun _ => False) rfl rfl ?aP (fun _ hk => hk.elim) ?aF ?aO ?aB ?aS ?aL ?_; (case aP => exact k35_mkM _ _ _ (⟨(⟨(zmE l0 x4_1).f0.f0, (zmE l0 x4_1).f0.f1, (zmE l0 x4_1).f0.f2⟩ : S33), (⟨(zmE l0 x4_1).f1.f0, (zmE l0 x4_1).f1.f1, (zmE l0 x4_1).f1.f2⟩ : S33)⟩ : S35)); (case aB => exact bb_); (case aF => exact (fun _ _ => trivial)); (case aO => exact (by (with_reducible repeat (first | apply Kd.R_alloc | apply Kd.R_drewN | apply Kd.R_drew)); exact HO_3.out)); (case aS => exact (zuA bb_)); (case aL => have := LMc7.out; omega); intro v277 w8 ho hb hg hat; rw [← Ny276.out] at ho; have n0_ := zpS (hb); have n1_ := zpS (ho); clear HB; clear HO_3; have HB := n0_; have HO278 := n1_; clear n0_ n1_; clear ho hb hg hat))
       go_roundg k1
       case measure => have := HK1.out; omega
       case rel => exact ⟨(y276), (wrap64 (x4_1 - 1)), (by first | rfl | (simp; done) | (simp [*]; done)), H', ⟨by have := HK1.out; omega⟩, ⟨by (with_reducible repeat (first | apply Kd.R_alloc | apply Kd.R_drewN | apply Kd.R_drew)); exact HO278.out⟩, ⟨bb_⟩⟩
      ·rw [if_neg c7] at H
       exact absurd H (by simp)
     ·rw [if_neg c6] at H
      exact absurd H (by simp)
    ·rw [if_neg c5] at H
     exact absurd H (by simp)
   ·rw [if_neg c4] at H
    have c4b0 : decide (0 ≤ x4_1) = false := decide_eq_false c4
    clear c4
    obtain rfl := Option.some.inj H
    go_wp2
    go_ret
    exact ⟨_, by first | rfl | (simp [ziS, znJ] <;> rfl) | (simp [*, ziS, znJ] <;> rfl), by (with_reducible repeat (first | apply Kd.R_alloc | apply Kd.R_drewN | apply Kd.R_drew)); exact HO_3.out, bb_⟩

def zpV.l0 : Nat → List (S35) → Int → Option ((List (S35)) × Bool)
 | 0, _, _ => none
 | k + 1, x0, x4 => if x4 < (x0.length : Int) then (if 0 ≤ x4 then ((zzR.f ((zmE x0 x4).f0.f0) ((zmE x0 x4).f0.f1) ((zmE x0 x4).f0.f2) ((zmE x0 x4).f1.f0) ((zmE x0 x4).f1.f1) ((zmE x0 x4).f1.f2)).bind fun t280 => (if t280 = true then (zpV.l0 k x0 (wrap64 (x4 + 1))) else (some (([] : List (S35)), false)))) else (none)) else ((zwS.f k x0).bind fun t281 => ((zhB.f k t281).bind fun t284 => (if t284 = true then (some (t281, true)) else ((zbL.f k x0).bind fun t285 => ((zwS.f k t285).bind fun t288 => ((zhB.f k t288).bind fun t291 => (if t291 = true then (some (t288, true)) else (some (([] : List (S35)), false)))))))))
def zpV.f (k : Nat) (l0 : List (S35)) : Option ((List (S35)) × Bool) := if (l0.length : Int) > 16 then (some (([] : List (S35)), false)) else (zpV.l0 k l0 0)
theorem zpV.mono_l : ∀ k, (∀ y0 y1, LeO (zpV.l0 k y0 y1) (zpV.l0 (k + 1) y0 y1))
 | 0 => fun _ _ r h => by simp [zpV.l0] at h
 | k + 1 => by
  have ih0 := zpV.mono_l k
  ·intro y0 y1
   unfold zpV.l0
   repeat' first
   | (with_reducible exact ih0 _ _)
   | (with_reducible exact zhB.mono _ _)
   | (with_reducible exact zbL.mono _ _)
   | (with_reducible exact zwS.mono _ _)
   | (with_reducible exact LeO.refl _)
   | (with_reducible exact LeO.none _)
   | (with_reducible refine LeO.ite ?_ ?_)
   | (with_reducible refine LeO.bind ?_ (fun _ => ?_))
   | exact ih0 _ _
   | exact zhB.mono _ _
   | exact zbL.mono _ _
   | exact zwS.mono _ _
   | exact LeO.none _
   | refine LeO.ite ?_ ?_
   | refine LeO.bind ?_ (fun _ => ?_)
theorem zpV.mono : ∀ a0 k, LeO (zpV.f k a0) (zpV.f (k + 1) a0) := by
 intro a0 k
 have ih0 := zpV.mono_l k
 unfold zpV.f
 repeat' first
   | (with_reducible exact ih0 _ _)
   | (with_reducible exact zhB.mono _ _)
   | (with_reducible exact zbL.mono _ _)
   | (with_reducible exact zwS.mono _ _)
   | (with_reducible exact LeO.refl _)
   | (with_reducible exact LeO.none _)
   | (with_reducible refine LeO.ite ?_ ?_)
   | (with_reducible refine LeO.bind ?_ (fun _ => ?_))
   | exact ih0 _ _
   | exact zhB.mono _ _
   | exact zbL.mono _ _
   | exact zwS.mono _ _
   | exact LeO.none _
   | refine LeO.ite ?_ ?_
   | refine LeO.bind ?_ (fun _ => ?_)
theorem zpV.calls (k : Nat) (A0 : Option Addr) (c0 : Nat) (l0 : List (S35)) (r1 : List (S35)) (r2 : Bool) (w : World) (hr0 : Kd.C k35 w A0 l0.length l0) (hc0 : l0.length ≤ c0) (h : zpV.f k l0 = some (r1, r2)) :
  Calls Tryd.prog 5 #[.slice A0 l0.length c0] w fun e w' => ∃ v0_ : Value, e = .returned (.tuple #[v0_, .bool r2]) ∧ Kd.R k35 35 w' w.heap.size (fun _ => True) v0_ r1 ∧ Below w.heap.size w w' := by
 have hu35 := Tryd.underlying35
 have HR0 := zpS hr0
 have HC0 := zpS hc0
 clear hr0 hc0
 have HB := zpS (Below.refl w.heap.size w)
 have H : (if (l0.length : Int) > 16 then (some (([] : List (S35)), false)) else (zpV.l0 k l0 0)) = some (r1, r2) := h
 clear h
 by_cases c2 : (l0.length : Int) > 16
 ·rw [if_pos c2] at H
  have c2b0 : decide (16 < (l0.length : Int)) = true := decide_eq_true c2
  have c2b1 : decide (16 < l0.length) = true := decide_eq_true (by omega)
  clear c2
  simp only [Option.some.injEq, Prod.mk.injEq] at H
  obtain ⟨rfl, rfl⟩ := H
  go_enter Tryd.func5, Tryd.ntmps5
  go_wp2
  go_ret2
  exact ⟨_, by first | rfl | (simp [ziS, znJ] <;> rfl) | (simp [*, ziS, znJ] <;> rfl), by first | exact Kd.R_nil _ _ _ _ _ | exact Kd.N_nil _ _ _ _ _ | exact Kd.V_nil _ _ _ _ _ | exact Kd.Q_nil _ _ _ _ _ | exact Kd.S_nil _ _ _ _ _, bb_⟩
 ·rw [if_neg c2] at H
  have c2b0 : decide (16 < (l0.length : Int)) = false := decide_eq_false c2
  have c2b1 : decide (16 < l0.length) = false := decide_eq_false (by omega)
  clear c2
  have H' := zpS H
  clear H
  go_enter Tryd.func5, Tryd.ntmps5
  go_wp2
  (try go_simp)
  go_loopg [4] k (fun kq v4 w' => ∃ (x4_1 : Int), v4 = .int .i64 x4_1 ∧ Aside0 (zpV.l0 kq l0 x4_1 = some (r1, r2)) ∧ Aside0 (kq ≤ k) ∧ Aside0 (Below w.heap.size w w'))
  case atStart => exact ⟨(0), (by first | rfl | (simp; done) | (simp [*]; done)), H', ⟨Nat.le_refl _⟩, ⟨bb_⟩⟩
  case round =>
   clear H'
   try clear c2
   try clear c2b0
   try clear c2b1
   try clear p2
   obtain ⟨x4_1, rfl, HA, HK1, HB⟩ := hrel
   cases gk with
   | zero => exact absurd HA.out (by simp [zpV.l0])
   | succ k1 =>
    have H := HA.out
    clear HA
    simp only [zpV.l0] at H
    by_cases c3 : x4_1 < (l0.length : Int)
    ·rw [if_pos c3] at H
     have c3b0 : decide (x4_1 < (l0.length : Int)) = true := decide_eq_true c3
     clear c3
     by_cases c4 : 0 ≤ x4_1
     ·rw [if_pos c4] at H
      have c4b0 : decide (0 ≤ x4_1) = true := decide_eq_true c4
      clear c4
      replace H := Option.bind_eq_some_iff.mp H
      obtain ⟨t280, A50, H⟩ := H
      replace H : (if t280 = true then (zpV.l0 k1 l0 (wrap64 (x4_1 + 1))) else (some (([] : List (S35)), false))) = some (r1, r2) := H
      have A5 := zpS A50
      clear A50
      by_cases c6 : t280 = true
      ·subst c6
       have H1 : (zpV.l0 k1 l0 (wrap64 (x4_1 + 1))) = some (r1, r2) := by rw [if_pos rfl] at H; exact H
       clear H
       have H := H1
       clear H1
       have H' := zpS H
       clear H
       have p279 : 0 ≤ (x4_1 : Int) := dt_
       have q279 : x4_1 < (l0.length : Int) := dt_
       obtain ⟨ad279, e279, hx279_0, hx279_1, hx279_2, hx279_3, hx279_4, hx279_5⟩ := zcN HR0.out x4_1 p279 q279
       cases e279
       replace hx279_0 := zeA HB.out hx279_0
       replace hx279_1 := zeA HB.out hx279_1
       replace hx279_2 := zeA HB.out hx279_2
       replace hx279_3 := zeA HB.out hx279_3
       replace hx279_4 := zeA HB.out hx279_4
       replace hx279_5 := zeA HB.out hx279_5
       replace p279 := eq_true p279
       replace q279 := eq_true q279
       go_wp2_with (first | ((with_reducible refine zgK (f := 11) rfl ?_); refine zqQ (some 20) rfl rfl Tryd.func11 (by kernel_rfl) rfl #[.agg #[.int .i64 ((zmE l0 x4_1).f0.f0), .int .i64 ((zmE l0 x4_1).f0.f1), .int .i64 ((zmE l0 x4_1).f0.f2), .int .i64 ((zmE l0 x4_1).f1.f0), .int .i64 ((zmE l0 x4_1).f1.f1), .int .i64 ((zmE l0 x4_1).f1.f2)]] rfl (by (try simp only [List.map_toArray, List.map_cons, List.map_nil]); first | done | rfl | (simp only [List.length_drop, List.length_take]; rfl)) ?_; (with_reducible refine (zzR.calls ((zmE l0 x4_1).f0.f0) ((zmE l0 x4_1).f0.f1) ((zmE l0 x4_1).f0.f2) ((zmE l0 x4_1).f1.f0) ((zmE l0 x4_1).f1.f1) ((zmE l0 x4_1).f1.f2) true _ A5.out).mono ?_); rintro e w7 ⟨rfl, hb⟩; refine ⟨_, rfl, ?_⟩; have n0_ := (ns_ hb); clear HB; have HB := n0_; clear n0_; (try clear hb); (try clear hb2)))
       go_roundg k1
       case measure => have := HK1.out; omega
       case rel => exact ⟨(wrap64 (x4_1 + 1)), (by first | rfl | (simp; done) | (simp [*]; done)), H', ⟨by have := HK1.out; omega⟩, ⟨bb_⟩⟩
      ·replace c6 := Bool.eq_false_iff.mpr c6
       subst c6
       have H1 : (some (([] : List (S35)), false)) = some (r1, r2) := by rw [if_neg (show ¬ (false = true) by decide)] at H; exact H
       clear H
       have H := H1
       clear H1
       simp only [Option.some.injEq, Prod.mk.injEq] at H
       obtain ⟨rfl, rfl⟩ := H
       have p279 : 0 ≤ (x4_1 : Int) := dt_
       have q279 : x4_1 < (l0.length : Int) := dt_
       obtain ⟨ad279, e279, hx279_0, hx279_1, hx279_2, hx279_3, hx279_4, hx279_5⟩ := zcN HR0.out x4_1 p279 q279
       cases e279
       replace hx279_0 := zeA HB.out hx279_0
       replace hx279_1 := zeA HB.out hx279_1
       replace hx279_2 := zeA HB.out hx279_2
       replace hx279_3 := zeA HB.out hx279_3
       replace hx279_4 := zeA HB.out hx279_4
       replace hx279_5 := zeA HB.out hx279_5
       replace p279 := eq_true p279
       replace q279 := eq_true q279
       go_wp2_with (first | ((with_reducible refine zgK (f := 11) rfl ?_); refine zqQ (some 20) rfl rfl Tryd.func11 (by kernel_rfl) rfl #[.agg #[.int .i64 ((zmE l0 x4_1).f0.f0), .int .i64 ((zmE l0 x4_1).f0.f1), .int .i64 ((zmE l0 x4_1).f0.f2), .int .i64 ((zmE l0 x4_1).f1.f0), .int .i64 ((zmE l0 x4_1).f1.f1), .int .i64 ((zmE l0 x4_1).f1.f2)]] rfl (by (try simp only [List.map_toArray, List.map_cons, List.map_nil]); first | done | rfl | (simp only [List.length_drop, List.length_take]; rfl)) ?_; (with_reducible refine (zzR.calls ((zmE l0 x4_1).f0.f0) ((zmE l0 x4_1).f0.f1) ((zmE l0 x4_1).f0.f2) ((zmE l0 x4_1).f1.f0) ((zmE l0 x4_1).f1.f1) ((zmE l0 x4_1).f1.f2) false _ A5.out).mono ?_); rintro e w8 ⟨rfl, hb⟩; refine ⟨_, rfl, ?_⟩; have n0_ := (ns_ hb); clear HB; have HB := n0_; clear n0_; (try clear hb); (try clear hb2)))
       go_ret2
       exact ⟨_, by first | rfl | (simp [ziS, znJ] <;> rfl) | (simp [*, ziS, znJ] <;> rfl), by first | exact Kd.R_nil _ _ _ _ _ | exact Kd.N_nil _ _ _ _ _ | exact Kd.V_nil _ _ _ _ _ | exact Kd.Q_nil _ _ _ _ _ | exact Kd.S_nil _ _ _ _ _, bb_⟩
     ·rw [if_neg c4] at H
      exact absurd H (by simp)
    ·rw [if_neg c3] at H
     have c3b0 : decide (x4_1 < (l0.length : Int)) = false := decide_eq_false c3
     clear c3
     replace H := Option.bind_eq_some_iff.mp H
     obtain ⟨t281, A90, H⟩ := H
     replace H : ((zhB.f k1 t281).bind fun t284 => (if t284 = true then (some (t281, true)) else ((zbL.f k1 l0).bind fun t285 => ((zwS.f k1 t285).bind fun t288 => ((zhB.f k1 t288).bind fun t291 => (if t291 = true then (some (t288, true)) else (some (([] : List (S35)), false)))))))) = some (r1, r2) := H
     have A9 := zpS A90
     clear A90
     replace H := Option.bind_eq_some_iff.mp H
     obtain ⟨t284, A100, H⟩ := H
     replace H : (if t284 = true then (some (t281, true)) else ((zbL.f k1 l0).bind fun t285 => ((zwS.f k1 t285).bind fun t288 => ((zhB.f k1 t288).bind fun t291 => (if t291 = true then (some (t288, true)) else (some (([] : List (S35)), false))))))) = some (r1, r2) := H
     have A10 := zpS A100
     clear A100
     by_cases c11 : t284 = true
     ·subst c11
      have H1 : (some (t281, true)) = some (r1, r2) := by rw [if_pos rfl] at H; exact H
      clear H
      have H := H1
      clear H1
      simp only [Option.some.injEq, Prod.mk.injEq] at H
      obtain ⟨rfl, rfl⟩ := H
      go_wp2_with (first | ((with_reducible refine zgK (f := 12) rfl ?_); refine zqQ (some 23) rfl rfl Tryd.func12 (by kernel_rfl) rfl #[.slice A0 l0.length c0] rfl (by (try simp only [List.map_toArray, List.map_cons, List.map_nil]); first | done | rfl | (simp only [List.length_drop, List.length_take]; rfl)) ?_; (with_reducible refine (zwS.calls k1 _ _ l0 t281 _ ?side1 ?side2 A9.out).mono ?_); (case side1 => repeat (first | exact (Kd.C_below HR0.out HB.out) | (with_reducible refine Kd.C_alloc ?_ _) | (with_reducible refine Kd.C_drewN ?_ _) | (with_reducible refine Kd.C_drew ?_))); (case side2 => exact HC0.out); rintro e w12 ⟨v282, rfl, ho0, hb⟩; refine ⟨_, rfl, ?_⟩; have n0_ := zpS (Kd.R_lower ho0 (zuA bb_)); have n1_ := (ns_ hb); clear HB; have HO283 := n0_; have HB := n1_; clear n0_ n1_; (try clear hb); (try clear hb2); (try clear ho0); obtain ⟨Ao13, co13, eo13⟩ := Kd.R_slice HO283.out; subst eo13) | ((with_reducible refine zgK (f := 13) rfl ?_); refine zqQ (some 25) rfl rfl Tryd.func13 (by kernel_rfl) rfl #[.slice Ao13 t281.length co13] rfl (by (try simp only [List.map_toArray, List.map_cons, List.map_nil]); first | done | rfl | (simp only [List.length_drop, List.length_take]; rfl)) ?_; (with_reducible refine (zhB.calls k1 _ _ t281 true _ ?side1 ?side2 A10.out).mono ?_); (case side1 => repeat (first | exact (Kd.R_reads' HO283.out).2.2 | (with_reducible refine Kd.C_alloc ?_ _) | (with_reducible refine Kd.C_drewN ?_ _) | (with_reducible refine Kd.C_drew ?_))); (case side2 => exact (Kd.R_reads' HO283.out).2.1); rintro e w14 ⟨rfl, hb⟩; refine ⟨_, rfl, ?_⟩; have n0_ := zpS (Kd.R_below (by (with_reducible repeat (first | apply Kd.R_alloc | apply Kd.R_drewN | apply Kd.R_drew)); exact HO283.out) hb); have n1_ := (ns_ hb); clear HO283; clear HB; have HO283 := n0_; have HB := n1_; clear n0_ n1_; (try clear hb); (try clear hb2)))
      go_ret2
      exact ⟨_, by first | rfl | (simp [ziS, znJ] <;> rfl) | (simp [*, ziS, znJ] <;> rfl), by (with_reducible repeat (first | apply Kd.R_alloc | apply Kd.R_drewN | apply Kd.R_drew)); exact HO283.out, bb_⟩
     ·replace c11 := Bool.eq_false_iff.mpr c11
      subst c11
      have H1 : ((zbL.f k1 l0).bind fun t285 => ((zwS.f k1 t285).bind fun t288 => ((zhB.f k1 t288).bind fun t291 => (if t291 = true then (some (t288, true)) else (some (([] : List (S35)), false)))))) = some (r1, r2) := by rw [if_neg (show ¬ (false = true) by decide)] at H; exact H
      clear H
      have H := H1
      clear H1
      replace H := Option.bind_eq_some_iff.mp H
      obtain ⟨t285, A150, H⟩ := H
      replace H : ((zwS.f k1 t285).bind fun t288 => ((zhB.f k1 t288).bind fun t291 => (if t291 = true then (some (t288, true)) else (some (([] : List (S35)), false))))) = some (r1, r2) := H
      have A15 := zpS A150
      clear A150
      replace H := Option.bind_eq_some_iff.mp H
      obtain ⟨t288, A160, H⟩ := H
      replace H : ((zhB.f k1 t288).bind fun t291 => (if t291 = true then (some (t288, true)) else (some (([] : List (S35)), false)))) = some (r1, r2) := H
      have A16 := zpS A160
      clear A160
      replace H := Option.bind_eq_some_iff.mp H
      obtain ⟨t291, A170, H⟩ := H
      replace H : (if t291 = true then (some (t288, true)) else (some (([] : List (S35)), false))) = some (r1, r2) := H
      have A17 := zpS A170
      clear A170
      by_cases c18 : t291 = true
      ·subst c18
       have H1 : (some (t288, true)) = some (r1, r2) := by rw [if_pos rfl] at H; exact H
       clear H
       have H := H1
       clear H1
       simp only [Option.some.injEq, Prod.mk.injEq] at H
       obtain ⟨rfl, rfl⟩ := H
       go_wp2_with (first | ((with_reducible refine zgK (f := 12) rfl ?_); refine zqQ (some 23) rfl rfl Tryd.func12 (by kernel_rfl) rfl #[.slice A0 l0.length c0] rfl (by (try simp only [List.map_toArray, List.map_cons, List.map_nil]); first | done | rfl | (simp only [List.length_drop, List.length_take]; rfl)) ?_; (with_reducible refine (zwS.calls k1 _ _ l0 t281 _ ?side1 ?side2 A9.out).mono ?_); (case side1 => repeat (first | exact (Kd.C_below HR0.out HB.out) | (with_reducible refine Kd.C_alloc ?_ _) | (with_reducible refine Kd.C_drewN ?_ _) | (with_reducible refine Kd.C_drew ?_))); (case side2 => exact HC0.out); rintro e w19 ⟨v282, rfl, ho0, hb⟩; refine ⟨_, rfl, ?_⟩; have n0_ := zpS (Kd.R_lower ho0 (zuA bb_)); have n1_ := (ns_ hb); clear HB; have HO283 := n0_; have HB := n1_; clear n0_ n1_; (try clear hb); (try clear hb2); (try clear ho0); obtain ⟨Ao20, co20, eo20⟩ := Kd.R_slice HO283.out; subst eo20) | ((with_reducible refine zgK (f := 13) rfl ?_); refine zqQ (some 25) rfl rfl Tryd.func13 (by kernel_rfl) rfl #[.slice Ao20 t281.length co20] rfl (by (try simp only [List.map_toArray, List.map_cons, List.map_nil]); first | done | rfl | (simp only [List.length_drop, List.length_take]; rfl)) ?_; (with_reducible refine (zhB.calls k1 _ _ t281 false _ ?side1 ?side2 A10.out).mono ?_); (case side1 => repeat (first | exact (Kd.R_reads' HO283.out).2.2 | (with_reducible refine Kd.C_alloc ?_ _) | (with_reducible refine Kd.C_drewN ?_ _) | (with_reducible refine Kd.C_drew ?_))); (case side2 => exact (Kd.R_reads' HO283.out).2.1); rintro e w21 ⟨rfl, hb⟩; refine ⟨_, rfl, ?_⟩; have n0_ := zpS (Kd.R_below (by (with_reducible repeat (first | apply Kd.R_alloc | apply Kd.R_drewN | apply Kd.R_drew)); exact HO283.out) hb); have n1_ := (ns_ hb); clear HO283; clear HB; have HO283 := n0_; have HB := n1_; clear n0_ n1_; (try clear hb); (try clear hb2)) | ((with_reducible refine zgK (f := 14) rfl ?_); refine zqQ (some 28) rfl rfl Tryd.func14 (by kernel_rfl) rfl #[.slice A0 l0.length c0] rfl (by (try simp only [List.map_toArray, List.map_cons, List.map_nil]); first | done | rfl | (simp only [List.length_drop, List.length_take]; rfl)) ?_; (with_reducible refine (zbL.calls k1 _ _ l0 t285 _ ?side1 ?side2 A15.out).mono ?_); (case side1 => repeat (first | exact (Kd.C_below HR0.out HB.out) | (with_reducible refine Kd.C_alloc ?_ _) | (with_reducible refine Kd.C_drewN ?_ _) | (with_reducible refine Kd.C_drew ?_))); (case side2 => exact HC0.out); rintro e w22 ⟨v286, rfl, ho0, hb⟩; refine ⟨_, rfl, ?_⟩; have n0_ := zpS (Kd.R_elder' (by (with_reducible repeat (first | apply Kd.R_alloc | apply Kd.R_drewN | apply Kd.R_drew)); exact HO283.out) (Kd.R_base ho0) hb); have n1_ := zpS (Kd.R_lower (Kd.R_new' ho0 (Kd.R_lt (by (with_reducible repeat (first | apply Kd.R_alloc | apply Kd.R_drewN | apply Kd.R_drew)); exact HO283.out))) (zuA bb_)); have n2_ := (ns_ hb); clear HO283; clear HB; have HO283 := n0_; have HO287 := n1_; have HB := n2_; clear n0_ n1_ n2_; (try clear hb); (try clear hb2); (try clear ho0); obtain ⟨Ao23, co23, eo23⟩ := Kd.R_slice HO287.out; subst eo23) | ((with_reducible refine zgK (f := 12) rfl ?_); refine zqQ (some 29) rfl rfl Tryd.func12 (by kernel_rfl) rfl #[.slice Ao23 t285.length co23] rfl (by (try simp only [List.map_toArray, List.map_cons, List.map_nil]); first | done | rfl | (simp only [List.length_drop, List.length_take]; rfl)) ?_; (with_reducible refine (zwS.calls k1 _ _ t285 t288 _ ?side1 ?side2 A16.out).mono ?_); (case side1 => repeat (first | exact (Kd.R_reads' HO287.out).2.2 | (with_reducible refine Kd.C_alloc ?_ _) | (with_reducible refine Kd.C_drewN ?_ _) | (with_reducible refine Kd.C_drew ?_))); (case side2 => exact (Kd.R_reads' HO287.out).2.1); rintro e w24 ⟨v289, rfl, ho0, hb⟩; refine ⟨_, rfl, ?_⟩; have n0_ := zpS (Kd.R_elder' (by (with_reducible repeat (first | apply Kd.R_alloc | apply Kd.R_drewN | apply Kd.R_drew)); exact HO283.out) (Kd.R_base ho0) hb); have n1_ := zpS (Kd.R_elder' (by (with_reducible repeat (first | apply Kd.R_alloc | apply Kd.R_drewN | apply Kd.R_drew)); exact HO287.out) (Kd.R_base ho0) hb); have n2_ := zpS (Kd.R_lower (Kd.R_new' (Kd.R_new' ho0 (Kd.R_lt (by (with_reducible repeat (first | apply Kd.R_alloc | apply Kd.R_drewN | apply Kd.R_drew)); exact HO283.out))) (Kd.R_lt (by (with_reducible repeat (first | apply Kd.R_alloc | apply Kd.R_drewN | apply Kd.R_drew)); exact HO287.out))) (zuA bb_)); have n3_ := (ns_ hb); clear HO283; clear HO287; clear HB; have HO283 := n0_; have HO287 := n1_; have HO290 := n2_; have HB := n3_; clear n0_ n1_ n2_ n3_; (try clear hb); (try clear hb2); (try clear ho0); obtain ⟨Ao25, co25, eo25⟩ := Kd.R_slice HO290.out; subst eo25) | ((with_reducible refine zgK (f := 13) rfl ?_); refine zqQ (some 31) rfl rfl Tryd.func13 (by kernel_rfl) rfl #[.slice Ao25 t288.length co25] rfl (by (try simp only [List.map_toArray, List.map_cons, List.map_nil]); first | done | rfl | (simp only [List.length_drop, List.length_take]; rfl)) ?_; (with_reducible refine (zhB.calls k1 _ _ t288 true _ ?side1 ?side2 A17.out).mono ?_); (case side1 => repeat (first | exact (Kd.R_reads' HO290.out).2.2 | (with_reducible refine Kd.C_alloc ?_ _) | (with_reducible refine Kd.C_drewN ?_ _) | (with_reducible refine Kd.C_drew ?_))); (case side2 => exact (Kd.R_reads' HO290.out).2.1); rintro e w26 ⟨rfl, hb⟩; refine ⟨_, rfl, ?_⟩; have n0_ := zpS (Kd.R_below (by (with_reducible repeat (first | apply Kd.R_alloc | apply Kd.R_drewN | apply Kd.R_drew)); exact HO283.out) hb); have n1_ := zpS (Kd.R_below (by (with_reducible repeat (first | apply Kd.R_alloc | apply Kd.R_drewN | apply Kd.R_drew)); exact HO287.out) hb); have n2_ := zpS (Kd.R_below (by (with_reducible repeat (first | apply Kd.R_alloc | apply Kd.R_drewN | apply Kd.R_drew)); exact HO290.out) hb); have n3_ := (ns_ hb); clear HO283; clear HO287; clear HO290; clear HB; have HO283 := n0_; have HO287 := n1_; have HO290 := n2_; have HB := n3_; clear n0_ n1_ n2_ n3_; (try clear hb); (try clear hb2)))
       go_ret2
       exact ⟨_, by first | rfl | (simp [ziS, znJ] <;> rfl) | (simp [*, ziS, znJ] <;> rfl), by (with_reducible repeat (first | apply Kd.R_alloc | apply Kd.R_drewN | apply Kd.R_drew)); exact Kd.R_mono HO290.out (fun _ hk => trivial), bb_⟩
      ·replace c18 := Bool.eq_false_iff.mpr c18
       subst c18
       have H1 : (some (([] : List (S35)), false)) = some (r1, r2) := by rw [if_neg (show ¬ (false = true) by decide)] at H; exact H
       clear H
       have H := H1
       clear H1
       simp only [Option.some.injEq, Prod.mk.injEq] at H
       obtain ⟨rfl, rfl⟩ := H
       go_wp2_with (first | ((with_reducible refine zgK (f := 12) rfl ?_); refine zqQ (some 23) rfl rfl Tryd.func12 (by kernel_rfl) rfl #[.slice A0 l0.length c0] rfl (by (try simp only [List.map_toArray, List.map_cons, List.map_nil]); first | done | rfl | (simp only [List.length_drop, List.length_take]; rfl)) ?_; (with_reducible refine (zwS.calls k1 _ _ l0 t281 _ ?side1 ?side2 A9.out).mono ?_); (case side1 => repeat (first | exact (Kd.C_below HR0.out HB.out) | (with_reducible refine Kd.C_alloc ?_ _) | (with_reducible refine Kd.C_drewN ?_ _) | (with_reducible refine Kd.C_drew ?_))); (case side2 => exact HC0.out); rintro e w27 ⟨v282, rfl, ho0, hb⟩; refine ⟨_, rfl, ?_⟩; have n0_ := zpS (Kd.R_lower ho0 (zuA bb_)); have n1_ := (ns_ hb); clear HB; have HO283 := n0_; have HB := n1_; clear n0_ n1_; (try clear hb); (try clear hb2); (try clear ho0); obtain ⟨Ao28, co28, eo28⟩ := Kd.R_slice HO283.out; subst eo28) | ((with_reducible refine zgK (f := 13) rfl ?_); refine zqQ (some 25) rfl rfl Tryd.func13 (by kernel_rfl) rfl #[.slice Ao28 t281.length co28] rfl (by (try simp only [List.map_toArray, List.map_cons, List.map_nil]); first | done | rfl | (simp only [List.length_drop, List.length_take]; rfl)) ?_; (with_reducible refine (zhB.calls k1 _ _ t281 false _ ?side1 ?side2 A10.out).mono ?_); (case side1 => repeat (first | exact (Kd.R_reads' HO283.out).2.2 | (with_reducible refine Kd.C_alloc ?_ _) | (with_reducible refine Kd.C_drewN ?_ _) | (with_reducible refine Kd.C_drew ?_))); (case side2 => exact (Kd.R_reads' HO283.out).2.1); rintro e w29 ⟨rfl, hb⟩; refine ⟨_, rfl, ?_⟩; have n0_ := zpS (Kd.R_below (by (with_reducible repeat (first | apply Kd.R_alloc | apply Kd.R_drewN | apply Kd.R_drew)); exact HO283.out) hb); have n1_ := (ns_ hb); clear HO283; clear HB; have HO283 := n0_; have HB := n1_; clear n0_ n1_; (try clear hb); (try clear hb2)) | ((with_reducible refine zgK (f := 14) rfl ?_); refine zqQ (some 28) rfl rfl Tryd.func14 (by kernel_rfl) rfl #[.slice A0 l0.length c0] rfl (by (try simp only [List.map_toArray, List.map_cons, List.map_nil]); first | done | rfl | (simp only [List.length_drop, List.length_take]; rfl)) ?_; (with_reducible refine (zbL.calls k1 _ _ l0 t285 _ ?side1 ?side2 A15.out).mono ?_); (case side1 => repeat (first | exact (Kd.C_below HR0.out HB.out) | (with_reducible refine Kd.C_alloc ?_ _) | (with_reducible refine Kd.C_drewN ?_ _) | (with_reducible refine Kd.C_drew ?_))); (case side2 => exact HC0.out); rintro e w30 ⟨v286, rfl, ho0, hb⟩; refine ⟨_, rfl, ?_⟩; have n0_ := zpS (Kd.R_elder' (by (with_reducible repeat (first | apply Kd.R_alloc | apply Kd.R_drewN | apply Kd.R_drew)); exact HO283.out) (Kd.R_base ho0) hb); have n1_ := zpS (Kd.R_lower (Kd.R_new' ho0 (Kd.R_lt (by (with_reducible repeat (first | apply Kd.R_alloc | apply Kd.R_drewN | apply Kd.R_drew)); exact HO283.out))) (zuA bb_)); have n2_ := (ns_ hb); clear HO283; clear HB; have HO283 := n0_; have HO287 := n1_; have HB := n2_; clear n0_ n1_ n2_; (try clear hb); (try clear hb2); (try clear ho0); obtain ⟨Ao31, co31, eo31⟩ := Kd.R_slice HO287.out; subst eo31) | ((with_reducible refine zgK (f := 12) rfl ?_); refine zqQ (some 29) rfl rfl Tryd.func12 (by kernel_rfl) rfl #[.slice Ao31 t285.length co31] rfl (by (try simp only [List.map_toArray, List.map_cons, List.map_nil]); first | done | rfl | (simp only [List.length_drop, List.length_take]; rfl)) ?_; (with_reducible refine (zwS.calls k1 _ _ t285 t288 _ ?side1 ?side2 A16.out).mono ?_); (case side1 => repeat (first | exact (Kd.R_reads' HO287.out).2.2 | (with_reducible refine Kd.C_alloc ?_ _) | (with_reducible refine Kd.C_drewN ?_ _) | (with_reducible refine Kd.C_drew ?_))); (case side2 => exact (Kd.R_reads' HO287.out).2.1); rintro e w32 ⟨v289, rfl, ho0, hb⟩; refine ⟨_, rfl, ?_⟩; have n0_ := zpS (Kd.R_elder' (by (with_reducible repeat (first | apply Kd.R_alloc | apply Kd.R_drewN | apply Kd.R_drew)); exact HO283.out) (Kd.R_base ho0) hb); have n1_ := zpS (Kd.R_elder' (by (with_reducible repeat (first | apply Kd.R_alloc | apply Kd.R_drewN | apply Kd.R_drew)); exact HO287.out) (Kd.R_base ho0) hb); have n2_ := zpS (Kd.R_lower (Kd.R_new' (Kd.R_new' ho0 (Kd.R_lt (by (with_reducible repeat (first | apply Kd.R_alloc | apply Kd.R_drewN | apply Kd.R_drew)); exact HO283.out))) (Kd.R_lt (by (with_reducible repeat (first | apply Kd.R_alloc | apply Kd.R_drewN | apply Kd.R_drew)); exact HO287.out))) (zuA bb_)); have n3_ := (ns_ hb); clear HO283; clear HO287; clear HB; have HO283 := n0_; have HO287 := n1_; have HO290 := n2_; have HB := n3_; clear n0_ n1_ n2_ n3_; (try clear hb); (try clear hb2); (try clear ho0); obtain ⟨Ao33, co33, eo33⟩ := Kd.R_slice HO290.out; subst eo33) | ((with_reducible refine zgK (f := 13) rfl ?_); refine zqQ (some 31) rfl rfl Tryd.func13 (by kernel_rfl) rfl #[.slice Ao33 t288.length co33] rfl (by (try simp only [List.map_toArray, List.map_cons, List.map_nil]); first | done | rfl | (simp only [List.length_drop, List.length_take]; rfl)) ?_; (with_reducible refine (zhB.calls k1 _ _ t288 false _ ?side1 ?side2 A17.out).mono ?_); (case side1 => repeat (first | exact (Kd.R_reads' HO290.out).2.2 | (with_reducible refine Kd.C_alloc ?_ _) | (with_reducible refine Kd.C_drewN ?_ _) | (with_reducible refine Kd.C_drew ?_))); (case side2 => exact (Kd.R_reads' HO290.out).2.1); rintro e w34 ⟨rfl, hb⟩; refine ⟨_, rfl, ?_⟩; have n0_ := zpS (Kd.R_below (by (with_reducible repeat (first | apply Kd.R_alloc | apply Kd.R_drewN | apply Kd.R_drew)); exact HO283.out) hb); have n1_ := zpS (Kd.R_below (by (with_reducible repeat (first | apply Kd.R_alloc | apply Kd.R_drewN | apply Kd.R_drew)); exact HO287.out) hb); have n2_ := zpS (Kd.R_below (by (with_reducible repeat (first | apply Kd.R_alloc | apply Kd.R_drewN | apply Kd.R_drew)); exact HO290.out) hb); have n3_ := (ns_ hb); clear HO283; clear HO287; clear HO290; clear HB; have HO283 := n0_; have HO287 := n1_; have HO290 := n2_; have HB := n3_; clear n0_ n1_ n2_ n3_; (try clear hb); (try clear hb2)))
       go_ret2
       exact ⟨_, by first | rfl | (simp [ziS, znJ] <;> rfl) | (simp [*, ziS, znJ] <;> rfl), by first | exact Kd.R_nil _ _ _ _ _ | exact Kd.N_nil _ _ _ _ _ | exact Kd.V_nil _ _ _ _ _ | exact Kd.Q_nil _ _ _ _ _ | exact Kd.S_nil _ _ _ _ _, bb_⟩

def zeD.f (a0_0 : Int) (a0_1 : Int) (a0_2 : Int) : Option (Int × Int × Int) := some (a0_0, a0_1, a0_2)
theorem zeD.calls (a0_0 : Int) (a0_1 : Int) (a0_2 : Int) (r1 : Int) (r2 : Int) (r3 : Int) (w : World) (h : zeD.f a0_0 a0_1 a0_2 = some (r1, r2, r3)) :
  Calls Tryd.prog 28 #[.agg #[.int .i64 a0_0, .int .i64 a0_1, .int .i64 a0_2]] w fun e w' => e = .returned (.agg #[.int .i64 r1, .int .i64 r2, .int .i64 r3]) ∧ Below w.heap.size w w' := by
 have hu39 := Tryd.underlying39
 have hu33 := Tryd.underlying33
 have HB := zpS (Below.refl w.heap.size w)
 have H : (some (a0_0, a0_1, a0_2)) = some (r1, r2, r3) := h
 clear h
 simp only [Option.some.injEq, Prod.mk.injEq] at H
 obtain ⟨rfl, rfl, rfl⟩ := H
 go_enter Tryd.func28, Tryd.ntmps28
 go_wp2_with (first | ((with_reducible refine zpZ (N := 1) rfl ?_); refine bx_ 1 #[.int .i64 a0_0, .int .i64 a0_1, .int .i64 a0_2] 39 ?_; intro gb292 hg w2 hbox hb; have n0_ := (ns_ hb); have n1_ := zpS (hbox); have n2_ := (ng_ hg); have n3_ := n2_; clear HB; have HB := n0_; have BK292 := n1_; have GW292 := n2_; have GE292 := n3_; clear n0_ n1_ n2_ n3_; clear hb hbox hg) | ((with_reducible refine zpZ (N := 2) rfl ?_); refine bx_ 2 #[.int .i64 0, .int .i64 0, .int .i64 0] 33 ?_; intro gb293 hg w3 hbox hb; have n0_ := zpS (zgM (g := gb292) (o := .cells #[.int .i64 a0_0, .int .i64 a0_1, .int .i64 a0_2] 39 (0, 0)) bk_ hb); have n1_ := (ns_ hb); have n2_ := zpS (hbox); have n3_ := (ng_ hg); have n4_ := n3_; have n5_ := zpS ((by rw [hg]; exact Nat.ne_of_lt (zmN (g := gb292) (o := .cells #[.int .i64 a0_0, .int .i64 a0_1, .int .i64 a0_2] 39 (0, 0)) bk_) : gb292 ≠ gb293)); have n6_ := zpS ((by rw [hg]; exact Nat.ne_of_gt (zmN (g := gb292) (o := .cells #[.int .i64 a0_0, .int .i64 a0_1, .int .i64 a0_2] 39 (0, 0)) bk_) : gb293 ≠ gb292)); clear BK292; clear HB; have BK292 := n0_; have HB := n1_; have BK293 := n2_; have GW293 := n3_; have GE293 := n4_; have NB292_293 := n5_; have NB293_292 := n6_; clear n0_ n1_ n2_ n3_ n4_ n5_ n6_; clear hb hbox hg) | ((with_reducible refine zpZ (N := 3) rfl ?_); refine bx_ 3 #[.int .i64 0, .int .i64 0, .int .i64 0] 33 ?_; intro gb294 hg w4 hbox hb; have n0_ := zpS (zgM (g := gb292) (o := .cells #[.int .i64 a0_0, .int .i64 a0_1, .int .i64 a0_2] 39 (0, 0)) bk_ hb); have n1_ := zpS (zgM (g := gb293) (o := .cells #[.int .i64 0, .int .i64 0, .int .i64 0] 33 (0, 0)) bk_ hb); have n2_ := (ns_ hb); have n3_ := zpS (hbox); have n4_ := (ng_ hg); have n5_ := n4_; have n6_ := zpS ((by rw [hg]; exact Nat.ne_of_lt (zmN (g := gb292) (o := .cells #[.int .i64 a0_0, .int .i64 a0_1, .int .i64 a0_2] 39 (0, 0)) bk_) : gb292 ≠ gb294)); have n7_ := zpS ((by rw [hg]; exact Nat.ne_of_gt (zmN (g := gb292) (o := .cells #[.int .i64 a0_0, .int .i64 a0_1, .int .i64 a0_2] 39 (0, 0)) bk_) : gb294 ≠ gb292)); have n8_ := zpS ((by rw [hg]; exact Nat.ne_of_lt (zmN (g := gb293) (o := .cells #[.int .i64 0, .int .i64 0, .int .i64 0] 33 (0, 0)) bk_) : gb293 ≠ gb294)); have n9_ := zpS ((by rw [hg]; exact Nat.ne_of_gt (zmN (g := gb293) (o := .cells #[.int .i64 0, .int .i64 0, .int .i64 0] 33 (0, 0)) bk_) : gb294 ≠ gb293)); clear BK292; clear BK293; clear HB; have BK292 := n0_; have BK293 := n1_; have HB := n2_; have BK294 := n3_; have GW294 := n4_; have GE294 := n5_; have NB292_294 := n6_; have NB294_292 := n7_; have NB293_294 := n8_; have NB294_293 := n9_; clear n0_ n1_ n2_ n3_ n4_ n5_ n6_ n7_ n8_ n9_; clear hb hbox hg; have hnb5 := NB292_293.out; have hnc5 := NB293_292.out; have hnb6 := NB292_294.out; have hnc6 := NB294_292.out; obtain ⟨hcz7_0, hcz7_1, hcz7_2⟩ := zdT BK292.out; obtain ⟨hfz7_0, hfz7_1, hfz7_2⟩ := zqD BK292.out; have hnb8 := NB294_293.out; have hnc8 := NB293_294.out; obtain ⟨hcz9_0, hcz9_1, hcz9_2⟩ := zdT BK294.out; obtain ⟨hfz9_0, hfz9_1, hfz9_2⟩ := zqD BK294.out; obtain ⟨hcz10_0, hcz10_1, hcz10_2⟩ := zdT BK293.out; obtain ⟨hfz10_0, hfz10_1, hfz10_2⟩ := zqD BK293.out))
 refine bodyPost_ret (results_cell_row rfl _ _ gb293 33 #[.int .i64 a0_0, .int .i64 a0_1, .int .i64 a0_2] (0, 0) _ rfl (by (with_reducible repeat (first | apply zuW | apply ztN | apply zqY)); refine zlL (cs := #[.int .i64 a0_0, .int .i64 a0_1, .int .i64 0]) ?_ 2 _ rfl; (with_reducible repeat (first | apply zuW | apply ztN | apply zqY)); refine zlL (cs := #[.int .i64 a0_0, .int .i64 0, .int .i64 0]) ?_ 1 _ rfl; (with_reducible repeat (first | apply zuW | apply ztN | apply zqY)); refine zlL (cs := #[.int .i64 0, .int .i64 0, .int .i64 0]) ?_ 0 _ rfl; (with_reducible repeat (first | apply zuW | apply ztN | apply zqY)); refine znI ?_ NB293_294.out _; (with_reducible repeat (first | apply zuW | apply ztN | apply zqY)); refine znI ?_ NB293_294.out _; (with_reducible repeat (first | apply zuW | apply ztN | apply zqY)); refine znI ?_ NB293_294.out _; (with_reducible repeat (first | apply zuW | apply ztN | apply zqY)); exact BK293.out) Tryd.underlying33 rfl (by kernel_rfl)) rfl ?_
 exact ⟨by first | rfl | (simp [ziS, znJ] <;> rfl) | (simp [*, ziS, znJ] <;> rfl), bb_⟩

def laws_toPoint.f (a0_0 : Int) (a0_1 : Int) (a0_2 : Int) (a0_3 : Int) (a0_4 : Int) (a0_5 : Int) : Option (Int × Int × Int × Int × Int × Int) := (zeD.f a0_0 a0_1 a0_2).bind fun bt298 => ((zeD.f a0_3 a0_4 a0_5).bind fun bt301 => (some (bt298.1, bt298.2.1, bt298.2.2, bt301.1, bt301.2.1, bt301.2.2)))
theorem laws_toPoint.calls (a0_0 : Int) (a0_1 : Int) (a0_2 : Int) (a0_3 : Int) (a0_4 : Int) (a0_5 : Int) (r1 : Int) (r2 : Int) (r3 : Int) (r4 : Int) (r5 : Int) (r6 : Int) (w : World) (h : laws_toPoint.f a0_0 a0_1 a0_2 a0_3 a0_4 a0_5 = some (r1, r2, r3, r4, r5, r6)) :
  Calls Tryd.prog 15 #[.agg #[.int .i64 a0_0, .int .i64 a0_1, .int .i64 a0_2, .int .i64 a0_3, .int .i64 a0_4, .int .i64 a0_5]] w fun e w' => e = .returned (.agg #[.int .i64 r1, .int .i64 r2, .int .i64 r3, .int .i64 r4, .int .i64 r5, .int .i64 r6]) ∧ Below w.heap.size w w' := by
 have hu41 := Tryd.underlying41
 have hu35 := Tryd.underlying35
 have hu39 := Tryd.underlying39
 have hu33 := Tryd.underlying33
 have HB := zpS (Below.refl w.heap.size w)
 have H : ((zeD.f a0_0 a0_1 a0_2).bind fun bt298 => ((zeD.f a0_3 a0_4 a0_5).bind fun bt301 => (some (bt298.1, bt298.2.1, bt298.2.2, bt301.1, bt301.2.1, bt301.2.2)))) = some (r1, r2, r3, r4, r5, r6) := h
 clear h
 replace H := Option.bind_eq_some_iff.mp H
 obtain ⟨⟨t298, t299, t300⟩, A20, H⟩ := H
 replace H : ((zeD.f a0_3 a0_4 a0_5).bind fun bt301 => (some (t298, t299, t300, bt301.1, bt301.2.1, bt301.2.2))) = some (r1, r2, r3, r4, r5, r6) := H
 have A2 := zpS A20
 clear A20
 replace H := Option.bind_eq_some_iff.mp H
 obtain ⟨⟨t301, t302, t303⟩, A30, H⟩ := H
 replace H : (some (t298, t299, t300, t301, t302, t303)) = some (r1, r2, r3, r4, r5, r6) := H
 have A3 := zpS A30
 clear A30
 simp only [Option.some.injEq, Prod.mk.injEq] at H
 obtain ⟨rfl, rfl, rfl, rfl, rfl, rfl⟩ := H
 go_enter Tryd.func15, Tryd.ntmps15
 go_wp2_with (first | ((with_reducible refine zpZ (N := 1) rfl ?_); refine bx_ 1 #[.int .i64 a0_0, .int .i64 a0_1, .int .i64 a0_2, .int .i64 a0_3, .int .i64 a0_4, .int .i64 a0_5] 41 ?_; intro gb295 hg w4 hbox hb; have n0_ := (ns_ hb); have n1_ := zpS (hbox); have n2_ := (ng_ hg); have n3_ := n2_; clear HB; have HB := n0_; have BK295 := n1_; have GW295 := n2_; have GE295 := n3_; clear n0_ n1_ n2_ n3_; clear hb hbox hg) | ((with_reducible refine zpZ (N := 2) rfl ?_); refine bx_ 2 #[.int .i64 0, .int .i64 0, .int .i64 0, .int .i64 0, .int .i64 0, .int .i64 0] 35 ?_; intro gb296 hg w5 hbox hb; have n0_ := zpS (zgM (g := gb295) (o := .cells #[.int .i64 a0_0, .int .i64 a0_1, .int .i64 a0_2, .int .i64 a0_3, .int .i64 a0_4, .int .i64 a0_5] 41 (0, 0)) bk_ hb); have n1_ := (ns_ hb); have n2_ := zpS (hbox); have n3_ := (ng_ hg); have n4_ := n3_; have n5_ := zpS ((by rw [hg]; exact Nat.ne_of_lt (zmN (g := gb295) (o := .cells #[.int .i64 a0_0, .int .i64 a0_1, .int .i64 a0_2, .int .i64 a0_3, .int .i64 a0_4, .int .i64 a0_5] 41 (0, 0)) bk_) : gb295 ≠ gb296)); have n6_ := zpS ((by rw [hg]; exact Nat.ne_of_gt (zmN (g := gb295) (o := .cells #[.int .i64 a0_0, .int .i64 a0_1, .int .i64 a0_2, .int .i64 a0_3, .int .i64 a0_4, .int .i64 a0_5] 41 (0, 0)) bk_) : gb296 ≠ gb295)); clear BK295; clear HB; have BK295 := n0_; have HB := n1_; have BK296 := n2_; have GW296 := n3_; have GE296 := n4_; have NB295_296 := n5_; have NB296_295 := n6_; clear n0_ n1_ n2_ n3_ n4_ n5_ n6_; clear hb hbox hg) | ((with_reducible refine zpZ (N := 3) rfl ?_); refine bx_ 3 #[.int .i64 0, .int .i64 0, .int .i64 0, .int .i64 0, .int .i64 0, .int .i64 0] 35 ?_; intro gb297 hg w6 hbox hb; have n0_ := zpS (zgM (g := gb295) (o := .cells #[.int .i64 a0_0, .int .i64 a0_1, .int .i64 a0_2, .int .i64 a0_3, .int .i64 a0_4, .int .i64 a0_5] 41 (0, 0)) bk_ hb); have n1_ := zpS (zgM (g := gb296) (o := .cells #[.int .i64 0, .int .i64 0, .int .i64 0, .int .i64 0, .int .i64 0, .int .i64 0] 35 (0, 0)) bk_ hb); have n2_ := (ns_ hb); have n3_ := zpS (hbox); have n4_ := (ng_ hg); have n5_ := n4_; have n6_ := zpS ((by rw [hg]; exact Nat.ne_of_lt (zmN (g := gb295) (o := .cells #[.int .i64 a0_0, .int .i64 a0_1, .int .i64 a0_2, .int .i64 a0_3, .int .i64 a0_4, .int .i64 a0_5] 41 (0, 0)) bk_) : gb295 ≠ gb297)); have n7_ := zpS ((by rw [hg]; exact Nat.ne_of_gt (zmN (g := gb295) (o := .cells #[.int .i64 a0_0, .int .i64 a0_1, .int .i64 a0_2, .int .i64 a0_3, .int .i64 a0_4, .int .i64 a0_5] 41 (0, 0)) bk_) : gb297 ≠ gb295)); have n8_ := zpS ((by rw [hg]; exact Nat.ne_of_lt (zmN (g := gb296) (o := .cells #[.int .i64 0, .int .i64 0, .int .i64 0, .int .i64 0, .int .i64 0, .int .i64 0] 35 (0, 0)) bk_) : gb296 ≠ gb297)); have n9_ := zpS ((by rw [hg]; exact Nat.ne_of_gt (zmN (g := gb296) (o := .cells #[.int .i64 0, .int .i64 0, .int .i64 0, .int .i64 0, .int .i64 0, .int .i64 0] 35 (0, 0)) bk_) : gb297 ≠ gb296)); clear BK295; clear BK296; clear HB; have BK295 := n0_; have BK296 := n1_; have HB := n2_; have BK297 := n3_; have GW297 := n4_; have GE297 := n5_; have NB295_297 := n6_; have NB297_295 := n7_; have NB296_297 := n8_; have NB297_296 := n9_; clear n0_ n1_ n2_ n3_ n4_ n5_ n6_ n7_ n8_ n9_; clear hb hbox hg; have hnb7 := NB295_296.out; have hnc7 := NB296_295.out; have hnb8 := NB295_297.out; have hnc8 := NB297_295.out; obtain ⟨hcz9_0, hcz9_1, hcz9_2, hcz9_3, hcz9_4, hcz9_5⟩ := zrN BK295.out; obtain ⟨hfz9_0, hfz9_1, hfz9_2, hfz9_3, hfz9_4, hfz9_5⟩ := zoO BK295.out) | ((with_reducible refine zgK (f := 28) rfl ?_); refine zqQ (some 6) rfl rfl Tryd.func28 (by kernel_rfl) rfl #[.agg #[.int .i64 a0_0, .int .i64 a0_1, .int .i64 a0_2]] rfl (by (try simp only [List.map_toArray, List.map_cons, List.map_nil]); first | done | rfl | (simp only [List.length_drop, List.length_take]; rfl)) ?_; (with_reducible refine (zeD.calls a0_0 a0_1 a0_2 t298 t299 t300 _ A2.out).mono ?_); rintro e w10 ⟨rfl, hb⟩; refine ⟨_, rfl, ?_⟩; have n0_ := zpS (zgM (g := gb295) (o := .cells #[.int .i64 a0_0, .int .i64 a0_1, .int .i64 a0_2, .int .i64 a0_3, .int .i64 a0_4, .int .i64 a0_5] 41 (0, 0)) bk_ hb); have n1_ := zpS (zgM (g := gb296) (o := .cells #[.int .i64 0, .int .i64 0, .int .i64 0, .int .i64 0, .int .i64 0, .int .i64 0] 35 (0, 0)) bk_ hb); have n2_ := zpS (zgM (g := gb297) (o := .cells #[.int .i64 0, .int .i64 0, .int .i64 0, .int .i64 0, .int .i64 0, .int .i64 0] 35 (0, 0)) bk_ hb); have n3_ := (ns_ hb); clear BK295; clear BK296; clear BK297; clear HB; have BK295 := n0_; have BK296 := n1_; have BK297 := n2_; have HB := n3_; clear n0_ n1_ n2_ n3_; (try clear hb); (try clear hb2); have hnb11 := NB297_296.out; have hnc11 := NB296_297.out; obtain ⟨hcz12_0, hcz12_1, hcz12_2, hcz12_3, hcz12_4, hcz12_5⟩ := zrN BK297.out; obtain ⟨hfz12_0, hfz12_1, hfz12_2, hfz12_3, hfz12_4, hfz12_5⟩ := zoO BK297.out; obtain ⟨hcz13_0, hcz13_1, hcz13_2, hcz13_3, hcz13_4, hcz13_5⟩ := zrN BK295.out; obtain ⟨hfz13_0, hfz13_1, hfz13_2, hfz13_3, hfz13_4, hfz13_5⟩ := zoO BK295.out) | ((with_reducible refine zgK (f := 28) rfl ?_); refine zqQ (some 10) rfl rfl Tryd.func28 (by kernel_rfl) rfl #[.agg #[.int .i64 a0_3, .int .i64 a0_4, .int .i64 a0_5]] rfl (by (try simp only [List.map_toArray, List.map_cons, List.map_nil]); first | done | rfl | (simp only [List.length_drop, List.length_take]; rfl)) ?_; (with_reducible refine (zeD.calls a0_3 a0_4 a0_5 t301 t302 t303 _ A3.out).mono ?_); rintro e w14 ⟨rfl, hb⟩; refine ⟨_, rfl, ?_⟩; have n0_ := zpS (zgM (g := gb295) (o := .cells #[.int .i64 a0_0, .int .i64 a0_1, .int .i64 a0_2, .int .i64 a0_3, .int .i64 a0_4, .int .i64 a0_5] 41 (0, 0)) (by (with_reducible repeat (first | apply zuW | apply ztN | apply zqY)); refine znI ?_ NB295_297.out _; (with_reducible repeat (first | apply zuW | apply ztN | apply zqY)); refine znI ?_ NB295_297.out _; (with_reducible repeat (first | apply zuW | apply ztN | apply zqY)); refine znI ?_ NB295_297.out _; (with_reducible repeat (first | apply zuW | apply ztN | apply zqY)); exact BK295.out) hb); have n1_ := zpS (zgM (g := gb296) (o := .cells #[.int .i64 0, .int .i64 0, .int .i64 0, .int .i64 0, .int .i64 0, .int .i64 0] 35 (0, 0)) (by (with_reducible repeat (first | apply zuW | apply ztN | apply zqY)); refine znI ?_ NB296_297.out _; (with_reducible repeat (first | apply zuW | apply ztN | apply zqY)); refine znI ?_ NB296_297.out _; (with_reducible repeat (first | apply zuW | apply ztN | apply zqY)); refine znI ?_ NB296_297.out _; (with_reducible repeat (first | apply zuW | apply ztN | apply zqY)); exact BK296.out) hb); have n2_ := zpS (zgM (g := gb297) (o := .cells #[.int .i64 t298, .int .i64 t299, .int .i64 t300, .int .i64 0, .int .i64 0, .int .i64 0] 35 (0, 0)) (by (with_reducible repeat (first | apply zuW | apply ztN | apply zqY)); refine zlL (cs := #[.int .i64 t298, .int .i64 t299, .int .i64 0, .int .i64 0, .int .i64 0, .int .i64 0]) ?_ 2 _ rfl; (with_reducible repeat (first | apply zuW | apply ztN | apply zqY)); refine zlL (cs := #[.int .i64 t298, .int .i64 0, .int .i64 0, .int .i64 0, .int .i64 0, .int .i64 0]) ?_ 1 _ rfl; (with_reducible repeat (first | apply zuW | apply ztN | apply zqY)); refine zlL (cs := #[.int .i64 0, .int .i64 0, .int .i64 0, .int .i64 0, .int .i64 0, .int .i64 0]) ?_ 0 _ rfl; (with_reducible repeat (first | apply zuW | apply ztN | apply zqY)); exact BK297.out) hb); have n3_ := (ns_ hb); clear BK295; clear BK296; clear BK297; clear HB; have BK295 := n0_; have BK296 := n1_; have BK297 := n2_; have HB := n3_; clear n0_ n1_ n2_ n3_; (try clear hb); (try clear hb2); obtain ⟨hcz15_0, hcz15_1, hcz15_2, hcz15_3, hcz15_4, hcz15_5⟩ := zrN BK297.out; obtain ⟨hfz15_0, hfz15_1, hfz15_2, hfz15_3, hfz15_4, hfz15_5⟩ := zoO BK297.out; obtain ⟨hcz16_0, hcz16_1, hcz16_2, hcz16_3, hcz16_4, hcz16_5⟩ := zrN BK296.out; obtain ⟨hfz16_0, hfz16_1, hfz16_2, hfz16_3, hfz16_4, hfz16_5⟩ := zoO BK296.out))
 refine bodyPost_ret (results_cell_row rfl _ _ gb296 35 #[.int .i64 t298, .int .i64 t299, .int .i64 t300, .int .i64 t301, .int .i64 t302, .int .i64 t303] (0, 0) _ rfl (by (with_reducible repeat (first | apply zuW | apply ztN | apply zqY)); refine zlL (cs := #[.int .i64 t298, .int .i64 t299, .int .i64 t300, .int .i64 t301, .int .i64 t302, .int .i64 0]) ?_ 5 _ rfl; (with_reducible repeat (first | apply zuW | apply ztN | apply zqY)); refine zlL (cs := #[.int .i64 t298, .int .i64 t299, .int .i64 t300, .int .i64 t301, .int .i64 0, .int .i64 0]) ?_ 4 _ rfl; (with_reducible repeat (first | apply zuW | apply ztN | apply zqY)); refine zlL (cs := #[.int .i64 t298, .int .i64 t299, .int .i64 t300, .int .i64 0, .int .i64 0, .int .i64 0]) ?_ 3 _ rfl; (with_reducible repeat (first | apply zuW | apply ztN | apply zqY)); refine zlL (cs := #[.int .i64 t298, .int .i64 t299, .int .i64 0, .int .i64 0, .int .i64 0, .int .i64 0]) ?_ 2 _ rfl; (with_reducible repeat (first | apply zuW | apply ztN | apply zqY)); refine zlL (cs := #[.int .i64 t298, .int .i64 0, .int .i64 0, .int .i64 0, .int .i64 0, .int .i64 0]) ?_ 1 _ rfl; (with_reducible repeat (first | apply zuW | apply ztN | apply zqY)); refine zlL (cs := #[.int .i64 0, .int .i64 0, .int .i64 0, .int .i64 0, .int .i64 0, .int .i64 0]) ?_ 0 _ rfl; (with_reducible repeat (first | apply zuW | apply ztN | apply zqY)); refine znI ?_ NB296_297.out _; (with_reducible repeat (first | apply zuW | apply ztN | apply zqY)); refine znI ?_ NB296_297.out _; (with_reducible repeat (first | apply zuW | apply ztN | apply zqY)); refine znI ?_ NB296_297.out _; (with_reducible repeat (first | apply zuW | apply ztN | apply zqY)); exact BK296.out) Tryd.underlying35 rfl (by kernel_rfl)) rfl ?_
 exact ⟨by first | rfl | (simp [ziS, znJ] <;> rfl) | (simp [*, ziS, znJ] <;> rfl), bb_⟩

def ztE.l0 : Nat → List (S41) → List (S35) → Int → Option ((List (S35)))
 | 0, _, _, _ => none
 | k + 1, x0, x3, x4 => if x4 < (x0.length : Int) then (if 0 ≤ x4 then ((laws_toPoint.f ((zdH x0 x4).f0.f0) ((zdH x0 x4).f0.f1) ((zdH x0 x4).f0.f2) ((zdH x0 x4).f1.f0) ((zdH x0 x4).f1.f1) ((zdH x0 x4).f1.f2)).bind fun bt308 => (if x4 < (x3.length : Int) then (ztE.l0 k x0 (x3.set (x4 : Int).toNat (⟨(⟨bt308.1, bt308.2.1, bt308.2.2.1⟩ : S33), (⟨bt308.2.2.2.1, bt308.2.2.2.2.1, bt308.2.2.2.2.2⟩ : S33)⟩ : S35)) (wrap64 (x4 + 1))) else (none))) else (none)) else (some x3)
def ztE.f (k : Nat) (l0 : List (S41)) : Option ((List (S35))) := if 0 ≤ (l0.length : Int) then (if ((l0.length : Int) : Int).toNat ≤ 5864062014805 then (ztE.l0 k l0 (List.replicate ((l0.length : Int) : Int).toNat z35) 0) else (none)) else (none)
theorem ztE.mono_l : ∀ k, (∀ y0 y1 y2, LeO (ztE.l0 k y0 y1 y2) (ztE.l0 (k + 1) y0 y1 y2))
 | 0 => fun _ _ _ r h => by simp [ztE.l0] at h
 | k + 1 => by
  have ih0 := ztE.mono_l k
  ·intro y0 y1 y2
   unfold ztE.l0
   repeat' first
   | (with_reducible exact ih0 _ _ _)
   | (with_reducible exact LeO.refl _)
   | (with_reducible exact LeO.none _)
   | (with_reducible refine LeO.ite ?_ ?_)
   | (with_reducible refine LeO.bind ?_ (fun _ => ?_))
   | exact ih0 _ _ _
   | exact LeO.none _
   | refine LeO.ite ?_ ?_
   | refine LeO.bind ?_ (fun _ => ?_)
theorem ztE.mono : ∀ a0 k, LeO (ztE.f k a0) (ztE.f (k + 1) a0) := by
 intro a0 k
 have ih0 := ztE.mono_l k
 unfold ztE.f
 repeat' first
   | (with_reducible exact ih0 _ _ _)
   | (with_reducible exact LeO.refl _)
   | (with_reducible exact LeO.none _)
   | (with_reducible refine LeO.ite ?_ ?_)
   | (with_reducible refine LeO.bind ?_ (fun _ => ?_))
   | exact ih0 _ _ _
   | exact LeO.none _
   | refine LeO.ite ?_ ?_
   | refine LeO.bind ?_ (fun _ => ?_)
theorem ztE.calls (k : Nat) (A0 : Option Addr) (c0 : Nat) (l0 : List (S41)) (r : List (S35)) (w : World) (hr0 : Kd.C k41 w A0 l0.length l0) (hc0 : l0.length ≤ c0) (h : ztE.f k l0 = some r) :
  Calls Tryd.prog 6 #[.slice A0 l0.length c0] w fun e w' => ∃ v0_ : Value, e = .returned (v0_) ∧ Kd.R k35 35 w' w.heap.size (fun _ => True) v0_ r ∧ Below w.heap.size w w' := by
 have hu41 := Tryd.underlying41
 have hu35 := Tryd.underlying35
 have HR0 := zpS hr0
 have HC0 := zpS hc0
 clear hr0 hc0
 have HB := zpS (Below.refl w.heap.size w)
 have H : (if 0 ≤ (l0.length : Int) then (if ((l0.length : Int) : Int).toNat ≤ 5864062014805 then (ztE.l0 k l0 (List.replicate ((l0.length : Int) : Int).toNat z35) 0) else (none)) else (none)) = some r := h
 clear h
 by_cases c2 : 0 ≤ (l0.length : Int)
 ·rw [if_pos c2] at H
  have c2b0 := eq_true c2
  have c2b1 : decide (0 ≤ (l0.length : Int)) = true := decide_eq_true c2
  clear c2
  by_cases c3 : ((l0.length : Int) : Int).toNat ≤ 5864062014805
  ·rw [if_pos c3] at H
   have c3b0 := eq_true c3
   have c3b1 : decide (((l0.length : Int) : Int).toNat ≤ 5864062014805) = true := decide_eq_true c3
   clear c3
   obtain ⟨y304, hy304⟩ : ∃ y_ : List (S35), y_ = (List.replicate ((l0.length : Int) : Int).toNat z35) := ⟨_, rfl⟩
   replace H : (ztE.l0 k l0 y304 0) = some r := by first | (rw [hy304]; with_reducible exact H) | (have H2_ := (Option.bind_some _ _).symm.trans H; rw [hy304]; with_reducible exact H2_) | (have H2_ := (Option.bind_some _ _).symm.trans H; with_reducible exact H2_) | with_reducible exact H | (rw [hy304]; exact H) | exact H
   have Ny304 := zpS hy304
   clear hy304
   have H' := zpS H
   clear H
   go_enter Tryd.func6, Tryd.ntmps6
   go_wp2_with (first | ((with_reducible refine zpZ (N := 7) rfl ?_); refine Kd.R_make k35 _ 35 rfl (N := 7) rfl 24 _ _ rfl (l0.length : Int) rfl rfl Tryd.underlying24 (.agg #[(.int .i64 0), (.int .i64 0), (.int .i64 0), (.int .i64 0), (.int .i64 0), (.int .i64 0)]) 48 info35 rfl (by decide) (by omega) z35 (ok := fun _ => True) (okp := fun _ => True) (k35_mkM _ _ _ z35 ) (fun _ hk => hk) trivial dt_ (Nat.le_trans (Nat.mul_le_mul_right _ (dt_ : (l0.length : Int).toNat ≤ 5864062014805)) (by omega)) (Below.refl _ _) (Nat.le_refl _) ?_; intro v305 w4 ho5 hb hg_ hnew_; clear hg_ hnew_; (first | rw [← Ny304.out] at ho5 | (simp only [Int.reduceToNat] at ho5; rw [← Ny304.out] at ho5)); have n0_ := zpS (Kd.R_lower ho5 (zuA bb_)); have n1_ := (ns_ hb); clear HB; have HO306 := n0_; have HB := n1_; clear n0_ n1_; clear hb ho5))
   (try go_simp)
   go_loopg [4] k (fun kq v4 w' => ∃ (x3_1 : List (S35)) (x4_1 : Int), v4 = .int .i64 x4_1 ∧ Aside0 (ztE.l0 kq l0 x3_1 x4_1 = some r) ∧ Aside0 (kq ≤ k) ∧ Aside0 (Kd.R k35 35 w' w.heap.size (fun _ => True) v305 x3_1) ∧ Aside0 (Below w.heap.size w w'))
   case atStart => exact ⟨(y304), (0), (by first | rfl | (simp; done) | (simp [*]; done)), H', ⟨Nat.le_refl _⟩, ⟨by (with_reducible repeat (first | apply Kd.R_alloc | apply Kd.R_drewN | apply Kd.R_drew)); exact HO306.out⟩, ⟨bb_⟩⟩
   case round =>
    clear H'
    try clear c2
    try clear c2b0
    try clear c2b1
    try clear p2
    try clear c3
    try clear c3b0
    try clear c3b1
    obtain ⟨x3_1, x4_1, rfl, HA, HK1, HO_3, HB⟩ := hrel
    cases gk with
    | zero => exact absurd HA.out (by simp [ztE.l0])
    | succ k1 =>
     have H := HA.out
     clear HA
     simp only [ztE.l0] at H
     by_cases c6 : x4_1 < (l0.length : Int)
     ·rw [if_pos c6] at H
      have c6b0 : decide (x4_1 < (l0.length : Int)) = true := decide_eq_true c6
      clear c6
      by_cases c7 : 0 ≤ x4_1
      ·rw [if_pos c7] at H
       have c7b0 : decide (0 ≤ x4_1) = true := decide_eq_true c7
       clear c7
       replace H := Option.bind_eq_some_iff.mp H
       obtain ⟨⟨t308, t309, t310, t311, t312, t313⟩, A80, H⟩ := H
       replace H : (if x4_1 < (x3_1.length : Int) then (ztE.l0 k1 l0 (x3_1.set (x4_1 : Int).toNat (⟨(⟨t308, t309, t310⟩ : S33), (⟨t311, t312, t313⟩ : S33)⟩ : S35)) (wrap64 (x4_1 + 1))) else (none)) = some r := H
       have A8 := zpS A80
       clear A80
       by_cases c9 : x4_1 < (x3_1.length : Int)
       ·rw [if_pos c9] at H
        have c9b0 : decide (x4_1 < (x3_1.length : Int)) = true := decide_eq_true c9
        clear c9
        obtain ⟨y314, hy314⟩ : ∃ y_ : List (S35), y_ = (x3_1.set (x4_1 : Int).toNat (⟨(⟨t308, t309, t310⟩ : S33), (⟨t311, t312, t313⟩ : S33)⟩ : S35)) := ⟨_, rfl⟩
        replace H : (ztE.l0 k1 l0 y314 (wrap64 (x4_1 + 1))) = some r := by first | (rw [hy314]; with_reducible exact H) | (have H2_ := (Option.bind_some _ _).symm.trans H; rw [hy314]; with_reducible exact H2_) | (have H2_ := (Option.bind_some _ _).symm.trans H; with_reducible exact H2_) | with_reducible exact H | (rw [hy314]; exact H) | exact H
        have Ny314 := zpS hy314
        clear hy314
        have H' := zpS H
        clear H
        have p307 : 0 ≤ (x4_1 : Int) := dt_
        have q307 : x4_1 < (l0.length : Int) := dt_
        obtain ⟨ad307, e307, hx307_0, hx307_1, hx307_2, hx307_3, hx307_4, hx307_5⟩ := at_T41 HR0.out x4_1 p307 q307
        cases e307
        replace hx307_0 := zeA HB.out hx307_0
        replace hx307_1 := zeA HB.out hx307_1
        replace hx307_2 := zeA HB.out hx307_2
        replace hx307_3 := zeA HB.out hx307_3
        replace hx307_4 := zeA HB.out hx307_4
        replace hx307_5 := zeA HB.out hx307_5
        replace p307 := eq_true p307
        replace q307 := eq_true q307
        go_wp2_with (first | ((with_reducible refine zgK (f := 15) rfl ?_); refine zqQ (some 20) rfl rfl Tryd.func15 (by kernel_rfl) rfl #[.agg #[.int .i64 ((zdH l0 x4_1).f0.f0), .int .i64 ((zdH l0 x4_1).f0.f1), .int .i64 ((zdH l0 x4_1).f0.f2), .int .i64 ((zdH l0 x4_1).f1.f0), .int .i64 ((zdH l0 x4_1).f1.f1), .int .i64 ((zdH l0 x4_1).f1.f2)]] rfl (by (try simp only [List.map_toArray, List.map_cons, List.map_nil]); first | done | rfl | (simp only [List.length_drop, List.length_take]; rfl)) ?_; (with_reducible refine (laws_toPoint.calls ((zdH l0 x4_1).f0.f0) ((zdH l0 x4_1).f0.f1) ((zdH l0 x4_1).f0.f2) ((zdH l0 x4_1).f1.f0) ((zdH l0 x4_1).f1.f1) ((zdH l0 x4_1).f1.f2) t308 t309 t310 t311 t312 t313 _ A8.out).mono ?_); rintro e w11 ⟨rfl, hb⟩; refine ⟨_, rfl, ?_⟩; have n0_ := zpS (Kd.R_below (by (with_reducible repeat (first | apply Kd.R_alloc | apply Kd.R_drewN | apply Kd.R_drew)); exact HO_3.out) hb); have n1_ := (ns_ hb); clear HO_3; clear HB; have HO_3 := n0_; have HB := n1_; clear n0_ n1_; (try clear hb); (try clear hb2); have p10 : 0 ≤ (x4_1 : Int) := dt_; have q10 : (x4_1 : Int) < ((x3_1.length : Int) : Int) := dt_; obtain ⟨go10, co10, eo10, gb10, gl10, cl10, HG10⟩ := Kd.R_form HO_3.out (by omega); (first | cases eo10 | (injection eo10 with ea_ en_ ec_; (first | subst ea_ | (injection ea_ with ea_; subst ea_)); subst ec_; clear en_)); have GB10 := zpS gb10; have GG10 := zpS HG10; clear gb10 gl10 HG10; obtain ⟨ce10, hcl10, hM10, hcc10, hfr10⟩ := Kd.R_elem HO_3.out z35 (x4_1 : Int) p10 q10; obtain rfl := zeE hM10; have hx10_0 : w11.cell? ⟨go10, (x4_1 : Int).toNat * 6, none⟩ = some (.int .i64 ((zmE x3_1 x4_1).f0.f0)) := hcc10 0 _ rfl; have hx10_1 : w11.cell? ⟨go10, (x4_1 : Int).toNat * 6 + 1, none⟩ = some (.int .i64 ((zmE x3_1 x4_1).f0.f1)) := hcc10 1 _ rfl; have hx10_2 : w11.cell? ⟨go10, (x4_1 : Int).toNat * 6 + 2, none⟩ = some (.int .i64 ((zmE x3_1 x4_1).f0.f2)) := hcc10 2 _ rfl; have hx10_3 : w11.cell? ⟨go10, (x4_1 : Int).toNat * 6 + 3, none⟩ = some (.int .i64 ((zmE x3_1 x4_1).f1.f0)) := hcc10 3 _ rfl; have hx10_4 : w11.cell? ⟨go10, (x4_1 : Int).toNat * 6 + 4, none⟩ = some (.int .i64 ((zmE x3_1 x4_1).f1.f1)) := hcc10 4 _ rfl; have hx10_5 : w11.cell? ⟨go10, (x4_1 : Int).toNat * 6 + 5, none⟩ = some (.int .i64 ((zmE x3_1 x4_1).f1.f2)) := hcc10 5 _ rfl; have hf10_0 : w11.frozen? ⟨go10, (x4_1 : Int).toNat * 6, none⟩ = false := hfr10 0; have hf10_1 : w11.frozen? ⟨go10, (x4_1 : Int).toNat * 6 + 1, none⟩ = false := hfr10 1; have hf10_2 : w11.frozen? ⟨go10, (x4_1 : Int).toNat * 6 + 2, none⟩ = false := hfr10 2; have hf10_3 : w11.frozen? ⟨go10, (x4_1 : Int).toNat * 6 + 3, none⟩ = false := hfr10 3; have hf10_4 : w11.frozen? ⟨go10, (x4_1 : Int).toNat * 6 + 4, none⟩ = false := hfr10 4; have hf10_5 : w11.frozen? ⟨go10, (x4_1 : Int).toNat * 6 + 5, none⟩ = false := hfr10 5; clear hcl10 hcc10 hfr10; (try clear hM10); replace p10 := eq_true p10; replace q10 := eq_true q10; have HX12 := zpS (show Kd.R k35 35 w11 w.heap.size (fun _ => True) (.slice (some ⟨go10, 0, none⟩) x3_1.length co10) x3_1 from (by (with_reducible repeat (first | apply Kd.R_alloc | apply Kd.R_drewN | apply Kd.R_drew)); exact HO_3.out)); obtain ⟨ce12, hcl12, hM12, hcc12, hfr12⟩ := Kd.R_elem HX12.out z35 (x4_1 : Int) dt_ (by have h_ : (x4_1 : Int) < ((x3_1.length : Int) : Int) := dt_; first | exact h_ | (have e_ := (Kd.R_reads' HO_3.out).1; omega) | simpa using h_); obtain rfl := zeE hM12; have HP12 := Kd.R_seg HX12.out (x4_1 : Int) dt_ (by have h_ : (x4_1 : Int) < ((x3_1.length : Int) : Int) := dt_; first | exact h_ | (have e_ := (Kd.R_reads' HO_3.out).1; omega) | simpa using h_) (seg := [.int .i64 t308, .int .i64 t309, .int .i64 t310, .int .i64 t311, .int .i64 t312, .int .i64 t313]) (j := 0) hcl12 hcc12 (show 6 ≤ 6 from by decide) (x' := (⟨(⟨t308, t309, t310⟩ : S33), (⟨t311, t312, t313⟩ : S33)⟩ : S35)) (k35_mkM _ _ _ (⟨(⟨t308, t309, t310⟩ : S33), (⟨t311, t312, t313⟩ : S33)⟩ : S35) ) (fun _ hk => hk); have hx12_0 := hcc12 0 _ rfl; (try simp only [show (k35).sz = 6 from rfl, Nat.mul_one, Nat.add_zero] at hx12_0); have hf12_0 := hfr12 0; (try simp only [show (k35).sz = 6 from rfl, Nat.mul_one, Nat.add_zero] at hf12_0); have hx12_1 := hcc12 1 _ rfl; (try simp only [show (k35).sz = 6 from rfl, Nat.mul_one, Nat.add_zero] at hx12_1); have hf12_1 := hfr12 1; (try simp only [show (k35).sz = 6 from rfl, Nat.mul_one, Nat.add_zero] at hf12_1); have hx12_2 := hcc12 2 _ rfl; (try simp only [show (k35).sz = 6 from rfl, Nat.mul_one, Nat.add_zero] at hx12_2); have hf12_2 := hfr12 2; (try simp only [show (k35).sz = 6 from rfl, Nat.mul_one, Nat.add_zero] at hf12_2); have hx12_3 := hcc12 3 _ rfl; (try simp only [show (k35).sz = 6 from rfl, Nat.mul_one, Nat.add_zero] at hx12_3); have hf12_3 := hfr12 3; (try simp only [show (k35).sz = 6 from rfl, Nat.mul_one, Nat.add_zero] at hf12_3); have hx12_4 := hcc12 4 _ rfl; (try simp only [show (k35).sz = 6 from rfl, Nat.mul_one, Nat.add_zero] at hx12_4); have hf12_4 := hfr12 4; (try simp only [show (k35).sz = 6 from rfl, Nat.mul_one, Nat.add_zero] at hf12_4); have hx12_5 := hcc12 5 _ rfl; (try simp only [show (k35).sz = 6 from rfl, Nat.mul_one, Nat.add_zero] at hx12_5); have hf12_5 := hfr12 5; (try simp only [show (k35).sz = 6 from rfl, Nat.mul_one, Nat.add_zero] at hf12_5); clear hcl12 hcc12 hfr12; (try clear hM12)) | ((with_reducible refine gate_store (t := 35) (p := 21) rfl ?_); refine zuD (t := 35) (p := 21) (v := ?vo_w13) (w1 := ((((((w11.setCell ⟨go10, (x4_1 : Int).toNat * 6, none⟩ (.int .i64 t308)).setCell ⟨go10, (x4_1 : Int).toNat * 6 + 1, none⟩ (.int .i64 t309)).setCell ⟨go10, (x4_1 : Int).toNat * 6 + 2, none⟩ (.int .i64 t310)).setCell ⟨go10, (x4_1 : Int).toNat * 6 + 3, none⟩ (.int .i64 t311)).setCell ⟨go10, (x4_1 : Int).toNat * 6 + 4, none⟩ (.int .i64 t312)).setCell ⟨go10, (x4_1 : Int).toNat * 6 + 5, none⟩ (.int .i64 t313))) ?hg ?ho ?hn ?hr ?_; (case ho => rfl); (case hg => rfl); (case hn => rfl); (case hr => first | (go_simp; done) | (go_simp; rfl)); intro w13 hw; have hg : w11.grownBy w13 (some go10) := (by rw [hw]; exact HP12.2); have hp_ : Kd.R k35 35 w13 w.heap.size (fun _ => True) (.slice (some ⟨go10, 0, none⟩) x3_1.length co10) y314 := (by rw [hw, Ny314.out]; exact HP12.1); clear HP12; have n0_ := zpS (hp_); have n1_ := zpS ((by rw [hw]; exact zjG (zjG (zjG (zjG (zjG (zjG (HB.out) GB10.out) GB10.out) GB10.out) GB10.out) GB10.out) GB10.out : Below w.heap.size w w13)); clear HO_3; clear HB; have HO_3 := n0_; have HB := n1_; clear n0_ n1_; clear hg hw hp_))
        go_roundg k1
        case measure => have := HK1.out; omega
        case rel => exact ⟨(y314), (wrap64 (x4_1 + 1)), (by first | rfl | (simp; done) | (simp [*]; done)), H', ⟨by have := HK1.out; omega⟩, ⟨by (with_reducible repeat (first | apply Kd.R_alloc | apply Kd.R_drewN | apply Kd.R_drew)); exact HO_3.out⟩, ⟨bb_⟩⟩
       ·rw [if_neg c9] at H
        exact absurd H (by simp)
      ·rw [if_neg c7] at H
       exact absurd H (by simp)
     ·rw [if_neg c6] at H
      have c6b0 : decide (x4_1 < (l0.length : Int)) = false := decide_eq_false c6
      clear c6
      obtain rfl := Option.some.inj H
      go_wp2
      go_ret
      exact ⟨_, by first | rfl | (simp [ziS, znJ] <;> rfl) | (simp [*, ziS, znJ] <;> rfl), by (with_reducible repeat (first | apply Kd.R_alloc | apply Kd.R_drewN | apply Kd.R_drew)); exact HO_3.out, bb_⟩
  ·rw [if_neg c3] at H
   exact absurd H (by simp)
 ·rw [if_neg c2] at H
  exact absurd H (by simp)

-- NOT PRINTED: function 42 (impl_Point_42)

-- NOT PRINTED: function 29 (impl_Point_29)

def zrP.f (a0 : Int) (a1 : Int) (a2 : Int) : Option (Bool) := if a0 ≥ a1 then (some (decide (a0 ≤ a2))) else (some false)
theorem zrP.calls (a0 : Int) (a1 : Int) (a2 : Int) (r : Bool) (w : World) (h : zrP.f a0 a1 a2 = some r) :
  Calls Tryd.prog 34 #[.int .i64 a0, .int .i64 a1, .int .i64 a2] w fun e w' => e = .returned (.bool r) ∧ Drawn0 w w' := by
 have H : (if a0 ≥ a1 then (some (decide (a0 ≤ a2))) else (some false)) = some r := h
 clear h
 by_cases c4 : a0 ≥ a1
 ·rw [if_pos c4] at H
  have c4b0 : decide (a1 ≤ a0) = true := decide_eq_true c4
  clear c4
  obtain rfl := Option.some.inj H
  go_enter Tryd.func34, Tryd.ntmps34
  go_wp2
  go_ret
  exact ⟨by first | rfl | (simp; done) | (simp [*]; done), by repeat (first | exact Drawn0.refl _ | apply Drawn0.step)⟩
 ·rw [if_neg c4] at H
  have c4b0 : decide (a1 ≤ a0) = false := decide_eq_false c4
  clear c4
  obtain rfl := Option.some.inj H
  go_enter Tryd.func34, Tryd.ntmps34
  go_wp2
  go_ret
  exact ⟨by first | rfl | (simp; done) | (simp [*]; done), by repeat (first | exact Drawn0.refl _ | apply Drawn0.step)⟩

def zdR.f (a0_0 : Int) (a0_1 : Int) (a0_2 : Int) : Option (Bool) := (zrP.f a0_0 (-131072) 131072).bind fun t316 => (if t316 = true then ((zrP.f a0_1 (-131072) 131072).bind fun t317 => (if t317 = true then ((zrP.f a0_2 0 10).bind fun t318 => (if t318 = true then (if a0_2 = 0 then (some true) else (if (Go.bits .and .i64 a0_0 1) = 1 then (some true) else (some ((Go.bits .and .i64 a0_1 1) == 1)))) else (some false))) else (some false))) else (some false))
theorem zdR.calls (a0_0 : Int) (a0_1 : Int) (a0_2 : Int) (r : Bool) (w : World) (h : zdR.f a0_0 a0_1 a0_2 = some r) :
  Calls Tryd.prog 43 #[.agg #[.int .i64 a0_0, .int .i64 a0_1, .int .i64 a0_2]] w fun e w' => e = .returned (.bool r) ∧ Below w.heap.size w w' := by
 have hu33 := Tryd.underlying33
 have HB := zpS (Below.refl w.heap.size w)
 have H : ((zrP.f a0_0 (-131072) 131072).bind fun t316 => (if t316 = true then ((zrP.f a0_1 (-131072) 131072).bind fun t317 => (if t317 = true then ((zrP.f a0_2 0 10).bind fun t318 => (if t318 = true then (if a0_2 = 0 then (some true) else (if (Go.bits .and .i64 a0_0 1) = 1 then (some true) else (some ((Go.bits .and .i64 a0_1 1) == 1)))) else (some false))) else (some false))) else (some false))) = some r := h
 clear h
 replace H := Option.bind_eq_some_iff.mp H
 obtain ⟨t316, A20, H⟩ := H
 replace H : (if t316 = true then ((zrP.f a0_1 (-131072) 131072).bind fun t317 => (if t317 = true then ((zrP.f a0_2 0 10).bind fun t318 => (if t318 = true then (if a0_2 = 0 then (some true) else (if (Go.bits .and .i64 a0_0 1) = 1 then (some true) else (some ((Go.bits .and .i64 a0_1 1) == 1)))) else (some false))) else (some false))) else (some false)) = some r := H
 have A2 := zpS A20
 clear A20
 by_cases c3 : t316 = true
 ·subst c3
  have H1 : ((zrP.f a0_1 (-131072) 131072).bind fun t317 => (if t317 = true then ((zrP.f a0_2 0 10).bind fun t318 => (if t318 = true then (if a0_2 = 0 then (some true) else (if (Go.bits .and .i64 a0_0 1) = 1 then (some true) else (some ((Go.bits .and .i64 a0_1 1) == 1)))) else (some false))) else (some false))) = some r := by rw [if_pos rfl] at H; exact H
  clear H
  have H := H1
  clear H1
  replace H := Option.bind_eq_some_iff.mp H
  obtain ⟨t317, A40, H⟩ := H
  replace H : (if t317 = true then ((zrP.f a0_2 0 10).bind fun t318 => (if t318 = true then (if a0_2 = 0 then (some true) else (if (Go.bits .and .i64 a0_0 1) = 1 then (some true) else (some ((Go.bits .and .i64 a0_1 1) == 1)))) else (some false))) else (some false)) = some r := H
  have A4 := zpS A40
  clear A40
  by_cases c5 : t317 = true
  ·subst c5
   have H1 : ((zrP.f a0_2 0 10).bind fun t318 => (if t318 = true then (if a0_2 = 0 then (some true) else (if (Go.bits .and .i64 a0_0 1) = 1 then (some true) else (some ((Go.bits .and .i64 a0_1 1) == 1)))) else (some false))) = some r := by rw [if_pos rfl] at H; exact H
   clear H
   have H := H1
   clear H1
   replace H := Option.bind_eq_some_iff.mp H
   obtain ⟨t318, A60, H⟩ := H
   replace H : (if t318 = true then (if a0_2 = 0 then (some true) else (if (Go.bits .and .i64 a0_0 1) = 1 then (some true) else (some ((Go.bits .and .i64 a0_1 1) == 1)))) else (some false)) = some r := H
   have A6 := zpS A60
   clear A60
   by_cases c7 : t318 = true
   ·subst c7
    have H1 : (if a0_2 = 0 then (some true) else (if (Go.bits .and .i64 a0_0 1) = 1 then (some true) else (some ((Go.bits .and .i64 a0_1 1) == 1)))) = some r := by rw [if_pos rfl] at H; exact H
    clear H
    have H := H1
    clear H1
    by_cases c8 : a0_2 = 0
    ·rw [if_pos c8] at H
     have c8b0 : (a0_2 == 0) = true := beq_iff_eq.mpr c8
     have c8b1 : (a0_2 != 0) = false := bne_eq_false_iff_eq.mpr c8
     clear c8
     obtain rfl := Option.some.inj H
     go_enter Tryd.func43, Tryd.ntmps43
     go_wp2_with (first | ((with_reducible refine zpZ (N := 1) rfl ?_); refine bx_ 1 #[.int .i64 a0_0, .int .i64 a0_1, .int .i64 a0_2] 33 ?_; intro gb315 hg w9 hbox hb; have n0_ := (ns_ hb); have n1_ := zpS (hbox); have n2_ := (ng_ hg); have n3_ := n2_; clear HB; have HB := n0_; have BK315 := n1_; have GW315 := n2_; have GE315 := n3_; clear n0_ n1_ n2_ n3_; clear hb hbox hg; obtain ⟨hcz10_0, hcz10_1, hcz10_2⟩ := zdT BK315.out; obtain ⟨hfz10_0, hfz10_1, hfz10_2⟩ := zqD BK315.out) | ((with_reducible refine zgK (f := 34) rfl ?_); refine zqQ (some 5) rfl rfl Tryd.func34 (by kernel_rfl) rfl #[.int .i64 a0_0, .int .i64 (-131072), .int .i64 131072] rfl (by (try simp only [List.map_toArray, List.map_cons, List.map_nil]); first | done | rfl | (simp only [List.length_drop, List.length_take]; rfl)) ?_; (with_reducible refine (zrP.calls a0_0 (-131072) 131072 true _ A2.out).mono ?_); rintro e w' ⟨rfl, ⟨nd, rfl⟩⟩; refine ⟨_, rfl, ?_⟩) | (go_at_call 34; (with_reducible refine (zrP.calls a0_1 (-131072) 131072 true _ A4.out).mono ?_); rintro e w' ⟨rfl, ⟨nd, rfl⟩⟩) | (go_at_call 34; (with_reducible refine (zrP.calls a0_2 0 10 true _ A6.out).mono ?_); rintro e w' ⟨rfl, ⟨nd, rfl⟩⟩))
     go_ret
     exact ⟨by first | rfl | (simp [ziS, znJ] <;> rfl) | (simp [*, ziS, znJ] <;> rfl), bb_⟩
    ·rw [if_neg c8] at H
     have c8b0 : (a0_2 == 0) = false := beq_eq_false_iff_ne.mpr c8
     have c8b1 : (a0_2 != 0) = true := bne_iff_ne.mpr c8
     by_cases c11 : (Go.bits .and .i64 a0_0 1) = 1
     ·rw [if_pos c11] at H
      have c11b0 : ((Go.bits .and .i64 a0_0 1) == 1) = true := beq_iff_eq.mpr c11
      have c11b1 : ((Go.bits .and .i64 a0_0 1) != 1) = false := bne_eq_false_iff_eq.mpr c11
      clear c11
      obtain rfl := Option.some.inj H
      go_enter Tryd.func43, Tryd.ntmps43
      go_wp2_with (first | ((with_reducible refine zpZ (N := 1) rfl ?_); refine bx_ 1 #[.int .i64 a0_0, .int .i64 a0_1, .int .i64 a0_2] 33 ?_; intro gb315 hg w12 hbox hb; have n0_ := (ns_ hb); have n1_ := zpS (hbox); have n2_ := (ng_ hg); have n3_ := n2_; clear HB; have HB := n0_; have BK315 := n1_; have GW315 := n2_; have GE315 := n3_; clear n0_ n1_ n2_ n3_; clear hb hbox hg; obtain ⟨hcz13_0, hcz13_1, hcz13_2⟩ := zdT BK315.out; obtain ⟨hfz13_0, hfz13_1, hfz13_2⟩ := zqD BK315.out) | ((with_reducible refine zgK (f := 34) rfl ?_); refine zqQ (some 5) rfl rfl Tryd.func34 (by kernel_rfl) rfl #[.int .i64 a0_0, .int .i64 (-131072), .int .i64 131072] rfl (by (try simp only [List.map_toArray, List.map_cons, List.map_nil]); first | done | rfl | (simp only [List.length_drop, List.length_take]; rfl)) ?_; (with_reducible refine (zrP.calls a0_0 (-131072) 131072 true _ A2.out).mono ?_); rintro e w' ⟨rfl, ⟨nd, rfl⟩⟩; refine ⟨_, rfl, ?_⟩) | (go_at_call 34; (with_reducible refine (zrP.calls a0_1 (-131072) 131072 true _ A4.out).mono ?_); rintro e w' ⟨rfl, ⟨nd, rfl⟩⟩) | (go_at_call 34; (with_reducible refine (zrP.calls a0_2 0 10 true _ A6.out).mono ?_); rintro e w' ⟨rfl, ⟨nd, rfl⟩⟩))
      go_ret
      exact ⟨by first | rfl | (simp [ziS, znJ] <;> rfl) | (simp [*, ziS, znJ] <;> rfl), bb_⟩
     ·rw [if_neg c11] at H
      have c11b0 : ((Go.bits .and .i64 a0_0 1) == 1) = false := beq_eq_false_iff_ne.mpr c11
      have c11b1 : ((Go.bits .and .i64 a0_0 1) != 1) = true := bne_iff_ne.mpr c11
      obtain rfl := Option.some.inj H
      go_enter Tryd.func43, Tryd.ntmps43
      go_wp2_with (first | ((with_reducible refine zpZ (N := 1) rfl ?_); refine bx_ 1 #[.int .i64 a0_0, .int .i64 a0_1, .int .i64 a0_2] 33 ?_; intro gb315 hg w14 hbox hb; have n0_ := (ns_ hb); have n1_ := zpS (hbox); have n2_ := (ng_ hg); have n3_ := n2_; clear HB; have HB := n0_; have BK315 := n1_; have GW315 := n2_; have GE315 := n3_; clear n0_ n1_ n2_ n3_; clear hb hbox hg; obtain ⟨hcz15_0, hcz15_1, hcz15_2⟩ := zdT BK315.out; obtain ⟨hfz15_0, hfz15_1, hfz15_2⟩ := zqD BK315.out) | ((with_reducible refine zgK (f := 34) rfl ?_); refine zqQ (some 5) rfl rfl Tryd.func34 (by kernel_rfl) rfl #[.int .i64 a0_0, .int .i64 (-131072), .int .i64 131072] rfl (by (try simp only [List.map_toArray, List.map_cons, List.map_nil]); first | done | rfl | (simp only [List.length_drop, List.length_take]; rfl)) ?_; (with_reducible refine (zrP.calls a0_0 (-131072) 131072 true _ A2.out).mono ?_); rintro e w' ⟨rfl, ⟨nd, rfl⟩⟩; refine ⟨_, rfl, ?_⟩) | (go_at_call 34; (with_reducible refine (zrP.calls a0_1 (-131072) 131072 true _ A4.out).mono ?_); rintro e w' ⟨rfl, ⟨nd, rfl⟩⟩) | (go_at_call 34; (with_reducible refine (zrP.calls a0_2 0 10 true _ A6.out).mono ?_); rintro e w' ⟨rfl, ⟨nd, rfl⟩⟩))
      go_ret
      exact ⟨by first | rfl | (simp [ziS, znJ] <;> rfl) | (simp [*, ziS, znJ] <;> rfl), bb_⟩
   ·replace c7 := Bool.eq_false_iff.mpr c7
    subst c7
    have H1 : (some false) = some r := by rw [if_neg (show ¬ (false = true) by decide)] at H; exact H
    clear H
    have H := H1
    clear H1
    obtain rfl := Option.some.inj H
    go_enter Tryd.func43, Tryd.ntmps43
    go_wp2_with (first | ((with_reducible refine zpZ (N := 1) rfl ?_); refine bx_ 1 #[.int .i64 a0_0, .int .i64 a0_1, .int .i64 a0_2] 33 ?_; intro gb315 hg w16 hbox hb; have n0_ := (ns_ hb); have n1_ := zpS (hbox); have n2_ := (ng_ hg); have n3_ := n2_; clear HB; have HB := n0_; have BK315 := n1_; have GW315 := n2_; have GE315 := n3_; clear n0_ n1_ n2_ n3_; clear hb hbox hg; obtain ⟨hcz17_0, hcz17_1, hcz17_2⟩ := zdT BK315.out; obtain ⟨hfz17_0, hfz17_1, hfz17_2⟩ := zqD BK315.out) | ((with_reducible refine zgK (f := 34) rfl ?_); refine zqQ (some 5) rfl rfl Tryd.func34 (by kernel_rfl) rfl #[.int .i64 a0_0, .int .i64 (-131072), .int .i64 131072] rfl (by (try simp only [List.map_toArray, List.map_cons, List.map_nil]); first | done | rfl | (simp only [List.length_drop, List.length_take]; rfl)) ?_; (with_reducible refine (zrP.calls a0_0 (-131072) 131072 true _ A2.out).mono ?_); rintro e w' ⟨rfl, ⟨nd, rfl⟩⟩; refine ⟨_, rfl, ?_⟩) | (go_at_call 34; (with_reducible refine (zrP.calls a0_1 (-131072) 131072 true _ A4.out).mono ?_); rintro e w' ⟨rfl, ⟨nd, rfl⟩⟩) | (go_at_call 34; (with_reducible refine (zrP.calls a0_2 0 10 false _ A6.out).mono ?_); rintro e w' ⟨rfl, ⟨nd, rfl⟩⟩))
    go_ret
    exact ⟨by first | rfl | (simp [ziS, znJ] <;> rfl) | (simp [*, ziS, znJ] <;> rfl), bb_⟩
  ·replace c5 := Bool.eq_false_iff.mpr c5
   subst c5
   have H1 : (some false) = some r := by rw [if_neg (show ¬ (false = true) by decide)] at H; exact H
   clear H
   have H := H1
   clear H1
   obtain rfl := Option.some.inj H
   go_enter Tryd.func43, Tryd.ntmps43
   go_wp2_with (first | ((with_reducible refine zpZ (N := 1) rfl ?_); refine bx_ 1 #[.int .i64 a0_0, .int .i64 a0_1, .int .i64 a0_2] 33 ?_; intro gb315 hg w18 hbox hb; have n0_ := (ns_ hb); have n1_ := zpS (hbox); have n2_ := (ng_ hg); have n3_ := n2_; clear HB; have HB := n0_; have BK315 := n1_; have GW315 := n2_; have GE315 := n3_; clear n0_ n1_ n2_ n3_; clear hb hbox hg; obtain ⟨hcz19_0, hcz19_1, hcz19_2⟩ := zdT BK315.out; obtain ⟨hfz19_0, hfz19_1, hfz19_2⟩ := zqD BK315.out) | ((with_reducible refine zgK (f := 34) rfl ?_); refine zqQ (some 5) rfl rfl Tryd.func34 (by kernel_rfl) rfl #[.int .i64 a0_0, .int .i64 (-131072), .int .i64 131072] rfl (by (try simp only [List.map_toArray, List.map_cons, List.map_nil]); first | done | rfl | (simp only [List.length_drop, List.length_take]; rfl)) ?_; (with_reducible refine (zrP.calls a0_0 (-131072) 131072 true _ A2.out).mono ?_); rintro e w' ⟨rfl, ⟨nd, rfl⟩⟩; refine ⟨_, rfl, ?_⟩) | (go_at_call 34; (with_reducible refine (zrP.calls a0_1 (-131072) 131072 false _ A4.out).mono ?_); rintro e w' ⟨rfl, ⟨nd, rfl⟩⟩))
   go_ret
   exact ⟨by first | rfl | (simp [ziS, znJ] <;> rfl) | (simp [*, ziS, znJ] <;> rfl), bb_⟩
 ·replace c3 := Bool.eq_false_iff.mpr c3
  subst c3
  have H1 : (some false) = some r := by rw [if_neg (show ¬ (false = true) by decide)] at H; exact H
  clear H
  have H := H1
  clear H1
  obtain rfl := Option.some.inj H
  go_enter Tryd.func43, Tryd.ntmps43
  go_wp2_with (first | ((with_reducible refine zpZ (N := 1) rfl ?_); refine bx_ 1 #[.int .i64 a0_0, .int .i64 a0_1, .int .i64 a0_2] 33 ?_; intro gb315 hg w20 hbox hb; have n0_ := (ns_ hb); have n1_ := zpS (hbox); have n2_ := (ng_ hg); have n3_ := n2_; clear HB; have HB := n0_; have BK315 := n1_; have GW315 := n2_; have GE315 := n3_; clear n0_ n1_ n2_ n3_; clear hb hbox hg; obtain ⟨hcz21_0, hcz21_1, hcz21_2⟩ := zdT BK315.out; obtain ⟨hfz21_0, hfz21_1, hfz21_2⟩ := zqD BK315.out) | ((with_reducible refine zgK (f := 34) rfl ?_); refine zqQ (some 5) rfl rfl Tryd.func34 (by kernel_rfl) rfl #[.int .i64 a0_0, .int .i64 (-131072), .int .i64 131072] rfl (by (try simp only [List.map_toArray, List.map_cons, List.map_nil]); first | done | rfl | (simp only [List.length_drop, List.length_take]; rfl)) ?_; (with_reducible refine (zrP.calls a0_0 (-131072) 131072 false _ A2.out).mono ?_); rintro e w' ⟨rfl, ⟨nd, rfl⟩⟩; refine ⟨_, rfl, ?_⟩))
  go_ret
  exact ⟨by first | rfl | (simp [ziS, znJ] <;> rfl) | (simp [*, ziS, znJ] <;> rfl), bb_⟩

def ztU.f (a0_0 : Int) (a0_1 : Int) (a0_2 : Int) (a0_3 : Int) (a0_4 : Int) (a0_5 : Int) : Option (Bool) := (zdR.f a0_0 a0_1 a0_2).bind fun t320 => (if t320 = true then ((zdR.f a0_3 a0_4 a0_5).bind fun t321 => (some t321)) else (some false))
theorem ztU.calls (a0_0 : Int) (a0_1 : Int) (a0_2 : Int) (a0_3 : Int) (a0_4 : Int) (a0_5 : Int) (r : Bool) (w : World) (h : ztU.f a0_0 a0_1 a0_2 a0_3 a0_4 a0_5 = some r) :
  Calls Tryd.prog 31 #[.agg #[.int .i64 a0_0, .int .i64 a0_1, .int .i64 a0_2, .int .i64 a0_3, .int .i64 a0_4, .int .i64 a0_5]] w fun e w' => e = .returned (.bool r) ∧ Below w.heap.size w w' := by
 have hu35 := Tryd.underlying35
 have hu33 := Tryd.underlying33
 have HB := zpS (Below.refl w.heap.size w)
 have H : ((zdR.f a0_0 a0_1 a0_2).bind fun t320 => (if t320 = true then ((zdR.f a0_3 a0_4 a0_5).bind fun t321 => (some t321)) else (some false))) = some r := h
 clear h
 replace H := Option.bind_eq_some_iff.mp H
 obtain ⟨t320, A20, H⟩ := H
 replace H : (if t320 = true then ((zdR.f a0_3 a0_4 a0_5).bind fun t321 => (some t321)) else (some false)) = some r := H
 have A2 := zpS A20
 clear A20
 by_cases c3 : t320 = true
 ·subst c3
  have H1 : ((zdR.f a0_3 a0_4 a0_5).bind fun t321 => (some t321)) = some r := by rw [if_pos rfl] at H; exact H
  clear H
  have H := H1
  clear H1
  replace H := Option.bind_eq_some_iff.mp H
  obtain ⟨t321, A40, H⟩ := H
  replace H : (some t321) = some r := H
  have A4 := zpS A40
  clear A40
  obtain rfl := Option.some.inj H
  go_enter Tryd.func31, Tryd.ntmps31
  go_wp2_with (first | ((with_reducible refine zpZ (N := 1) rfl ?_); refine bx_ 1 #[.int .i64 a0_0, .int .i64 a0_1, .int .i64 a0_2, .int .i64 a0_3, .int .i64 a0_4, .int .i64 a0_5] 35 ?_; intro gb319 hg w5 hbox hb; have n0_ := (ns_ hb); have n1_ := zpS (hbox); have n2_ := (ng_ hg); have n3_ := n2_; clear HB; have HB := n0_; have BK319 := n1_; have GW319 := n2_; have GE319 := n3_; clear n0_ n1_ n2_ n3_; clear hb hbox hg; obtain ⟨hcz6_0, hcz6_1, hcz6_2, hcz6_3, hcz6_4, hcz6_5⟩ := zrN BK319.out; obtain ⟨hfz6_0, hfz6_1, hfz6_2, hfz6_3, hfz6_4, hfz6_5⟩ := zoO BK319.out) | ((with_reducible refine zgK (f := 43) rfl ?_); refine zqQ (some 5) rfl rfl Tryd.func43 (by kernel_rfl) rfl #[.agg #[.int .i64 a0_0, .int .i64 a0_1, .int .i64 a0_2]] rfl (by (try simp only [List.map_toArray, List.map_cons, List.map_nil]); first | done | rfl | (simp only [List.length_drop, List.length_take]; rfl)) ?_; (with_reducible refine (zdR.calls a0_0 a0_1 a0_2 true _ A2.out).mono ?_); rintro e w7 ⟨rfl, hb⟩; refine ⟨_, rfl, ?_⟩; have n0_ := zpS (zgM (g := gb319) (o := .cells #[.int .i64 a0_0, .int .i64 a0_1, .int .i64 a0_2, .int .i64 a0_3, .int .i64 a0_4, .int .i64 a0_5] 35 (0, 0)) bk_ hb); have n1_ := (ns_ hb); clear BK319; clear HB; have BK319 := n0_; have HB := n1_; clear n0_ n1_; (try clear hb); (try clear hb2); obtain ⟨hcz8_0, hcz8_1, hcz8_2, hcz8_3, hcz8_4, hcz8_5⟩ := zrN BK319.out; obtain ⟨hfz8_0, hfz8_1, hfz8_2, hfz8_3, hfz8_4, hfz8_5⟩ := zoO BK319.out) | (go_at_call 43; (with_reducible refine (zdR.calls a0_3 a0_4 a0_5 t321 _ A4.out).mono ?_); rintro e w9 ⟨rfl, hb⟩; have n0_ := zpS (zgM (g := gb319) (o := .cells #[.int .i64 a0_0, .int .i64 a0_1, .int .i64 a0_2, .int .i64 a0_3, .int .i64 a0_4, .int .i64 a0_5] 35 (0, 0)) bk_ hb); have n1_ := (ns_ hb); clear BK319; clear HB; have BK319 := n0_; have HB := n1_; clear n0_ n1_; (try clear hb); (try clear hb2)))
  go_ret
  exact ⟨by first | rfl | (simp [ziS, znJ] <;> rfl) | (simp [*, ziS, znJ] <;> rfl), bb_⟩
 ·replace c3 := Bool.eq_false_iff.mpr c3
  subst c3
  have H1 : (some false) = some r := by rw [if_neg (show ¬ (false = true) by decide)] at H; exact H
  clear H
  have H := H1
  clear H1
  obtain rfl := Option.some.inj H
  go_enter Tryd.func31, Tryd.ntmps31
  go_wp2_with (first | ((with_reducible refine zpZ (N := 1) rfl ?_); refine bx_ 1 #[.int .i64 a0_0, .int .i64 a0_1, .int .i64 a0_2, .int .i64 a0_3, .int .i64 a0_4, .int .i64 a0_5] 35 ?_; intro gb319 hg w10 hbox hb; have n0_ := (ns_ hb); have n1_ := zpS (hbox); have n2_ := (ng_ hg); have n3_ := n2_; clear HB; have HB := n0_; have BK319 := n1_; have GW319 := n2_; have GE319 := n3_; clear n0_ n1_ n2_ n3_; clear hb hbox hg; obtain ⟨hcz11_0, hcz11_1, hcz11_2, hcz11_3, hcz11_4, hcz11_5⟩ := zrN BK319.out; obtain ⟨hfz11_0, hfz11_1, hfz11_2, hfz11_3, hfz11_4, hfz11_5⟩ := zoO BK319.out) | ((with_reducible refine zgK (f := 43) rfl ?_); refine zqQ (some 5) rfl rfl Tryd.func43 (by kernel_rfl) rfl #[.agg #[.int .i64 a0_0, .int .i64 a0_1, .int .i64 a0_2]] rfl (by (try simp only [List.map_toArray, List.map_cons, List.map_nil]); first | done | rfl | (simp only [List.length_drop, List.length_take]; rfl)) ?_; (with_reducible refine (zdR.calls a0_0 a0_1 a0_2 false _ A2.out).mono ?_); rintro e w12 ⟨rfl, hb⟩; refine ⟨_, rfl, ?_⟩; have n0_ := zpS (zgM (g := gb319) (o := .cells #[.int .i64 a0_0, .int .i64 a0_1, .int .i64 a0_2, .int .i64 a0_3, .int .i64 a0_4, .int .i64 a0_5] 35 (0, 0)) bk_ hb); have n1_ := (ns_ hb); clear BK319; clear HB; have BK319 := n0_; have HB := n1_; clear n0_ n1_; (try clear hb); (try clear hb2)))
  go_ret
  exact ⟨by first | rfl | (simp [ziS, znJ] <;> rfl) | (simp [*, ziS, znJ] <;> rfl), bb_⟩

def zkG.f (a0_0 : Int) (a0_1 : Int) (a0_2 : Int) (a0_3 : Int) (a0_4 : Int) (a0_5 : Int) : Option (Bool) := (ztU.f a0_0 a0_1 a0_2 a0_3 a0_4 a0_5).bind fun t323 => (some (!t323))
theorem zkG.calls (a0_0 : Int) (a0_1 : Int) (a0_2 : Int) (a0_3 : Int) (a0_4 : Int) (a0_5 : Int) (r : Bool) (w : World) (h : zkG.f a0_0 a0_1 a0_2 a0_3 a0_4 a0_5 = some r) :
  Calls Tryd.prog 30 #[.agg #[.int .i64 a0_0, .int .i64 a0_1, .int .i64 a0_2, .int .i64 a0_3, .int .i64 a0_4, .int .i64 a0_5]] w fun e w' => e = .returned (.bool r) ∧ Below w.heap.size w w' := by
 have hu35 := Tryd.underlying35
 have HB := zpS (Below.refl w.heap.size w)
 have H : ((ztU.f a0_0 a0_1 a0_2 a0_3 a0_4 a0_5).bind fun t323 => (some (!t323))) = some r := h
 clear h
 replace H := Option.bind_eq_some_iff.mp H
 obtain ⟨t323, A20, H⟩ := H
 replace H : (some (!t323)) = some r := H
 have A2 := zpS A20
 clear A20
 obtain rfl := Option.some.inj H
 go_enter Tryd.func30, Tryd.ntmps30
 go_wp2_with (first | ((with_reducible refine zpZ (N := 1) rfl ?_); refine bx_ 1 #[.int .i64 a0_0, .int .i64 a0_1, .int .i64 a0_2, .int .i64 a0_3, .int .i64 a0_4, .int .i64 a0_5] 35 ?_; intro gb322 hg w3 hbox hb; have n0_ := (ns_ hb); have n1_ := zpS (hbox); have n2_ := (ng_ hg); have n3_ := n2_; clear HB; have HB := n0_; have BK322 := n1_; have GW322 := n2_; have GE322 := n3_; clear n0_ n1_ n2_ n3_; clear hb hbox hg; obtain ⟨hcz4_0, hcz4_1, hcz4_2, hcz4_3, hcz4_4, hcz4_5⟩ := zrN BK322.out; obtain ⟨hfz4_0, hfz4_1, hfz4_2, hfz4_3, hfz4_4, hfz4_5⟩ := zoO BK322.out) | ((with_reducible refine zgK (f := 31) rfl ?_); refine zqQ (some 4) rfl rfl Tryd.func31 (by kernel_rfl) rfl #[.agg #[.int .i64 a0_0, .int .i64 a0_1, .int .i64 a0_2, .int .i64 a0_3, .int .i64 a0_4, .int .i64 a0_5]] rfl (by (try simp only [List.map_toArray, List.map_cons, List.map_nil]); first | done | rfl | (simp only [List.length_drop, List.length_take]; rfl)) ?_; (with_reducible refine (ztU.calls a0_0 a0_1 a0_2 a0_3 a0_4 a0_5 t323 _ A2.out).mono ?_); rintro e w5 ⟨rfl, hb⟩; refine ⟨_, rfl, ?_⟩; have n0_ := zpS (zgM (g := gb322) (o := .cells #[.int .i64 a0_0, .int .i64 a0_1, .int .i64 a0_2, .int .i64 a0_3, .int .i64 a0_4, .int .i64 a0_5] 35 (0, 0)) bk_ hb); have n1_ := (ns_ hb); clear BK322; clear HB; have BK322 := n0_; have HB := n1_; clear n0_ n1_; (try clear hb); (try clear hb2)))
 go_ret
 exact ⟨by first | rfl | (simp [ziS, znJ] <;> rfl) | (simp [*, ziS, znJ] <;> rfl), bb_⟩

def zhZ.i : Nat → List S35 → Option Int
 | _, [] => some (-1)
 | j, x :: xs => (zkG.f x.f0.f0 x.f0.f1 x.f0.f2 x.f1.f0 x.f1.f1 x.f1.f2).bind fun b => if b = true then some (j : Int) else zhZ.i (j + 1) xs
def zhZ.f (l0 : List S35) : Option Bool := (zhZ.i 0 l0).bind fun j => some (decide (0 ≤ j))
theorem zhZ.icalls (A0 : Option Addr) (c0 : Nat) (l0 : List S35) (r : Int) (w : World) (hr0 : Kd.C k35 w A0 l0.length l0) (hc0 : l0.length ≤ c0) (h : zhZ.i 0 l0 = some r) :
  Calls Tryd.prog 42 #[.slice A0 l0.length c0, .func (.func 30) #[] #[]] w fun e w' => e = .returned (.int .i64 r) ∧ Below w.heap.size w w' := by
 have hu := Tryd.underlying35
 have hmx := hr0.2.1
 have HR0 := zpS hr0
 have HC0 := zpS hc0
 clear hr0 hc0
 have H' := zpS h
 clear h
 have HB := zpS (Below.refl w.heap.size w)
 go_enter Tryd.func42, Tryd.ntmps42
 go_wp2
 go_loopg [8] l0.length (fun kq v8 w' => ∃ j : Nat, v8 = .int .i64 j ∧ Aside0 (zhZ.i j (l0.drop j) = some r) ∧ Aside0 (kq + j = l0.length) ∧ Aside0 (Below w.heap.size w w'))
 case atStart => exact ⟨0, rfl, H', ⟨rfl⟩, ⟨bb_⟩⟩
 case round =>
  clear H' HB
  obtain ⟨j, rfl, HA, HK1, HB⟩ := hrel
  by_cases hlt : j < l0.length
  ·have H := HA.out
   rw [List.drop_eq_getElem_cons hlt] at H
   simp only [zhZ.i] at H
   obtain ⟨b, A20, H⟩ := Option.bind_eq_some_iff.mp H
   have hrd : l0[j] = zmE l0 (j : Int) := by
    unfold zmE
    rw [Int.toNat_natCast, List.getD_eq_getElem?_getD, List.getElem?_eq_getElem hlt]
    rfl
   rw [hrd] at A20
   have A2 := zpS A20
   clear A20 HA hrd
   have c2b0 : decide ((j : Int) < (l0.length : Int)) = true := decide_eq_true (by omega)
   have c3b0 : decide (0 ≤ (j : Int)) = true := decide_eq_true (by omega)
   obtain ⟨ad111, e111, hx0, hx1, hx2, hx3, hx4, hx5⟩ := zcN HR0.out (j : Int) (by omega) (by omega)
   cases e111
   replace hx0 := zeA HB.out hx0
   replace hx1 := zeA HB.out hx1
   replace hx2 := zeA HB.out hx2
   replace hx3 := zeA HB.out hx3
   replace hx4 := zeA HB.out hx4
   replace hx5 := zeA HB.out hx5
   rw [Int.toNat_natCast] at hx0 hx1 hx2 hx3 hx4 hx5
   cases b with
   | true =>
    simp only [if_true, Option.some.injEq] at H
    subst H
    go_wp2_with (go_at_call 30; (with_reducible refine (zkG.calls _ _ _ _ _ _ true _ A2.out).mono ?_); rintro e wz ⟨rfl, hz⟩; have HZ := (ns_ hz); clear hz)
    go_ret
    exact ⟨rfl, by repeat (first | (with_reducible first | exact HZ.out | apply znU | apply zkZ | apply zvF) | exact HZ.out)⟩
   | false =>
    have H2 := zpS (show zhZ.i (j + 1) (l0.drop (j + 1)) = some r from by simpa using H)
    clear H
    go_wp2_with (go_at_call 30; (with_reducible refine (zkG.calls _ _ _ _ _ _ false _ A2.out).mono ?_); rintro e wz ⟨rfl, hz⟩; have HZ := (ns_ hz); clear hz)
    go_roundg (l0.length - (j + 1))
    case measure => have := HK1.out; omega
    case rel => exact ⟨j + 1, by (try rw [wrap64]); go_num, H2, ⟨by omega⟩, ⟨by repeat (first | (with_reducible first | exact HZ.out | apply znU | apply zkZ | apply zvF) | exact HZ.out)⟩⟩
  ·have H := HA.out
   rw [List.drop_eq_nil_of_le (by omega)] at H
   simp only [zhZ.i, Option.some.injEq] at H
   subst H
   have c2b0 : decide ((j : Int) < (l0.length : Int)) = false := decide_eq_false (by omega)
   go_wp2
   go_ret
   exact ⟨rfl, bb_⟩
theorem zhZ.calls (A0 : Option Addr) (c0 : Nat) (l0 : List S35) (r : Bool) (w : World) (hr0 : Kd.C k35 w A0 l0.length l0) (hc0 : l0.length ≤ c0) (h : zhZ.f l0 = some r) :
  Calls Tryd.prog 29 #[.slice A0 l0.length c0, .func (.func 30) #[] #[]] w fun e w' => e = .returned (.bool r) ∧ Below w.heap.size w w' := by
 obtain ⟨q, hq, h⟩ := Option.bind_eq_some_iff.mp h
 obtain rfl := Option.some.inj h
 have HQ := zpS hq
 clear hq
 have HB := zpS (Below.refl w.heap.size w)
 go_enter Tryd.func29, Tryd.ntmps29
 go_wp2_with (go_at_call 42; (with_reducible refine (zhZ.icalls _ _ l0 q _ ?h1 ?h2 HQ.out).mono ?_); (case h1 => exact hr0); (case h2 => exact hc0); rintro e wz ⟨rfl, hz⟩; have HZ := (ns_ hz); clear hz)
 go_ret
 exact ⟨rfl, by repeat (first | (with_reducible first | exact HZ.out | apply znU | apply zkZ | apply zvF) | exact HZ.out)⟩
theorem zhZ.i_any (p : S35 → Bool) : ∀ (l : List S35) (j : Nat), (∀ x ∈ l, zkG.f x.f0.f0 x.f0.f1 x.f0.f2 x.f1.f0 x.f1.f1 x.f1.f2 = some (p x)) → ∃ q : Int, zhZ.i j l = some q ∧ (0 ≤ q ↔ l.any p = true)
 | [], j, _ => ⟨-1, rfl, by simp⟩
 | x :: xs, j, hp => by
  simp only [zhZ.i, hp x List.mem_cons_self, Option.bind_some]
  cases h : p x with
  | true => exact ⟨j, by simp, by simp [h]⟩
  | false =>
   obtain ⟨q, hq, hq2⟩ := zhZ.i_any p xs (j + 1) (fun y hy => hp y (List.mem_cons_of_mem _ hy))
   exact ⟨q, by simpa using hq, by simpa [h] using hq2⟩
theorem zhZ.eq_any (p : S35 → Bool) (l : List S35) (hp : ∀ x ∈ l, zkG.f x.f0.f0 x.f0.f1 x.f0.f2 x.f1.f0 x.f1.f1 x.f1.f2 = some (p x)) : zhZ.f l = some (l.any p) := by
 obtain ⟨q, hq, hq2⟩ := zhZ.i_any p l 0 hp
 unfold zhZ.f
 rw [hq, Option.bind_some]
 by_cases h : 0 ≤ q
 ·rw [decide_eq_true h, hq2.1 h]
 ·rw [decide_eq_false h, Bool.eq_false_iff.2 (fun e => h (hq2.2 e))]

def zmH.f (l0 : List (S35)) : Option (Bool) := (zhZ.f l0).bind fun t324 => (some (!t324))
theorem zmH.calls (A0 : Option Addr) (c0 : Nat) (l0 : List (S35)) (r : Bool) (w : World) (hr0 : Kd.C k35 w A0 l0.length l0) (hc0 : l0.length ≤ c0) (h : zmH.f l0 = some r) :
  Calls Tryd.prog 16 #[.slice A0 l0.length c0] w fun e w' => e = .returned (.bool r) ∧ Below w.heap.size w w' := by
 have HR0 := zpS hr0
 have HC0 := zpS hc0
 clear hr0 hc0
 have HB := zpS (Below.refl w.heap.size w)
 have H : ((zhZ.f l0).bind fun t324 => (some (!t324))) = some r := h
 clear h
 replace H := Option.bind_eq_some_iff.mp H
 obtain ⟨t324, A20, H⟩ := H
 replace H : (some (!t324)) = some r := H
 have A2 := zpS A20
 clear A20
 obtain rfl := Option.some.inj H
 go_enter Tryd.func16, Tryd.ntmps16
 go_wp2_with (first | ((with_reducible refine zgK (f := 29) rfl ?_); refine zqQ (some 4) rfl rfl Tryd.func29 (by kernel_rfl) rfl #[.slice A0 l0.length c0, .func (.func 30) #[] #[]] rfl (by (try simp only [List.map_toArray, List.map_cons, List.map_nil]); first | done | rfl | (simp only [List.length_drop, List.length_take]; rfl)) ?_; (with_reducible refine (zhZ.calls _ _ l0  t324 _ ?side1 ?side2 A2.out).mono ?_); (case side1 => repeat (first | exact HR0.out | (with_reducible refine Kd.C_alloc ?_ _) | (with_reducible refine Kd.C_drewN ?_ _) | (with_reducible refine Kd.C_drew ?_))); (case side2 => exact HC0.out); rintro e w3 ⟨rfl, hb⟩; refine ⟨_, rfl, ?_⟩; have n0_ := (ns_ hb); clear HB; have HB := n0_; clear n0_; (try clear hb); (try clear hb2)))
 go_ret
 exact ⟨by first | rfl | (simp [ziS, znJ] <;> rfl) | (simp [*, ziS, znJ] <;> rfl), bb_⟩

def zkH.f (l0 : List S35) : Option (List S35) := if l0.length < 2932031007402 then some l0 else none
theorem zkH.calls (A0 : Option Addr) (c0 : Nat) (l0 : List S35) (r : List S35) (w : World) (hr0 : Kd.C k35 w A0 l0.length l0) (hc0 : l0.length ≤ c0) (h : zkH.f l0 = some r) :
  Calls Tryd.prog 17 #[.slice A0 l0.length c0] w fun e w' => ∃ v0_ : Value, e = .returned (v0_) ∧ Kd.R k35 35 w' w.heap.size (fun _ => True) v0_ r ∧ Below w.heap.size w w' := by
 have HR0 := zpS hr0
 have HC0 := zpS hc0
 have HB := zpS (Below.refl w.heap.size w)
 have hlim : l0.length < 2932031007402 := by
  unfold zkH.f at h
  by_cases c : l0.length < 2932031007402
  ·exact c
  ·rw [if_neg c] at h; cases h
 have hr : l0 = r := by unfold zkH.f at h; rw [if_pos hlim] at h; exact Option.some.inj h
 clear h
 subst hr
 have q22 : ∀ (w : World) (a : Option Addr) (n c n' c' : Nat), (binOp .eql 24 (.slice a n c) (.slice none n' c')).run Tryd.prog w = .ok (.bool a.isNone) w := fun w a n c n' c' => Lib.run_eql_slice_nil w _ _ a n c n' c' Tryd.underlying24
 cases A0 with
 | none =>
  have h0 : l0 = [] := by
   cases l0 with
   | nil => rfl
   | cons x xs => obtain ⟨ad, e, _⟩ := hr0.2.2 (by simp); cases e
  subst h0
  clear hr0 hc0
  go_enter Tryd.func17, Tryd.ntmps17
  go_wp2
  go_ret
  exact ⟨_, rfl, Kd.R_nil _ _ _ _ _, Below.refl _ _⟩
 | some ad =>
  clear hr0 hc0
  obtain ⟨y127, hy127⟩ : ∃ y_ : List S35, y_ = (([] : List S35)) := ⟨_, rfl⟩
  have Ny127 := zpS hy127
  obtain ⟨y130, hy130⟩ : ∃ y_ : List S35, y_ = (y127 ++ l0) := ⟨_, rfl⟩
  have Ny130 := zpS hy130
  have e130 : y130 = l0 := by rw [hy130, hy127]; rfl
  have LMc2 := zpS (show y127.length + l0.length < 2932031007402 by rw [hy127]; simpa using hlim)
  clear hy127 hy130 hlim
  go_enter Tryd.func17, Tryd.ntmps17
  go_wp2_with (first | ((with_reducible refine zpZ (N := 5) rfl ?_); refine Kd.R_lit k35 _ 35 ?hg (N := 5) ?hd (xs := ([] : List S35)) (inner := []) (ok := fun _ => True) (okp := fun _ => True) ?hr ?hp (fun _ hk => hk) trivial (Below.refl _ _) (Nat.le_refl _) (by simp) ?_; (case hd => rfl); (case hg => rfl); (case hr => first | (go_simp; done) | (go_simp; rfl)); (case hp => exact (zfH.none _ _)); intro v128 w3 ho4 hb hg_ hnew_; clear hg_ hnew_; (first | rw [← Ny127.out] at ho4 | (simp only [Int.reduceToNat] at ho4; rw [← Ny127.out] at ho4)); have n0_ := zpS (Kd.R_lower ho4 (zuA bb_)); have n1_ := (ns_ hb); clear HB; have HO129 := n0_; have HB := n1_; clear n0_ n1_; clear hb ho4) | ((with_reducible refine zcL (b := .append) (xs := #[.tmp 5, .tmp 6]) rfl ?_); at_builtin; refine Kd.R_append_rows k35 (w0 := w) w.heap.size rfl (.tmp 5) (.tmp 6) 24 35 (.agg #[(.int .i64 0), (.int .i64 0), (.int .i64 0), (.int .i64 0), (.int .i64 0), (.int .i64 0)]) 48 rfl Tryd.underlying24 info35 rfl (by decide) (by omega) v128 y127 l0 _ _ _ (fun _ => True) (fun _ => False) rfl rfl ?aO ?aR (fun _ _ h => h) (fun _ h => h.elim) ?aF ?aB ?aS ?aL ?_; (case aR => repeat (first | exact (Kd.C_below HR0.out HB.out) | (with_reducible refine Kd.C_alloc ?_ _) | (with_reducible refine Kd.C_drewN ?_ _) | (with_reducible refine Kd.C_drew ?_))); (case aB => exact bb_); (case aF => exact (fun _ _ => trivial)); (case aO => exact (by (with_reducible repeat (first | apply Kd.R_alloc | apply Kd.R_drewN | apply Kd.R_drew)); exact HO129.out)); (case aS => exact (zuA bb_)); (case aL => have := LMc2.out; omega); intro v131 w5 ho hb hg hat; rw [← Ny130.out] at ho; have n0_ := zpS (hb); have n1_ := zpS (ho); clear HB; clear HO129; have HB := n0_; have HO132 := n1_; clear n0_ n1_; clear ho hb hg hat))
  go_ret
  exact ⟨_, rfl, by rw [← e130]; (with_reducible repeat (first | apply Kd.R_alloc | apply Kd.R_drewN | apply Kd.R_drew)); exact HO132.out, bb_⟩

end Go.Proofs.YtbnfbflfhpniaaaDoor.PFnExactNormalPolygon
