-- Printed for this claim by this session's program pp.py, which drives the kit's print with additions. Not trusted: Lean checks it.
import Derived.Test.YtbnfbflfhpniaaaDoorV1PFnExactNormalPolygonx0
import Derived.Test.YtbnfbflfhpniaaaDoorV1PFnExactNormalPolygonx2
import Derived.Test.YtbnfbflfhpniaaaDoorV1PFnExactNormalPolygonx3
import Derived.Test.YtbnfbflfhpniaaaDoorV1PFnExactNormalPolygonx4
namespace Go.Proofs.YtbnfbflfhpniaaaDoor.PFnExactNormalPolygon
open Go.RowKit Go.Proofs.YtbnfbflfhpniaaaDoorW.PrintWords Go.Proofs.YtbnfbflfhpniaaaDoorW.PrintLast Go.Proofs.YtbnfbflfhpniaaaDoorW.PrintMore
attribute [local go_sem] zbB ziC zrC zhD znE zuB znH zkT   -- for this text's walks alone
set_option linter.unusedVariables false
set_option maxHeartbeats 8000000
set_option maxRecDepth 100000
set_option linter.unusedSimpArgs false

def zqB.f (a0 : Int) : Option (Int × Int × Int × Int × Int × Int) := (some (([(⟨(⟨1, 0, 0⟩ : S33), (⟨0, 0, 0⟩ : S33)⟩ : S35), (⟨(⟨1, 0, 0⟩ : S33), (⟨(-1), 1, 0⟩ : S33)⟩ : S35), (⟨(⟨1, 0, 0⟩ : S33), (⟨1, 0, 0⟩ : S33)⟩ : S35), (⟨(⟨(-1), 1, 0⟩ : S33), (⟨1, 0, 0⟩ : S33)⟩ : S35), (⟨(⟨0, 0, 0⟩ : S33), (⟨1, 0, 0⟩ : S33)⟩ : S35), (⟨(⟨1, (-1), 0⟩ : S33), (⟨1, 0, 0⟩ : S33)⟩ : S35), (⟨(⟨(-1), 0, 0⟩ : S33), (⟨1, 0, 0⟩ : S33)⟩ : S35), (⟨(⟨(-1), 0, 0⟩ : S33), (⟨(-1), 1, 0⟩ : S33)⟩ : S35)] : List (S35)) : List (S35))).bind fun y102 => ((ziB.f a0).bind fun t105 => (if 0 ≤ (Int.tmod t105 8) then (if (Int.tmod t105 8) < (y102.length : Int) then (if t105 ≥ 8 then (some (wrap64 (-((zmE y102 (Int.tmod t105 8)).f0.f0)), wrap64 (-((zmE y102 (Int.tmod t105 8)).f0.f1)), 0, wrap64 (-((zmE y102 (Int.tmod t105 8)).f1.f0)), wrap64 (-((zmE y102 (Int.tmod t105 8)).f1.f1)), 0)) else (some ((zmE y102 (Int.tmod t105 8)).f0.f0, (zmE y102 (Int.tmod t105 8)).f0.f1, (zmE y102 (Int.tmod t105 8)).f0.f2, (zmE y102 (Int.tmod t105 8)).f1.f0, (zmE y102 (Int.tmod t105 8)).f1.f1, (zmE y102 (Int.tmod t105 8)).f1.f2))) else (none)) else (none)))
def lv8 : List S35 := ([(⟨(⟨1, 0, 0⟩ : S33), (⟨0, 0, 0⟩ : S33)⟩ : S35), (⟨(⟨1, 0, 0⟩ : S33), (⟨(-1), 1, 0⟩ : S33)⟩ : S35), (⟨(⟨1, 0, 0⟩ : S33), (⟨1, 0, 0⟩ : S33)⟩ : S35), (⟨(⟨(-1), 1, 0⟩ : S33), (⟨1, 0, 0⟩ : S33)⟩ : S35), (⟨(⟨0, 0, 0⟩ : S33), (⟨1, 0, 0⟩ : S33)⟩ : S35), (⟨(⟨1, (-1), 0⟩ : S33), (⟨1, 0, 0⟩ : S33)⟩ : S35), (⟨(⟨(-1), 0, 0⟩ : S33), (⟨1, 0, 0⟩ : S33)⟩ : S35), (⟨(⟨(-1), 0, 0⟩ : S33), (⟨(-1), 1, 0⟩ : S33)⟩ : S35)] : List (S35))
theorem lv8_C (W : World) : Kd.C k35 (W.alloc (Obj.cells #[Value.int IntKind.i64 1, Value.int IntKind.i64 0, Value.int IntKind.i64 0, Value.int IntKind.i64 0, Value.int IntKind.i64 0, Value.int IntKind.i64 0, Value.int IntKind.i64 1, Value.int IntKind.i64 0, Value.int IntKind.i64 0, Value.int IntKind.i64 (-1), Value.int IntKind.i64 1, Value.int IntKind.i64 0, Value.int IntKind.i64 1, Value.int IntKind.i64 0, Value.int IntKind.i64 0, Value.int IntKind.i64 1, Value.int IntKind.i64 0, Value.int IntKind.i64 0, Value.int IntKind.i64 (-1), Value.int IntKind.i64 1, Value.int IntKind.i64 0, Value.int IntKind.i64 1, Value.int IntKind.i64 0, Value.int IntKind.i64 0, Value.int IntKind.i64 0, Value.int IntKind.i64 0, Value.int IntKind.i64 0, Value.int IntKind.i64 1, Value.int IntKind.i64 0, Value.int IntKind.i64 0, Value.int IntKind.i64 1, Value.int IntKind.i64 (-1), Value.int IntKind.i64 0, Value.int IntKind.i64 1, Value.int IntKind.i64 0, Value.int IntKind.i64 0, Value.int IntKind.i64 (-1), Value.int IntKind.i64 0, Value.int IntKind.i64 0, Value.int IntKind.i64 1, Value.int IntKind.i64 0, Value.int IntKind.i64 0, Value.int IntKind.i64 (-1), Value.int IntKind.i64 0, Value.int IntKind.i64 0, Value.int IntKind.i64 (-1), Value.int IntKind.i64 1, Value.int IntKind.i64 0] 35)) (some ⟨W.heap.size, 0, none⟩) 8 lv8 := by
 refine ⟨rfl, by decide, fun _ => ⟨_, rfl, fun j p hp => ⟨_, rfl, k35_mk _ p, fun i u hu => ?_⟩⟩⟩
 have hb := blk_new W (Obj.cells #[Value.int IntKind.i64 1, Value.int IntKind.i64 0, Value.int IntKind.i64 0, Value.int IntKind.i64 0, Value.int IntKind.i64 0, Value.int IntKind.i64 0, Value.int IntKind.i64 1, Value.int IntKind.i64 0, Value.int IntKind.i64 0, Value.int IntKind.i64 (-1), Value.int IntKind.i64 1, Value.int IntKind.i64 0, Value.int IntKind.i64 1, Value.int IntKind.i64 0, Value.int IntKind.i64 0, Value.int IntKind.i64 1, Value.int IntKind.i64 0, Value.int IntKind.i64 0, Value.int IntKind.i64 (-1), Value.int IntKind.i64 1, Value.int IntKind.i64 0, Value.int IntKind.i64 1, Value.int IntKind.i64 0, Value.int IntKind.i64 0, Value.int IntKind.i64 0, Value.int IntKind.i64 0, Value.int IntKind.i64 0, Value.int IntKind.i64 1, Value.int IntKind.i64 0, Value.int IntKind.i64 0, Value.int IntKind.i64 1, Value.int IntKind.i64 (-1), Value.int IntKind.i64 0, Value.int IntKind.i64 1, Value.int IntKind.i64 0, Value.int IntKind.i64 0, Value.int IntKind.i64 (-1), Value.int IntKind.i64 0, Value.int IntKind.i64 0, Value.int IntKind.i64 1, Value.int IntKind.i64 0, Value.int IntKind.i64 0, Value.int IntKind.i64 (-1), Value.int IntKind.i64 0, Value.int IntKind.i64 0, Value.int IntKind.i64 (-1), Value.int IntKind.i64 1, Value.int IntKind.i64 0] 35)
 have hc : ∀ n, (W.alloc (Obj.cells #[Value.int IntKind.i64 1, Value.int IntKind.i64 0, Value.int IntKind.i64 0, Value.int IntKind.i64 0, Value.int IntKind.i64 0, Value.int IntKind.i64 0, Value.int IntKind.i64 1, Value.int IntKind.i64 0, Value.int IntKind.i64 0, Value.int IntKind.i64 (-1), Value.int IntKind.i64 1, Value.int IntKind.i64 0, Value.int IntKind.i64 1, Value.int IntKind.i64 0, Value.int IntKind.i64 0, Value.int IntKind.i64 1, Value.int IntKind.i64 0, Value.int IntKind.i64 0, Value.int IntKind.i64 (-1), Value.int IntKind.i64 1, Value.int IntKind.i64 0, Value.int IntKind.i64 1, Value.int IntKind.i64 0, Value.int IntKind.i64 0, Value.int IntKind.i64 0, Value.int IntKind.i64 0, Value.int IntKind.i64 0, Value.int IntKind.i64 1, Value.int IntKind.i64 0, Value.int IntKind.i64 0, Value.int IntKind.i64 1, Value.int IntKind.i64 (-1), Value.int IntKind.i64 0, Value.int IntKind.i64 1, Value.int IntKind.i64 0, Value.int IntKind.i64 0, Value.int IntKind.i64 (-1), Value.int IntKind.i64 0, Value.int IntKind.i64 0, Value.int IntKind.i64 1, Value.int IntKind.i64 0, Value.int IntKind.i64 0, Value.int IntKind.i64 (-1), Value.int IntKind.i64 0, Value.int IntKind.i64 0, Value.int IntKind.i64 (-1), Value.int IntKind.i64 1, Value.int IntKind.i64 0] 35)).cell? ⟨W.heap.size, n, none⟩ = (#[Value.int IntKind.i64 1, Value.int IntKind.i64 0, Value.int IntKind.i64 0, Value.int IntKind.i64 0, Value.int IntKind.i64 0, Value.int IntKind.i64 0, Value.int IntKind.i64 1, Value.int IntKind.i64 0, Value.int IntKind.i64 0, Value.int IntKind.i64 (-1), Value.int IntKind.i64 1, Value.int IntKind.i64 0, Value.int IntKind.i64 1, Value.int IntKind.i64 0, Value.int IntKind.i64 0, Value.int IntKind.i64 1, Value.int IntKind.i64 0, Value.int IntKind.i64 0, Value.int IntKind.i64 (-1), Value.int IntKind.i64 1, Value.int IntKind.i64 0, Value.int IntKind.i64 1, Value.int IntKind.i64 0, Value.int IntKind.i64 0, Value.int IntKind.i64 0, Value.int IntKind.i64 0, Value.int IntKind.i64 0, Value.int IntKind.i64 1, Value.int IntKind.i64 0, Value.int IntKind.i64 0, Value.int IntKind.i64 1, Value.int IntKind.i64 (-1), Value.int IntKind.i64 0, Value.int IntKind.i64 1, Value.int IntKind.i64 0, Value.int IntKind.i64 0, Value.int IntKind.i64 (-1), Value.int IntKind.i64 0, Value.int IntKind.i64 0, Value.int IntKind.i64 1, Value.int IntKind.i64 0, Value.int IntKind.i64 0, Value.int IntKind.i64 (-1), Value.int IntKind.i64 0, Value.int IntKind.i64 0, Value.int IntKind.i64 (-1), Value.int IntKind.i64 1, Value.int IntKind.i64 0] : Array Value)[n]? := fun n => zzS hb n
 have hj : j < 8 := (List.getElem?_eq_some_iff.1 hp).1
 have hi : i < 6 := (List.getElem?_eq_some_iff.1 hu).1
 have ha : (⟨W.heap.size, 0, none⟩ : Addr).add (j * k35.sz + i) = ⟨W.heap.size, j * 6 + i, none⟩ := by show Addr.add _ (j * 6 + i) = _; first | (rw [zyK]; done) | (rw [zyK]; simp; done) | (simp [Addr.add]; done) | (unfold Addr.add; split <;> simp_all)
 rw [ha, hc]
 have : j = 0 ∨ j = 1 ∨ j = 2 ∨ j = 3 ∨ j = 4 ∨ j = 5 ∨ j = 6 ∨ j = 7 := by omega
 have : i = 0 ∨ i = 1 ∨ i = 2 ∨ i = 3 ∨ i = 4 ∨ i = 5 := by omega
 rcases ‹j = 0 ∨ _› with rfl | rfl | rfl | rfl | rfl | rfl | rfl | rfl <;> cases hp <;> rcases ‹i = 0 ∨ _› with rfl | rfl | rfl | rfl | rfl | rfl <;> cases hu <;> rfl
theorem zqB.calls (a0 : Int) (r1 : Int) (r2 : Int) (r3 : Int) (r4 : Int) (r5 : Int) (r6 : Int) (w : World) (h : zqB.f a0 = some (r1, r2, r3, r4, r5, r6)) :
  Calls Tryd.prog 62 #[.int .i64 a0] w fun e w' => e = .returned (.agg #[.int .i64 r1, .int .i64 r2, .int .i64 r3, .int .i64 r4, .int .i64 r5, .int .i64 r6]) ∧ Below w.heap.size w w' := by
 have hu35 := Tryd.underlying35
 have hu33 := Tryd.underlying33
 have HB := zpS (Below.refl w.heap.size w)
 have H : ((some (([(⟨(⟨1, 0, 0⟩ : S33), (⟨0, 0, 0⟩ : S33)⟩ : S35), (⟨(⟨1, 0, 0⟩ : S33), (⟨(-1), 1, 0⟩ : S33)⟩ : S35), (⟨(⟨1, 0, 0⟩ : S33), (⟨1, 0, 0⟩ : S33)⟩ : S35), (⟨(⟨(-1), 1, 0⟩ : S33), (⟨1, 0, 0⟩ : S33)⟩ : S35), (⟨(⟨0, 0, 0⟩ : S33), (⟨1, 0, 0⟩ : S33)⟩ : S35), (⟨(⟨1, (-1), 0⟩ : S33), (⟨1, 0, 0⟩ : S33)⟩ : S35), (⟨(⟨(-1), 0, 0⟩ : S33), (⟨1, 0, 0⟩ : S33)⟩ : S35), (⟨(⟨(-1), 0, 0⟩ : S33), (⟨(-1), 1, 0⟩ : S33)⟩ : S35)] : List (S35)) : List (S35))).bind fun y102 => ((ziB.f a0).bind fun t105 => (if 0 ≤ (Int.tmod t105 8) then (if (Int.tmod t105 8) < (y102.length : Int) then (if t105 ≥ 8 then (some (wrap64 (-((zmE y102 (Int.tmod t105 8)).f0.f0)), wrap64 (-((zmE y102 (Int.tmod t105 8)).f0.f1)), 0, wrap64 (-((zmE y102 (Int.tmod t105 8)).f1.f0)), wrap64 (-((zmE y102 (Int.tmod t105 8)).f1.f1)), 0)) else (some ((zmE y102 (Int.tmod t105 8)).f0.f0, (zmE y102 (Int.tmod t105 8)).f0.f1, (zmE y102 (Int.tmod t105 8)).f0.f2, (zmE y102 (Int.tmod t105 8)).f1.f0, (zmE y102 (Int.tmod t105 8)).f1.f1, (zmE y102 (Int.tmod t105 8)).f1.f2))) else (none)) else (none)))) = some (r1, r2, r3, r4, r5, r6) := h
 clear h
 obtain ⟨y102, hy102⟩ : ∃ y_ : List (S35), y_ = (([(⟨(⟨1, 0, 0⟩ : S33), (⟨0, 0, 0⟩ : S33)⟩ : S35), (⟨(⟨1, 0, 0⟩ : S33), (⟨(-1), 1, 0⟩ : S33)⟩ : S35), (⟨(⟨1, 0, 0⟩ : S33), (⟨1, 0, 0⟩ : S33)⟩ : S35), (⟨(⟨(-1), 1, 0⟩ : S33), (⟨1, 0, 0⟩ : S33)⟩ : S35), (⟨(⟨0, 0, 0⟩ : S33), (⟨1, 0, 0⟩ : S33)⟩ : S35), (⟨(⟨1, (-1), 0⟩ : S33), (⟨1, 0, 0⟩ : S33)⟩ : S35), (⟨(⟨(-1), 0, 0⟩ : S33), (⟨1, 0, 0⟩ : S33)⟩ : S35), (⟨(⟨(-1), 0, 0⟩ : S33), (⟨(-1), 1, 0⟩ : S33)⟩ : S35)] : List (S35))) := ⟨_, rfl⟩
 replace H : ((ziB.f a0).bind fun t105 => (if 0 ≤ (Int.tmod t105 8) then (if (Int.tmod t105 8) < (y102.length : Int) then (if t105 ≥ 8 then (some (wrap64 (-((zmE y102 (Int.tmod t105 8)).f0.f0)), wrap64 (-((zmE y102 (Int.tmod t105 8)).f0.f1)), 0, wrap64 (-((zmE y102 (Int.tmod t105 8)).f1.f0)), wrap64 (-((zmE y102 (Int.tmod t105 8)).f1.f1)), 0)) else (some ((zmE y102 (Int.tmod t105 8)).f0.f0, (zmE y102 (Int.tmod t105 8)).f0.f1, (zmE y102 (Int.tmod t105 8)).f0.f2, (zmE y102 (Int.tmod t105 8)).f1.f0, (zmE y102 (Int.tmod t105 8)).f1.f1, (zmE y102 (Int.tmod t105 8)).f1.f2))) else (none)) else (none))) = some (r1, r2, r3, r4, r5, r6) := by first | (rw [hy102]; with_reducible exact H) | (have H2_ := (Option.bind_some _ _).symm.trans H; rw [hy102]; with_reducible exact H2_) | (have H2_ := (Option.bind_some _ _).symm.trans H; with_reducible exact H2_) | with_reducible exact H | (rw [hy102]; exact H) | exact H
 have Ny102 := zpS hy102
 clear hy102
 replace H := Option.bind_eq_some_iff.mp H
 obtain ⟨t105, A20, H⟩ := H
 replace H : (if 0 ≤ (Int.tmod t105 8) then (if (Int.tmod t105 8) < (y102.length : Int) then (if t105 ≥ 8 then (some (wrap64 (-((zmE y102 (Int.tmod t105 8)).f0.f0)), wrap64 (-((zmE y102 (Int.tmod t105 8)).f0.f1)), 0, wrap64 (-((zmE y102 (Int.tmod t105 8)).f1.f0)), wrap64 (-((zmE y102 (Int.tmod t105 8)).f1.f1)), 0)) else (some ((zmE y102 (Int.tmod t105 8)).f0.f0, (zmE y102 (Int.tmod t105 8)).f0.f1, (zmE y102 (Int.tmod t105 8)).f0.f2, (zmE y102 (Int.tmod t105 8)).f1.f0, (zmE y102 (Int.tmod t105 8)).f1.f1, (zmE y102 (Int.tmod t105 8)).f1.f2))) else (none)) else (none)) = some (r1, r2, r3, r4, r5, r6) := H
 have A2 := zpS A20
 clear A20
 obtain ⟨ji3, hji3⟩ : ∃ j_ : Int, (Int.tmod t105 8) = j_ := ⟨_, rfl⟩
 replace H : (if 0 ≤ (ji3) then (if (ji3) < (y102.length : Int) then (if t105 ≥ 8 then (some (wrap64 (-((zmE y102 (ji3)).f0.f0)), wrap64 (-((zmE y102 (ji3)).f0.f1)), 0, wrap64 (-((zmE y102 (ji3)).f1.f0)), wrap64 (-((zmE y102 (ji3)).f1.f1)), 0)) else (some ((zmE y102 (ji3)).f0.f0, (zmE y102 (ji3)).f0.f1, (zmE y102 (ji3)).f0.f2, (zmE y102 (ji3)).f1.f0, (zmE y102 (ji3)).f1.f1, (zmE y102 (ji3)).f1.f2))) else (none)) else (none)) = some (r1, r2, r3, r4, r5, r6) := by first | (rw [hji3] at H; exact H) | (simp only [hji3] at H ⊢; exact H)
 (try rw [hji3] at A2)
 by_cases c4 : 0 ≤ (ji3)
 ·rw [if_pos c4] at H
  have c4b0 : decide (0 ≤ (ji3)) = true := decide_eq_true c4
  clear c4
  by_cases c5 : (ji3) < (y102.length : Int)
  ·rw [if_pos c5] at H
   have c5b0 : decide ((ji3) < (y102.length : Int)) = true := decide_eq_true c5
   clear c5
   by_cases c6 : t105 ≥ 8
   ·rw [if_pos c6] at H
    have c6b0 : decide (8 ≤ t105) = true := decide_eq_true c6
    clear c6
    simp only [Option.some.injEq, Prod.mk.injEq] at H
    obtain ⟨rfl, rfl, rfl, rfl, rfl, rfl⟩ := H
    go_enter Tryd.func62, Tryd.ntmps62
    go_wp2_with (first | ((with_reducible refine zpZ (N := 2) rfl ?_); refine bx_ 2 #[.int .i64 0, .int .i64 0, .int .i64 0, .int .i64 0, .int .i64 0, .int .i64 0] 35 ?_; intro gb101 hg w7 hbox hb; have n0_ := (ns_ hb); have n1_ := zpS (hbox); have n2_ := (ng_ hg); have n3_ := n2_; clear HB; have HB := n0_; have BK101 := n1_; have GW101 := n2_; have GE101 := n3_; clear n0_ n1_ n2_ n3_; clear hb hbox hg))
    refine (ziB.calls a0 t105 _ A2.out).mono ?_
    rintro e w' ⟨rfl, nd, rfl⟩
    have hC := Kd.C_drewN (lv8_C w7) nd
    have hB8 := zkZ (znU HB.out (Obj.cells #[Value.int IntKind.i64 1, Value.int IntKind.i64 0, Value.int IntKind.i64 0, Value.int IntKind.i64 0, Value.int IntKind.i64 0, Value.int IntKind.i64 0, Value.int IntKind.i64 1, Value.int IntKind.i64 0, Value.int IntKind.i64 0, Value.int IntKind.i64 (-1), Value.int IntKind.i64 1, Value.int IntKind.i64 0, Value.int IntKind.i64 1, Value.int IntKind.i64 0, Value.int IntKind.i64 0, Value.int IntKind.i64 1, Value.int IntKind.i64 0, Value.int IntKind.i64 0, Value.int IntKind.i64 (-1), Value.int IntKind.i64 1, Value.int IntKind.i64 0, Value.int IntKind.i64 1, Value.int IntKind.i64 0, Value.int IntKind.i64 0, Value.int IntKind.i64 0, Value.int IntKind.i64 0, Value.int IntKind.i64 0, Value.int IntKind.i64 1, Value.int IntKind.i64 0, Value.int IntKind.i64 0, Value.int IntKind.i64 1, Value.int IntKind.i64 (-1), Value.int IntKind.i64 0, Value.int IntKind.i64 1, Value.int IntKind.i64 0, Value.int IntKind.i64 0, Value.int IntKind.i64 (-1), Value.int IntKind.i64 0, Value.int IntKind.i64 0, Value.int IntKind.i64 1, Value.int IntKind.i64 0, Value.int IntKind.i64 0, Value.int IntKind.i64 (-1), Value.int IntKind.i64 0, Value.int IntKind.i64 0, Value.int IntKind.i64 (-1), Value.int IntKind.i64 1, Value.int IntKind.i64 0] 35)) nd
    have hK8 := zuW (zqY BK101.out (Obj.cells #[Value.int IntKind.i64 1, Value.int IntKind.i64 0, Value.int IntKind.i64 0, Value.int IntKind.i64 0, Value.int IntKind.i64 0, Value.int IntKind.i64 0, Value.int IntKind.i64 1, Value.int IntKind.i64 0, Value.int IntKind.i64 0, Value.int IntKind.i64 (-1), Value.int IntKind.i64 1, Value.int IntKind.i64 0, Value.int IntKind.i64 1, Value.int IntKind.i64 0, Value.int IntKind.i64 0, Value.int IntKind.i64 1, Value.int IntKind.i64 0, Value.int IntKind.i64 0, Value.int IntKind.i64 (-1), Value.int IntKind.i64 1, Value.int IntKind.i64 0, Value.int IntKind.i64 1, Value.int IntKind.i64 0, Value.int IntKind.i64 0, Value.int IntKind.i64 0, Value.int IntKind.i64 0, Value.int IntKind.i64 0, Value.int IntKind.i64 1, Value.int IntKind.i64 0, Value.int IntKind.i64 0, Value.int IntKind.i64 1, Value.int IntKind.i64 (-1), Value.int IntKind.i64 0, Value.int IntKind.i64 1, Value.int IntKind.i64 0, Value.int IntKind.i64 0, Value.int IntKind.i64 (-1), Value.int IntKind.i64 0, Value.int IntKind.i64 0, Value.int IntKind.i64 1, Value.int IntKind.i64 0, Value.int IntKind.i64 0, Value.int IntKind.i64 (-1), Value.int IntKind.i64 0, Value.int IntKind.i64 0, Value.int IntKind.i64 (-1), Value.int IntKind.i64 1, Value.int IntKind.i64 0] 35)) nd
    generalize Value.agg #[Value.int IntKind.i64 1, Value.int IntKind.i64 0, Value.int IntKind.i64 0, Value.int IntKind.i64 0, Value.int IntKind.i64 0, Value.int IntKind.i64 0] = dd0
    generalize Value.agg #[Value.int IntKind.i64 1, Value.int IntKind.i64 0, Value.int IntKind.i64 0, Value.int IntKind.i64 (-1), Value.int IntKind.i64 1, Value.int IntKind.i64 0] = dd1
    generalize Value.agg #[Value.int IntKind.i64 1, Value.int IntKind.i64 0, Value.int IntKind.i64 0, Value.int IntKind.i64 1, Value.int IntKind.i64 0, Value.int IntKind.i64 0] = dd2
    generalize Value.agg #[Value.int IntKind.i64 (-1), Value.int IntKind.i64 1, Value.int IntKind.i64 0, Value.int IntKind.i64 1, Value.int IntKind.i64 0, Value.int IntKind.i64 0] = dd3
    generalize Value.agg #[Value.int IntKind.i64 0, Value.int IntKind.i64 0, Value.int IntKind.i64 0, Value.int IntKind.i64 1, Value.int IntKind.i64 0, Value.int IntKind.i64 0] = dd4
    generalize Value.agg #[Value.int IntKind.i64 1, Value.int IntKind.i64 (-1), Value.int IntKind.i64 0, Value.int IntKind.i64 1, Value.int IntKind.i64 0, Value.int IntKind.i64 0] = dd5
    generalize Value.agg #[Value.int IntKind.i64 (-1), Value.int IntKind.i64 0, Value.int IntKind.i64 0, Value.int IntKind.i64 1, Value.int IntKind.i64 0, Value.int IntKind.i64 0] = dd6
    generalize Value.agg #[Value.int IntKind.i64 (-1), Value.int IntKind.i64 0, Value.int IntKind.i64 0, Value.int IntKind.i64 (-1), Value.int IntKind.i64 1, Value.int IntKind.i64 0] = dd7
    generalize Value.agg #[Value.int IntKind.i64 1, Value.int IntKind.i64 0, Value.int IntKind.i64 0] = dd8
    generalize Value.agg #[Value.int IntKind.i64 (-1), Value.int IntKind.i64 1, Value.int IntKind.i64 0] = dd9
    generalize Value.agg #[Value.int IntKind.i64 1, Value.int IntKind.i64 (-1), Value.int IntKind.i64 0] = dd10
    generalize Value.agg #[Value.int IntKind.i64 (-1), Value.int IntKind.i64 0, Value.int IntKind.i64 0] = dd11
    clear HB BK101
    generalize World.drewN (w7.alloc (Obj.cells #[Value.int IntKind.i64 1, Value.int IntKind.i64 0, Value.int IntKind.i64 0, Value.int IntKind.i64 0, Value.int IntKind.i64 0, Value.int IntKind.i64 0, Value.int IntKind.i64 1, Value.int IntKind.i64 0, Value.int IntKind.i64 0, Value.int IntKind.i64 (-1), Value.int IntKind.i64 1, Value.int IntKind.i64 0, Value.int IntKind.i64 1, Value.int IntKind.i64 0, Value.int IntKind.i64 0, Value.int IntKind.i64 1, Value.int IntKind.i64 0, Value.int IntKind.i64 0, Value.int IntKind.i64 (-1), Value.int IntKind.i64 1, Value.int IntKind.i64 0, Value.int IntKind.i64 1, Value.int IntKind.i64 0, Value.int IntKind.i64 0, Value.int IntKind.i64 0, Value.int IntKind.i64 0, Value.int IntKind.i64 0, Value.int IntKind.i64 1, Value.int IntKind.i64 0, Value.int IntKind.i64 0, Value.int IntKind.i64 1, Value.int IntKind.i64 (-1), Value.int IntKind.i64 0, Value.int IntKind.i64 1, Value.int IntKind.i64 0, Value.int IntKind.i64 0, Value.int IntKind.i64 (-1), Value.int IntKind.i64 0, Value.int IntKind.i64 0, Value.int IntKind.i64 1, Value.int IntKind.i64 0, Value.int IntKind.i64 0, Value.int IntKind.i64 (-1), Value.int IntKind.i64 0, Value.int IntKind.i64 0, Value.int IntKind.i64 (-1), Value.int IntKind.i64 1, Value.int IntKind.i64 0] 35)) nd = w8 at hC hB8 hK8 ⊢
    generalize w7.heap.size = gs at hC ⊢
    have HB := zpS hB8
    have BK101 := zpS hK8
    clear hB8 hK8
    rw [show lv8 = y102 from Ny102.out.symm] at hC
    have p106 : 0 ≤ ((ji3) : Int) := dt_
    have q106 : (ji3) < (y102.length : Int) := dt_
    have q106' : (ji3) < ((8 : Nat) : Int) := by rw [← hC.1]; exact q106
    obtain ⟨ad106, e106, hx106_0, hx106_1, hx106_2, hx106_3, hx106_4, hx106_5⟩ := zcN hC (ji3) p106 q106'
    obtain rfl : (⟨gs, 0, none⟩ : Addr) = ad106 := (by injection e106)
    first | simp only [zyK] at hx106_0 hx106_1 hx106_2 hx106_3 hx106_4 hx106_5 | simp only [add_at] at hx106_0 hx106_1 hx106_2 hx106_3 hx106_4 hx106_5 | simp only [Addr.add, Nat.zero_add] at hx106_0 hx106_1 hx106_2 hx106_3 hx106_4 hx106_5 | skip
    replace p106 := eq_true p106
    replace q106' := eq_true q106'
    have q106'' : (ji3 < 8) = True := q106'
    have hcz14_0 : ∀ cs : Array Value, (w8.alloc (Obj.cells cs 35)).cell? ⟨gb101, 0, none⟩ = some (.int .i64 0) := fun cs => (zzS (zqY BK101.out _) 0).trans rfl
    have hfz14_0 : ∀ cs : Array Value, (w8.alloc (Obj.cells cs 35)).frozen? ⟨gb101, 0, none⟩ = false := fun cs => zjF (zqY BK101.out _) 0
    have hcz14_1 : ∀ cs : Array Value, (w8.alloc (Obj.cells cs 35)).cell? ⟨gb101, 1, none⟩ = some (.int .i64 0) := fun cs => (zzS (zqY BK101.out _) 1).trans rfl
    have hfz14_1 : ∀ cs : Array Value, (w8.alloc (Obj.cells cs 35)).frozen? ⟨gb101, 1, none⟩ = false := fun cs => zjF (zqY BK101.out _) 1
    have hcz14_2 : ∀ cs : Array Value, (w8.alloc (Obj.cells cs 35)).cell? ⟨gb101, 2, none⟩ = some (.int .i64 0) := fun cs => (zzS (zqY BK101.out _) 2).trans rfl
    have hfz14_2 : ∀ cs : Array Value, (w8.alloc (Obj.cells cs 35)).frozen? ⟨gb101, 2, none⟩ = false := fun cs => zjF (zqY BK101.out _) 2
    have hcz14_3 : ∀ cs : Array Value, (w8.alloc (Obj.cells cs 35)).cell? ⟨gb101, 3, none⟩ = some (.int .i64 0) := fun cs => (zzS (zqY BK101.out _) 3).trans rfl
    have hfz14_3 : ∀ cs : Array Value, (w8.alloc (Obj.cells cs 35)).frozen? ⟨gb101, 3, none⟩ = false := fun cs => zjF (zqY BK101.out _) 3
    have hcz14_4 : ∀ cs : Array Value, (w8.alloc (Obj.cells cs 35)).cell? ⟨gb101, 4, none⟩ = some (.int .i64 0) := fun cs => (zzS (zqY BK101.out _) 4).trans rfl
    have hfz14_4 : ∀ cs : Array Value, (w8.alloc (Obj.cells cs 35)).frozen? ⟨gb101, 4, none⟩ = false := fun cs => zjF (zqY BK101.out _) 4
    have hcz14_5 : ∀ cs : Array Value, (w8.alloc (Obj.cells cs 35)).cell? ⟨gb101, 5, none⟩ = some (.int .i64 0) := fun cs => (zzS (zqY BK101.out _) 5).trans rfl
    have hfz14_5 : ∀ cs : Array Value, (w8.alloc (Obj.cells cs 35)).frozen? ⟨gb101, 5, none⟩ = false := fun cs => zjF (zqY BK101.out _) 5
    have hnb : gb101 ≠ w8.heap.size := Nat.ne_of_lt (zmN BK101.out)
    have hnc : w8.heap.size ≠ gb101 := fun e => hnb e.symm
    have GE107 := zpS (zuA HB.out)
    go_wp2
    refine bodyPost_ret (results_cell_row rfl _ _ gb101 35 #[.int .i64 (wrap64 (-((zmE y102 (ji3)).f0.f0))), .int .i64 (wrap64 (-((zmE y102 (ji3)).f0.f1))), .int .i64 0, .int .i64 (wrap64 (-((zmE y102 (ji3)).f1.f0))), .int .i64 (wrap64 (-((zmE y102 (ji3)).f1.f1))), .int .i64 0] (0, 0) _ rfl (by (with_reducible repeat (first | apply zuW | apply ztN | apply zqY)); refine zlL (cs := #[.int .i64 (wrap64 (-((zmE y102 (ji3)).f0.f0))), .int .i64 (wrap64 (-((zmE y102 (ji3)).f0.f1))), .int .i64 0, .int .i64 (wrap64 (-((zmE y102 (ji3)).f1.f0))), .int .i64 (wrap64 (-((zmE y102 (ji3)).f1.f1))), .int .i64 0]) ?_ 5 _ rfl; (with_reducible repeat (first | apply zuW | apply ztN | apply zqY)); refine zlL (cs := #[.int .i64 (wrap64 (-((zmE y102 (ji3)).f0.f0))), .int .i64 (wrap64 (-((zmE y102 (ji3)).f0.f1))), .int .i64 0, .int .i64 (wrap64 (-((zmE y102 (ji3)).f1.f0))), .int .i64 0, .int .i64 0]) ?_ 4 _ rfl; (with_reducible repeat (first | apply zuW | apply ztN | apply zqY)); refine zlL (cs := #[.int .i64 (wrap64 (-((zmE y102 (ji3)).f0.f0))), .int .i64 (wrap64 (-((zmE y102 (ji3)).f0.f1))), .int .i64 0, .int .i64 0, .int .i64 0, .int .i64 0]) ?_ 3 _ rfl; (with_reducible repeat (first | apply zuW | apply ztN | apply zqY)); refine zlL (cs := #[.int .i64 (wrap64 (-((zmE y102 (ji3)).f0.f0))), .int .i64 (wrap64 (-((zmE y102 (ji3)).f0.f1))), .int .i64 0, .int .i64 0, .int .i64 0, .int .i64 0]) ?_ 2 _ rfl; (with_reducible repeat (first | apply zuW | apply ztN | apply zqY)); refine zlL (cs := #[.int .i64 (wrap64 (-((zmE y102 (ji3)).f0.f0))), .int .i64 0, .int .i64 0, .int .i64 0, .int .i64 0, .int .i64 0]) ?_ 1 _ rfl; (with_reducible repeat (first | apply zuW | apply ztN | apply zqY)); refine zlL (cs := #[.int .i64 0, .int .i64 0, .int .i64 0, .int .i64 0, .int .i64 0, .int .i64 0]) ?_ 0 _ rfl; (with_reducible repeat (first | apply zuW | apply ztN | apply zqY)); exact BK101.out) Tryd.underlying35 rfl (by kernel_rfl)) rfl ?_
    exact ⟨by first | rfl | (simp [ziS, znJ] <;> rfl) | (simp only [← hji3]; first | rfl | (simp [ziS, znJ] <;> rfl)) | (simp [*, ziS, znJ] <;> rfl), bb_⟩
   ·rw [if_neg c6] at H
    have c6b0 : decide (8 ≤ t105) = false := decide_eq_false c6
    clear c6
    simp only [Option.some.injEq, Prod.mk.injEq] at H
    obtain ⟨rfl, rfl, rfl, rfl, rfl, rfl⟩ := H
    go_enter Tryd.func62, Tryd.ntmps62
    go_wp2_with (first | ((with_reducible refine zpZ (N := 2) rfl ?_); refine bx_ 2 #[.int .i64 0, .int .i64 0, .int .i64 0, .int .i64 0, .int .i64 0, .int .i64 0] 35 ?_; intro gb101 hg w7 hbox hb; have n0_ := (ns_ hb); have n1_ := zpS (hbox); have n2_ := (ng_ hg); have n3_ := n2_; clear HB; have HB := n0_; have BK101 := n1_; have GW101 := n2_; have GE101 := n3_; clear n0_ n1_ n2_ n3_; clear hb hbox hg))
    refine (ziB.calls a0 t105 _ A2.out).mono ?_
    rintro e w' ⟨rfl, nd, rfl⟩
    have hC := Kd.C_drewN (lv8_C w7) nd
    have hB8 := zkZ (znU HB.out (Obj.cells #[Value.int IntKind.i64 1, Value.int IntKind.i64 0, Value.int IntKind.i64 0, Value.int IntKind.i64 0, Value.int IntKind.i64 0, Value.int IntKind.i64 0, Value.int IntKind.i64 1, Value.int IntKind.i64 0, Value.int IntKind.i64 0, Value.int IntKind.i64 (-1), Value.int IntKind.i64 1, Value.int IntKind.i64 0, Value.int IntKind.i64 1, Value.int IntKind.i64 0, Value.int IntKind.i64 0, Value.int IntKind.i64 1, Value.int IntKind.i64 0, Value.int IntKind.i64 0, Value.int IntKind.i64 (-1), Value.int IntKind.i64 1, Value.int IntKind.i64 0, Value.int IntKind.i64 1, Value.int IntKind.i64 0, Value.int IntKind.i64 0, Value.int IntKind.i64 0, Value.int IntKind.i64 0, Value.int IntKind.i64 0, Value.int IntKind.i64 1, Value.int IntKind.i64 0, Value.int IntKind.i64 0, Value.int IntKind.i64 1, Value.int IntKind.i64 (-1), Value.int IntKind.i64 0, Value.int IntKind.i64 1, Value.int IntKind.i64 0, Value.int IntKind.i64 0, Value.int IntKind.i64 (-1), Value.int IntKind.i64 0, Value.int IntKind.i64 0, Value.int IntKind.i64 1, Value.int IntKind.i64 0, Value.int IntKind.i64 0, Value.int IntKind.i64 (-1), Value.int IntKind.i64 0, Value.int IntKind.i64 0, Value.int IntKind.i64 (-1), Value.int IntKind.i64 1, Value.int IntKind.i64 0] 35)) nd
    have hK8 := zuW (zqY BK101.out (Obj.cells #[Value.int IntKind.i64 1, Value.int IntKind.i64 0, Value.int IntKind.i64 0, Value.int IntKind.i64 0, Value.int IntKind.i64 0, Value.int IntKind.i64 0, Value.int IntKind.i64 1, Value.int IntKind.i64 0, Value.int IntKind.i64 0, Value.int IntKind.i64 (-1), Value.int IntKind.i64 1, Value.int IntKind.i64 0, Value.int IntKind.i64 1, Value.int IntKind.i64 0, Value.int IntKind.i64 0, Value.int IntKind.i64 1, Value.int IntKind.i64 0, Value.int IntKind.i64 0, Value.int IntKind.i64 (-1), Value.int IntKind.i64 1, Value.int IntKind.i64 0, Value.int IntKind.i64 1, Value.int IntKind.i64 0, Value.int IntKind.i64 0, Value.int IntKind.i64 0, Value.int IntKind.i64 0, Value.int IntKind.i64 0, Value.int IntKind.i64 1, Value.int IntKind.i64 0, Value.int IntKind.i64 0, Value.int IntKind.i64 1, Value.int IntKind.i64 (-1), Value.int IntKind.i64 0, Value.int IntKind.i64 1, Value.int IntKind.i64 0, Value.int IntKind.i64 0, Value.int IntKind.i64 (-1), Value.int IntKind.i64 0, Value.int IntKind.i64 0, Value.int IntKind.i64 1, Value.int IntKind.i64 0, Value.int IntKind.i64 0, Value.int IntKind.i64 (-1), Value.int IntKind.i64 0, Value.int IntKind.i64 0, Value.int IntKind.i64 (-1), Value.int IntKind.i64 1, Value.int IntKind.i64 0] 35)) nd
    generalize Value.agg #[Value.int IntKind.i64 1, Value.int IntKind.i64 0, Value.int IntKind.i64 0, Value.int IntKind.i64 0, Value.int IntKind.i64 0, Value.int IntKind.i64 0] = dd0
    generalize Value.agg #[Value.int IntKind.i64 1, Value.int IntKind.i64 0, Value.int IntKind.i64 0, Value.int IntKind.i64 (-1), Value.int IntKind.i64 1, Value.int IntKind.i64 0] = dd1
    generalize Value.agg #[Value.int IntKind.i64 1, Value.int IntKind.i64 0, Value.int IntKind.i64 0, Value.int IntKind.i64 1, Value.int IntKind.i64 0, Value.int IntKind.i64 0] = dd2
    generalize Value.agg #[Value.int IntKind.i64 (-1), Value.int IntKind.i64 1, Value.int IntKind.i64 0, Value.int IntKind.i64 1, Value.int IntKind.i64 0, Value.int IntKind.i64 0] = dd3
    generalize Value.agg #[Value.int IntKind.i64 0, Value.int IntKind.i64 0, Value.int IntKind.i64 0, Value.int IntKind.i64 1, Value.int IntKind.i64 0, Value.int IntKind.i64 0] = dd4
    generalize Value.agg #[Value.int IntKind.i64 1, Value.int IntKind.i64 (-1), Value.int IntKind.i64 0, Value.int IntKind.i64 1, Value.int IntKind.i64 0, Value.int IntKind.i64 0] = dd5
    generalize Value.agg #[Value.int IntKind.i64 (-1), Value.int IntKind.i64 0, Value.int IntKind.i64 0, Value.int IntKind.i64 1, Value.int IntKind.i64 0, Value.int IntKind.i64 0] = dd6
    generalize Value.agg #[Value.int IntKind.i64 (-1), Value.int IntKind.i64 0, Value.int IntKind.i64 0, Value.int IntKind.i64 (-1), Value.int IntKind.i64 1, Value.int IntKind.i64 0] = dd7
    generalize Value.agg #[Value.int IntKind.i64 1, Value.int IntKind.i64 0, Value.int IntKind.i64 0] = dd8
    generalize Value.agg #[Value.int IntKind.i64 (-1), Value.int IntKind.i64 1, Value.int IntKind.i64 0] = dd9
    generalize Value.agg #[Value.int IntKind.i64 1, Value.int IntKind.i64 (-1), Value.int IntKind.i64 0] = dd10
    generalize Value.agg #[Value.int IntKind.i64 (-1), Value.int IntKind.i64 0, Value.int IntKind.i64 0] = dd11
    clear HB BK101
    generalize World.drewN (w7.alloc (Obj.cells #[Value.int IntKind.i64 1, Value.int IntKind.i64 0, Value.int IntKind.i64 0, Value.int IntKind.i64 0, Value.int IntKind.i64 0, Value.int IntKind.i64 0, Value.int IntKind.i64 1, Value.int IntKind.i64 0, Value.int IntKind.i64 0, Value.int IntKind.i64 (-1), Value.int IntKind.i64 1, Value.int IntKind.i64 0, Value.int IntKind.i64 1, Value.int IntKind.i64 0, Value.int IntKind.i64 0, Value.int IntKind.i64 1, Value.int IntKind.i64 0, Value.int IntKind.i64 0, Value.int IntKind.i64 (-1), Value.int IntKind.i64 1, Value.int IntKind.i64 0, Value.int IntKind.i64 1, Value.int IntKind.i64 0, Value.int IntKind.i64 0, Value.int IntKind.i64 0, Value.int IntKind.i64 0, Value.int IntKind.i64 0, Value.int IntKind.i64 1, Value.int IntKind.i64 0, Value.int IntKind.i64 0, Value.int IntKind.i64 1, Value.int IntKind.i64 (-1), Value.int IntKind.i64 0, Value.int IntKind.i64 1, Value.int IntKind.i64 0, Value.int IntKind.i64 0, Value.int IntKind.i64 (-1), Value.int IntKind.i64 0, Value.int IntKind.i64 0, Value.int IntKind.i64 1, Value.int IntKind.i64 0, Value.int IntKind.i64 0, Value.int IntKind.i64 (-1), Value.int IntKind.i64 0, Value.int IntKind.i64 0, Value.int IntKind.i64 (-1), Value.int IntKind.i64 1, Value.int IntKind.i64 0] 35)) nd = w8 at hC hB8 hK8 ⊢
    generalize w7.heap.size = gs at hC ⊢
    have HB := zpS hB8
    have BK101 := zpS hK8
    clear hB8 hK8
    rw [show lv8 = y102 from Ny102.out.symm] at hC
    have p106 : 0 ≤ ((ji3) : Int) := dt_
    have q106 : (ji3) < (y102.length : Int) := dt_
    have q106' : (ji3) < ((8 : Nat) : Int) := by rw [← hC.1]; exact q106
    obtain ⟨ad106, e106, hx106_0, hx106_1, hx106_2, hx106_3, hx106_4, hx106_5⟩ := zcN hC (ji3) p106 q106'
    obtain rfl : (⟨gs, 0, none⟩ : Addr) = ad106 := (by injection e106)
    first | simp only [zyK] at hx106_0 hx106_1 hx106_2 hx106_3 hx106_4 hx106_5 | simp only [add_at] at hx106_0 hx106_1 hx106_2 hx106_3 hx106_4 hx106_5 | simp only [Addr.add, Nat.zero_add] at hx106_0 hx106_1 hx106_2 hx106_3 hx106_4 hx106_5 | skip
    replace p106 := eq_true p106
    replace q106' := eq_true q106'
    have q106'' : (ji3 < 8) = True := q106'
    have hcz14_0 : ∀ cs : Array Value, (w8.alloc (Obj.cells cs 35)).cell? ⟨gb101, 0, none⟩ = some (.int .i64 0) := fun cs => (zzS (zqY BK101.out _) 0).trans rfl
    have hfz14_0 : ∀ cs : Array Value, (w8.alloc (Obj.cells cs 35)).frozen? ⟨gb101, 0, none⟩ = false := fun cs => zjF (zqY BK101.out _) 0
    have hcz14_1 : ∀ cs : Array Value, (w8.alloc (Obj.cells cs 35)).cell? ⟨gb101, 1, none⟩ = some (.int .i64 0) := fun cs => (zzS (zqY BK101.out _) 1).trans rfl
    have hfz14_1 : ∀ cs : Array Value, (w8.alloc (Obj.cells cs 35)).frozen? ⟨gb101, 1, none⟩ = false := fun cs => zjF (zqY BK101.out _) 1
    have hcz14_2 : ∀ cs : Array Value, (w8.alloc (Obj.cells cs 35)).cell? ⟨gb101, 2, none⟩ = some (.int .i64 0) := fun cs => (zzS (zqY BK101.out _) 2).trans rfl
    have hfz14_2 : ∀ cs : Array Value, (w8.alloc (Obj.cells cs 35)).frozen? ⟨gb101, 2, none⟩ = false := fun cs => zjF (zqY BK101.out _) 2
    have hcz14_3 : ∀ cs : Array Value, (w8.alloc (Obj.cells cs 35)).cell? ⟨gb101, 3, none⟩ = some (.int .i64 0) := fun cs => (zzS (zqY BK101.out _) 3).trans rfl
    have hfz14_3 : ∀ cs : Array Value, (w8.alloc (Obj.cells cs 35)).frozen? ⟨gb101, 3, none⟩ = false := fun cs => zjF (zqY BK101.out _) 3
    have hcz14_4 : ∀ cs : Array Value, (w8.alloc (Obj.cells cs 35)).cell? ⟨gb101, 4, none⟩ = some (.int .i64 0) := fun cs => (zzS (zqY BK101.out _) 4).trans rfl
    have hfz14_4 : ∀ cs : Array Value, (w8.alloc (Obj.cells cs 35)).frozen? ⟨gb101, 4, none⟩ = false := fun cs => zjF (zqY BK101.out _) 4
    have hcz14_5 : ∀ cs : Array Value, (w8.alloc (Obj.cells cs 35)).cell? ⟨gb101, 5, none⟩ = some (.int .i64 0) := fun cs => (zzS (zqY BK101.out _) 5).trans rfl
    have hfz14_5 : ∀ cs : Array Value, (w8.alloc (Obj.cells cs 35)).frozen? ⟨gb101, 5, none⟩ = false := fun cs => zjF (zqY BK101.out _) 5
    have hnb : gb101 ≠ w8.heap.size := Nat.ne_of_lt (zmN BK101.out)
    have hnc : w8.heap.size ≠ gb101 := fun e => hnb e.symm
    have GE107 := zpS (zuA HB.out)
    go_wp2
    refine bodyPost_ret (results_cell_row rfl _ _ gb101 35 #[.int .i64 ((zmE y102 (ji3)).f0.f0), .int .i64 ((zmE y102 (ji3)).f0.f1), .int .i64 ((zmE y102 (ji3)).f0.f2), .int .i64 ((zmE y102 (ji3)).f1.f0), .int .i64 ((zmE y102 (ji3)).f1.f1), .int .i64 ((zmE y102 (ji3)).f1.f2)] (0, 0) _ rfl (by (with_reducible repeat (first | apply zuW | apply ztN | apply zqY)); refine zlL (cs := #[.int .i64 ((zmE y102 (ji3)).f0.f0), .int .i64 ((zmE y102 (ji3)).f0.f1), .int .i64 ((zmE y102 (ji3)).f0.f2), .int .i64 ((zmE y102 (ji3)).f1.f0), .int .i64 ((zmE y102 (ji3)).f1.f1), .int .i64 0]) ?_ 5 _ rfl; (with_reducible repeat (first | apply zuW | apply ztN | apply zqY)); refine zlL (cs := #[.int .i64 ((zmE y102 (ji3)).f0.f0), .int .i64 ((zmE y102 (ji3)).f0.f1), .int .i64 ((zmE y102 (ji3)).f0.f2), .int .i64 ((zmE y102 (ji3)).f1.f0), .int .i64 0, .int .i64 0]) ?_ 4 _ rfl; (with_reducible repeat (first | apply zuW | apply ztN | apply zqY)); refine zlL (cs := #[.int .i64 ((zmE y102 (ji3)).f0.f0), .int .i64 ((zmE y102 (ji3)).f0.f1), .int .i64 ((zmE y102 (ji3)).f0.f2), .int .i64 0, .int .i64 0, .int .i64 0]) ?_ 3 _ rfl; (with_reducible repeat (first | apply zuW | apply ztN | apply zqY)); refine zlL (cs := #[.int .i64 ((zmE y102 (ji3)).f0.f0), .int .i64 ((zmE y102 (ji3)).f0.f1), .int .i64 0, .int .i64 0, .int .i64 0, .int .i64 0]) ?_ 2 _ rfl; (with_reducible repeat (first | apply zuW | apply ztN | apply zqY)); refine zlL (cs := #[.int .i64 ((zmE y102 (ji3)).f0.f0), .int .i64 0, .int .i64 0, .int .i64 0, .int .i64 0, .int .i64 0]) ?_ 1 _ rfl; (with_reducible repeat (first | apply zuW | apply ztN | apply zqY)); refine zlL (cs := #[.int .i64 0, .int .i64 0, .int .i64 0, .int .i64 0, .int .i64 0, .int .i64 0]) ?_ 0 _ rfl; (with_reducible repeat (first | apply zuW | apply ztN | apply zqY)); exact BK101.out) Tryd.underlying35 rfl (by kernel_rfl)) rfl ?_
    exact ⟨by first | rfl | (simp [ziS, znJ] <;> rfl) | (simp only [← hji3]; first | rfl | (simp [ziS, znJ] <;> rfl)) | (simp [*, ziS, znJ] <;> rfl), bb_⟩
  ·rw [if_neg c5] at H
   exact absurd H (by simp)
 ·rw [if_neg c4] at H
  exact absurd H (by simp)

def zhW.f (k : Nat) (a0_0 : Int) (a0_1 : Int) (a0_2 : Int) (a1_0 : Int) (a1_1 : Int) (a1_2 : Int) : Option (Int × Int × Int) := (zhR.f k (wrap64 ((wrap64 (a0_0 * a1_0)) + (wrap64 ((wrap64 (2 * a0_1)) * a1_1)))) (wrap64 ((wrap64 (a0_0 * a1_1)) + (wrap64 (a0_1 * a1_0)))) (wrap64 (a0_2 + a1_2))).bind fun bt183 => (some (bt183.1, bt183.2.1, bt183.2.2))
theorem zhW.mono : ∀ a0 a1 a2 a3 a4 a5 k, LeO (zhW.f k a0 a1 a2 a3 a4 a5) (zhW.f (k + 1) a0 a1 a2 a3 a4 a5) := by
 intro a0 a1 a2 a3 a4 a5 k
 unfold zhW.f
 repeat' first
   | (with_reducible exact zhR.mono _ _ _ _)
   | (with_reducible exact LeO.refl _)
   | (with_reducible exact LeO.none _)
   | (with_reducible refine LeO.ite ?_ ?_)
   | (with_reducible refine LeO.bind ?_ (fun _ => ?_))
   | exact zhR.mono _ _ _ _
   | exact LeO.none _
   | refine LeO.ite ?_ ?_
   | refine LeO.bind ?_ (fun _ => ?_)
theorem zhW.calls (k : Nat) (a0_0 : Int) (a0_1 : Int) (a0_2 : Int) (a1_0 : Int) (a1_1 : Int) (a1_2 : Int) (r1 : Int) (r2 : Int) (r3 : Int) (w : World) (h : zhW.f k a0_0 a0_1 a0_2 a1_0 a1_1 a1_2 = some (r1, r2, r3)) :
  Calls Tryd.prog 63 #[.agg #[.int .i64 a0_0, .int .i64 a0_1, .int .i64 a0_2], .agg #[.int .i64 a1_0, .int .i64 a1_1, .int .i64 a1_2]] w fun e w' => e = .returned (.agg #[.int .i64 r1, .int .i64 r2, .int .i64 r3]) ∧ Below w.heap.size w w' := by
 have hu63 := Tryd.underlying63
 have HB := zpS (Below.refl w.heap.size w)
 have H : ((zhR.f k (wrap64 ((wrap64 (a0_0 * a1_0)) + (wrap64 ((wrap64 (2 * a0_1)) * a1_1)))) (wrap64 ((wrap64 (a0_0 * a1_1)) + (wrap64 (a0_1 * a1_0)))) (wrap64 (a0_2 + a1_2))).bind fun bt183 => (some (bt183.1, bt183.2.1, bt183.2.2))) = some (r1, r2, r3) := h
 clear h
 replace H := Option.bind_eq_some_iff.mp H
 obtain ⟨⟨t183, t184, t185⟩, A30, H⟩ := H
 replace H : (some (t183, t184, t185)) = some (r1, r2, r3) := H
 have A3 := zpS A30
 clear A30
 simp only [Option.some.injEq, Prod.mk.injEq] at H
 obtain ⟨rfl, rfl, rfl⟩ := H
 go_enter Tryd.func63, Tryd.ntmps63
 go_wp2_with (first | ((with_reducible refine zpZ (N := 2) rfl ?_); refine bx_ 2 #[.int .i64 a0_0, .int .i64 a0_1, .int .i64 a0_2] 63 ?_; intro gb180 hg w4 hbox hb; have n0_ := (ns_ hb); have n1_ := zpS (hbox); have n2_ := (ng_ hg); have n3_ := n2_; clear HB; have HB := n0_; have BK180 := n1_; have GW180 := n2_; have GE180 := n3_; clear n0_ n1_ n2_ n3_; clear hb hbox hg) | ((with_reducible refine zpZ (N := 3) rfl ?_); refine bx_ 3 #[.int .i64 a1_0, .int .i64 a1_1, .int .i64 a1_2] 63 ?_; intro gb181 hg w5 hbox hb; have n0_ := zpS (zgM (g := gb180) (o := .cells #[.int .i64 a0_0, .int .i64 a0_1, .int .i64 a0_2] 63 (0, 0)) bk_ hb); have n1_ := (ns_ hb); have n2_ := zpS (hbox); have n3_ := (ng_ hg); have n4_ := n3_; have n5_ := zpS ((by rw [hg]; exact Nat.ne_of_lt (zmN (g := gb180) (o := .cells #[.int .i64 a0_0, .int .i64 a0_1, .int .i64 a0_2] 63 (0, 0)) bk_) : gb180 ≠ gb181)); have n6_ := zpS ((by rw [hg]; exact Nat.ne_of_gt (zmN (g := gb180) (o := .cells #[.int .i64 a0_0, .int .i64 a0_1, .int .i64 a0_2] 63 (0, 0)) bk_) : gb181 ≠ gb180)); clear BK180; clear HB; have BK180 := n0_; have HB := n1_; have BK181 := n2_; have GW181 := n3_; have GE181 := n4_; have NB180_181 := n5_; have NB181_180 := n6_; clear n0_ n1_ n2_ n3_ n4_ n5_ n6_; clear hb hbox hg) | ((with_reducible refine zpZ (N := 4) rfl ?_); refine bx_ 4 #[.int .i64 0, .int .i64 0, .int .i64 0] 63 ?_; intro gb182 hg w6 hbox hb; have n0_ := zpS (zgM (g := gb180) (o := .cells #[.int .i64 a0_0, .int .i64 a0_1, .int .i64 a0_2] 63 (0, 0)) bk_ hb); have n1_ := zpS (zgM (g := gb181) (o := .cells #[.int .i64 a1_0, .int .i64 a1_1, .int .i64 a1_2] 63 (0, 0)) bk_ hb); have n2_ := (ns_ hb); have n3_ := zpS (hbox); have n4_ := (ng_ hg); have n5_ := n4_; have n6_ := zpS ((by rw [hg]; exact Nat.ne_of_lt (zmN (g := gb180) (o := .cells #[.int .i64 a0_0, .int .i64 a0_1, .int .i64 a0_2] 63 (0, 0)) bk_) : gb180 ≠ gb182)); have n7_ := zpS ((by rw [hg]; exact Nat.ne_of_gt (zmN (g := gb180) (o := .cells #[.int .i64 a0_0, .int .i64 a0_1, .int .i64 a0_2] 63 (0, 0)) bk_) : gb182 ≠ gb180)); have n8_ := zpS ((by rw [hg]; exact Nat.ne_of_lt (zmN (g := gb181) (o := .cells #[.int .i64 a1_0, .int .i64 a1_1, .int .i64 a1_2] 63 (0, 0)) bk_) : gb181 ≠ gb182)); have n9_ := zpS ((by rw [hg]; exact Nat.ne_of_gt (zmN (g := gb181) (o := .cells #[.int .i64 a1_0, .int .i64 a1_1, .int .i64 a1_2] 63 (0, 0)) bk_) : gb182 ≠ gb181)); clear BK180; clear BK181; clear HB; have BK180 := n0_; have BK181 := n1_; have HB := n2_; have BK182 := n3_; have GW182 := n4_; have GE182 := n5_; have NB180_182 := n6_; have NB182_180 := n7_; have NB181_182 := n8_; have NB182_181 := n9_; clear n0_ n1_ n2_ n3_ n4_ n5_ n6_ n7_ n8_ n9_; clear hb hbox hg; have hnb7 := NB180_181.out; have hnc7 := NB181_180.out; have hnb8 := NB180_182.out; have hnc8 := NB182_180.out; obtain ⟨hcz9_0, hcz9_1, hcz9_2⟩ := zdT BK180.out; obtain ⟨hfz9_0, hfz9_1, hfz9_2⟩ := zqD BK180.out; have hnb10 := NB181_182.out; have hnc10 := NB182_181.out; obtain ⟨hcz11_0, hcz11_1, hcz11_2⟩ := zdT BK181.out; obtain ⟨hfz11_0, hfz11_1, hfz11_2⟩ := zqD BK181.out) | ((with_reducible refine zgK (f := 71) rfl ?_); refine zqQ (some 34) rfl rfl Tryd.func71 (by kernel_rfl) rfl #[.agg #[.int .i64 (wrap64 ((wrap64 (a0_0 * a1_0)) + (wrap64 ((wrap64 (2 * a0_1)) * a1_1)))), .int .i64 (wrap64 ((wrap64 (a0_0 * a1_1)) + (wrap64 (a0_1 * a1_0)))), .int .i64 (wrap64 (a0_2 + a1_2))]] rfl (by (try simp only [List.map_toArray, List.map_cons, List.map_nil]); first | done | rfl | (simp only [List.length_drop, List.length_take]; rfl)) ?_; (with_reducible refine (zhR.calls k (wrap64 ((wrap64 (a0_0 * a1_0)) + (wrap64 ((wrap64 (2 * a0_1)) * a1_1)))) (wrap64 ((wrap64 (a0_0 * a1_1)) + (wrap64 (a0_1 * a1_0)))) (wrap64 (a0_2 + a1_2)) t183 t184 t185 _ A3.out).mono ?_); rintro e w12 ⟨rfl, hb⟩; refine ⟨_, rfl, ?_⟩; have n0_ := zpS (zgM (g := gb180) (o := .cells #[.int .i64 a0_0, .int .i64 a0_1, .int .i64 a0_2] 63 (0, 0)) bk_ hb); have n1_ := zpS (zgM (g := gb181) (o := .cells #[.int .i64 a1_0, .int .i64 a1_1, .int .i64 a1_2] 63 (0, 0)) bk_ hb); have n2_ := zpS (zgM (g := gb182) (o := .cells #[.int .i64 0, .int .i64 0, .int .i64 0] 63 (0, 0)) bk_ hb); have n3_ := (ns_ hb); clear BK180; clear BK181; clear BK182; clear HB; have BK180 := n0_; have BK181 := n1_; have BK182 := n2_; have HB := n3_; clear n0_ n1_ n2_ n3_; (try clear hb); (try clear hb2); obtain ⟨hcz13_0, hcz13_1, hcz13_2⟩ := zdT BK182.out; obtain ⟨hfz13_0, hfz13_1, hfz13_2⟩ := zqD BK182.out))
 refine bodyPost_ret (results_cell_row rfl _ _ gb182 63 #[.int .i64 t183, .int .i64 t184, .int .i64 t185] (0, 0) _ rfl (by (with_reducible repeat (first | apply zuW | apply ztN | apply zqY)); refine zlL (cs := #[.int .i64 t183, .int .i64 t184, .int .i64 0]) ?_ 2 _ rfl; (with_reducible repeat (first | apply zuW | apply ztN | apply zqY)); refine zlL (cs := #[.int .i64 t183, .int .i64 0, .int .i64 0]) ?_ 1 _ rfl; (with_reducible repeat (first | apply zuW | apply ztN | apply zqY)); refine zlL (cs := #[.int .i64 0, .int .i64 0, .int .i64 0]) ?_ 0 _ rfl; (with_reducible repeat (first | apply zuW | apply ztN | apply zqY)); exact BK182.out) Tryd.underlying63 rfl (by kernel_rfl)) rfl ?_
 exact ⟨by first | rfl | (simp [ziS, znJ] <;> rfl) | (simp [*, ziS, znJ] <;> rfl), bb_⟩

def zmD.f (k : Nat) (a0 : Int) (a1_0 : Int) (a1_1 : Int) (a1_2 : Int) (a1_3 : Int) (a1_4 : Int) (a1_5 : Int) : Option (Int × Int × Int) := (zqB.f a0).bind fun bt188 => ((ziY.f bt188.1 bt188.2.1 bt188.2.2.1 bt188.2.2.2.1 bt188.2.2.2.2.1 bt188.2.2.2.2.2).bind fun bt194 => ((zhW.f k bt194.1 bt194.2.1 bt194.2.2.1 a1_0 a1_1 a1_2).bind fun bt201 => ((zhW.f k bt194.2.2.2.1 bt194.2.2.2.2.1 bt194.2.2.2.2.2 a1_3 a1_4 a1_5).bind fun bt204 => ((zhQ.f k bt201.1 bt201.2.1 bt201.2.2 bt204.1 bt204.2.1 bt204.2.2).bind fun bt207 => (some (bt207.1, bt207.2.1, bt207.2.2))))))
theorem zmD.mono : ∀ a0 a1 a2 a3 a4 a5 a6 k, LeO (zmD.f k a0 a1 a2 a3 a4 a5 a6) (zmD.f (k + 1) a0 a1 a2 a3 a4 a5 a6) := by
 intro a0 a1 a2 a3 a4 a5 a6 k
 unfold zmD.f
 repeat' first
   | (with_reducible exact zhQ.mono _ _ _ _ _ _ _)
   | (with_reducible exact zhW.mono _ _ _ _ _ _ _)
   | (with_reducible exact LeO.refl _)
   | (with_reducible exact LeO.none _)
   | (with_reducible refine LeO.ite ?_ ?_)
   | (with_reducible refine LeO.bind ?_ (fun _ => ?_))
   | exact zhQ.mono _ _ _ _ _ _ _
   | exact zhW.mono _ _ _ _ _ _ _
   | exact LeO.none _
   | refine LeO.ite ?_ ?_
   | refine LeO.bind ?_ (fun _ => ?_)
def zmD.T2 : Bool × List (List Nat × List Nat) := (true, [([], []), ([0], [0]), ([], []), ([2], [2]), ([1, 3], [1, 3]), ([], []), ([5], [5]), ([], []), ([7], [7]), ([6, 8, 4], [6, 8]), ([4, 9, 9], [4, 9]), ([10, 10, 0, 1, 2, 3, 4, 5, 6, 7, 8, 9, 10], [10])])
def zmD.B2 : List Nat := [0, 1, 0, 4, 15, 0, 32, 0, 128, 511, 1023, 2047]
theorem zmD.tab2 : rtab .any (opsOf Tryd.f52 2) = zmD.T2 := by kernel_rfl
theorem zmD.bits2 : ztG zmD.T2.2 zmD.B2 = true := by kernel_rfl
theorem zmD.calls (k : Nat) (a0 : Int) (a1_0 : Int) (a1_1 : Int) (a1_2 : Int) (a1_3 : Int) (a1_4 : Int) (a1_5 : Int) (r1 : Int) (r2 : Int) (r3 : Int) (w : World) (h : zmD.f k a0 a1_0 a1_1 a1_2 a1_3 a1_4 a1_5 = some (r1, r2, r3)) :
  Calls Tryd.prog 52 #[.int .i64 a0, .agg #[.int .i64 a1_0, .int .i64 a1_1, .int .i64 a1_2, .int .i64 a1_3, .int .i64 a1_4, .int .i64 a1_5]] w fun e w' => e = .returned (.agg #[.int .i64 r1, .int .i64 r2, .int .i64 r3]) ∧ Below w.heap.size w w' := by
 have hu65 := Tryd.underlying65
 have hu63 := Tryd.underlying63
 have HB := zpS (Below.refl w.heap.size w)
 have H : ((zqB.f a0).bind fun bt188 => ((ziY.f bt188.1 bt188.2.1 bt188.2.2.1 bt188.2.2.2.1 bt188.2.2.2.2.1 bt188.2.2.2.2.2).bind fun bt194 => ((zhW.f k bt194.1 bt194.2.1 bt194.2.2.1 a1_0 a1_1 a1_2).bind fun bt201 => ((zhW.f k bt194.2.2.2.1 bt194.2.2.2.2.1 bt194.2.2.2.2.2 a1_3 a1_4 a1_5).bind fun bt204 => ((zhQ.f k bt201.1 bt201.2.1 bt201.2.2 bt204.1 bt204.2.1 bt204.2.2).bind fun bt207 => (some (bt207.1, bt207.2.1, bt207.2.2))))))) = some (r1, r2, r3) := h
 clear h
 replace H := Option.bind_eq_some_iff.mp H
 obtain ⟨⟨t188, t189, t190, t191, t192, t193⟩, A30, H⟩ := H
 replace H : ((ziY.f t188 t189 t190 t191 t192 t193).bind fun bt194 => ((zhW.f k bt194.1 bt194.2.1 bt194.2.2.1 a1_0 a1_1 a1_2).bind fun bt201 => ((zhW.f k bt194.2.2.2.1 bt194.2.2.2.2.1 bt194.2.2.2.2.2 a1_3 a1_4 a1_5).bind fun bt204 => ((zhQ.f k bt201.1 bt201.2.1 bt201.2.2 bt204.1 bt204.2.1 bt204.2.2).bind fun bt207 => (some (bt207.1, bt207.2.1, bt207.2.2)))))) = some (r1, r2, r3) := H
 have A3 := zpS A30
 clear A30
 replace H := Option.bind_eq_some_iff.mp H
 obtain ⟨⟨t194, t195, t196, t197, t198, t199⟩, A40, H⟩ := H
 replace H : ((zhW.f k t194 t195 t196 a1_0 a1_1 a1_2).bind fun bt201 => ((zhW.f k t197 t198 t199 a1_3 a1_4 a1_5).bind fun bt204 => ((zhQ.f k bt201.1 bt201.2.1 bt201.2.2 bt204.1 bt204.2.1 bt204.2.2).bind fun bt207 => (some (bt207.1, bt207.2.1, bt207.2.2))))) = some (r1, r2, r3) := H
 have A4 := zpS A40
 clear A40
 replace H := Option.bind_eq_some_iff.mp H
 obtain ⟨⟨t201, t202, t203⟩, A50, H⟩ := H
 replace H : ((zhW.f k t197 t198 t199 a1_3 a1_4 a1_5).bind fun bt204 => ((zhQ.f k t201 t202 t203 bt204.1 bt204.2.1 bt204.2.2).bind fun bt207 => (some (bt207.1, bt207.2.1, bt207.2.2)))) = some (r1, r2, r3) := H
 have A5 := zpS A50
 clear A50
 replace H := Option.bind_eq_some_iff.mp H
 obtain ⟨⟨t204, t205, t206⟩, A60, H⟩ := H
 replace H : ((zhQ.f k t201 t202 t203 t204 t205 t206).bind fun bt207 => (some (bt207.1, bt207.2.1, bt207.2.2))) = some (r1, r2, r3) := H
 have A6 := zpS A60
 clear A60
 replace H := Option.bind_eq_some_iff.mp H
 obtain ⟨⟨t207, t208, t209⟩, A70, H⟩ := H
 replace H : (some (t207, t208, t209)) = some (r1, r2, r3) := H
 have A7 := zpS A70
 clear A70
 simp only [Option.some.injEq, Prod.mk.injEq] at H
 obtain ⟨rfl, rfl, rfl⟩ := H
 go_enter Tryd.func52, Tryd.ntmps52
 try go_wp2_with (first | ((with_reducible refine zpZ (N := 3) rfl ?_); refine bx_ 3 #[.int .i64 a1_0, .int .i64 a1_1, .int .i64 a1_2, .int .i64 a1_3, .int .i64 a1_4, .int .i64 a1_5] 65 ?_; intro gb186 hg w8 hbox hb; have n0_ := (ns_ hb); have n1_ := zpS (hbox); have n2_ := (ng_ hg); have n3_ := n2_; clear HB; have HB := n0_; have BK186 := n1_; have GW186 := n2_; have GE186 := n3_; clear n0_ n1_ n2_ n3_; clear hb hbox hg) | ((with_reducible refine zpZ (N := 4) rfl ?_); refine bx_ 4 #[.int .i64 0, .int .i64 0, .int .i64 0] 63 ?_; intro gb187 hg w9 hbox hb; have n0_ := zpS (zgM (g := gb186) (o := .cells #[.int .i64 a1_0, .int .i64 a1_1, .int .i64 a1_2, .int .i64 a1_3, .int .i64 a1_4, .int .i64 a1_5] 65 (0, 0)) bk_ hb); have n1_ := (ns_ hb); have n2_ := zpS (hbox); have n3_ := (ng_ hg); have n4_ := n3_; have n5_ := zpS ((by rw [hg]; exact Nat.ne_of_lt (zmN (g := gb186) (o := .cells #[.int .i64 a1_0, .int .i64 a1_1, .int .i64 a1_2, .int .i64 a1_3, .int .i64 a1_4, .int .i64 a1_5] 65 (0, 0)) bk_) : gb186 ≠ gb187)); have n6_ := zpS ((by rw [hg]; exact Nat.ne_of_gt (zmN (g := gb186) (o := .cells #[.int .i64 a1_0, .int .i64 a1_1, .int .i64 a1_2, .int .i64 a1_3, .int .i64 a1_4, .int .i64 a1_5] 65 (0, 0)) bk_) : gb187 ≠ gb186)); clear BK186; clear HB; have BK186 := n0_; have HB := n1_; have BK187 := n2_; have GW187 := n3_; have GE187 := n4_; have NB186_187 := n5_; have NB187_186 := n6_; clear n0_ n1_ n2_ n3_ n4_ n5_ n6_; clear hb hbox hg) | ((with_reducible refine zgK (f := 62) rfl ?_); refine zqQ (some 7) rfl rfl Tryd.func62 (by kernel_rfl) rfl #[.int .i64 a0] rfl (by (try simp only [List.map_toArray, List.map_cons, List.map_nil]); first | done | rfl | (simp only [List.length_drop, List.length_take]; rfl)) ?_; (with_reducible refine (zqB.calls a0 t188 t189 t190 t191 t192 t193 _ A3.out).mono ?_); rintro e w10 ⟨rfl, hb⟩; refine ⟨_, rfl, ?_⟩; have n0_ := zpS (zgM (g := gb186) (o := .cells #[.int .i64 a1_0, .int .i64 a1_1, .int .i64 a1_2, .int .i64 a1_3, .int .i64 a1_4, .int .i64 a1_5] 65 (0, 0)) bk_ hb); have n1_ := zpS (zgM (g := gb187) (o := .cells #[.int .i64 0, .int .i64 0, .int .i64 0] 63 (0, 0)) bk_ hb); have n2_ := (ns_ hb); clear BK186; clear BK187; clear HB; have BK186 := n0_; have BK187 := n1_; have HB := n2_; clear n0_ n1_ n2_; (try clear hb); (try clear hb2)) | ((with_reducible refine zgK (f := 41) rfl ?_); refine zqQ (some 8) rfl rfl Tryd.func41 (by kernel_rfl) rfl #[.agg #[.int .i64 t188, .int .i64 t189, .int .i64 t190, .int .i64 t191, .int .i64 t192, .int .i64 t193]] rfl (by (try simp only [List.map_toArray, List.map_cons, List.map_nil]); first | done | rfl | (simp only [List.length_drop, List.length_take]; rfl)) ?_; (with_reducible refine (ziY.calls t188 t189 t190 t191 t192 t193 t194 t195 t196 t197 t198 t199 _ A4.out).mono ?_); rintro e w11 ⟨rfl, hb⟩; refine ⟨_, rfl, ?_⟩; have n0_ := zpS (zgM (g := gb186) (o := .cells #[.int .i64 a1_0, .int .i64 a1_1, .int .i64 a1_2, .int .i64 a1_3, .int .i64 a1_4, .int .i64 a1_5] 65 (0, 0)) bk_ hb); have n1_ := zpS (zgM (g := gb187) (o := .cells #[.int .i64 0, .int .i64 0, .int .i64 0] 63 (0, 0)) bk_ hb); have n2_ := (ns_ hb); clear BK186; clear BK187; clear HB; have BK186 := n0_; have BK187 := n1_; have HB := n2_; clear n0_ n1_ n2_; (try clear hb); (try clear hb2)) | ((with_reducible refine zpZ (N := 5) rfl ?_); refine bx_ 5 #[.int .i64 0, .int .i64 0, .int .i64 0, .int .i64 0, .int .i64 0, .int .i64 0] 65 ?_; intro gb200 hg w12 hbox hb; have n0_ := zpS (zgM (g := gb186) (o := .cells #[.int .i64 a1_0, .int .i64 a1_1, .int .i64 a1_2, .int .i64 a1_3, .int .i64 a1_4, .int .i64 a1_5] 65 (0, 0)) bk_ hb); have n1_ := zpS (zgM (g := gb187) (o := .cells #[.int .i64 0, .int .i64 0, .int .i64 0] 63 (0, 0)) bk_ hb); have n2_ := (ns_ hb); have n3_ := zpS (hbox); have n4_ := (ng_ hg); have n5_ := n4_; have n6_ := zpS ((by rw [hg]; exact Nat.ne_of_lt (zmN (g := gb186) (o := .cells #[.int .i64 a1_0, .int .i64 a1_1, .int .i64 a1_2, .int .i64 a1_3, .int .i64 a1_4, .int .i64 a1_5] 65 (0, 0)) bk_) : gb186 ≠ gb200)); have n7_ := zpS ((by rw [hg]; exact Nat.ne_of_gt (zmN (g := gb186) (o := .cells #[.int .i64 a1_0, .int .i64 a1_1, .int .i64 a1_2, .int .i64 a1_3, .int .i64 a1_4, .int .i64 a1_5] 65 (0, 0)) bk_) : gb200 ≠ gb186)); have n8_ := zpS ((by rw [hg]; exact Nat.ne_of_lt (zmN (g := gb187) (o := .cells #[.int .i64 0, .int .i64 0, .int .i64 0] 63 (0, 0)) bk_) : gb187 ≠ gb200)); have n9_ := zpS ((by rw [hg]; exact Nat.ne_of_gt (zmN (g := gb187) (o := .cells #[.int .i64 0, .int .i64 0, .int .i64 0] 63 (0, 0)) bk_) : gb200 ≠ gb187)); clear BK186; clear BK187; clear HB; have BK186 := n0_; have BK187 := n1_; have HB := n2_; have BK200 := n3_; have GW200 := n4_; have GE200 := n5_; have NB186_200 := n6_; have NB200_186 := n7_; have NB187_200 := n8_; have NB200_187 := n9_; clear n0_ n1_ n2_ n3_ n4_ n5_ n6_ n7_ n8_ n9_; clear hb hbox hg; have hnb13 := NB200_186.out; have hnc13 := NB186_200.out; have hnb14 := NB200_187.out; have hnc14 := NB187_200.out; obtain ⟨hcz15_0, hcz15_1, hcz15_2, hcz15_3, hcz15_4, hcz15_5⟩ := zrN BK200.out; obtain ⟨hfz15_0, hfz15_1, hfz15_2, hfz15_3, hfz15_4, hfz15_5⟩ := zoO BK200.out))
 have n0_ : Aside0 (((((((w12.setCell ⟨gb200, 0, none⟩ (.int .i64 t194)).setCell ⟨gb200, 1, none⟩ (.int .i64 t195)).setCell ⟨gb200, 2, none⟩ (.int .i64 t196)).setCell ⟨gb200, 3, none⟩ (.int .i64 t197)).setCell ⟨gb200, 4, none⟩ (.int .i64 t198)).setCell ⟨gb200, 5, none⟩ (.int .i64 t199)).heap[gb186]? = some (.cells #[.int .i64 a1_0, .int .i64 a1_1, .int .i64 a1_2, .int .i64 a1_3, .int .i64 a1_4, .int .i64 a1_5] 65 (0, 0))) := ⟨by (with_reducible repeat (first | apply zuW | apply ztN | apply zqY)); refine znI ?_ NB186_200.out _; (with_reducible repeat (first | apply zuW | apply ztN | apply zqY)); refine znI ?_ NB186_200.out _; (with_reducible repeat (first | apply zuW | apply ztN | apply zqY)); refine znI ?_ NB186_200.out _; (with_reducible repeat (first | apply zuW | apply ztN | apply zqY)); refine znI ?_ NB186_200.out _; (with_reducible repeat (first | apply zuW | apply ztN | apply zqY)); refine znI ?_ NB186_200.out _; (with_reducible repeat (first | apply zuW | apply ztN | apply zqY)); refine znI ?_ NB186_200.out _; (with_reducible repeat (first | apply zuW | apply ztN | apply zqY)); exact BK186.out⟩
 have n1_ : Aside0 (((((((w12.setCell ⟨gb200, 0, none⟩ (.int .i64 t194)).setCell ⟨gb200, 1, none⟩ (.int .i64 t195)).setCell ⟨gb200, 2, none⟩ (.int .i64 t196)).setCell ⟨gb200, 3, none⟩ (.int .i64 t197)).setCell ⟨gb200, 4, none⟩ (.int .i64 t198)).setCell ⟨gb200, 5, none⟩ (.int .i64 t199)).heap[gb187]? = some (.cells #[.int .i64 0, .int .i64 0, .int .i64 0] 63 (0, 0))) := ⟨by (with_reducible repeat (first | apply zuW | apply ztN | apply zqY)); refine znI ?_ NB187_200.out _; (with_reducible repeat (first | apply zuW | apply ztN | apply zqY)); refine znI ?_ NB187_200.out _; (with_reducible repeat (first | apply zuW | apply ztN | apply zqY)); refine znI ?_ NB187_200.out _; (with_reducible repeat (first | apply zuW | apply ztN | apply zqY)); refine znI ?_ NB187_200.out _; (with_reducible repeat (first | apply zuW | apply ztN | apply zqY)); refine znI ?_ NB187_200.out _; (with_reducible repeat (first | apply zuW | apply ztN | apply zqY)); refine znI ?_ NB187_200.out _; (with_reducible repeat (first | apply zuW | apply ztN | apply zqY)); exact BK187.out⟩
 have n2_ : Aside0 (((((((w12.setCell ⟨gb200, 0, none⟩ (.int .i64 t194)).setCell ⟨gb200, 1, none⟩ (.int .i64 t195)).setCell ⟨gb200, 2, none⟩ (.int .i64 t196)).setCell ⟨gb200, 3, none⟩ (.int .i64 t197)).setCell ⟨gb200, 4, none⟩ (.int .i64 t198)).setCell ⟨gb200, 5, none⟩ (.int .i64 t199)).heap[gb200]? = some (.cells #[.int .i64 t194, .int .i64 t195, .int .i64 t196, .int .i64 t197, .int .i64 t198, .int .i64 t199] 65 (0, 0))) := ⟨by (with_reducible repeat (first | apply zuW | apply ztN | apply zqY)); refine zlL (cs := #[.int .i64 t194, .int .i64 t195, .int .i64 t196, .int .i64 t197, .int .i64 t198, .int .i64 0]) ?_ 5 _ rfl; (with_reducible repeat (first | apply zuW | apply ztN | apply zqY)); refine zlL (cs := #[.int .i64 t194, .int .i64 t195, .int .i64 t196, .int .i64 t197, .int .i64 0, .int .i64 0]) ?_ 4 _ rfl; (with_reducible repeat (first | apply zuW | apply ztN | apply zqY)); refine zlL (cs := #[.int .i64 t194, .int .i64 t195, .int .i64 t196, .int .i64 0, .int .i64 0, .int .i64 0]) ?_ 3 _ rfl; (with_reducible repeat (first | apply zuW | apply ztN | apply zqY)); refine zlL (cs := #[.int .i64 t194, .int .i64 t195, .int .i64 0, .int .i64 0, .int .i64 0, .int .i64 0]) ?_ 2 _ rfl; (with_reducible repeat (first | apply zuW | apply ztN | apply zqY)); refine zlL (cs := #[.int .i64 t194, .int .i64 0, .int .i64 0, .int .i64 0, .int .i64 0, .int .i64 0]) ?_ 1 _ rfl; (with_reducible repeat (first | apply zuW | apply ztN | apply zqY)); refine zlL (cs := #[.int .i64 0, .int .i64 0, .int .i64 0, .int .i64 0, .int .i64 0, .int .i64 0]) ?_ 0 _ rfl; (with_reducible repeat (first | apply zuW | apply ztN | apply zqY)); exact BK200.out⟩
 have n3_ : Aside0 (Below w.heap.size w ((((((w12.setCell ⟨gb200, 0, none⟩ (.int .i64 t194)).setCell ⟨gb200, 1, none⟩ (.int .i64 t195)).setCell ⟨gb200, 2, none⟩ (.int .i64 t196)).setCell ⟨gb200, 3, none⟩ (.int .i64 t197)).setCell ⟨gb200, 4, none⟩ (.int .i64 t198)).setCell ⟨gb200, 5, none⟩ (.int .i64 t199))) := ⟨bb_⟩
 (try clear BK186)
 (try clear BK187)
 (try clear BK200)
 (try clear HB)
 generalize ((((((w12.setCell ⟨gb200, 0, none⟩ (.int .i64 t194)).setCell ⟨gb200, 1, none⟩ (.int .i64 t195)).setCell ⟨gb200, 2, none⟩ (.int .i64 t196)).setCell ⟨gb200, 3, none⟩ (.int .i64 t197)).setCell ⟨gb200, 4, none⟩ (.int .i64 t198)).setCell ⟨gb200, 5, none⟩ (.int .i64 t199)) = w16 at n0_ n1_ n2_ n3_ ⊢
 have BK186 := n0_
 have BK187 := n1_
 have BK200 := n2_
 have HB := n3_
 clear n0_ n1_ n2_ n3_
 have n0_ := zpS (ztN BK186.out)
 have n1_ := zpS (ztN BK187.out)
 have n2_ := zpS (ztN BK200.out)
 have n3_ := zpS (zvF HB.out)
 clear BK186
 clear BK187
 clear BK200
 clear HB
 have BK186 := n0_
 have BK187 := n1_
 have BK200 := n2_
 have HB := n3_
 clear n0_ n1_ n2_ n3_
 refine zpB (n := 12) (S := fun w' => w'.cell? ⟨gb200, 0, none⟩ = some (.int .i64 t194) ∧ w'.cell? ⟨gb200, 1, none⟩ = some (.int .i64 t195) ∧ w'.cell? ⟨gb200, 2, none⟩ = some (.int .i64 t196) ∧ w'.cell? ⟨gb200, 3, none⟩ = some (.int .i64 t197) ∧ w'.cell? ⟨gb200, 4, none⟩ = some (.int .i64 t198) ∧ w'.cell? ⟨gb200, 5, none⟩ = some (.int .i64 t199) ∧ w'.cell? ⟨gb186, 0, none⟩ = some (.int .i64 a1_0) ∧ w'.cell? ⟨gb186, 1, none⟩ = some (.int .i64 a1_1) ∧ w'.cell? ⟨gb186, 2, none⟩ = some (.int .i64 a1_2) ∧ w'.cell? ⟨gb186, 3, none⟩ = some (.int .i64 a1_3) ∧ w'.cell? ⟨gb186, 4, none⟩ = some (.int .i64 a1_4) ∧ w'.cell? ⟨gb186, 5, none⟩ = some (.int .i64 a1_5)) (ds := []) #[false, false, false, false, false, false, false, false, false, false, false, false] (by kernel_rfl) rfl rfl ⟨(zzS BK200.out 0).trans rfl, (zzS BK200.out 1).trans rfl, (zzS BK200.out 2).trans rfl, (zzS BK200.out 3).trans rfl, (zzS BK200.out 4).trans rfl, (zzS BK200.out 5).trans rfl, (zzS BK186.out 0).trans rfl, (zzS BK186.out 1).trans rfl, (zzS BK186.out 2).trans rfl, (zzS BK186.out 3).trans rfl, (zzS BK186.out 4).trans rfl, (zzS BK186.out 5).trans rfl⟩ (fun hHeld => ?_); refine zwI zmD.tab2 zmD.bits2 (fun HT_ HW_ => ?_)
 generalize w16.drew = w17 at BK186 BK187 BK200 HB hHeld ⊢
 refine pu_ 0 (some 9) (bl_ 12 1) ?_
 refine pu_ 2 (some 11) (bl_ 12 5) ?_
 refine pu_ 5 (some 14) (bl_ 12 37) ?_
 refine pu_ 7 (some 16) (bl_ 12 165) ?_
 refine zmW 1 (some 10) (bl_ 12 167) hHeld ?_
 refine zmW 3 (some 12) (bl_ 12 175) hHeld ?_
 refine zmW 6 (some 15) (bl_ 12 239) hHeld ?_
 refine zmW 8 (some 17) (bl_ 12 495) hHeld ?_
 refine zdC (i := 4) (N := some 13) (bl_ 12 511) rfl rfl (zeO HT_.out (by kernel_rfl)) (by decide) (fun K hK => ?_)
 refine zqW Tryd.func63 (by kernel_rfl) rfl #[.agg #[.int .i64 t194, .int .i64 t195, .int .i64 t196], .agg #[.int .i64 a1_0, .int .i64 a1_1, .int .i64 a1_2]] (by rfl) rfl rfl (by (try simp only [List.map_toArray, List.map_cons, List.map_nil]); first | done | rfl | (simp only [List.length_drop, List.length_take]; rfl)) ?_
 with_reducible refine (zhW.calls k t194 t195 t196 a1_0 a1_1 a1_2 t201 t202 t203 _ A5.out).mono ?_
 rintro e w18 ⟨rfl, hb⟩
 refine ⟨_, rfl, ?_⟩
 have n0_ := zpS (zgM (g := gb186) (o := .cells #[.int .i64 a1_0, .int .i64 a1_1, .int .i64 a1_2, .int .i64 a1_3, .int .i64 a1_4, .int .i64 a1_5] 65 (0, 0)) bk_ hb)
 have n1_ := zpS (zgM (g := gb187) (o := .cells #[.int .i64 0, .int .i64 0, .int .i64 0] 63 (0, 0)) bk_ hb)
 have n2_ := zpS (zgM (g := gb200) (o := .cells #[.int .i64 t194, .int .i64 t195, .int .i64 t196, .int .i64 t197, .int .i64 t198, .int .i64 t199] 65 (0, 0)) bk_ hb)
 have n3_ := (ns_ hb)
 clear BK186
 clear BK187
 clear BK200
 clear HB
 have BK186 := n0_
 have BK187 := n1_
 have BK200 := n2_
 have HB := n3_
 clear n0_ n1_ n2_ n3_
 (try clear hb)
 (try clear hb2)
 (try clear hk)
 (try clear hi)
 refine hK.out _ _ ⟨(zzS BK200.out 0).trans rfl, (zzS BK200.out 1).trans rfl, (zzS BK200.out 2).trans rfl, (zzS BK200.out 3).trans rfl, (zzS BK200.out 4).trans rfl, (zzS BK200.out 5).trans rfl, (zzS BK186.out 0).trans rfl, (zzS BK186.out 1).trans rfl, (zzS BK186.out 2).trans rfl, (zzS BK186.out 3).trans rfl, (zzS BK186.out 4).trans rfl, (zzS BK186.out 5).trans rfl⟩ (fun hHeld => ?_)
 clear hK K
 refine zaN (a' := ?_) ?_ ?_
 rotate_left
 ·show Act.put _ (some 13) _ = _
  simp only [Act.put, List.setIfInBounds_toArray, List.set_cons_zero, List.set_cons_succ, zcM, ziK]
  rfl
 refine zdC (i := 9) (N := some 18) (bl_ 12 1023) rfl rfl (zeO HT_.out (by kernel_rfl)) (by decide) (fun K hK => ?_)
 refine zqW Tryd.func63 (by kernel_rfl) rfl #[.agg #[.int .i64 t197, .int .i64 t198, .int .i64 t199], .agg #[.int .i64 a1_3, .int .i64 a1_4, .int .i64 a1_5]] (by rfl) rfl rfl (by (try simp only [List.map_toArray, List.map_cons, List.map_nil]); first | done | rfl | (simp only [List.length_drop, List.length_take]; rfl)) ?_
 with_reducible refine (zhW.calls k t197 t198 t199 a1_3 a1_4 a1_5 t204 t205 t206 _ A6.out).mono ?_
 rintro e w19 ⟨rfl, hb⟩
 refine ⟨_, rfl, ?_⟩
 have n0_ := zpS (zgM (g := gb186) (o := .cells #[.int .i64 a1_0, .int .i64 a1_1, .int .i64 a1_2, .int .i64 a1_3, .int .i64 a1_4, .int .i64 a1_5] 65 (0, 0)) bk_ hb)
 have n1_ := zpS (zgM (g := gb187) (o := .cells #[.int .i64 0, .int .i64 0, .int .i64 0] 63 (0, 0)) bk_ hb)
 have n2_ := zpS (zgM (g := gb200) (o := .cells #[.int .i64 t194, .int .i64 t195, .int .i64 t196, .int .i64 t197, .int .i64 t198, .int .i64 t199] 65 (0, 0)) bk_ hb)
 have n3_ := (ns_ hb)
 clear BK186
 clear BK187
 clear BK200
 clear HB
 have BK186 := n0_
 have BK187 := n1_
 have BK200 := n2_
 have HB := n3_
 clear n0_ n1_ n2_ n3_
 (try clear hb)
 (try clear hb2)
 (try clear hk)
 (try clear hi)
 refine hK.out _ _ ⟨(zzS BK200.out 0).trans rfl, (zzS BK200.out 1).trans rfl, (zzS BK200.out 2).trans rfl, (zzS BK200.out 3).trans rfl, (zzS BK200.out 4).trans rfl, (zzS BK200.out 5).trans rfl, (zzS BK186.out 0).trans rfl, (zzS BK186.out 1).trans rfl, (zzS BK186.out 2).trans rfl, (zzS BK186.out 3).trans rfl, (zzS BK186.out 4).trans rfl, (zzS BK186.out 5).trans rfl⟩ (fun hHeld => ?_)
 clear hK K
 refine zaN (a' := ?_) ?_ ?_
 rotate_left
 ·show Act.put _ (some 18) _ = _
  simp only [Act.put, List.setIfInBounds_toArray, List.set_cons_zero, List.set_cons_succ, zcM, ziK]
  rfl
 refine zdC (i := 10) (N := some 19) (bl_ 12 2047) rfl rfl (zeO HT_.out (by kernel_rfl)) (by decide) (fun K hK => ?_)
 refine zqW Tryd.func60 (by kernel_rfl) rfl #[.agg #[.int .i64 t201, .int .i64 t202, .int .i64 t203], .agg #[.int .i64 t204, .int .i64 t205, .int .i64 t206]] (by rfl) rfl rfl (by (try simp only [List.map_toArray, List.map_cons, List.map_nil]); first | done | rfl | (simp only [List.length_drop, List.length_take]; rfl)) ?_
 with_reducible refine (zhQ.calls k t201 t202 t203 t204 t205 t206 t207 t208 t209 _ A7.out).mono ?_
 rintro e w20 ⟨rfl, hb⟩
 refine ⟨_, rfl, ?_⟩
 have n0_ := zpS (zgM (g := gb186) (o := .cells #[.int .i64 a1_0, .int .i64 a1_1, .int .i64 a1_2, .int .i64 a1_3, .int .i64 a1_4, .int .i64 a1_5] 65 (0, 0)) bk_ hb)
 have n1_ := zpS (zgM (g := gb187) (o := .cells #[.int .i64 0, .int .i64 0, .int .i64 0] 63 (0, 0)) bk_ hb)
 have n2_ := zpS (zgM (g := gb200) (o := .cells #[.int .i64 t194, .int .i64 t195, .int .i64 t196, .int .i64 t197, .int .i64 t198, .int .i64 t199] 65 (0, 0)) bk_ hb)
 have n3_ := (ns_ hb)
 clear BK186
 clear BK187
 clear BK200
 clear HB
 have BK186 := n0_
 have BK187 := n1_
 have BK200 := n2_
 have HB := n3_
 clear n0_ n1_ n2_ n3_
 (try clear hb)
 (try clear hb2)
 (try clear hk)
 (try clear hi)
 refine hK.out _ _ ⟨(zzS BK200.out 0).trans rfl, (zzS BK200.out 1).trans rfl, (zzS BK200.out 2).trans rfl, (zzS BK200.out 3).trans rfl, (zzS BK200.out 4).trans rfl, (zzS BK200.out 5).trans rfl, (zzS BK186.out 0).trans rfl, (zzS BK186.out 1).trans rfl, (zzS BK186.out 2).trans rfl, (zzS BK186.out 3).trans rfl, (zzS BK186.out 4).trans rfl, (zzS BK186.out 5).trans rfl⟩ (fun hHeld => ?_)
 clear hK K
 refine zaN (a' := ?_) ?_ ?_
 rotate_left
 ·show Act.put _ (some 19) _ = _
  simp only [Act.put, List.setIfInBounds_toArray, List.set_cons_zero, List.set_cons_succ, zcM, ziK]
  rfl
 refine zdC (i := 11) (N := none) (bl_ 12 4095) rfl rfl (zeO HT_.out (by kernel_rfl)) (by decide) (fun K hK => ?_)
 have hs21 : w20.cell? ⟨gb187, 0, none⟩ = some (.int .i64 0) := (zzS BK187.out 0).trans rfl
 have hfs21 := zjF BK187.out 0
 have hns21_0 := NB186_187.out
 have hns21_2 := NB200_187.out
 have hms21_0 := NB187_186.out
 have hms21_2 := NB187_200.out
 have hs22 : w20.cell? ⟨gb187, 1, none⟩ = some (.int .i64 0) := (zzS BK187.out 1).trans rfl
 have hfs22 := zjF BK187.out 1
 have hns22_0 := NB186_187.out
 have hns22_2 := NB200_187.out
 have hms22_0 := NB187_186.out
 have hms22_2 := NB187_200.out
 have hs23 : w20.cell? ⟨gb187, 2, none⟩ = some (.int .i64 0) := (zzS BK187.out 2).trans rfl
 have hfs23 := zjF BK187.out 2
 have hns23_0 := NB186_187.out
 have hns23_2 := NB200_187.out
 have hms23_0 := NB187_186.out
 have hms23_2 := NB187_200.out
 refine skip_ (w1 := ?_) (by rfl) rfl ?_ ?_
 rotate_left
 ·go_simp
  rfl
 refine hK.out _ _ ⟨((zgQ (p := ⟨gb187, _, none⟩) NB200_187.out _).trans (((zgQ (p := ⟨gb187, _, none⟩) NB200_187.out _).trans (((zgQ (p := ⟨gb187, _, none⟩) NB200_187.out _).trans (hHeld.1)))))), ((zgQ (p := ⟨gb187, _, none⟩) NB200_187.out _).trans (((zgQ (p := ⟨gb187, _, none⟩) NB200_187.out _).trans (((zgQ (p := ⟨gb187, _, none⟩) NB200_187.out _).trans (hHeld.2.1)))))), ((zgQ (p := ⟨gb187, _, none⟩) NB200_187.out _).trans (((zgQ (p := ⟨gb187, _, none⟩) NB200_187.out _).trans (((zgQ (p := ⟨gb187, _, none⟩) NB200_187.out _).trans (hHeld.2.2.1)))))), ((zgQ (p := ⟨gb187, _, none⟩) NB200_187.out _).trans (((zgQ (p := ⟨gb187, _, none⟩) NB200_187.out _).trans (((zgQ (p := ⟨gb187, _, none⟩) NB200_187.out _).trans (hHeld.2.2.2.1)))))), ((zgQ (p := ⟨gb187, _, none⟩) NB200_187.out _).trans (((zgQ (p := ⟨gb187, _, none⟩) NB200_187.out _).trans (((zgQ (p := ⟨gb187, _, none⟩) NB200_187.out _).trans (hHeld.2.2.2.2.1)))))), ((zgQ (p := ⟨gb187, _, none⟩) NB200_187.out _).trans (((zgQ (p := ⟨gb187, _, none⟩) NB200_187.out _).trans (((zgQ (p := ⟨gb187, _, none⟩) NB200_187.out _).trans (hHeld.2.2.2.2.2.1)))))), ((zgQ (p := ⟨gb187, _, none⟩) NB186_187.out _).trans (((zgQ (p := ⟨gb187, _, none⟩) NB186_187.out _).trans (((zgQ (p := ⟨gb187, _, none⟩) NB186_187.out _).trans (hHeld.2.2.2.2.2.2.1)))))), ((zgQ (p := ⟨gb187, _, none⟩) NB186_187.out _).trans (((zgQ (p := ⟨gb187, _, none⟩) NB186_187.out _).trans (((zgQ (p := ⟨gb187, _, none⟩) NB186_187.out _).trans (hHeld.2.2.2.2.2.2.2.1)))))), ((zgQ (p := ⟨gb187, _, none⟩) NB186_187.out _).trans (((zgQ (p := ⟨gb187, _, none⟩) NB186_187.out _).trans (((zgQ (p := ⟨gb187, _, none⟩) NB186_187.out _).trans (hHeld.2.2.2.2.2.2.2.2.1)))))), ((zgQ (p := ⟨gb187, _, none⟩) NB186_187.out _).trans (((zgQ (p := ⟨gb187, _, none⟩) NB186_187.out _).trans (((zgQ (p := ⟨gb187, _, none⟩) NB186_187.out _).trans (hHeld.2.2.2.2.2.2.2.2.2.1)))))), ((zgQ (p := ⟨gb187, _, none⟩) NB186_187.out _).trans (((zgQ (p := ⟨gb187, _, none⟩) NB186_187.out _).trans (((zgQ (p := ⟨gb187, _, none⟩) NB186_187.out _).trans (hHeld.2.2.2.2.2.2.2.2.2.2.1)))))), ((zgQ (p := ⟨gb187, _, none⟩) NB186_187.out _).trans (((zgQ (p := ⟨gb187, _, none⟩) NB186_187.out _).trans (((zgQ (p := ⟨gb187, _, none⟩) NB186_187.out _).trans (hHeld.2.2.2.2.2.2.2.2.2.2.2))))))⟩ (fun hHeld => ?_)
 clear hK K
 refine znK (zzP HT_.out (by kernel_rfl)) ?_
 try go_wp2
 refine bodyPost_ret (results_cell_row rfl _ _ gb187 63 #[.int .i64 t207, .int .i64 t208, .int .i64 t209] (0, 0) _ rfl (by (with_reducible repeat (first | apply zuW | apply ztN | apply zqY)); refine zlL (cs := #[.int .i64 t207, .int .i64 t208, .int .i64 0]) ?_ 2 _ rfl; (with_reducible repeat (first | apply zuW | apply ztN | apply zqY)); refine zlL (cs := #[.int .i64 t207, .int .i64 0, .int .i64 0]) ?_ 1 _ rfl; (with_reducible repeat (first | apply zuW | apply ztN | apply zqY)); refine zlL (cs := #[.int .i64 0, .int .i64 0, .int .i64 0]) ?_ 0 _ rfl; (with_reducible repeat (first | apply zuW | apply ztN | apply zqY)); exact BK187.out) Tryd.underlying63 rfl (by kernel_rfl)) rfl ?_
 exact ⟨by first | rfl | (simp [ziS, znJ] <;> rfl) | (simp [*, ziS, znJ] <;> rfl), bb_⟩

def znA.l0 : Nat → Int → Int → Int → Int → Int → Int → Int → Option (Int)
 | 0, _, _, _, _, _, _, _ => none
 | k + 1, x3, x211000, x211001, x211002, x211003, x211004, x211005 => if x3 < 16 then ((zmD.f k (wrap64 (x3 + 4)) x211000 x211001 x211002 x211003 x211004 x211005).bind fun bt211 => ((zbR.f bt211.1 bt211.2.1 bt211.2.2).bind fun t214 => (if t214 = true then ((zmD.f k x3 x211000 x211001 x211002 x211003 x211004 x211005).bind fun bt215 => ((zxR.f k bt215.1 bt215.2.1 bt215.2.2).bind fun t218 => (if t218 > 0 then (some x3) else (znA.l0 k (wrap64 (x3 + 1)) x211000 x211001 x211002 x211003 x211004 x211005)))) else (znA.l0 k (wrap64 (x3 + 1)) x211000 x211001 x211002 x211003 x211004 x211005)))) else (some (-1))
def znA.f (k : Nat) (a0_0 : Int) (a0_1 : Int) (a0_2 : Int) (a0_3 : Int) (a0_4 : Int) (a0_5 : Int) : Option (Int) := znA.l0 k 0 a0_0 a0_1 a0_2 a0_3 a0_4 a0_5
theorem znA.mono_l : ∀ k, (∀ y0 y1 y2 y3 y4 y5 y6, LeO (znA.l0 k y0 y1 y2 y3 y4 y5 y6) (znA.l0 (k + 1) y0 y1 y2 y3 y4 y5 y6))
 | 0 => fun _ _ _ _ _ _ _ r h => by simp [znA.l0] at h
 | k + 1 => by
  have ih0 := znA.mono_l k
  ·intro y0 y1 y2 y3 y4 y5 y6
   unfold znA.l0
   repeat' first
   | (with_reducible exact ih0 _ _ _ _ _ _ _)
   | (with_reducible exact zxR.mono _ _ _ _)
   | (with_reducible exact zmD.mono _ _ _ _ _ _ _ _)
   | (with_reducible exact LeO.refl _)
   | (with_reducible exact LeO.none _)
   | (with_reducible refine LeO.ite ?_ ?_)
   | (with_reducible refine LeO.bind ?_ (fun _ => ?_))
   | exact ih0 _ _ _ _ _ _ _
   | exact zxR.mono _ _ _ _
   | exact zmD.mono _ _ _ _ _ _ _ _
   | exact LeO.none _
   | refine LeO.ite ?_ ?_
   | refine LeO.bind ?_ (fun _ => ?_)
theorem znA.mono : ∀ a0 a1 a2 a3 a4 a5 k, LeO (znA.f k a0 a1 a2 a3 a4 a5) (znA.f (k + 1) a0 a1 a2 a3 a4 a5) := by
 intro a0 a1 a2 a3 a4 a5 k
 have ih0 := znA.mono_l k
 unfold znA.f
 repeat' first
   | (with_reducible exact ih0 _ _ _ _ _ _ _)
   | (with_reducible exact zxR.mono _ _ _ _)
   | (with_reducible exact zmD.mono _ _ _ _ _ _ _ _)
   | (with_reducible exact LeO.refl _)
   | (with_reducible exact LeO.none _)
   | (with_reducible refine LeO.ite ?_ ?_)
   | (with_reducible refine LeO.bind ?_ (fun _ => ?_))
   | exact ih0 _ _ _ _ _ _ _
   | exact zxR.mono _ _ _ _
   | exact zmD.mono _ _ _ _ _ _ _ _
   | exact LeO.none _
   | refine LeO.ite ?_ ?_
   | refine LeO.bind ?_ (fun _ => ?_)
theorem znA.calls (k : Nat) (a0_0 : Int) (a0_1 : Int) (a0_2 : Int) (a0_3 : Int) (a0_4 : Int) (a0_5 : Int) (r : Int) (w : World) (h : znA.f k a0_0 a0_1 a0_2 a0_3 a0_4 a0_5 = some r) :
  Calls Tryd.prog 39 #[.agg #[.int .i64 a0_0, .int .i64 a0_1, .int .i64 a0_2, .int .i64 a0_3, .int .i64 a0_4, .int .i64 a0_5]] w fun e w' => e = .returned (.int .i64 r) ∧ Below w.heap.size w w' := by
 have hu65 := Tryd.underlying65
 have HB := zpS (Below.refl w.heap.size w)
 have H : (znA.l0 k 0 a0_0 a0_1 a0_2 a0_3 a0_4 a0_5) = some r := h
 clear h
 have H' := zpS H
 clear H
 go_enter Tryd.func39, Tryd.ntmps39
 go_wp2_with (first | ((with_reducible refine zpZ (N := 1) rfl ?_); refine bx_ 1 #[.int .i64 a0_0, .int .i64 a0_1, .int .i64 a0_2, .int .i64 a0_3, .int .i64 a0_4, .int .i64 a0_5] 65 ?_; intro gb210 hg w2 hbox hb; have n0_ := (ns_ hb); have n1_ := zpS (hbox); have n2_ := (ng_ hg); have n3_ := n2_; clear HB; have HB := n0_; have BK210 := n1_; have GW210 := n2_; have GE210 := n3_; clear n0_ n1_ n2_ n3_; clear hb hbox hg))
 (try go_simp)
 go_loopg [3] k (fun kq v3 w' => ∃ (x3_1 : Int), v3 = .int .i64 x3_1 ∧ Aside0 (znA.l0 kq x3_1 a0_0 a0_1 a0_2 a0_3 a0_4 a0_5 = some r) ∧ Aside0 (kq ≤ k) ∧ Aside0 (w'.heap[gb210]? = some (.cells #[.int .i64 a0_0, .int .i64 a0_1, .int .i64 a0_2, .int .i64 a0_3, .int .i64 a0_4, .int .i64 a0_5] 65 (0, 0))) ∧ Aside0 (Below w.heap.size w w'))
 case atStart => exact ⟨(0), (by first | rfl | (simp; done) | (simp [*]; done)), H', ⟨Nat.le_refl _⟩, ⟨bk_⟩, ⟨bb_⟩⟩
 case round =>
  clear H'
  try clear p2
  obtain ⟨x3_1, rfl, HA, HK1, BK210, HB⟩ := hrel
  cases gk with
  | zero => exact absurd HA.out (by simp [znA.l0])
  | succ k1 =>
   have H := HA.out
   clear HA
   simp only [znA.l0] at H
   by_cases c3 : x3_1 < 16
   ·rw [if_pos c3] at H
    have c3b0 : decide (x3_1 < 16) = true := decide_eq_true c3
    clear c3
    replace H := Option.bind_eq_some_iff.mp H
    obtain ⟨⟨t211, t212, t213⟩, A40, H⟩ := H
    replace H : ((zbR.f t211 t212 t213).bind fun t214 => (if t214 = true then ((zmD.f k1 x3_1 a0_0 a0_1 a0_2 a0_3 a0_4 a0_5).bind fun bt215 => ((zxR.f k1 bt215.1 bt215.2.1 bt215.2.2).bind fun t218 => (if t218 > 0 then (some x3_1) else (znA.l0 k1 (wrap64 (x3_1 + 1)) a0_0 a0_1 a0_2 a0_3 a0_4 a0_5)))) else (znA.l0 k1 (wrap64 (x3_1 + 1)) a0_0 a0_1 a0_2 a0_3 a0_4 a0_5))) = some r := H
    have A4 := zpS A40
    clear A40
    replace H := Option.bind_eq_some_iff.mp H
    obtain ⟨t214, A50, H⟩ := H
    replace H : (if t214 = true then ((zmD.f k1 x3_1 a0_0 a0_1 a0_2 a0_3 a0_4 a0_5).bind fun bt215 => ((zxR.f k1 bt215.1 bt215.2.1 bt215.2.2).bind fun t218 => (if t218 > 0 then (some x3_1) else (znA.l0 k1 (wrap64 (x3_1 + 1)) a0_0 a0_1 a0_2 a0_3 a0_4 a0_5)))) else (znA.l0 k1 (wrap64 (x3_1 + 1)) a0_0 a0_1 a0_2 a0_3 a0_4 a0_5)) = some r := H
    have A5 := zpS A50
    clear A50
    by_cases c6 : t214 = true
    ·subst c6
     have H1 : ((zmD.f k1 x3_1 a0_0 a0_1 a0_2 a0_3 a0_4 a0_5).bind fun bt215 => ((zxR.f k1 bt215.1 bt215.2.1 bt215.2.2).bind fun t218 => (if t218 > 0 then (some x3_1) else (znA.l0 k1 (wrap64 (x3_1 + 1)) a0_0 a0_1 a0_2 a0_3 a0_4 a0_5)))) = some r := by rw [if_pos rfl] at H; exact H
     clear H
     have H := H1
     clear H1
     replace H := Option.bind_eq_some_iff.mp H
     obtain ⟨⟨t215, t216, t217⟩, A70, H⟩ := H
     replace H : ((zxR.f k1 t215 t216 t217).bind fun t218 => (if t218 > 0 then (some x3_1) else (znA.l0 k1 (wrap64 (x3_1 + 1)) a0_0 a0_1 a0_2 a0_3 a0_4 a0_5))) = some r := H
     have A7 := zpS A70
     clear A70
     replace H := Option.bind_eq_some_iff.mp H
     obtain ⟨t218, A80, H⟩ := H
     replace H : (if t218 > 0 then (some x3_1) else (znA.l0 k1 (wrap64 (x3_1 + 1)) a0_0 a0_1 a0_2 a0_3 a0_4 a0_5)) = some r := H
     have A8 := zpS A80
     clear A80
     by_cases c9 : t218 > 0
     ·rw [if_pos c9] at H
      have c9b0 : decide (0 < t218) = true := decide_eq_true c9
      clear c9
      obtain rfl := Option.some.inj H
      obtain ⟨hcz10_0, hcz10_1, hcz10_2, hcz10_3, hcz10_4, hcz10_5⟩ := zrN BK210.out
      obtain ⟨hfz10_0, hfz10_1, hfz10_2, hfz10_3, hfz10_4, hfz10_5⟩ := zoO BK210.out
      go_wp2_with (first | ((with_reducible refine zgK (f := 52) rfl ?_); refine zqQ (some 11) rfl rfl Tryd.func52 (by kernel_rfl) rfl #[.int .i64 (wrap64 (x3_1 + 4)), .agg #[.int .i64 a0_0, .int .i64 a0_1, .int .i64 a0_2, .int .i64 a0_3, .int .i64 a0_4, .int .i64 a0_5]] rfl (by (try simp only [List.map_toArray, List.map_cons, List.map_nil]); first | done | rfl | (simp only [List.length_drop, List.length_take]; rfl)) ?_; (with_reducible refine (zmD.calls k1 (wrap64 (x3_1 + 4)) a0_0 a0_1 a0_2 a0_3 a0_4 a0_5 t211 t212 t213 _ A4.out).mono ?_); rintro e w11 ⟨rfl, hb⟩; refine ⟨_, rfl, ?_⟩; have n0_ := zpS (zgM (g := gb210) (o := .cells #[.int .i64 a0_0, .int .i64 a0_1, .int .i64 a0_2, .int .i64 a0_3, .int .i64 a0_4, .int .i64 a0_5] 65 (0, 0)) bk_ hb); have n1_ := (ns_ hb); clear BK210; clear HB; have BK210 := n0_; have HB := n1_; clear n0_ n1_; (try clear hb); (try clear hb2)) | ((with_reducible refine zgK (f := 51) rfl ?_); refine zqQ (some 12) rfl rfl Tryd.func51 (by kernel_rfl) rfl #[.agg #[.int .i64 t211, .int .i64 t212, .int .i64 t213]] rfl (by (try simp only [List.map_toArray, List.map_cons, List.map_nil]); first | done | rfl | (simp only [List.length_drop, List.length_take]; rfl)) ?_; (with_reducible refine (zbR.calls t211 t212 t213 true _ A5.out).mono ?_); rintro e w12 ⟨rfl, hb⟩; refine ⟨_, rfl, ?_⟩; have n0_ := zpS (zgM (g := gb210) (o := .cells #[.int .i64 a0_0, .int .i64 a0_1, .int .i64 a0_2, .int .i64 a0_3, .int .i64 a0_4, .int .i64 a0_5] 65 (0, 0)) bk_ hb); have n1_ := (ns_ hb); clear BK210; clear HB; have BK210 := n0_; have HB := n1_; clear n0_ n1_; (try clear hb); (try clear hb2); obtain ⟨hcz13_0, hcz13_1, hcz13_2, hcz13_3, hcz13_4, hcz13_5⟩ := zrN BK210.out; obtain ⟨hfz13_0, hfz13_1, hfz13_2, hfz13_3, hfz13_4, hfz13_5⟩ := zoO BK210.out) | (go_at_call 52; (with_reducible refine (zmD.calls k1 x3_1 a0_0 a0_1 a0_2 a0_3 a0_4 a0_5 t215 t216 t217 _ A7.out).mono ?_); rintro e w14 ⟨rfl, hb⟩; have n0_ := zpS (zgM (g := gb210) (o := .cells #[.int .i64 a0_0, .int .i64 a0_1, .int .i64 a0_2, .int .i64 a0_3, .int .i64 a0_4, .int .i64 a0_5] 65 (0, 0)) bk_ hb); have n1_ := (ns_ hb); clear BK210; clear HB; have BK210 := n0_; have HB := n1_; clear n0_ n1_; (try clear hb); (try clear hb2)) | (go_at_call 48; (with_reducible refine (zxR.calls k1 t215 t216 t217 t218 _ A8.out).mono ?_); rintro e w15 ⟨rfl, hb⟩; have n0_ := zpS (zgM (g := gb210) (o := .cells #[.int .i64 a0_0, .int .i64 a0_1, .int .i64 a0_2, .int .i64 a0_3, .int .i64 a0_4, .int .i64 a0_5] 65 (0, 0)) bk_ hb); have n1_ := (ns_ hb); clear BK210; clear HB; have BK210 := n0_; have HB := n1_; clear n0_ n1_; (try clear hb); (try clear hb2)))
      go_ret
      exact ⟨by first | rfl | (simp [ziS, znJ] <;> rfl) | (simp [*, ziS, znJ] <;> rfl), bb_⟩
     ·rw [if_neg c9] at H
      have c9b0 : decide (0 < t218) = false := decide_eq_false c9
      clear c9
      have H' := zpS H
      clear H
      obtain ⟨hcz16_0, hcz16_1, hcz16_2, hcz16_3, hcz16_4, hcz16_5⟩ := zrN BK210.out
      obtain ⟨hfz16_0, hfz16_1, hfz16_2, hfz16_3, hfz16_4, hfz16_5⟩ := zoO BK210.out
      go_wp2_with (first | ((with_reducible refine zgK (f := 52) rfl ?_); refine zqQ (some 11) rfl rfl Tryd.func52 (by kernel_rfl) rfl #[.int .i64 (wrap64 (x3_1 + 4)), .agg #[.int .i64 a0_0, .int .i64 a0_1, .int .i64 a0_2, .int .i64 a0_3, .int .i64 a0_4, .int .i64 a0_5]] rfl (by (try simp only [List.map_toArray, List.map_cons, List.map_nil]); first | done | rfl | (simp only [List.length_drop, List.length_take]; rfl)) ?_; (with_reducible refine (zmD.calls k1 (wrap64 (x3_1 + 4)) a0_0 a0_1 a0_2 a0_3 a0_4 a0_5 t211 t212 t213 _ A4.out).mono ?_); rintro e w17 ⟨rfl, hb⟩; refine ⟨_, rfl, ?_⟩; have n0_ := zpS (zgM (g := gb210) (o := .cells #[.int .i64 a0_0, .int .i64 a0_1, .int .i64 a0_2, .int .i64 a0_3, .int .i64 a0_4, .int .i64 a0_5] 65 (0, 0)) bk_ hb); have n1_ := (ns_ hb); clear BK210; clear HB; have BK210 := n0_; have HB := n1_; clear n0_ n1_; (try clear hb); (try clear hb2)) | ((with_reducible refine zgK (f := 51) rfl ?_); refine zqQ (some 12) rfl rfl Tryd.func51 (by kernel_rfl) rfl #[.agg #[.int .i64 t211, .int .i64 t212, .int .i64 t213]] rfl (by (try simp only [List.map_toArray, List.map_cons, List.map_nil]); first | done | rfl | (simp only [List.length_drop, List.length_take]; rfl)) ?_; (with_reducible refine (zbR.calls t211 t212 t213 true _ A5.out).mono ?_); rintro e w18 ⟨rfl, hb⟩; refine ⟨_, rfl, ?_⟩; have n0_ := zpS (zgM (g := gb210) (o := .cells #[.int .i64 a0_0, .int .i64 a0_1, .int .i64 a0_2, .int .i64 a0_3, .int .i64 a0_4, .int .i64 a0_5] 65 (0, 0)) bk_ hb); have n1_ := (ns_ hb); clear BK210; clear HB; have BK210 := n0_; have HB := n1_; clear n0_ n1_; (try clear hb); (try clear hb2); obtain ⟨hcz19_0, hcz19_1, hcz19_2, hcz19_3, hcz19_4, hcz19_5⟩ := zrN BK210.out; obtain ⟨hfz19_0, hfz19_1, hfz19_2, hfz19_3, hfz19_4, hfz19_5⟩ := zoO BK210.out) | (go_at_call 52; (with_reducible refine (zmD.calls k1 x3_1 a0_0 a0_1 a0_2 a0_3 a0_4 a0_5 t215 t216 t217 _ A7.out).mono ?_); rintro e w20 ⟨rfl, hb⟩; have n0_ := zpS (zgM (g := gb210) (o := .cells #[.int .i64 a0_0, .int .i64 a0_1, .int .i64 a0_2, .int .i64 a0_3, .int .i64 a0_4, .int .i64 a0_5] 65 (0, 0)) bk_ hb); have n1_ := (ns_ hb); clear BK210; clear HB; have BK210 := n0_; have HB := n1_; clear n0_ n1_; (try clear hb); (try clear hb2)) | (go_at_call 48; (with_reducible refine (zxR.calls k1 t215 t216 t217 t218 _ A8.out).mono ?_); rintro e w21 ⟨rfl, hb⟩; have n0_ := zpS (zgM (g := gb210) (o := .cells #[.int .i64 a0_0, .int .i64 a0_1, .int .i64 a0_2, .int .i64 a0_3, .int .i64 a0_4, .int .i64 a0_5] 65 (0, 0)) bk_ hb); have n1_ := (ns_ hb); clear BK210; clear HB; have BK210 := n0_; have HB := n1_; clear n0_ n1_; (try clear hb); (try clear hb2)))
      go_roundg k1
      case measure => have := HK1.out; omega
      case rel => exact ⟨(wrap64 (x3_1 + 1)), (by first | rfl | (simp; done) | (simp [*]; done)), H', ⟨by have := HK1.out; omega⟩, ⟨bk_⟩, ⟨bb_⟩⟩
    ·replace c6 := Bool.eq_false_iff.mpr c6
     subst c6
     have H1 : (znA.l0 k1 (wrap64 (x3_1 + 1)) a0_0 a0_1 a0_2 a0_3 a0_4 a0_5) = some r := by rw [if_neg (show ¬ (false = true) by decide)] at H; exact H
     clear H
     have H := H1
     clear H1
     have H' := zpS H
     clear H
     obtain ⟨hcz22_0, hcz22_1, hcz22_2, hcz22_3, hcz22_4, hcz22_5⟩ := zrN BK210.out
     obtain ⟨hfz22_0, hfz22_1, hfz22_2, hfz22_3, hfz22_4, hfz22_5⟩ := zoO BK210.out
     go_wp2_with (first | ((with_reducible refine zgK (f := 52) rfl ?_); refine zqQ (some 11) rfl rfl Tryd.func52 (by kernel_rfl) rfl #[.int .i64 (wrap64 (x3_1 + 4)), .agg #[.int .i64 a0_0, .int .i64 a0_1, .int .i64 a0_2, .int .i64 a0_3, .int .i64 a0_4, .int .i64 a0_5]] rfl (by (try simp only [List.map_toArray, List.map_cons, List.map_nil]); first | done | rfl | (simp only [List.length_drop, List.length_take]; rfl)) ?_; (with_reducible refine (zmD.calls k1 (wrap64 (x3_1 + 4)) a0_0 a0_1 a0_2 a0_3 a0_4 a0_5 t211 t212 t213 _ A4.out).mono ?_); rintro e w23 ⟨rfl, hb⟩; refine ⟨_, rfl, ?_⟩; have n0_ := zpS (zgM (g := gb210) (o := .cells #[.int .i64 a0_0, .int .i64 a0_1, .int .i64 a0_2, .int .i64 a0_3, .int .i64 a0_4, .int .i64 a0_5] 65 (0, 0)) bk_ hb); have n1_ := (ns_ hb); clear BK210; clear HB; have BK210 := n0_; have HB := n1_; clear n0_ n1_; (try clear hb); (try clear hb2)) | ((with_reducible refine zgK (f := 51) rfl ?_); refine zqQ (some 12) rfl rfl Tryd.func51 (by kernel_rfl) rfl #[.agg #[.int .i64 t211, .int .i64 t212, .int .i64 t213]] rfl (by (try simp only [List.map_toArray, List.map_cons, List.map_nil]); first | done | rfl | (simp only [List.length_drop, List.length_take]; rfl)) ?_; (with_reducible refine (zbR.calls t211 t212 t213 false _ A5.out).mono ?_); rintro e w24 ⟨rfl, hb⟩; refine ⟨_, rfl, ?_⟩; have n0_ := zpS (zgM (g := gb210) (o := .cells #[.int .i64 a0_0, .int .i64 a0_1, .int .i64 a0_2, .int .i64 a0_3, .int .i64 a0_4, .int .i64 a0_5] 65 (0, 0)) bk_ hb); have n1_ := (ns_ hb); clear BK210; clear HB; have BK210 := n0_; have HB := n1_; clear n0_ n1_; (try clear hb); (try clear hb2)))
     go_roundg k1
     case measure => have := HK1.out; omega
     case rel => exact ⟨(wrap64 (x3_1 + 1)), (by first | rfl | (simp; done) | (simp [*]; done)), H', ⟨by have := HK1.out; omega⟩, ⟨bk_⟩, ⟨bb_⟩⟩
   ·rw [if_neg c3] at H
    have c3b0 : decide (x3_1 < 16) = false := decide_eq_false c3
    clear c3
    obtain rfl := Option.some.inj H
    go_wp2
    go_ret
    exact ⟨by first | rfl | (simp [ziS, znJ] <;> rfl) | (simp [*, ziS, znJ] <;> rfl), bb_⟩

def zkL.f (k : Nat) (a0_0 : Int) (a0_1 : Int) (a0_2 : Int) (a0_3 : Int) (a0_4 : Int) (a0_5 : Int) (a1_0 : Int) (a1_1 : Int) (a1_2 : Int) (a1_3 : Int) (a1_4 : Int) (a1_5 : Int) : Option (Int × Int × Int × Int × Int × Int) := (zyB.f k a0_0 a0_1 a0_2 a1_0 a1_1 a1_2).bind fun bt222 => ((zyB.f k a0_3 a0_4 a0_5 a1_3 a1_4 a1_5).bind fun bt225 => (some (bt222.1, bt222.2.1, bt222.2.2, bt225.1, bt225.2.1, bt225.2.2)))
theorem zkL.mono : ∀ a0 a1 a2 a3 a4 a5 a6 a7 a8 a9 a10 a11 k, LeO (zkL.f k a0 a1 a2 a3 a4 a5 a6 a7 a8 a9 a10 a11) (zkL.f (k + 1) a0 a1 a2 a3 a4 a5 a6 a7 a8 a9 a10 a11) := by
 intro a0 a1 a2 a3 a4 a5 a6 a7 a8 a9 a10 a11 k
 unfold zkL.f
 repeat' first
   | (with_reducible exact zyB.mono _ _ _ _ _ _ _)
   | (with_reducible exact LeO.refl _)
   | (with_reducible exact LeO.none _)
   | (with_reducible refine LeO.ite ?_ ?_)
   | (with_reducible refine LeO.bind ?_ (fun _ => ?_))
   | exact zyB.mono _ _ _ _ _ _ _
   | exact LeO.none _
   | refine LeO.ite ?_ ?_
   | refine LeO.bind ?_ (fun _ => ?_)
def zkL.T1 : Bool × List (List Nat × List Nat) := (true, [([], []), ([0], [0]), ([], []), ([2], [2]), ([1, 3], [1, 3]), ([], []), ([5], [5]), ([], []), ([7], [7]), ([6, 8, 4], [6, 8]), ([4, 9], [4, 9]), ([10, 9, 0, 1, 2, 3, 4, 5, 6, 7, 8, 9, 10], [10])])
def zkL.B1 : List Nat := [0, 1, 0, 4, 15, 0, 32, 0, 128, 511, 1023, 2047]
theorem zkL.tab1 : rtab .any (opsOf Tryd.f40 1) = zkL.T1 := by kernel_rfl
theorem zkL.bits1 : ztG zkL.T1.2 zkL.B1 = true := by kernel_rfl
theorem zkL.calls (k : Nat) (a0_0 : Int) (a0_1 : Int) (a0_2 : Int) (a0_3 : Int) (a0_4 : Int) (a0_5 : Int) (a1_0 : Int) (a1_1 : Int) (a1_2 : Int) (a1_3 : Int) (a1_4 : Int) (a1_5 : Int) (r1 : Int) (r2 : Int) (r3 : Int) (r4 : Int) (r5 : Int) (r6 : Int) (w : World) (h : zkL.f k a0_0 a0_1 a0_2 a0_3 a0_4 a0_5 a1_0 a1_1 a1_2 a1_3 a1_4 a1_5 = some (r1, r2, r3, r4, r5, r6)) :
  Calls Tryd.prog 40 #[.agg #[.int .i64 a0_0, .int .i64 a0_1, .int .i64 a0_2, .int .i64 a0_3, .int .i64 a0_4, .int .i64 a0_5], .agg #[.int .i64 a1_0, .int .i64 a1_1, .int .i64 a1_2, .int .i64 a1_3, .int .i64 a1_4, .int .i64 a1_5]] w fun e w' => e = .returned (.agg #[.int .i64 r1, .int .i64 r2, .int .i64 r3, .int .i64 r4, .int .i64 r5, .int .i64 r6]) ∧ Below w.heap.size w w' := by
 have hu65 := Tryd.underlying65
 have hu63 := Tryd.underlying63
 have HB := zpS (Below.refl w.heap.size w)
 have H : ((zyB.f k a0_0 a0_1 a0_2 a1_0 a1_1 a1_2).bind fun bt222 => ((zyB.f k a0_3 a0_4 a0_5 a1_3 a1_4 a1_5).bind fun bt225 => (some (bt222.1, bt222.2.1, bt222.2.2, bt225.1, bt225.2.1, bt225.2.2)))) = some (r1, r2, r3, r4, r5, r6) := h
 clear h
 replace H := Option.bind_eq_some_iff.mp H
 obtain ⟨⟨t222, t223, t224⟩, A30, H⟩ := H
 replace H : ((zyB.f k a0_3 a0_4 a0_5 a1_3 a1_4 a1_5).bind fun bt225 => (some (t222, t223, t224, bt225.1, bt225.2.1, bt225.2.2))) = some (r1, r2, r3, r4, r5, r6) := H
 have A3 := zpS A30
 clear A30
 replace H := Option.bind_eq_some_iff.mp H
 obtain ⟨⟨t225, t226, t227⟩, A40, H⟩ := H
 replace H : (some (t222, t223, t224, t225, t226, t227)) = some (r1, r2, r3, r4, r5, r6) := H
 have A4 := zpS A40
 clear A40
 simp only [Option.some.injEq, Prod.mk.injEq] at H
 obtain ⟨rfl, rfl, rfl, rfl, rfl, rfl⟩ := H
 go_enter Tryd.func40, Tryd.ntmps40
 try go_wp2_with (first | ((with_reducible refine zpZ (N := 2) rfl ?_); refine bx_ 2 #[.int .i64 a0_0, .int .i64 a0_1, .int .i64 a0_2, .int .i64 a0_3, .int .i64 a0_4, .int .i64 a0_5] 65 ?_; intro gb219 hg w5 hbox hb; have n0_ := (ns_ hb); have n1_ := zpS (hbox); have n2_ := (ng_ hg); have n3_ := n2_; clear HB; have HB := n0_; have BK219 := n1_; have GW219 := n2_; have GE219 := n3_; clear n0_ n1_ n2_ n3_; clear hb hbox hg) | ((with_reducible refine zpZ (N := 3) rfl ?_); refine bx_ 3 #[.int .i64 a1_0, .int .i64 a1_1, .int .i64 a1_2, .int .i64 a1_3, .int .i64 a1_4, .int .i64 a1_5] 65 ?_; intro gb220 hg w6 hbox hb; have n0_ := zpS (zgM (g := gb219) (o := .cells #[.int .i64 a0_0, .int .i64 a0_1, .int .i64 a0_2, .int .i64 a0_3, .int .i64 a0_4, .int .i64 a0_5] 65 (0, 0)) bk_ hb); have n1_ := (ns_ hb); have n2_ := zpS (hbox); have n3_ := (ng_ hg); have n4_ := n3_; have n5_ := zpS ((by rw [hg]; exact Nat.ne_of_lt (zmN (g := gb219) (o := .cells #[.int .i64 a0_0, .int .i64 a0_1, .int .i64 a0_2, .int .i64 a0_3, .int .i64 a0_4, .int .i64 a0_5] 65 (0, 0)) bk_) : gb219 ≠ gb220)); have n6_ := zpS ((by rw [hg]; exact Nat.ne_of_gt (zmN (g := gb219) (o := .cells #[.int .i64 a0_0, .int .i64 a0_1, .int .i64 a0_2, .int .i64 a0_3, .int .i64 a0_4, .int .i64 a0_5] 65 (0, 0)) bk_) : gb220 ≠ gb219)); clear BK219; clear HB; have BK219 := n0_; have HB := n1_; have BK220 := n2_; have GW220 := n3_; have GE220 := n4_; have NB219_220 := n5_; have NB220_219 := n6_; clear n0_ n1_ n2_ n3_ n4_ n5_ n6_; clear hb hbox hg) | ((with_reducible refine zpZ (N := 4) rfl ?_); refine bx_ 4 #[.int .i64 0, .int .i64 0, .int .i64 0, .int .i64 0, .int .i64 0, .int .i64 0] 65 ?_; intro gb221 hg w7 hbox hb; have n0_ := zpS (zgM (g := gb219) (o := .cells #[.int .i64 a0_0, .int .i64 a0_1, .int .i64 a0_2, .int .i64 a0_3, .int .i64 a0_4, .int .i64 a0_5] 65 (0, 0)) bk_ hb); have n1_ := zpS (zgM (g := gb220) (o := .cells #[.int .i64 a1_0, .int .i64 a1_1, .int .i64 a1_2, .int .i64 a1_3, .int .i64 a1_4, .int .i64 a1_5] 65 (0, 0)) bk_ hb); have n2_ := (ns_ hb); have n3_ := zpS (hbox); have n4_ := (ng_ hg); have n5_ := n4_; have n6_ := zpS ((by rw [hg]; exact Nat.ne_of_lt (zmN (g := gb219) (o := .cells #[.int .i64 a0_0, .int .i64 a0_1, .int .i64 a0_2, .int .i64 a0_3, .int .i64 a0_4, .int .i64 a0_5] 65 (0, 0)) bk_) : gb219 ≠ gb221)); have n7_ := zpS ((by rw [hg]; exact Nat.ne_of_gt (zmN (g := gb219) (o := .cells #[.int .i64 a0_0, .int .i64 a0_1, .int .i64 a0_2, .int .i64 a0_3, .int .i64 a0_4, .int .i64 a0_5] 65 (0, 0)) bk_) : gb221 ≠ gb219)); have n8_ := zpS ((by rw [hg]; exact Nat.ne_of_lt (zmN (g := gb220) (o := .cells #[.int .i64 a1_0, .int .i64 a1_1, .int .i64 a1_2, .int .i64 a1_3, .int .i64 a1_4, .int .i64 a1_5] 65 (0, 0)) bk_) : gb220 ≠ gb221)); have n9_ := zpS ((by rw [hg]; exact Nat.ne_of_gt (zmN (g := gb220) (o := .cells #[.int .i64 a1_0, .int .i64 a1_1, .int .i64 a1_2, .int .i64 a1_3, .int .i64 a1_4, .int .i64 a1_5] 65 (0, 0)) bk_) : gb221 ≠ gb220)); clear BK219; clear BK220; clear HB; have BK219 := n0_; have BK220 := n1_; have HB := n2_; have BK221 := n3_; have GW221 := n4_; have GE221 := n5_; have NB219_221 := n6_; have NB221_219 := n7_; have NB220_221 := n8_; have NB221_220 := n9_; clear n0_ n1_ n2_ n3_ n4_ n5_ n6_ n7_ n8_ n9_; clear hb hbox hg))
 have n0_ := zpS (ztN BK219.out)
 have n1_ := zpS (ztN BK220.out)
 have n2_ := zpS (ztN BK221.out)
 have n3_ := zpS (zvF HB.out)
 clear BK219
 clear BK220
 clear BK221
 clear HB
 have BK219 := n0_
 have BK220 := n1_
 have BK221 := n2_
 have HB := n3_
 clear n0_ n1_ n2_ n3_
 refine zpB (n := 12) (S := fun w' => w'.cell? ⟨gb219, 0, none⟩ = some (.int .i64 a0_0) ∧ w'.cell? ⟨gb219, 1, none⟩ = some (.int .i64 a0_1) ∧ w'.cell? ⟨gb219, 2, none⟩ = some (.int .i64 a0_2) ∧ w'.cell? ⟨gb219, 3, none⟩ = some (.int .i64 a0_3) ∧ w'.cell? ⟨gb219, 4, none⟩ = some (.int .i64 a0_4) ∧ w'.cell? ⟨gb219, 5, none⟩ = some (.int .i64 a0_5) ∧ w'.cell? ⟨gb220, 0, none⟩ = some (.int .i64 a1_0) ∧ w'.cell? ⟨gb220, 1, none⟩ = some (.int .i64 a1_1) ∧ w'.cell? ⟨gb220, 2, none⟩ = some (.int .i64 a1_2) ∧ w'.cell? ⟨gb220, 3, none⟩ = some (.int .i64 a1_3) ∧ w'.cell? ⟨gb220, 4, none⟩ = some (.int .i64 a1_4) ∧ w'.cell? ⟨gb220, 5, none⟩ = some (.int .i64 a1_5)) (ds := []) #[false, false, false, false, false, false, false, false, false, false, false, false] (by kernel_rfl) rfl rfl ⟨(zzS BK219.out 0).trans rfl, (zzS BK219.out 1).trans rfl, (zzS BK219.out 2).trans rfl, (zzS BK219.out 3).trans rfl, (zzS BK219.out 4).trans rfl, (zzS BK219.out 5).trans rfl, (zzS BK220.out 0).trans rfl, (zzS BK220.out 1).trans rfl, (zzS BK220.out 2).trans rfl, (zzS BK220.out 3).trans rfl, (zzS BK220.out 4).trans rfl, (zzS BK220.out 5).trans rfl⟩ (fun hHeld => ?_); refine zwI zkL.tab1 zkL.bits1 (fun HT_ HW_ => ?_)
 generalize w7.drew = w8 at BK219 BK220 BK221 HB hHeld ⊢
 refine pu_ 0 (some 5) (bl_ 12 1) ?_
 refine pu_ 2 (some 7) (bl_ 12 5) ?_
 refine pu_ 5 (some 10) (bl_ 12 37) ?_
 refine pu_ 7 (some 12) (bl_ 12 165) ?_
 refine zmW 1 (some 6) (bl_ 12 167) hHeld ?_
 refine zmW 3 (some 8) (bl_ 12 175) hHeld ?_
 refine zmW 6 (some 11) (bl_ 12 239) hHeld ?_
 refine zmW 8 (some 13) (bl_ 12 495) hHeld ?_
 refine zdC (i := 4) (N := some 9) (bl_ 12 511) rfl rfl (zeO HT_.out (by kernel_rfl)) (by decide) (fun K hK => ?_)
 refine zqW Tryd.func49 (by kernel_rfl) rfl #[.agg #[.int .i64 a0_0, .int .i64 a0_1, .int .i64 a0_2], .agg #[.int .i64 a1_0, .int .i64 a1_1, .int .i64 a1_2]] (by rfl) rfl rfl (by (try simp only [List.map_toArray, List.map_cons, List.map_nil]); first | done | rfl | (simp only [List.length_drop, List.length_take]; rfl)) ?_
 with_reducible refine (zyB.calls k a0_0 a0_1 a0_2 a1_0 a1_1 a1_2 t222 t223 t224 _ A3.out).mono ?_
 rintro e w9 ⟨rfl, hb⟩
 refine ⟨_, rfl, ?_⟩
 have n0_ := zpS (zgM (g := gb219) (o := .cells #[.int .i64 a0_0, .int .i64 a0_1, .int .i64 a0_2, .int .i64 a0_3, .int .i64 a0_4, .int .i64 a0_5] 65 (0, 0)) bk_ hb)
 have n1_ := zpS (zgM (g := gb220) (o := .cells #[.int .i64 a1_0, .int .i64 a1_1, .int .i64 a1_2, .int .i64 a1_3, .int .i64 a1_4, .int .i64 a1_5] 65 (0, 0)) bk_ hb)
 have n2_ := zpS (zgM (g := gb221) (o := .cells #[.int .i64 0, .int .i64 0, .int .i64 0, .int .i64 0, .int .i64 0, .int .i64 0] 65 (0, 0)) bk_ hb)
 have n3_ := (ns_ hb)
 clear BK219
 clear BK220
 clear BK221
 clear HB
 have BK219 := n0_
 have BK220 := n1_
 have BK221 := n2_
 have HB := n3_
 clear n0_ n1_ n2_ n3_
 (try clear hb)
 (try clear hb2)
 (try clear hk)
 (try clear hi)
 refine hK.out _ _ ⟨(zzS BK219.out 0).trans rfl, (zzS BK219.out 1).trans rfl, (zzS BK219.out 2).trans rfl, (zzS BK219.out 3).trans rfl, (zzS BK219.out 4).trans rfl, (zzS BK219.out 5).trans rfl, (zzS BK220.out 0).trans rfl, (zzS BK220.out 1).trans rfl, (zzS BK220.out 2).trans rfl, (zzS BK220.out 3).trans rfl, (zzS BK220.out 4).trans rfl, (zzS BK220.out 5).trans rfl⟩ (fun hHeld => ?_)
 clear hK K
 refine zaN (a' := ?_) ?_ ?_
 rotate_left
 ·show Act.put _ (some 9) _ = _
  simp only [Act.put, List.setIfInBounds_toArray, List.set_cons_zero, List.set_cons_succ, zcM, ziK]
  rfl
 refine zdC (i := 9) (N := some 14) (bl_ 12 1023) rfl rfl (zeO HT_.out (by kernel_rfl)) (by decide) (fun K hK => ?_)
 refine zqW Tryd.func49 (by kernel_rfl) rfl #[.agg #[.int .i64 a0_3, .int .i64 a0_4, .int .i64 a0_5], .agg #[.int .i64 a1_3, .int .i64 a1_4, .int .i64 a1_5]] (by rfl) rfl rfl (by (try simp only [List.map_toArray, List.map_cons, List.map_nil]); first | done | rfl | (simp only [List.length_drop, List.length_take]; rfl)) ?_
 with_reducible refine (zyB.calls k a0_3 a0_4 a0_5 a1_3 a1_4 a1_5 t225 t226 t227 _ A4.out).mono ?_
 rintro e w10 ⟨rfl, hb⟩
 refine ⟨_, rfl, ?_⟩
 have n0_ := zpS (zgM (g := gb219) (o := .cells #[.int .i64 a0_0, .int .i64 a0_1, .int .i64 a0_2, .int .i64 a0_3, .int .i64 a0_4, .int .i64 a0_5] 65 (0, 0)) bk_ hb)
 have n1_ := zpS (zgM (g := gb220) (o := .cells #[.int .i64 a1_0, .int .i64 a1_1, .int .i64 a1_2, .int .i64 a1_3, .int .i64 a1_4, .int .i64 a1_5] 65 (0, 0)) bk_ hb)
 have n2_ := zpS (zgM (g := gb221) (o := .cells #[.int .i64 0, .int .i64 0, .int .i64 0, .int .i64 0, .int .i64 0, .int .i64 0] 65 (0, 0)) bk_ hb)
 have n3_ := (ns_ hb)
 clear BK219
 clear BK220
 clear BK221
 clear HB
 have BK219 := n0_
 have BK220 := n1_
 have BK221 := n2_
 have HB := n3_
 clear n0_ n1_ n2_ n3_
 (try clear hb)
 (try clear hb2)
 (try clear hk)
 (try clear hi)
 refine hK.out _ _ ⟨(zzS BK219.out 0).trans rfl, (zzS BK219.out 1).trans rfl, (zzS BK219.out 2).trans rfl, (zzS BK219.out 3).trans rfl, (zzS BK219.out 4).trans rfl, (zzS BK219.out 5).trans rfl, (zzS BK220.out 0).trans rfl, (zzS BK220.out 1).trans rfl, (zzS BK220.out 2).trans rfl, (zzS BK220.out 3).trans rfl, (zzS BK220.out 4).trans rfl, (zzS BK220.out 5).trans rfl⟩ (fun hHeld => ?_)
 clear hK K
 refine zaN (a' := ?_) ?_ ?_
 rotate_left
 ·show Act.put _ (some 14) _ = _
  simp only [Act.put, List.setIfInBounds_toArray, List.set_cons_zero, List.set_cons_succ, zcM, ziK]
  rfl
 refine pu_ 10 (some 15) (bl_ 12 2047) ?_
 refine zdC (i := 11) (N := none) (bl_ 12 4095) rfl rfl (zeO HT_.out (by kernel_rfl)) (by decide) (fun K hK => ?_)
 have hs11 : w10.cell? ⟨gb221, 0, none⟩ = some (.int .i64 0) := (zzS BK221.out 0).trans rfl
 have hfs11 := zjF BK221.out 0
 have hns11_0 := NB219_221.out
 have hns11_1 := NB220_221.out
 have hms11_0 := NB221_219.out
 have hms11_1 := NB221_220.out
 have hs12 : w10.cell? ⟨gb221, 1, none⟩ = some (.int .i64 0) := (zzS BK221.out 1).trans rfl
 have hfs12 := zjF BK221.out 1
 have hns12_0 := NB219_221.out
 have hns12_1 := NB220_221.out
 have hms12_0 := NB221_219.out
 have hms12_1 := NB221_220.out
 have hs13 : w10.cell? ⟨gb221, 2, none⟩ = some (.int .i64 0) := (zzS BK221.out 2).trans rfl
 have hfs13 := zjF BK221.out 2
 have hns13_0 := NB219_221.out
 have hns13_1 := NB220_221.out
 have hms13_0 := NB221_219.out
 have hms13_1 := NB221_220.out
 have hs14 : w10.cell? ⟨gb221, 3, none⟩ = some (.int .i64 0) := (zzS BK221.out 3).trans rfl
 have hfs14 := zjF BK221.out 3
 have hns14_0 := NB219_221.out
 have hns14_1 := NB220_221.out
 have hms14_0 := NB221_219.out
 have hms14_1 := NB221_220.out
 have hs15 : w10.cell? ⟨gb221, 4, none⟩ = some (.int .i64 0) := (zzS BK221.out 4).trans rfl
 have hfs15 := zjF BK221.out 4
 have hns15_0 := NB219_221.out
 have hns15_1 := NB220_221.out
 have hms15_0 := NB221_219.out
 have hms15_1 := NB221_220.out
 have hs16 : w10.cell? ⟨gb221, 5, none⟩ = some (.int .i64 0) := (zzS BK221.out 5).trans rfl
 have hfs16 := zjF BK221.out 5
 have hns16_0 := NB219_221.out
 have hns16_1 := NB220_221.out
 have hms16_0 := NB221_219.out
 have hms16_1 := NB221_220.out
 refine skip_ (w1 := ?_) (by rfl) rfl ?_ ?_
 rotate_left
 ·go_simp
  rfl
 refine hK.out _ _ ⟨((zgQ (p := ⟨gb221, _, none⟩) NB219_221.out _).trans (((zgQ (p := ⟨gb221, _, none⟩) NB219_221.out _).trans (((zgQ (p := ⟨gb221, _, none⟩) NB219_221.out _).trans (((zgQ (p := ⟨gb221, _, none⟩) NB219_221.out _).trans (((zgQ (p := ⟨gb221, _, none⟩) NB219_221.out _).trans (((zgQ (p := ⟨gb221, _, none⟩) NB219_221.out _).trans (hHeld.1)))))))))))), ((zgQ (p := ⟨gb221, _, none⟩) NB219_221.out _).trans (((zgQ (p := ⟨gb221, _, none⟩) NB219_221.out _).trans (((zgQ (p := ⟨gb221, _, none⟩) NB219_221.out _).trans (((zgQ (p := ⟨gb221, _, none⟩) NB219_221.out _).trans (((zgQ (p := ⟨gb221, _, none⟩) NB219_221.out _).trans (((zgQ (p := ⟨gb221, _, none⟩) NB219_221.out _).trans (hHeld.2.1)))))))))))), ((zgQ (p := ⟨gb221, _, none⟩) NB219_221.out _).trans (((zgQ (p := ⟨gb221, _, none⟩) NB219_221.out _).trans (((zgQ (p := ⟨gb221, _, none⟩) NB219_221.out _).trans (((zgQ (p := ⟨gb221, _, none⟩) NB219_221.out _).trans (((zgQ (p := ⟨gb221, _, none⟩) NB219_221.out _).trans (((zgQ (p := ⟨gb221, _, none⟩) NB219_221.out _).trans (hHeld.2.2.1)))))))))))), ((zgQ (p := ⟨gb221, _, none⟩) NB219_221.out _).trans (((zgQ (p := ⟨gb221, _, none⟩) NB219_221.out _).trans (((zgQ (p := ⟨gb221, _, none⟩) NB219_221.out _).trans (((zgQ (p := ⟨gb221, _, none⟩) NB219_221.out _).trans (((zgQ (p := ⟨gb221, _, none⟩) NB219_221.out _).trans (((zgQ (p := ⟨gb221, _, none⟩) NB219_221.out _).trans (hHeld.2.2.2.1)))))))))))), ((zgQ (p := ⟨gb221, _, none⟩) NB219_221.out _).trans (((zgQ (p := ⟨gb221, _, none⟩) NB219_221.out _).trans (((zgQ (p := ⟨gb221, _, none⟩) NB219_221.out _).trans (((zgQ (p := ⟨gb221, _, none⟩) NB219_221.out _).trans (((zgQ (p := ⟨gb221, _, none⟩) NB219_221.out _).trans (((zgQ (p := ⟨gb221, _, none⟩) NB219_221.out _).trans (hHeld.2.2.2.2.1)))))))))))), ((zgQ (p := ⟨gb221, _, none⟩) NB219_221.out _).trans (((zgQ (p := ⟨gb221, _, none⟩) NB219_221.out _).trans (((zgQ (p := ⟨gb221, _, none⟩) NB219_221.out _).trans (((zgQ (p := ⟨gb221, _, none⟩) NB219_221.out _).trans (((zgQ (p := ⟨gb221, _, none⟩) NB219_221.out _).trans (((zgQ (p := ⟨gb221, _, none⟩) NB219_221.out _).trans (hHeld.2.2.2.2.2.1)))))))))))), ((zgQ (p := ⟨gb221, _, none⟩) NB220_221.out _).trans (((zgQ (p := ⟨gb221, _, none⟩) NB220_221.out _).trans (((zgQ (p := ⟨gb221, _, none⟩) NB220_221.out _).trans (((zgQ (p := ⟨gb221, _, none⟩) NB220_221.out _).trans (((zgQ (p := ⟨gb221, _, none⟩) NB220_221.out _).trans (((zgQ (p := ⟨gb221, _, none⟩) NB220_221.out _).trans (hHeld.2.2.2.2.2.2.1)))))))))))), ((zgQ (p := ⟨gb221, _, none⟩) NB220_221.out _).trans (((zgQ (p := ⟨gb221, _, none⟩) NB220_221.out _).trans (((zgQ (p := ⟨gb221, _, none⟩) NB220_221.out _).trans (((zgQ (p := ⟨gb221, _, none⟩) NB220_221.out _).trans (((zgQ (p := ⟨gb221, _, none⟩) NB220_221.out _).trans (((zgQ (p := ⟨gb221, _, none⟩) NB220_221.out _).trans (hHeld.2.2.2.2.2.2.2.1)))))))))))), ((zgQ (p := ⟨gb221, _, none⟩) NB220_221.out _).trans (((zgQ (p := ⟨gb221, _, none⟩) NB220_221.out _).trans (((zgQ (p := ⟨gb221, _, none⟩) NB220_221.out _).trans (((zgQ (p := ⟨gb221, _, none⟩) NB220_221.out _).trans (((zgQ (p := ⟨gb221, _, none⟩) NB220_221.out _).trans (((zgQ (p := ⟨gb221, _, none⟩) NB220_221.out _).trans (hHeld.2.2.2.2.2.2.2.2.1)))))))))))), ((zgQ (p := ⟨gb221, _, none⟩) NB220_221.out _).trans (((zgQ (p := ⟨gb221, _, none⟩) NB220_221.out _).trans (((zgQ (p := ⟨gb221, _, none⟩) NB220_221.out _).trans (((zgQ (p := ⟨gb221, _, none⟩) NB220_221.out _).trans (((zgQ (p := ⟨gb221, _, none⟩) NB220_221.out _).trans (((zgQ (p := ⟨gb221, _, none⟩) NB220_221.out _).trans (hHeld.2.2.2.2.2.2.2.2.2.1)))))))))))), ((zgQ (p := ⟨gb221, _, none⟩) NB220_221.out _).trans (((zgQ (p := ⟨gb221, _, none⟩) NB220_221.out _).trans (((zgQ (p := ⟨gb221, _, none⟩) NB220_221.out _).trans (((zgQ (p := ⟨gb221, _, none⟩) NB220_221.out _).trans (((zgQ (p := ⟨gb221, _, none⟩) NB220_221.out _).trans (((zgQ (p := ⟨gb221, _, none⟩) NB220_221.out _).trans (hHeld.2.2.2.2.2.2.2.2.2.2.1)))))))))))), ((zgQ (p := ⟨gb221, _, none⟩) NB220_221.out _).trans (((zgQ (p := ⟨gb221, _, none⟩) NB220_221.out _).trans (((zgQ (p := ⟨gb221, _, none⟩) NB220_221.out _).trans (((zgQ (p := ⟨gb221, _, none⟩) NB220_221.out _).trans (((zgQ (p := ⟨gb221, _, none⟩) NB220_221.out _).trans (((zgQ (p := ⟨gb221, _, none⟩) NB220_221.out _).trans (hHeld.2.2.2.2.2.2.2.2.2.2.2))))))))))))⟩ (fun hHeld => ?_)
 clear hK K
 refine znK (zzP HT_.out (by kernel_rfl)) ?_
 try go_wp2
 refine bodyPost_ret (results_cell_row rfl _ _ gb221 65 #[.int .i64 t222, .int .i64 t223, .int .i64 t224, .int .i64 t225, .int .i64 t226, .int .i64 t227] (0, 0) _ rfl (by (with_reducible repeat (first | apply zuW | apply ztN | apply zqY)); refine zlL (cs := #[.int .i64 t222, .int .i64 t223, .int .i64 t224, .int .i64 t225, .int .i64 t226, .int .i64 0]) ?_ 5 _ rfl; (with_reducible repeat (first | apply zuW | apply ztN | apply zqY)); refine zlL (cs := #[.int .i64 t222, .int .i64 t223, .int .i64 t224, .int .i64 t225, .int .i64 0, .int .i64 0]) ?_ 4 _ rfl; (with_reducible repeat (first | apply zuW | apply ztN | apply zqY)); refine zlL (cs := #[.int .i64 t222, .int .i64 t223, .int .i64 t224, .int .i64 0, .int .i64 0, .int .i64 0]) ?_ 3 _ rfl; (with_reducible repeat (first | apply zuW | apply ztN | apply zqY)); refine zlL (cs := #[.int .i64 t222, .int .i64 t223, .int .i64 0, .int .i64 0, .int .i64 0, .int .i64 0]) ?_ 2 _ rfl; (with_reducible repeat (first | apply zuW | apply ztN | apply zqY)); refine zlL (cs := #[.int .i64 t222, .int .i64 0, .int .i64 0, .int .i64 0, .int .i64 0, .int .i64 0]) ?_ 1 _ rfl; (with_reducible repeat (first | apply zuW | apply ztN | apply zqY)); refine zlL (cs := #[.int .i64 0, .int .i64 0, .int .i64 0, .int .i64 0, .int .i64 0, .int .i64 0]) ?_ 0 _ rfl; (with_reducible repeat (first | apply zuW | apply ztN | apply zqY)); exact BK221.out) Tryd.underlying65 rfl (by kernel_rfl)) rfl ?_
 exact ⟨by first | rfl | (simp [ziS, znJ] <;> rfl) | (simp [*, ziS, znJ] <;> rfl), bb_⟩

end Go.Proofs.YtbnfbflfhpniaaaDoor.PFnExactNormalPolygon
