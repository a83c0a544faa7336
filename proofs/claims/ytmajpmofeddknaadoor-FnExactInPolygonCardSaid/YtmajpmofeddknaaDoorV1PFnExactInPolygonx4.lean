-- Printed for this claim by this session's program pp.py, which drives the kit's print with additions. Not trusted: Lean checks it.
import Derived.Test.YtmajpmofeddknaaDoorV1PFnExactInPolygonx0
import Derived.Test.YtmajpmofeddknaaDoorV1PFnExactInPolygonx3
namespace Go.Proofs.YtmajpmofeddknaaDoor.PFnExactInPolygon
open Go.RowKit Go.Proofs.YtmajpmofeddknaaDoorW.PrintWords Go.Proofs.YtmajpmofeddknaaDoorW.PrintLast Go.Proofs.YtmajpmofeddknaaDoorW.PrintMore
attribute [local go_sem] zeE zdX zeQ zeO zdK zdI zeA zeC   -- for this text's walks alone
set_option linter.unusedVariables false
set_option linter.unusedSimpArgs false

def zeG.f (a0 : Int) : Option (Int × Int × Int × Int × Int × Int) := (some (([(⟨(⟨1, 0, 0⟩ : S34), (⟨0, 0, 0⟩ : S34)⟩ : S36), (⟨(⟨1, 0, 0⟩ : S34), (⟨(-1), 1, 0⟩ : S34)⟩ : S36), (⟨(⟨1, 0, 0⟩ : S34), (⟨1, 0, 0⟩ : S34)⟩ : S36), (⟨(⟨(-1), 1, 0⟩ : S34), (⟨1, 0, 0⟩ : S34)⟩ : S36), (⟨(⟨0, 0, 0⟩ : S34), (⟨1, 0, 0⟩ : S34)⟩ : S36), (⟨(⟨1, (-1), 0⟩ : S34), (⟨1, 0, 0⟩ : S34)⟩ : S36), (⟨(⟨(-1), 0, 0⟩ : S34), (⟨1, 0, 0⟩ : S34)⟩ : S36), (⟨(⟨(-1), 0, 0⟩ : S34), (⟨(-1), 1, 0⟩ : S34)⟩ : S36)] : List (S36)) : List (S36))).bind fun y102 => ((zdF.f a0).bind fun t105 => (if 0 ≤ (Int.tmod t105 8) then (if (Int.tmod t105 8) < (y102.length : Int) then (if t105 ≥ 8 then (some (wrap64 (-((zaA y102 (Int.tmod t105 8)).f0.f0)), wrap64 (-((zaA y102 (Int.tmod t105 8)).f0.f1)), 0, wrap64 (-((zaA y102 (Int.tmod t105 8)).f1.f0)), wrap64 (-((zaA y102 (Int.tmod t105 8)).f1.f1)), 0)) else (some ((zaA y102 (Int.tmod t105 8)).f0.f0, (zaA y102 (Int.tmod t105 8)).f0.f1, (zaA y102 (Int.tmod t105 8)).f0.f2, (zaA y102 (Int.tmod t105 8)).f1.f0, (zaA y102 (Int.tmod t105 8)).f1.f1, (zaA y102 (Int.tmod t105 8)).f1.f2))) else (none)) else (none)))
def lv8 : List S36 := ([(⟨(⟨1, 0, 0⟩ : S34), (⟨0, 0, 0⟩ : S34)⟩ : S36), (⟨(⟨1, 0, 0⟩ : S34), (⟨(-1), 1, 0⟩ : S34)⟩ : S36), (⟨(⟨1, 0, 0⟩ : S34), (⟨1, 0, 0⟩ : S34)⟩ : S36), (⟨(⟨(-1), 1, 0⟩ : S34), (⟨1, 0, 0⟩ : S34)⟩ : S36), (⟨(⟨0, 0, 0⟩ : S34), (⟨1, 0, 0⟩ : S34)⟩ : S36), (⟨(⟨1, (-1), 0⟩ : S34), (⟨1, 0, 0⟩ : S34)⟩ : S36), (⟨(⟨(-1), 0, 0⟩ : S34), (⟨1, 0, 0⟩ : S34)⟩ : S36), (⟨(⟨(-1), 0, 0⟩ : S34), (⟨(-1), 1, 0⟩ : S34)⟩ : S36)] : List (S36))
theorem lv8_C (W : World) : Kd.C k36 (W.alloc (Obj.cells #[Value.int IntKind.i64 1, Value.int IntKind.i64 0, Value.int IntKind.i64 0, Value.int IntKind.i64 0, Value.int IntKind.i64 0, Value.int IntKind.i64 0, Value.int IntKind.i64 1, Value.int IntKind.i64 0, Value.int IntKind.i64 0, Value.int IntKind.i64 (-1), Value.int IntKind.i64 1, Value.int IntKind.i64 0, Value.int IntKind.i64 1, Value.int IntKind.i64 0, Value.int IntKind.i64 0, Value.int IntKind.i64 1, Value.int IntKind.i64 0, Value.int IntKind.i64 0, Value.int IntKind.i64 (-1), Value.int IntKind.i64 1, Value.int IntKind.i64 0, Value.int IntKind.i64 1, Value.int IntKind.i64 0, Value.int IntKind.i64 0, Value.int IntKind.i64 0, Value.int IntKind.i64 0, Value.int IntKind.i64 0, Value.int IntKind.i64 1, Value.int IntKind.i64 0, Value.int IntKind.i64 0, Value.int IntKind.i64 1, Value.int IntKind.i64 (-1), Value.int IntKind.i64 0, Value.int IntKind.i64 1, Value.int IntKind.i64 0, Value.int IntKind.i64 0, Value.int IntKind.i64 (-1), Value.int IntKind.i64 0, Value.int IntKind.i64 0, Value.int IntKind.i64 1, Value.int IntKind.i64 0, Value.int IntKind.i64 0, Value.int IntKind.i64 (-1), Value.int IntKind.i64 0, Value.int IntKind.i64 0, Value.int IntKind.i64 (-1), Value.int IntKind.i64 1, Value.int IntKind.i64 0] 36)) (some ⟨W.heap.size, 0, none⟩) 8 lv8 := by
 refine ⟨rfl, by decide, fun _ => ⟨_, rfl, fun j p hp => ⟨_, rfl, k36_mk _ p, fun i u hu => ?_⟩⟩⟩
 have hb := blk_new W (Obj.cells #[Value.int IntKind.i64 1, Value.int IntKind.i64 0, Value.int IntKind.i64 0, Value.int IntKind.i64 0, Value.int IntKind.i64 0, Value.int IntKind.i64 0, Value.int IntKind.i64 1, Value.int IntKind.i64 0, Value.int IntKind.i64 0, Value.int IntKind.i64 (-1), Value.int IntKind.i64 1, Value.int IntKind.i64 0, Value.int IntKind.i64 1, Value.int IntKind.i64 0, Value.int IntKind.i64 0, Value.int IntKind.i64 1, Value.int IntKind.i64 0, Value.int IntKind.i64 0, Value.int IntKind.i64 (-1), Value.int IntKind.i64 1, Value.int IntKind.i64 0, Value.int IntKind.i64 1, Value.int IntKind.i64 0, Value.int IntKind.i64 0, Value.int IntKind.i64 0, Value.int IntKind.i64 0, Value.int IntKind.i64 0, Value.int IntKind.i64 1, Value.int IntKind.i64 0, Value.int IntKind.i64 0, Value.int IntKind.i64 1, Value.int IntKind.i64 (-1), Value.int IntKind.i64 0, Value.int IntKind.i64 1, Value.int IntKind.i64 0, Value.int IntKind.i64 0, Value.int IntKind.i64 (-1), Value.int IntKind.i64 0, Value.int IntKind.i64 0, Value.int IntKind.i64 1, Value.int IntKind.i64 0, Value.int IntKind.i64 0, Value.int IntKind.i64 (-1), Value.int IntKind.i64 0, Value.int IntKind.i64 0, Value.int IntKind.i64 (-1), Value.int IntKind.i64 1, Value.int IntKind.i64 0] 36)
 have hc : ∀ n, (W.alloc (Obj.cells #[Value.int IntKind.i64 1, Value.int IntKind.i64 0, Value.int IntKind.i64 0, Value.int IntKind.i64 0, Value.int IntKind.i64 0, Value.int IntKind.i64 0, Value.int IntKind.i64 1, Value.int IntKind.i64 0, Value.int IntKind.i64 0, Value.int IntKind.i64 (-1), Value.int IntKind.i64 1, Value.int IntKind.i64 0, Value.int IntKind.i64 1, Value.int IntKind.i64 0, Value.int IntKind.i64 0, Value.int IntKind.i64 1, Value.int IntKind.i64 0, Value.int IntKind.i64 0, Value.int IntKind.i64 (-1), Value.int IntKind.i64 1, Value.int IntKind.i64 0, Value.int IntKind.i64 1, Value.int IntKind.i64 0, Value.int IntKind.i64 0, Value.int IntKind.i64 0, Value.int IntKind.i64 0, Value.int IntKind.i64 0, Value.int IntKind.i64 1, Value.int IntKind.i64 0, Value.int IntKind.i64 0, Value.int IntKind.i64 1, Value.int IntKind.i64 (-1), Value.int IntKind.i64 0, Value.int IntKind.i64 1, Value.int IntKind.i64 0, Value.int IntKind.i64 0, Value.int IntKind.i64 (-1), Value.int IntKind.i64 0, Value.int IntKind.i64 0, Value.int IntKind.i64 1, Value.int IntKind.i64 0, Value.int IntKind.i64 0, Value.int IntKind.i64 (-1), Value.int IntKind.i64 0, Value.int IntKind.i64 0, Value.int IntKind.i64 (-1), Value.int IntKind.i64 1, Value.int IntKind.i64 0] 36)).cell? ⟨W.heap.size, n, none⟩ = (#[Value.int IntKind.i64 1, Value.int IntKind.i64 0, Value.int IntKind.i64 0, Value.int IntKind.i64 0, Value.int IntKind.i64 0, Value.int IntKind.i64 0, Value.int IntKind.i64 1, Value.int IntKind.i64 0, Value.int IntKind.i64 0, Value.int IntKind.i64 (-1), Value.int IntKind.i64 1, Value.int IntKind.i64 0, Value.int IntKind.i64 1, Value.int IntKind.i64 0, Value.int IntKind.i64 0, Value.int IntKind.i64 1, Value.int IntKind.i64 0, Value.int IntKind.i64 0, Value.int IntKind.i64 (-1), Value.int IntKind.i64 1, Value.int IntKind.i64 0, Value.int IntKind.i64 1, Value.int IntKind.i64 0, Value.int IntKind.i64 0, Value.int IntKind.i64 0, Value.int IntKind.i64 0, Value.int IntKind.i64 0, Value.int IntKind.i64 1, Value.int IntKind.i64 0, Value.int IntKind.i64 0, Value.int IntKind.i64 1, Value.int IntKind.i64 (-1), Value.int IntKind.i64 0, Value.int IntKind.i64 1, Value.int IntKind.i64 0, Value.int IntKind.i64 0, Value.int IntKind.i64 (-1), Value.int IntKind.i64 0, Value.int IntKind.i64 0, Value.int IntKind.i64 1, Value.int IntKind.i64 0, Value.int IntKind.i64 0, Value.int IntKind.i64 (-1), Value.int IntKind.i64 0, Value.int IntKind.i64 0, Value.int IntKind.i64 (-1), Value.int IntKind.i64 1, Value.int IntKind.i64 0] : Array Value)[n]? := fun n => zaB hb n
 have hj : j < 8 := (List.getElem?_eq_some_iff.1 hp).1
 have hi : i < 6 := (List.getElem?_eq_some_iff.1 hu).1
 have ha : (⟨W.heap.size, 0, none⟩ : Addr).add (j * k36.sz + i) = ⟨W.heap.size, j * 6 + i, none⟩ := by show Addr.add _ (j * 6 + i) = _; first | (rw [zdE]; done) | (rw [zdE]; simp; done) | (simp [Addr.add]; done) | (unfold Addr.add; split <;> simp_all)
 rw [ha, hc]
 have : j = 0 ∨ j = 1 ∨ j = 2 ∨ j = 3 ∨ j = 4 ∨ j = 5 ∨ j = 6 ∨ j = 7 := by omega
 have : i = 0 ∨ i = 1 ∨ i = 2 ∨ i = 3 ∨ i = 4 ∨ i = 5 := by omega
 rcases ‹j = 0 ∨ _› with rfl | rfl | rfl | rfl | rfl | rfl | rfl | rfl <;> cases hp <;> rcases ‹i = 0 ∨ _› with rfl | rfl | rfl | rfl | rfl | rfl <;> cases hu <;> rfl
set_option maxHeartbeats 8000000 in
set_option maxRecDepth 100000 in
theorem zeG.calls (a0 : Int) (r1 : Int) (r2 : Int) (r3 : Int) (r4 : Int) (r5 : Int) (r6 : Int) (w : World) (h : zeG.f a0 = some (r1, r2, r3, r4, r5, r6)) :
  Calls Tryd.prog 147 #[.int .i64 a0] w fun e w' => e = .returned (.agg #[.int .i64 r1, .int .i64 r2, .int .i64 r3, .int .i64 r4, .int .i64 r5, .int .i64 r6]) ∧ Below w.heap.size w w' := by
 have hu36 := Tryd.underlying36
 have hu34 := Tryd.underlying34
 have HB := zaJ (Below.refl w.heap.size w)
 have H : ((some (([(⟨(⟨1, 0, 0⟩ : S34), (⟨0, 0, 0⟩ : S34)⟩ : S36), (⟨(⟨1, 0, 0⟩ : S34), (⟨(-1), 1, 0⟩ : S34)⟩ : S36), (⟨(⟨1, 0, 0⟩ : S34), (⟨1, 0, 0⟩ : S34)⟩ : S36), (⟨(⟨(-1), 1, 0⟩ : S34), (⟨1, 0, 0⟩ : S34)⟩ : S36), (⟨(⟨0, 0, 0⟩ : S34), (⟨1, 0, 0⟩ : S34)⟩ : S36), (⟨(⟨1, (-1), 0⟩ : S34), (⟨1, 0, 0⟩ : S34)⟩ : S36), (⟨(⟨(-1), 0, 0⟩ : S34), (⟨1, 0, 0⟩ : S34)⟩ : S36), (⟨(⟨(-1), 0, 0⟩ : S34), (⟨(-1), 1, 0⟩ : S34)⟩ : S36)] : List (S36)) : List (S36))).bind fun y102 => ((zdF.f a0).bind fun t105 => (if 0 ≤ (Int.tmod t105 8) then (if (Int.tmod t105 8) < (y102.length : Int) then (if t105 ≥ 8 then (some (wrap64 (-((zaA y102 (Int.tmod t105 8)).f0.f0)), wrap64 (-((zaA y102 (Int.tmod t105 8)).f0.f1)), 0, wrap64 (-((zaA y102 (Int.tmod t105 8)).f1.f0)), wrap64 (-((zaA y102 (Int.tmod t105 8)).f1.f1)), 0)) else (some ((zaA y102 (Int.tmod t105 8)).f0.f0, (zaA y102 (Int.tmod t105 8)).f0.f1, (zaA y102 (Int.tmod t105 8)).f0.f2, (zaA y102 (Int.tmod t105 8)).f1.f0, (zaA y102 (Int.tmod t105 8)).f1.f1, (zaA y102 (Int.tmod t105 8)).f1.f2))) else (none)) else (none)))) = some (r1, r2, r3, r4, r5, r6) := h
 clear h
 obtain ⟨y102, hy102⟩ : ∃ y_ : List (S36), y_ = (([(⟨(⟨1, 0, 0⟩ : S34), (⟨0, 0, 0⟩ : S34)⟩ : S36), (⟨(⟨1, 0, 0⟩ : S34), (⟨(-1), 1, 0⟩ : S34)⟩ : S36), (⟨(⟨1, 0, 0⟩ : S34), (⟨1, 0, 0⟩ : S34)⟩ : S36), (⟨(⟨(-1), 1, 0⟩ : S34), (⟨1, 0, 0⟩ : S34)⟩ : S36), (⟨(⟨0, 0, 0⟩ : S34), (⟨1, 0, 0⟩ : S34)⟩ : S36), (⟨(⟨1, (-1), 0⟩ : S34), (⟨1, 0, 0⟩ : S34)⟩ : S36), (⟨(⟨(-1), 0, 0⟩ : S34), (⟨1, 0, 0⟩ : S34)⟩ : S36), (⟨(⟨(-1), 0, 0⟩ : S34), (⟨(-1), 1, 0⟩ : S34)⟩ : S36)] : List (S36))) := ⟨_, rfl⟩
 replace H : ((zdF.f a0).bind fun t105 => (if 0 ≤ (Int.tmod t105 8) then (if (Int.tmod t105 8) < (y102.length : Int) then (if t105 ≥ 8 then (some (wrap64 (-((zaA y102 (Int.tmod t105 8)).f0.f0)), wrap64 (-((zaA y102 (Int.tmod t105 8)).f0.f1)), 0, wrap64 (-((zaA y102 (Int.tmod t105 8)).f1.f0)), wrap64 (-((zaA y102 (Int.tmod t105 8)).f1.f1)), 0)) else (some ((zaA y102 (Int.tmod t105 8)).f0.f0, (zaA y102 (Int.tmod t105 8)).f0.f1, (zaA y102 (Int.tmod t105 8)).f0.f2, (zaA y102 (Int.tmod t105 8)).f1.f0, (zaA y102 (Int.tmod t105 8)).f1.f1, (zaA y102 (Int.tmod t105 8)).f1.f2))) else (none)) else (none))) = some (r1, r2, r3, r4, r5, r6) := by first | (rw [hy102]; with_reducible exact H) | (have H2_ := (Option.bind_some _ _).symm.trans H; rw [hy102]; with_reducible exact H2_) | (have H2_ := (Option.bind_some _ _).symm.trans H; with_reducible exact H2_) | with_reducible exact H | (rw [hy102]; exact H) | exact H
 have Ny102 := zaJ hy102
 clear hy102
 replace H := Option.bind_eq_some_iff.mp H
 obtain ⟨t105, A20, H⟩ := H
 replace H : (if 0 ≤ (Int.tmod t105 8) then (if (Int.tmod t105 8) < (y102.length : Int) then (if t105 ≥ 8 then (some (wrap64 (-((zaA y102 (Int.tmod t105 8)).f0.f0)), wrap64 (-((zaA y102 (Int.tmod t105 8)).f0.f1)), 0, wrap64 (-((zaA y102 (Int.tmod t105 8)).f1.f0)), wrap64 (-((zaA y102 (Int.tmod t105 8)).f1.f1)), 0)) else (some ((zaA y102 (Int.tmod t105 8)).f0.f0, (zaA y102 (Int.tmod t105 8)).f0.f1, (zaA y102 (Int.tmod t105 8)).f0.f2, (zaA y102 (Int.tmod t105 8)).f1.f0, (zaA y102 (Int.tmod t105 8)).f1.f1, (zaA y102 (Int.tmod t105 8)).f1.f2))) else (none)) else (none)) = some (r1, r2, r3, r4, r5, r6) := H
 have A2 := zaJ A20
 clear A20
 obtain ⟨ji3, hji3⟩ : ∃ j_ : Int, (Int.tmod t105 8) = j_ := ⟨_, rfl⟩
 replace H : (if 0 ≤ (ji3) then (if (ji3) < (y102.length : Int) then (if t105 ≥ 8 then (some (wrap64 (-((zaA y102 (ji3)).f0.f0)), wrap64 (-((zaA y102 (ji3)).f0.f1)), 0, wrap64 (-((zaA y102 (ji3)).f1.f0)), wrap64 (-((zaA y102 (ji3)).f1.f1)), 0)) else (some ((zaA y102 (ji3)).f0.f0, (zaA y102 (ji3)).f0.f1, (zaA y102 (ji3)).f0.f2, (zaA y102 (ji3)).f1.f0, (zaA y102 (ji3)).f1.f1, (zaA y102 (ji3)).f1.f2))) else (none)) else (none)) = some (r1, r2, r3, r4, r5, r6) := by first | (rw [hji3] at H; exact H) | (simp only [hji3] at H ⊢; exact H)
 (try rw [hji3] at A2)
 by_cases c4 : 0 ≤ (ji3)
 ·rw [if_pos c4] at H
  have c4b0 : decide (0 ≤ (ji3)) = true := decide_eq_true c4
  clear c4
  by_cases c5 : (ji3) < (y102.length : Int)
  ·rw [if_pos c5] at H
   have c5b0 : decide ((ji3) < (y102.length : Int)) = true := decide_eq_true c5
   clear c5
   by_cases c6 : t105 ≥ 8
   ·rw [if_pos c6] at H
    have c6b0 : decide (8 ≤ t105) = true := decide_eq_true c6
    clear c6
    simp only [Option.some.injEq, Prod.mk.injEq] at H
    obtain ⟨rfl, rfl, rfl, rfl, rfl, rfl⟩ := H
    go_enter Tryd.func147, Tryd.ntmps147
    go_wp2_with (first | ((with_reducible refine zaQ (N := 2) rfl ?_); refine bx_ 2 #[.int .i64 0, .int .i64 0, .int .i64 0, .int .i64 0, .int .i64 0, .int .i64 0] 36 ?_; intro gb101 hg w7 hbox hb; have n0_ := (ns_ hb); have n1_ := zaJ (hbox); have n2_ := (ng_ hg); have n3_ := n2_; clear HB; have HB := n0_; have BK101 := n1_; have GW101 := n2_; have GE101 := n3_; clear n0_ n1_ n2_ n3_; clear hb hbox hg))
    refine (zdF.calls a0 t105 _ A2.out).mono ?_
    rintro e w' ⟨rfl, nd, rfl⟩
    have hC := Kd.C_drewN (lv8_C w7) nd
    have hB8 := zdQ (zdU HB.out (Obj.cells #[Value.int IntKind.i64 1, Value.int IntKind.i64 0, Value.int IntKind.i64 0, Value.int IntKind.i64 0, Value.int IntKind.i64 0, Value.int IntKind.i64 0, Value.int IntKind.i64 1, Value.int IntKind.i64 0, Value.int IntKind.i64 0, Value.int IntKind.i64 (-1), Value.int IntKind.i64 1, Value.int IntKind.i64 0, Value.int IntKind.i64 1, Value.int IntKind.i64 0, Value.int IntKind.i64 0, Value.int IntKind.i64 1, Value.int IntKind.i64 0, Value.int IntKind.i64 0, Value.int IntKind.i64 (-1), Value.int IntKind.i64 1, Value.int IntKind.i64 0, Value.int IntKind.i64 1, Value.int IntKind.i64 0, Value.int IntKind.i64 0, Value.int IntKind.i64 0, Value.int IntKind.i64 0, Value.int IntKind.i64 0, Value.int IntKind.i64 1, Value.int IntKind.i64 0, Value.int IntKind.i64 0, Value.int IntKind.i64 1, Value.int IntKind.i64 (-1), Value.int IntKind.i64 0, Value.int IntKind.i64 1, Value.int IntKind.i64 0, Value.int IntKind.i64 0, Value.int IntKind.i64 (-1), Value.int IntKind.i64 0, Value.int IntKind.i64 0, Value.int IntKind.i64 1, Value.int IntKind.i64 0, Value.int IntKind.i64 0, Value.int IntKind.i64 (-1), Value.int IntKind.i64 0, Value.int IntKind.i64 0, Value.int IntKind.i64 (-1), Value.int IntKind.i64 1, Value.int IntKind.i64 0] 36)) nd
    have hK8 := zaD (zaC BK101.out (Obj.cells #[Value.int IntKind.i64 1, Value.int IntKind.i64 0, Value.int IntKind.i64 0, Value.int IntKind.i64 0, Value.int IntKind.i64 0, Value.int IntKind.i64 0, Value.int IntKind.i64 1, Value.int IntKind.i64 0, Value.int IntKind.i64 0, Value.int IntKind.i64 (-1), Value.int IntKind.i64 1, Value.int IntKind.i64 0, Value.int IntKind.i64 1, Value.int IntKind.i64 0, Value.int IntKind.i64 0, Value.int IntKind.i64 1, Value.int IntKind.i64 0, Value.int IntKind.i64 0, Value.int IntKind.i64 (-1), Value.int IntKind.i64 1, Value.int IntKind.i64 0, Value.int IntKind.i64 1, Value.int IntKind.i64 0, Value.int IntKind.i64 0, Value.int IntKind.i64 0, Value.int IntKind.i64 0, Value.int IntKind.i64 0, Value.int IntKind.i64 1, Value.int IntKind.i64 0, Value.int IntKind.i64 0, Value.int IntKind.i64 1, Value.int IntKind.i64 (-1), Value.int IntKind.i64 0, Value.int IntKind.i64 1, Value.int IntKind.i64 0, Value.int IntKind.i64 0, Value.int IntKind.i64 (-1), Value.int IntKind.i64 0, Value.int IntKind.i64 0, Value.int IntKind.i64 1, Value.int IntKind.i64 0, Value.int IntKind.i64 0, Value.int IntKind.i64 (-1), Value.int IntKind.i64 0, Value.int IntKind.i64 0, Value.int IntKind.i64 (-1), Value.int IntKind.i64 1, Value.int IntKind.i64 0] 36)) nd
    generalize Value.agg #[Value.int IntKind.i64 1, Value.int IntKind.i64 0, Value.int IntKind.i64 0, Value.int IntKind.i64 0, Value.int IntKind.i64 0, Value.int IntKind.i64 0] = dd0
    generalize Value.agg #[Value.int IntKind.i64 1, Value.int IntKind.i64 0, Value.int IntKind.i64 0, Value.int IntKind.i64 (-1), Value.int IntKind.i64 1, Value.int IntKind.i64 0] = dd1
    generalize Value.agg #[Value.int IntKind.i64 1, Value.int IntKind.i64 0, Value.int IntKind.i64 0, Value.int IntKind.i64 1, Value.int IntKind.i64 0, Value.int IntKind.i64 0] = dd2
    generalize Value.agg #[Value.int IntKind.i64 (-1), Value.int IntKind.i64 1, Value.int IntKind.i64 0, Value.int IntKind.i64 1, Value.int IntKind.i64 0, Value.int IntKind.i64 0] = dd3
    generalize Value.agg #[Value.int IntKind.i64 0, Value.int IntKind.i64 0, Value.int IntKind.i64 0, Value.int IntKind.i64 1, Value.int IntKind.i64 0, Value.int IntKind.i64 0] = dd4
    generalize Value.agg #[Value.int IntKind.i64 1, Value.int IntKind.i64 (-1), Value.int IntKind.i64 0, Value.int IntKind.i64 1, Value.int IntKind.i64 0, Value.int IntKind.i64 0] = dd5
    generalize Value.agg #[Value.int IntKind.i64 (-1), Value.int IntKind.i64 0, Value.int IntKind.i64 0, Value.int IntKind.i64 1, Value.int IntKind.i64 0, Value.int IntKind.i64 0] = dd6
    generalize Value.agg #[Value.int IntKind.i64 (-1), Value.int IntKind.i64 0, Value.int IntKind.i64 0, Value.int IntKind.i64 (-1), Value.int IntKind.i64 1, Value.int IntKind.i64 0] = dd7
    generalize Value.agg #[Value.int IntKind.i64 1, Value.int IntKind.i64 0, Value.int IntKind.i64 0] = dd8
    generalize Value.agg #[Value.int IntKind.i64 (-1), Value.int IntKind.i64 1, Value.int IntKind.i64 0] = dd9
    generalize Value.agg #[Value.int IntKind.i64 1, Value.int IntKind.i64 (-1), Value.int IntKind.i64 0] = dd10
    generalize Value.agg #[Value.int IntKind.i64 (-1), Value.int IntKind.i64 0, Value.int IntKind.i64 0] = dd11
    clear HB BK101
    generalize World.drewN (w7.alloc (Obj.cells #[Value.int IntKind.i64 1, Value.int IntKind.i64 0, Value.int IntKind.i64 0, Value.int IntKind.i64 0, Value.int IntKind.i64 0, Value.int IntKind.i64 0, Value.int IntKind.i64 1, Value.int IntKind.i64 0, Value.int IntKind.i64 0, Value.int IntKind.i64 (-1), Value.int IntKind.i64 1, Value.int IntKind.i64 0, Value.int IntKind.i64 1, Value.int IntKind.i64 0, Value.int IntKind.i64 0, Value.int IntKind.i64 1, Value.int IntKind.i64 0, Value.int IntKind.i64 0, Value.int IntKind.i64 (-1), Value.int IntKind.i64 1, Value.int IntKind.i64 0, Value.int IntKind.i64 1, Value.int IntKind.i64 0, Value.int IntKind.i64 0, Value.int IntKind.i64 0, Value.int IntKind.i64 0, Value.int IntKind.i64 0, Value.int IntKind.i64 1, Value.int IntKind.i64 0, Value.int IntKind.i64 0, Value.int IntKind.i64 1, Value.int IntKind.i64 (-1), Value.int IntKind.i64 0, Value.int IntKind.i64 1, Value.int IntKind.i64 0, Value.int IntKind.i64 0, Value.int IntKind.i64 (-1), Value.int IntKind.i64 0, Value.int IntKind.i64 0, Value.int IntKind.i64 1, Value.int IntKind.i64 0, Value.int IntKind.i64 0, Value.int IntKind.i64 (-1), Value.int IntKind.i64 0, Value.int IntKind.i64 0, Value.int IntKind.i64 (-1), Value.int IntKind.i64 1, Value.int IntKind.i64 0] 36)) nd = w8 at hC hB8 hK8 ⊢
    generalize w7.heap.size = gs at hC ⊢
    have HB := zaJ hB8
    have BK101 := zaJ hK8
    clear hB8 hK8
    rw [show lv8 = y102 from Ny102.out.symm] at hC
    have p106 : 0 ≤ ((ji3) : Int) := of_decide_eq_true (by first | (with_reducible assumption) | assumption)
    have q106 : (ji3) < (y102.length : Int) := of_decide_eq_true (by first | (with_reducible assumption) | assumption)
    have q106' : (ji3) < ((8 : Nat) : Int) := by rw [← hC.1]; exact q106
    obtain ⟨ad106, e106, hx106_0, hx106_1, hx106_2, hx106_3, hx106_4, hx106_5⟩ := zdN hC (ji3) p106 q106'
    obtain rfl : (⟨gs, 0, none⟩ : Addr) = ad106 := (by injection e106)
    first | simp only [zdE] at hx106_0 hx106_1 hx106_2 hx106_3 hx106_4 hx106_5 | simp only [add_at] at hx106_0 hx106_1 hx106_2 hx106_3 hx106_4 hx106_5 | simp only [Addr.add, Nat.zero_add] at hx106_0 hx106_1 hx106_2 hx106_3 hx106_4 hx106_5 | skip
    replace p106 := eq_true p106
    replace q106' := eq_true q106'
    have q106'' : (ji3 < 8) = True := q106'
    have hcz14_0 : ∀ cs : Array Value, (w8.alloc (Obj.cells cs 36)).cell? ⟨gb101, 0, none⟩ = some (.int .i64 0) := fun cs => (zaB (zaC BK101.out _) 0).trans rfl
    have hfz14_0 : ∀ cs : Array Value, (w8.alloc (Obj.cells cs 36)).frozen? ⟨gb101, 0, none⟩ = false := fun cs => zbE (zaC BK101.out _) 0
    have hcz14_1 : ∀ cs : Array Value, (w8.alloc (Obj.cells cs 36)).cell? ⟨gb101, 1, none⟩ = some (.int .i64 0) := fun cs => (zaB (zaC BK101.out _) 1).trans rfl
    have hfz14_1 : ∀ cs : Array Value, (w8.alloc (Obj.cells cs 36)).frozen? ⟨gb101, 1, none⟩ = false := fun cs => zbE (zaC BK101.out _) 1
    have hcz14_2 : ∀ cs : Array Value, (w8.alloc (Obj.cells cs 36)).cell? ⟨gb101, 2, none⟩ = some (.int .i64 0) := fun cs => (zaB (zaC BK101.out _) 2).trans rfl
    have hfz14_2 : ∀ cs : Array Value, (w8.alloc (Obj.cells cs 36)).frozen? ⟨gb101, 2, none⟩ = false := fun cs => zbE (zaC BK101.out _) 2
    have hcz14_3 : ∀ cs : Array Value, (w8.alloc (Obj.cells cs 36)).cell? ⟨gb101, 3, none⟩ = some (.int .i64 0) := fun cs => (zaB (zaC BK101.out _) 3).trans rfl
    have hfz14_3 : ∀ cs : Array Value, (w8.alloc (Obj.cells cs 36)).frozen? ⟨gb101, 3, none⟩ = false := fun cs => zbE (zaC BK101.out _) 3
    have hcz14_4 : ∀ cs : Array Value, (w8.alloc (Obj.cells cs 36)).cell? ⟨gb101, 4, none⟩ = some (.int .i64 0) := fun cs => (zaB (zaC BK101.out _) 4).trans rfl
    have hfz14_4 : ∀ cs : Array Value, (w8.alloc (Obj.cells cs 36)).frozen? ⟨gb101, 4, none⟩ = false := fun cs => zbE (zaC BK101.out _) 4
    have hcz14_5 : ∀ cs : Array Value, (w8.alloc (Obj.cells cs 36)).cell? ⟨gb101, 5, none⟩ = some (.int .i64 0) := fun cs => (zaB (zaC BK101.out _) 5).trans rfl
    have hfz14_5 : ∀ cs : Array Value, (w8.alloc (Obj.cells cs 36)).frozen? ⟨gb101, 5, none⟩ = false := fun cs => zbE (zaC BK101.out _) 5
    have hnb : gb101 ≠ w8.heap.size := Nat.ne_of_lt (zbC BK101.out)
    have hnc : w8.heap.size ≠ gb101 := fun e => hnb e.symm
    have GE107 := zaJ (zdA HB.out)
    go_wp2
    refine bodyPost_ret (results_cell_row rfl _ _ gb101 36 #[.int .i64 (wrap64 (-((zaA y102 (ji3)).f0.f0))), .int .i64 (wrap64 (-((zaA y102 (ji3)).f0.f1))), .int .i64 0, .int .i64 (wrap64 (-((zaA y102 (ji3)).f1.f0))), .int .i64 (wrap64 (-((zaA y102 (ji3)).f1.f1))), .int .i64 0] (0, 0) _ rfl (by (with_reducible repeat (first | apply zaD | apply zaE | apply zaC)); refine zaL (cs := #[.int .i64 (wrap64 (-((zaA y102 (ji3)).f0.f0))), .int .i64 (wrap64 (-((zaA y102 (ji3)).f0.f1))), .int .i64 0, .int .i64 (wrap64 (-((zaA y102 (ji3)).f1.f0))), .int .i64 (wrap64 (-((zaA y102 (ji3)).f1.f1))), .int .i64 0]) ?_ 5 _ rfl; (with_reducible repeat (first | apply zaD | apply zaE | apply zaC)); refine zaL (cs := #[.int .i64 (wrap64 (-((zaA y102 (ji3)).f0.f0))), .int .i64 (wrap64 (-((zaA y102 (ji3)).f0.f1))), .int .i64 0, .int .i64 (wrap64 (-((zaA y102 (ji3)).f1.f0))), .int .i64 0, .int .i64 0]) ?_ 4 _ rfl; (with_reducible repeat (first | apply zaD | apply zaE | apply zaC)); refine zaL (cs := #[.int .i64 (wrap64 (-((zaA y102 (ji3)).f0.f0))), .int .i64 (wrap64 (-((zaA y102 (ji3)).f0.f1))), .int .i64 0, .int .i64 0, .int .i64 0, .int .i64 0]) ?_ 3 _ rfl; (with_reducible repeat (first | apply zaD | apply zaE | apply zaC)); refine zaL (cs := #[.int .i64 (wrap64 (-((zaA y102 (ji3)).f0.f0))), .int .i64 (wrap64 (-((zaA y102 (ji3)).f0.f1))), .int .i64 0, .int .i64 0, .int .i64 0, .int .i64 0]) ?_ 2 _ rfl; (with_reducible repeat (first | apply zaD | apply zaE | apply zaC)); refine zaL (cs := #[.int .i64 (wrap64 (-((zaA y102 (ji3)).f0.f0))), .int .i64 0, .int .i64 0, .int .i64 0, .int .i64 0, .int .i64 0]) ?_ 1 _ rfl; (with_reducible repeat (first | apply zaD | apply zaE | apply zaC)); refine zaL (cs := #[.int .i64 0, .int .i64 0, .int .i64 0, .int .i64 0, .int .i64 0, .int .i64 0]) ?_ 0 _ rfl; (with_reducible repeat (first | apply zaD | apply zaE | apply zaC)); exact BK101.out) Tryd.underlying36 rfl (by kernel_rfl)) rfl ?_
    exact ⟨by first | rfl | (simp [zaI, zaH] <;> rfl) | (simp only [← hji3]; first | rfl | (simp [zaI, zaH] <;> rfl)) | (simp [*, zaI, zaH] <;> rfl), bb_⟩
   ·rw [if_neg c6] at H
    have c6b0 : decide (8 ≤ t105) = false := decide_eq_false c6
    clear c6
    simp only [Option.some.injEq, Prod.mk.injEq] at H
    obtain ⟨rfl, rfl, rfl, rfl, rfl, rfl⟩ := H
    go_enter Tryd.func147, Tryd.ntmps147
    go_wp2_with (first | ((with_reducible refine zaQ (N := 2) rfl ?_); refine bx_ 2 #[.int .i64 0, .int .i64 0, .int .i64 0, .int .i64 0, .int .i64 0, .int .i64 0] 36 ?_; intro gb101 hg w7 hbox hb; have n0_ := (ns_ hb); have n1_ := zaJ (hbox); have n2_ := (ng_ hg); have n3_ := n2_; clear HB; have HB := n0_; have BK101 := n1_; have GW101 := n2_; have GE101 := n3_; clear n0_ n1_ n2_ n3_; clear hb hbox hg))
    refine (zdF.calls a0 t105 _ A2.out).mono ?_
    rintro e w' ⟨rfl, nd, rfl⟩
    have hC := Kd.C_drewN (lv8_C w7) nd
    have hB8 := zdQ (zdU HB.out (Obj.cells #[Value.int IntKind.i64 1, Value.int IntKind.i64 0, Value.int IntKind.i64 0, Value.int IntKind.i64 0, Value.int IntKind.i64 0, Value.int IntKind.i64 0, Value.int IntKind.i64 1, Value.int IntKind.i64 0, Value.int IntKind.i64 0, Value.int IntKind.i64 (-1), Value.int IntKind.i64 1, Value.int IntKind.i64 0, Value.int IntKind.i64 1, Value.int IntKind.i64 0, Value.int IntKind.i64 0, Value.int IntKind.i64 1, Value.int IntKind.i64 0, Value.int IntKind.i64 0, Value.int IntKind.i64 (-1), Value.int IntKind.i64 1, Value.int IntKind.i64 0, Value.int IntKind.i64 1, Value.int IntKind.i64 0, Value.int IntKind.i64 0, Value.int IntKind.i64 0, Value.int IntKind.i64 0, Value.int IntKind.i64 0, Value.int IntKind.i64 1, Value.int IntKind.i64 0, Value.int IntKind.i64 0, Value.int IntKind.i64 1, Value.int IntKind.i64 (-1), Value.int IntKind.i64 0, Value.int IntKind.i64 1, Value.int IntKind.i64 0, Value.int IntKind.i64 0, Value.int IntKind.i64 (-1), Value.int IntKind.i64 0, Value.int IntKind.i64 0, Value.int IntKind.i64 1, Value.int IntKind.i64 0, Value.int IntKind.i64 0, Value.int IntKind.i64 (-1), Value.int IntKind.i64 0, Value.int IntKind.i64 0, Value.int IntKind.i64 (-1), Value.int IntKind.i64 1, Value.int IntKind.i64 0] 36)) nd
    have hK8 := zaD (zaC BK101.out (Obj.cells #[Value.int IntKind.i64 1, Value.int IntKind.i64 0, Value.int IntKind.i64 0, Value.int IntKind.i64 0, Value.int IntKind.i64 0, Value.int IntKind.i64 0, Value.int IntKind.i64 1, Value.int IntKind.i64 0, Value.int IntKind.i64 0, Value.int IntKind.i64 (-1), Value.int IntKind.i64 1, Value.int IntKind.i64 0, Value.int IntKind.i64 1, Value.int IntKind.i64 0, Value.int IntKind.i64 0, Value.int IntKind.i64 1, Value.int IntKind.i64 0, Value.int IntKind.i64 0, Value.int IntKind.i64 (-1), Value.int IntKind.i64 1, Value.int IntKind.i64 0, Value.int IntKind.i64 1, Value.int IntKind.i64 0, Value.int IntKind.i64 0, Value.int IntKind.i64 0, Value.int IntKind.i64 0, Value.int IntKind.i64 0, Value.int IntKind.i64 1, Value.int IntKind.i64 0, Value.int IntKind.i64 0, Value.int IntKind.i64 1, Value.int IntKind.i64 (-1), Value.int IntKind.i64 0, Value.int IntKind.i64 1, Value.int IntKind.i64 0, Value.int IntKind.i64 0, Value.int IntKind.i64 (-1), Value.int IntKind.i64 0, Value.int IntKind.i64 0, Value.int IntKind.i64 1, Value.int IntKind.i64 0, Value.int IntKind.i64 0, Value.int IntKind.i64 (-1), Value.int IntKind.i64 0, Value.int IntKind.i64 0, Value.int IntKind.i64 (-1), Value.int IntKind.i64 1, Value.int IntKind.i64 0] 36)) nd
    generalize Value.agg #[Value.int IntKind.i64 1, Value.int IntKind.i64 0, Value.int IntKind.i64 0, Value.int IntKind.i64 0, Value.int IntKind.i64 0, Value.int IntKind.i64 0] = dd0
    generalize Value.agg #[Value.int IntKind.i64 1, Value.int IntKind.i64 0, Value.int IntKind.i64 0, Value.int IntKind.i64 (-1), Value.int IntKind.i64 1, Value.int IntKind.i64 0] = dd1
    generalize Value.agg #[Value.int IntKind.i64 1, Value.int IntKind.i64 0, Value.int IntKind.i64 0, Value.int IntKind.i64 1, Value.int IntKind.i64 0, Value.int IntKind.i64 0] = dd2
    generalize Value.agg #[Value.int IntKind.i64 (-1), Value.int IntKind.i64 1, Value.int IntKind.i64 0, Value.int IntKind.i64 1, Value.int IntKind.i64 0, Value.int IntKind.i64 0] = dd3
    generalize Value.agg #[Value.int IntKind.i64 0, Value.int IntKind.i64 0, Value.int IntKind.i64 0, Value.int IntKind.i64 1, Value.int IntKind.i64 0, Value.int IntKind.i64 0] = dd4
    generalize Value.agg #[Value.int IntKind.i64 1, Value.int IntKind.i64 (-1), Value.int IntKind.i64 0, Value.int IntKind.i64 1, Value.int IntKind.i64 0, Value.int IntKind.i64 0] = dd5
    generalize Value.agg #[Value.int IntKind.i64 (-1), Value.int IntKind.i64 0, Value.int IntKind.i64 0, Value.int IntKind.i64 1, Value.int IntKind.i64 0, Value.int IntKind.i64 0] = dd6
    generalize Value.agg #[Value.int IntKind.i64 (-1), Value.int IntKind.i64 0, Value.int IntKind.i64 0, Value.int IntKind.i64 (-1), Value.int IntKind.i64 1, Value.int IntKind.i64 0] = dd7
    generalize Value.agg #[Value.int IntKind.i64 1, Value.int IntKind.i64 0, Value.int IntKind.i64 0] = dd8
    generalize Value.agg #[Value.int IntKind.i64 (-1), Value.int IntKind.i64 1, Value.int IntKind.i64 0] = dd9
    generalize Value.agg #[Value.int IntKind.i64 1, Value.int IntKind.i64 (-1), Value.int IntKind.i64 0] = dd10
    generalize Value.agg #[Value.int IntKind.i64 (-1), Value.int IntKind.i64 0, Value.int IntKind.i64 0] = dd11
    clear HB BK101
    generalize World.drewN (w7.alloc (Obj.cells #[Value.int IntKind.i64 1, Value.int IntKind.i64 0, Value.int IntKind.i64 0, Value.int IntKind.i64 0, Value.int IntKind.i64 0, Value.int IntKind.i64 0, Value.int IntKind.i64 1, Value.int IntKind.i64 0, Value.int IntKind.i64 0, Value.int IntKind.i64 (-1), Value.int IntKind.i64 1, Value.int IntKind.i64 0, Value.int IntKind.i64 1, Value.int IntKind.i64 0, Value.int IntKind.i64 0, Value.int IntKind.i64 1, Value.int IntKind.i64 0, Value.int IntKind.i64 0, Value.int IntKind.i64 (-1), Value.int IntKind.i64 1, Value.int IntKind.i64 0, Value.int IntKind.i64 1, Value.int IntKind.i64 0, Value.int IntKind.i64 0, Value.int IntKind.i64 0, Value.int IntKind.i64 0, Value.int IntKind.i64 0, Value.int IntKind.i64 1, Value.int IntKind.i64 0, Value.int IntKind.i64 0, Value.int IntKind.i64 1, Value.int IntKind.i64 (-1), Value.int IntKind.i64 0, Value.int IntKind.i64 1, Value.int IntKind.i64 0, Value.int IntKind.i64 0, Value.int IntKind.i64 (-1), Value.int IntKind.i64 0, Value.int IntKind.i64 0, Value.int IntKind.i64 1, Value.int IntKind.i64 0, Value.int IntKind.i64 0, Value.int IntKind.i64 (-1), Value.int IntKind.i64 0, Value.int IntKind.i64 0, Value.int IntKind.i64 (-1), Value.int IntKind.i64 1, Value.int IntKind.i64 0] 36)) nd = w8 at hC hB8 hK8 ⊢
    generalize w7.heap.size = gs at hC ⊢
    have HB := zaJ hB8
    have BK101 := zaJ hK8
    clear hB8 hK8
    rw [show lv8 = y102 from Ny102.out.symm] at hC
    have p106 : 0 ≤ ((ji3) : Int) := of_decide_eq_true (by first | (with_reducible assumption) | assumption)
    have q106 : (ji3) < (y102.length : Int) := of_decide_eq_true (by first | (with_reducible assumption) | assumption)
    have q106' : (ji3) < ((8 : Nat) : Int) := by rw [← hC.1]; exact q106
    obtain ⟨ad106, e106, hx106_0, hx106_1, hx106_2, hx106_3, hx106_4, hx106_5⟩ := zdN hC (ji3) p106 q106'
    obtain rfl : (⟨gs, 0, none⟩ : Addr) = ad106 := (by injection e106)
    first | simp only [zdE] at hx106_0 hx106_1 hx106_2 hx106_3 hx106_4 hx106_5 | simp only [add_at] at hx106_0 hx106_1 hx106_2 hx106_3 hx106_4 hx106_5 | simp only [Addr.add, Nat.zero_add] at hx106_0 hx106_1 hx106_2 hx106_3 hx106_4 hx106_5 | skip
    replace p106 := eq_true p106
    replace q106' := eq_true q106'
    have q106'' : (ji3 < 8) = True := q106'
    have hcz14_0 : ∀ cs : Array Value, (w8.alloc (Obj.cells cs 36)).cell? ⟨gb101, 0, none⟩ = some (.int .i64 0) := fun cs => (zaB (zaC BK101.out _) 0).trans rfl
    have hfz14_0 : ∀ cs : Array Value, (w8.alloc (Obj.cells cs 36)).frozen? ⟨gb101, 0, none⟩ = false := fun cs => zbE (zaC BK101.out _) 0
    have hcz14_1 : ∀ cs : Array Value, (w8.alloc (Obj.cells cs 36)).cell? ⟨gb101, 1, none⟩ = some (.int .i64 0) := fun cs => (zaB (zaC BK101.out _) 1).trans rfl
    have hfz14_1 : ∀ cs : Array Value, (w8.alloc (Obj.cells cs 36)).frozen? ⟨gb101, 1, none⟩ = false := fun cs => zbE (zaC BK101.out _) 1
    have hcz14_2 : ∀ cs : Array Value, (w8.alloc (Obj.cells cs 36)).cell? ⟨gb101, 2, none⟩ = some (.int .i64 0) := fun cs => (zaB (zaC BK101.out _) 2).trans rfl
    have hfz14_2 : ∀ cs : Array Value, (w8.alloc (Obj.cells cs 36)).frozen? ⟨gb101, 2, none⟩ = false := fun cs => zbE (zaC BK101.out _) 2
    have hcz14_3 : ∀ cs : Array Value, (w8.alloc (Obj.cells cs 36)).cell? ⟨gb101, 3, none⟩ = some (.int .i64 0) := fun cs => (zaB (zaC BK101.out _) 3).trans rfl
    have hfz14_3 : ∀ cs : Array Value, (w8.alloc (Obj.cells cs 36)).frozen? ⟨gb101, 3, none⟩ = false := fun cs => zbE (zaC BK101.out _) 3
    have hcz14_4 : ∀ cs : Array Value, (w8.alloc (Obj.cells cs 36)).cell? ⟨gb101, 4, none⟩ = some (.int .i64 0) := fun cs => (zaB (zaC BK101.out _) 4).trans rfl
    have hfz14_4 : ∀ cs : Array Value, (w8.alloc (Obj.cells cs 36)).frozen? ⟨gb101, 4, none⟩ = false := fun cs => zbE (zaC BK101.out _) 4
    have hcz14_5 : ∀ cs : Array Value, (w8.alloc (Obj.cells cs 36)).cell? ⟨gb101, 5, none⟩ = some (.int .i64 0) := fun cs => (zaB (zaC BK101.out _) 5).trans rfl
    have hfz14_5 : ∀ cs : Array Value, (w8.alloc (Obj.cells cs 36)).frozen? ⟨gb101, 5, none⟩ = false := fun cs => zbE (zaC BK101.out _) 5
    have hnb : gb101 ≠ w8.heap.size := Nat.ne_of_lt (zbC BK101.out)
    have hnc : w8.heap.size ≠ gb101 := fun e => hnb e.symm
    have GE107 := zaJ (zdA HB.out)
    go_wp2
    refine bodyPost_ret (results_cell_row rfl _ _ gb101 36 #[.int .i64 ((zaA y102 (ji3)).f0.f0), .int .i64 ((zaA y102 (ji3)).f0.f1), .int .i64 ((zaA y102 (ji3)).f0.f2), .int .i64 ((zaA y102 (ji3)).f1.f0), .int .i64 ((zaA y102 (ji3)).f1.f1), .int .i64 ((zaA y102 (ji3)).f1.f2)] (0, 0) _ rfl (by (with_reducible repeat (first | apply zaD | apply zaE | apply zaC)); refine zaL (cs := #[.int .i64 ((zaA y102 (ji3)).f0.f0), .int .i64 ((zaA y102 (ji3)).f0.f1), .int .i64 ((zaA y102 (ji3)).f0.f2), .int .i64 ((zaA y102 (ji3)).f1.f0), .int .i64 ((zaA y102 (ji3)).f1.f1), .int .i64 0]) ?_ 5 _ rfl; (with_reducible repeat (first | apply zaD | apply zaE | apply zaC)); refine zaL (cs := #[.int .i64 ((zaA y102 (ji3)).f0.f0), .int .i64 ((zaA y102 (ji3)).f0.f1), .int .i64 ((zaA y102 (ji3)).f0.f2), .int .i64 ((zaA y102 (ji3)).f1.f0), .int .i64 0, .int .i64 0]) ?_ 4 _ rfl; (with_reducible repeat (first | apply zaD | apply zaE | apply zaC)); refine zaL (cs := #[.int .i64 ((zaA y102 (ji3)).f0.f0), .int .i64 ((zaA y102 (ji3)).f0.f1), .int .i64 ((zaA y102 (ji3)).f0.f2), .int .i64 0, .int .i64 0, .int .i64 0]) ?_ 3 _ rfl; (with_reducible repeat (first | apply zaD | apply zaE | apply zaC)); refine zaL (cs := #[.int .i64 ((zaA y102 (ji3)).f0.f0), .int .i64 ((zaA y102 (ji3)).f0.f1), .int .i64 0, .int .i64 0, .int .i64 0, .int .i64 0]) ?_ 2 _ rfl; (with_reducible repeat (first | apply zaD | apply zaE | apply zaC)); refine zaL (cs := #[.int .i64 ((zaA y102 (ji3)).f0.f0), .int .i64 0, .int .i64 0, .int .i64 0, .int .i64 0, .int .i64 0]) ?_ 1 _ rfl; (with_reducible repeat (first | apply zaD | apply zaE | apply zaC)); refine zaL (cs := #[.int .i64 0, .int .i64 0, .int .i64 0, .int .i64 0, .int .i64 0, .int .i64 0]) ?_ 0 _ rfl; (with_reducible repeat (first | apply zaD | apply zaE | apply zaC)); exact BK101.out) Tryd.underlying36 rfl (by kernel_rfl)) rfl ?_
    exact ⟨by first | rfl | (simp [zaI, zaH] <;> rfl) | (simp only [← hji3]; first | rfl | (simp [zaI, zaH] <;> rfl)) | (simp [*, zaI, zaH] <;> rfl), bb_⟩
  ·rw [if_neg c5] at H
   exact absurd H (by simp)
 ·rw [if_neg c4] at H
  exact absurd H (by simp)

mutual
def zbK.j0 : Nat → Bool → Int → Int → Int → Option (Int × Int × Int)
 | 0, _, _, _, _ => none
 | k + 1, x10, x170000, x170001, x170002 => if x10 = true then (some (0, 0, 0)) else (zbK.l0 k x170000 x170001 x170002)
def zbK.l0 : Nat → Int → Int → Int → Option (Int × Int × Int)
 | 0, _, _, _ => none
 | k + 1, x170000, x170001, x170002 => if x170002 > 0 then (if (Int.tmod x170000 2) = 0 then (if (Int.tmod x170001 2) = 0 then (zbK.l0 k (wrap64 (Int.tdiv x170000 2)) (wrap64 (Int.tdiv x170001 2)) (wrap64 (x170002 - 1))) else (some (x170000, x170001, x170002))) else (some (x170000, x170001, x170002))) else (some (x170000, x170001, x170002))
end
def zbK.f (k : Nat) (a0_0 : Int) (a0_1 : Int) (a0_2 : Int) : Option (Int × Int × Int) := if a0_0 = 0 then (zbK.j0 k (a0_1 == 0) a0_0 a0_1 a0_2) else (zbK.j0 k false a0_0 a0_1 a0_2)
theorem zbK.mono_l : ∀ k, (∀ y0 y1 y2 y3, LeO (zbK.j0 k y0 y1 y2 y3) (zbK.j0 (k + 1) y0 y1 y2 y3)) ∧ (∀ y0 y1 y2, LeO (zbK.l0 k y0 y1 y2) (zbK.l0 (k + 1) y0 y1 y2))
 | 0 => ⟨fun _ _ _ _ r h => by simp [zbK.j0] at h, fun _ _ _ r h => by simp [zbK.l0] at h⟩
 | k + 1 => by
  obtain ⟨ih0, ih1⟩ := zbK.mono_l k
  refine ⟨?_, ?_⟩
  ·intro y0 y1 y2 y3
   unfold zbK.j0
   repeat' first
   | (with_reducible exact ih0 _ _ _ _)
   | (with_reducible exact ih1 _ _ _)
   | (with_reducible exact LeO.refl _)
   | (with_reducible exact LeO.none _)
   | (with_reducible refine LeO.ite ?_ ?_)
   | (with_reducible refine LeO.bind ?_ (fun _ => ?_))
   | exact ih0 _ _ _ _
   | exact ih1 _ _ _
   | exact LeO.none _
   | refine LeO.ite ?_ ?_
   | refine LeO.bind ?_ (fun _ => ?_)
  ·intro y0 y1 y2
   unfold zbK.l0
   repeat' first
   | (with_reducible exact ih0 _ _ _ _)
   | (with_reducible exact ih1 _ _ _)
   | (with_reducible exact LeO.refl _)
   | (with_reducible exact LeO.none _)
   | (with_reducible refine LeO.ite ?_ ?_)
   | (with_reducible refine LeO.bind ?_ (fun _ => ?_))
   | exact ih0 _ _ _ _
   | exact ih1 _ _ _
   | exact LeO.none _
   | refine LeO.ite ?_ ?_
   | refine LeO.bind ?_ (fun _ => ?_)
theorem zbK.mono : ∀ a0 a1 a2 k, LeO (zbK.f k a0 a1 a2) (zbK.f (k + 1) a0 a1 a2) := by
 intro a0 a1 a2 k
 obtain ⟨ih0, ih1⟩ := zbK.mono_l k
 unfold zbK.f
 repeat' first
   | (with_reducible exact ih0 _ _ _ _)
   | (with_reducible exact ih1 _ _ _)
   | (with_reducible exact LeO.refl _)
   | (with_reducible exact LeO.none _)
   | (with_reducible refine LeO.ite ?_ ?_)
   | (with_reducible refine LeO.bind ?_ (fun _ => ?_))
   | exact ih0 _ _ _ _
   | exact ih1 _ _ _
   | exact LeO.none _
   | refine LeO.ite ?_ ?_
   | refine LeO.bind ?_ (fun _ => ?_)
set_option maxHeartbeats 8000000 in
set_option maxRecDepth 100000 in
theorem zbK.calls (k : Nat) (a0_0 : Int) (a0_1 : Int) (a0_2 : Int) (r1 : Int) (r2 : Int) (r3 : Int) (w : World) (h : zbK.f k a0_0 a0_1 a0_2 = some (r1, r2, r3)) :
  Calls Tryd.prog 174 #[.agg #[.int .i64 a0_0, .int .i64 a0_1, .int .i64 a0_2]] w fun e w' => e = .returned (.agg #[.int .i64 r1, .int .i64 r2, .int .i64 r3]) ∧ Below w.heap.size w w' := by
 have hu92 := Tryd.underlying92
 have HB := zaJ (Below.refl w.heap.size w)
 have H : (if a0_0 = 0 then (zbK.j0 k (a0_1 == 0) a0_0 a0_1 a0_2) else (zbK.j0 k false a0_0 a0_1 a0_2)) = some (r1, r2, r3) := h
 clear h
 have HC2 := zaJ H
 clear H
 go_enter Tryd.func174, Tryd.ntmps174
 go_upto_region 1 with (first | ((with_reducible refine zaQ (N := 1) rfl ?_); refine bx_ 1 #[.int .i64 a0_0, .int .i64 a0_1, .int .i64 a0_2] 92 ?_; intro gb169 hg w3 hbox hb; have n0_ := (ns_ hb); have n1_ := zaJ (hbox); have n2_ := (ng_ hg); have n3_ := n2_; clear HB; have HB := n0_; have BK169 := n1_; have GW169 := n2_; have GE169 := n3_; clear n0_ n1_ n2_ n3_; clear hb hbox hg) | ((with_reducible refine zaQ (N := 2) rfl ?_); refine bx_ 2 #[.int .i64 0, .int .i64 0, .int .i64 0] 92 ?_; intro gb170 hg w4 hbox hb; have n0_ := zaJ (zaG (g := gb169) (o := .cells #[.int .i64 a0_0, .int .i64 a0_1, .int .i64 a0_2] 92 (0, 0)) bk_ hb); have n1_ := (ns_ hb); have n2_ := zaJ (hbox); have n3_ := (ng_ hg); have n4_ := n3_; have n5_ := zaJ ((by rw [hg]; exact Nat.ne_of_lt (zbC (g := gb169) (o := .cells #[.int .i64 a0_0, .int .i64 a0_1, .int .i64 a0_2] 92 (0, 0)) bk_) : gb169 ≠ gb170)); have n6_ := zaJ ((by rw [hg]; exact Nat.ne_of_gt (zbC (g := gb169) (o := .cells #[.int .i64 a0_0, .int .i64 a0_1, .int .i64 a0_2] 92 (0, 0)) bk_) : gb170 ≠ gb169)); clear BK169; clear HB; have BK169 := n0_; have HB := n1_; have BK170 := n2_; have GW170 := n3_; have GE170 := n4_; have NB169_170 := n5_; have NB170_169 := n6_; clear n0_ n1_ n2_ n3_ n4_ n5_ n6_; clear hb hbox hg))
 (try simp only [Act.put, set_a_, set_b_, set_c_])
 go_cut [10] (fun v10 wc => ∃ (kq : Nat) (x10_1 : Bool), v10 = .bool x10_1 ∧ Aside0 (zbK.j0 kq x10_1 a0_0 a0_1 a0_2 = some (r1, r2, r3)) ∧ Aside0 (kq ≤ k) ∧ Aside0 (wc.heap[gb169]? = some (.cells #[.int .i64 a0_0, .int .i64 a0_1, .int .i64 a0_2] 92 (0, 0))) ∧ Aside0 (wc.heap[gb170]? = some (.cells #[.int .i64 0, .int .i64 0, .int .i64 0] 92 (0, 0))) ∧ Aside0 (Below w.heap.size w wc))
 case first =>
  have H := HC2.out
  clear HC2
  by_cases c5 : a0_0 = 0
  ·rw [if_pos c5] at H
   have c5b0 : (a0_0 == 0) = true := beq_iff_eq.mpr c5
   have c5b1 : (a0_0 != 0) = false := bne_eq_false_iff_eq.mpr c5
   clear c5
   (first | rw [c5b0] | (simp only [zbW, zbY]; rw [c5b0]) | skip)
   have H' := zaJ H
   clear H
   have hnb6 := NB169_170.out
   have hnc6 := NB170_169.out
   obtain ⟨hcz7_0, hcz7_1, hcz7_2⟩ := zeI BK169.out
   obtain ⟨hfz7_0, hfz7_1, hfz7_2⟩ := zeH BK169.out
   go_wp2
   go_meet
   case rel => exact ⟨_, ((a0_1 == 0)), (by first | rfl | (simp; done) | (simp [*]; done)), H', ⟨by first | omega | exact Nat.le_refl _⟩, ⟨bk_⟩, ⟨bk_⟩, ⟨bb_⟩⟩
  ·rw [if_neg c5] at H
   have c5b0 : (a0_0 == 0) = false := beq_eq_false_iff_ne.mpr c5
   have c5b1 : (a0_0 != 0) = true := bne_iff_ne.mpr c5
   (first | rw [c5b0] | (simp only [zbW, zbY]; rw [c5b0]) | skip)
   have H' := zaJ H
   clear H
   have hnb8 := NB169_170.out
   have hnc8 := NB170_169.out
   obtain ⟨hcz9_0, hcz9_1, hcz9_2⟩ := zeI BK169.out
   obtain ⟨hfz9_0, hfz9_1, hfz9_2⟩ := zeH BK169.out
   go_wp2
   go_meet
   case rel => exact ⟨_, (false), (by first | rfl | (simp; done) | (simp [*]; done)), H', ⟨by first | omega | exact Nat.le_refl _⟩, ⟨bk_⟩, ⟨bk_⟩, ⟨bb_⟩⟩
 case rest =>
  clear HC2
  try clear c1
  try clear p2
  try clear c5
  try clear c5b0
  try clear c5b1
  try clear c6
  try clear c8
  try clear hcz7_0
  try clear hcz7_1
  try clear hcz7_2
  try clear hcz9_0
  try clear hcz9_1
  try clear hcz9_2
  try clear hfz7_0
  try clear hfz7_1
  try clear hfz7_2
  try clear hfz9_0
  try clear hfz9_1
  try clear hfz9_2
  obtain ⟨kq, x10_1, rfl, HA, HJ1, BK169, BK170, HB⟩ := hcut
  cases kq with
  | zero => exact absurd HA.out (by simp [zbK.j0])
  | succ kj1 =>
   have H := HA.out
   clear HA
   simp only [zbK.j0] at H
   by_cases c10 : x10_1 = true
   ·subst c10
    have H1 : (some (0, 0, 0)) = some (r1, r2, r3) := by rw [if_pos rfl] at H; exact H
    clear H
    have H := H1
    clear H1
    simp only [Option.some.injEq, Prod.mk.injEq] at H
    obtain ⟨rfl, rfl, rfl⟩ := H
    have hnb11 := NB170_169.out
    have hnc11 := NB169_170.out
    obtain ⟨hcz12_0, hcz12_1, hcz12_2⟩ := zeI BK170.out
    obtain ⟨hfz12_0, hfz12_1, hfz12_2⟩ := zeH BK170.out
    go_wp2
    refine bodyPost_ret (results_cell_row rfl _ _ gb170 92 #[.int .i64 0, .int .i64 0, .int .i64 0] (0, 0) _ rfl (by (with_reducible repeat (first | apply zaD | apply zaE | apply zaC)); refine zaL (cs := #[.int .i64 0, .int .i64 0, .int .i64 0]) ?_ 2 _ rfl; (with_reducible repeat (first | apply zaD | apply zaE | apply zaC)); refine zaL (cs := #[.int .i64 0, .int .i64 0, .int .i64 0]) ?_ 1 _ rfl; (with_reducible repeat (first | apply zaD | apply zaE | apply zaC)); refine zaL (cs := #[.int .i64 0, .int .i64 0, .int .i64 0]) ?_ 0 _ rfl; (with_reducible repeat (first | apply zaD | apply zaE | apply zaC)); exact BK170.out) Tryd.underlying92 rfl (by kernel_rfl)) rfl ?_
    exact ⟨by first | rfl | (simp [zaI, zaH] <;> rfl) | (simp [*, zaI, zaH] <;> rfl), bb_⟩
   ·replace c10 := Bool.eq_false_iff.mpr c10
    subst c10
    have H1 : (zbK.l0 kj1 a0_0 a0_1 a0_2) = some (r1, r2, r3) := by rw [if_neg (show ¬ (false = true) by decide)] at H; exact H
    clear H
    have H := H1
    clear H1
    have H' := zaJ H
    clear H
    go_wp2
    (try go_simp)
    go_loopg [] kj1 (fun kq w' => ∃ (x170000_2 : Int) (x170001_2 : Int) (x170002_2 : Int), Aside0 (zbK.l0 kq x170000_2 x170001_2 x170002_2 = some (r1, r2, r3)) ∧ Aside0 (kq ≤ kj1) ∧ Aside0 (w'.heap[gb169]? = some (.cells #[.int .i64 x170000_2, .int .i64 x170001_2, .int .i64 x170002_2] 92 (0, 0))) ∧ Aside0 (w'.heap[gb170]? = some (.cells #[.int .i64 0, .int .i64 0, .int .i64 0] 92 (0, 0))) ∧ Aside0 (Below w.heap.size w w'))
    case atStart => exact ⟨(a0_0), (a0_1), (a0_2), H', ⟨Nat.le_refl _⟩, ⟨bk_⟩, ⟨bk_⟩, ⟨bb_⟩⟩
    case round =>
     clear H'
     try clear c1
     try clear p2
     try clear c5
     try clear c5b0
     try clear c5b1
     try clear c6
     try clear c8
     try clear c10
     try clear c11
     try clear hcz12_0
     try clear hcz12_1
     try clear hcz12_2
     try clear hcz7_0
     try clear hcz7_1
     try clear hcz7_2
     try clear hcz9_0
     try clear hcz9_1
     try clear hcz9_2
     try clear hfz12_0
     try clear hfz12_1
     try clear hfz12_2
     try clear hfz7_0
     try clear hfz7_1
     try clear hfz7_2
     try clear hfz9_0
     try clear hfz9_1
     try clear hfz9_2
     try clear p2
     obtain ⟨x170000_2, x170001_2, x170002_2, HA, HK2, BK169, BK170, HB⟩ := hrel
     cases gk with
     | zero => exact absurd HA.out (by simp [zbK.l0])
     | succ k2 =>
      have H := HA.out
      clear HA
      simp only [zbK.l0] at H
      by_cases c13 : x170002_2 > 0
      ·rw [if_pos c13] at H
       have c13b0 : decide (0 < x170002_2) = true := decide_eq_true c13
       clear c13
       by_cases c14 : (Int.tmod x170000_2 2) = 0
       ·rw [if_pos c14] at H
        have c14b0 : ((Int.tmod x170000_2 2) == 0) = true := beq_iff_eq.mpr c14
        have c14b1 : ((Int.tmod x170000_2 2) != 0) = false := bne_eq_false_iff_eq.mpr c14
        clear c14
        by_cases c15 : (Int.tmod x170001_2 2) = 0
        ·rw [if_pos c15] at H
         have c15b0 : ((Int.tmod x170001_2 2) == 0) = true := beq_iff_eq.mpr c15
         have c15b1 : ((Int.tmod x170001_2 2) != 0) = false := bne_eq_false_iff_eq.mpr c15
         clear c15
         have H' := zaJ H
         clear H
         have hnb16 := NB169_170.out
         have hnc16 := NB170_169.out
         obtain ⟨hcz17_0, hcz17_1, hcz17_2⟩ := zeI BK169.out
         obtain ⟨hfz17_0, hfz17_1, hfz17_2⟩ := zeH BK169.out
         go_wp2
         go_roundg k2
         case measure => have := HJ1.out; have := HK2.out; omega
         case rel => exact ⟨(wrap64 (Int.tdiv x170000_2 2)), (wrap64 (Int.tdiv x170001_2 2)), (wrap64 (x170002_2 - 1)), H', ⟨by have := HJ1.out; have := HK2.out; omega⟩, ⟨by (with_reducible repeat (first | apply zaD | apply zaE | apply zaC)); refine zaL (cs := #[.int .i64 (wrap64 (Int.tdiv x170000_2 2)), .int .i64 (wrap64 (Int.tdiv x170001_2 2)), .int .i64 x170002_2]) ?_ 2 _ rfl; (with_reducible repeat (first | apply zaD | apply zaE | apply zaC)); refine zaL (cs := #[.int .i64 (wrap64 (Int.tdiv x170000_2 2)), .int .i64 x170001_2, .int .i64 x170002_2]) ?_ 1 _ rfl; (with_reducible repeat (first | apply zaD | apply zaE | apply zaC)); refine zaL (cs := #[.int .i64 x170000_2, .int .i64 x170001_2, .int .i64 x170002_2]) ?_ 0 _ rfl; (with_reducible repeat (first | apply zaD | apply zaE | apply zaC)); exact BK169.out⟩, ⟨by (with_reducible repeat (first | apply zaD | apply zaE | apply zaC)); refine zbA ?_ NB170_169.out _; (with_reducible repeat (first | apply zaD | apply zaE | apply zaC)); refine zbA ?_ NB170_169.out _; (with_reducible repeat (first | apply zaD | apply zaE | apply zaC)); refine zbA ?_ NB170_169.out _; (with_reducible repeat (first | apply zaD | apply zaE | apply zaC)); exact BK170.out⟩, ⟨bb_⟩⟩
        ·rw [if_neg c15] at H
         have c15b0 : ((Int.tmod x170001_2 2) == 0) = false := beq_eq_false_iff_ne.mpr c15
         have c15b1 : ((Int.tmod x170001_2 2) != 0) = true := bne_iff_ne.mpr c15
         simp only [Option.some.injEq, Prod.mk.injEq] at H
         obtain ⟨rfl, rfl, rfl⟩ := H
         have hnb18 := NB169_170.out
         have hnc18 := NB170_169.out
         obtain ⟨hcz19_0, hcz19_1, hcz19_2⟩ := zeI BK169.out
         obtain ⟨hfz19_0, hfz19_1, hfz19_2⟩ := zeH BK169.out
         obtain ⟨hcz20_0, hcz20_1, hcz20_2⟩ := zeI BK170.out
         obtain ⟨hfz20_0, hfz20_1, hfz20_2⟩ := zeH BK170.out
         go_wp2
         refine bodyPost_ret (results_cell_row rfl _ _ gb170 92 #[.int .i64 x170000_2, .int .i64 x170001_2, .int .i64 x170002_2] (0, 0) _ rfl (by (with_reducible repeat (first | apply zaD | apply zaE | apply zaC)); refine zaL (cs := #[.int .i64 x170000_2, .int .i64 x170001_2, .int .i64 0]) ?_ 2 _ rfl; (with_reducible repeat (first | apply zaD | apply zaE | apply zaC)); refine zaL (cs := #[.int .i64 x170000_2, .int .i64 0, .int .i64 0]) ?_ 1 _ rfl; (with_reducible repeat (first | apply zaD | apply zaE | apply zaC)); refine zaL (cs := #[.int .i64 0, .int .i64 0, .int .i64 0]) ?_ 0 _ rfl; (with_reducible repeat (first | apply zaD | apply zaE | apply zaC)); exact BK170.out) Tryd.underlying92 rfl (by kernel_rfl)) rfl ?_
         exact ⟨by first | rfl | (simp [zaI, zaH] <;> rfl) | (simp [*, zaI, zaH] <;> rfl), bb_⟩
       ·rw [if_neg c14] at H
        have c14b0 : ((Int.tmod x170000_2 2) == 0) = false := beq_eq_false_iff_ne.mpr c14
        have c14b1 : ((Int.tmod x170000_2 2) != 0) = true := bne_iff_ne.mpr c14
        simp only [Option.some.injEq, Prod.mk.injEq] at H
        obtain ⟨rfl, rfl, rfl⟩ := H
        have hnb21 := NB169_170.out
        have hnc21 := NB170_169.out
        obtain ⟨hcz22_0, hcz22_1, hcz22_2⟩ := zeI BK169.out
        obtain ⟨hfz22_0, hfz22_1, hfz22_2⟩ := zeH BK169.out
        obtain ⟨hcz23_0, hcz23_1, hcz23_2⟩ := zeI BK170.out
        obtain ⟨hfz23_0, hfz23_1, hfz23_2⟩ := zeH BK170.out
        go_wp2
        refine bodyPost_ret (results_cell_row rfl _ _ gb170 92 #[.int .i64 x170000_2, .int .i64 x170001_2, .int .i64 x170002_2] (0, 0) _ rfl (by (with_reducible repeat (first | apply zaD | apply zaE | apply zaC)); refine zaL (cs := #[.int .i64 x170000_2, .int .i64 x170001_2, .int .i64 0]) ?_ 2 _ rfl; (with_reducible repeat (first | apply zaD | apply zaE | apply zaC)); refine zaL (cs := #[.int .i64 x170000_2, .int .i64 0, .int .i64 0]) ?_ 1 _ rfl; (with_reducible repeat (first | apply zaD | apply zaE | apply zaC)); refine zaL (cs := #[.int .i64 0, .int .i64 0, .int .i64 0]) ?_ 0 _ rfl; (with_reducible repeat (first | apply zaD | apply zaE | apply zaC)); exact BK170.out) Tryd.underlying92 rfl (by kernel_rfl)) rfl ?_
        exact ⟨by first | rfl | (simp [zaI, zaH] <;> rfl) | (simp [*, zaI, zaH] <;> rfl), bb_⟩
      ·rw [if_neg c13] at H
       have c13b0 : decide (0 < x170002_2) = false := decide_eq_false c13
       clear c13
       simp only [Option.some.injEq, Prod.mk.injEq] at H
       obtain ⟨rfl, rfl, rfl⟩ := H
       have hnb24 := NB169_170.out
       have hnc24 := NB170_169.out
       obtain ⟨hcz25_0, hcz25_1, hcz25_2⟩ := zeI BK169.out
       obtain ⟨hfz25_0, hfz25_1, hfz25_2⟩ := zeH BK169.out
       obtain ⟨hcz26_0, hcz26_1, hcz26_2⟩ := zeI BK170.out
       obtain ⟨hfz26_0, hfz26_1, hfz26_2⟩ := zeH BK170.out
       go_wp2
       refine bodyPost_ret (results_cell_row rfl _ _ gb170 92 #[.int .i64 x170000_2, .int .i64 x170001_2, .int .i64 x170002_2] (0, 0) _ rfl (by (with_reducible repeat (first | apply zaD | apply zaE | apply zaC)); refine zaL (cs := #[.int .i64 x170000_2, .int .i64 x170001_2, .int .i64 0]) ?_ 2 _ rfl; (with_reducible repeat (first | apply zaD | apply zaE | apply zaC)); refine zaL (cs := #[.int .i64 x170000_2, .int .i64 0, .int .i64 0]) ?_ 1 _ rfl; (with_reducible repeat (first | apply zaD | apply zaE | apply zaC)); refine zaL (cs := #[.int .i64 0, .int .i64 0, .int .i64 0]) ?_ 0 _ rfl; (with_reducible repeat (first | apply zaD | apply zaE | apply zaC)); exact BK170.out) Tryd.underlying92 rfl (by kernel_rfl)) rfl ?_
       exact ⟨by first | rfl | (simp [zaI, zaH] <;> rfl) | (simp [*, zaI, zaH] <;> rfl), bb_⟩

mutual
def zbH.l0 : Nat → Int → Int → Int → Int → Int → Int → Option (Int × Int × Int)
 | 0, _, _, _, _, _, _ => none
 | k + 1, x172000, x172001, x172002, x173000, x173001, x173002 => if x172002 < x173002 then (zbH.l0 k (wrap64 (x172000 * 2)) (wrap64 (x172001 * 2)) (wrap64 (x172002 + 1)) x173000 x173001 x173002) else (zbH.l1 k x172000 x172001 x172002 x173000 x173001 x173002)
def zbH.l1 : Nat → Int → Int → Int → Int → Int → Int → Option (Int × Int × Int)
 | 0, _, _, _, _, _, _ => none
 | k + 1, x172000, x172001, x172002, x173000, x173001, x173002 => if x173002 < x172002 then (zbH.l1 k x172000 x172001 x172002 (wrap64 (x173000 * 2)) (wrap64 (x173001 * 2)) (wrap64 (x173002 + 1))) else ((zbK.f k (wrap64 (x172000 + x173000)) (wrap64 (x172001 + x173001)) x172002).bind fun bt174 => (some (bt174.1, bt174.2.1, bt174.2.2)))
end
def zbH.f (k : Nat) (a0_0 : Int) (a0_1 : Int) (a0_2 : Int) (a1_0 : Int) (a1_1 : Int) (a1_2 : Int) : Option (Int × Int × Int) := zbH.l0 k a0_0 a0_1 a0_2 a1_0 a1_1 a1_2
theorem zbH.mono_l : ∀ k, (∀ y0 y1 y2 y3 y4 y5, LeO (zbH.l0 k y0 y1 y2 y3 y4 y5) (zbH.l0 (k + 1) y0 y1 y2 y3 y4 y5)) ∧ (∀ y0 y1 y2 y3 y4 y5, LeO (zbH.l1 k y0 y1 y2 y3 y4 y5) (zbH.l1 (k + 1) y0 y1 y2 y3 y4 y5))
 | 0 => ⟨fun _ _ _ _ _ _ r h => by simp [zbH.l0] at h, fun _ _ _ _ _ _ r h => by simp [zbH.l1] at h⟩
 | k + 1 => by
  obtain ⟨ih0, ih1⟩ := zbH.mono_l k
  refine ⟨?_, ?_⟩
  ·intro y0 y1 y2 y3 y4 y5
   unfold zbH.l0
   repeat' first
   | (with_reducible exact ih0 _ _ _ _ _ _)
   | (with_reducible exact ih1 _ _ _ _ _ _)
   | (with_reducible exact zbK.mono _ _ _ _)
   | (with_reducible exact LeO.refl _)
   | (with_reducible exact LeO.none _)
   | (with_reducible refine LeO.ite ?_ ?_)
   | (with_reducible refine LeO.bind ?_ (fun _ => ?_))
   | exact ih0 _ _ _ _ _ _
   | exact ih1 _ _ _ _ _ _
   | exact zbK.mono _ _ _ _
   | exact LeO.none _
   | refine LeO.ite ?_ ?_
   | refine LeO.bind ?_ (fun _ => ?_)
  ·intro y0 y1 y2 y3 y4 y5
   unfold zbH.l1
   repeat' first
   | (with_reducible exact ih0 _ _ _ _ _ _)
   | (with_reducible exact ih1 _ _ _ _ _ _)
   | (with_reducible exact zbK.mono _ _ _ _)
   | (with_reducible exact LeO.refl _)
   | (with_reducible exact LeO.none _)
   | (with_reducible refine LeO.ite ?_ ?_)
   | (with_reducible refine LeO.bind ?_ (fun _ => ?_))
   | exact ih0 _ _ _ _ _ _
   | exact ih1 _ _ _ _ _ _
   | exact zbK.mono _ _ _ _
   | exact LeO.none _
   | refine LeO.ite ?_ ?_
   | refine LeO.bind ?_ (fun _ => ?_)
theorem zbH.mono : ∀ a0 a1 a2 a3 a4 a5 k, LeO (zbH.f k a0 a1 a2 a3 a4 a5) (zbH.f (k + 1) a0 a1 a2 a3 a4 a5) := by
 intro a0 a1 a2 a3 a4 a5 k
 obtain ⟨ih0, ih1⟩ := zbH.mono_l k
 unfold zbH.f
 repeat' first
   | (with_reducible exact ih0 _ _ _ _ _ _)
   | (with_reducible exact ih1 _ _ _ _ _ _)
   | (with_reducible exact zbK.mono _ _ _ _)
   | (with_reducible exact LeO.refl _)
   | (with_reducible exact LeO.none _)
   | (with_reducible refine LeO.ite ?_ ?_)
   | (with_reducible refine LeO.bind ?_ (fun _ => ?_))
   | exact ih0 _ _ _ _ _ _
   | exact ih1 _ _ _ _ _ _
   | exact zbK.mono _ _ _ _
   | exact LeO.none _
   | refine LeO.ite ?_ ?_
   | refine LeO.bind ?_ (fun _ => ?_)
set_option maxHeartbeats 8000000 in
set_option maxRecDepth 100000 in
theorem zbH.calls (k : Nat) (a0_0 : Int) (a0_1 : Int) (a0_2 : Int) (a1_0 : Int) (a1_1 : Int) (a1_2 : Int) (r1 : Int) (r2 : Int) (r3 : Int) (w : World) (h : zbH.f k a0_0 a0_1 a0_2 a1_0 a1_1 a1_2 = some (r1, r2, r3)) :
  Calls Tryd.prog 148 #[.agg #[.int .i64 a0_0, .int .i64 a0_1, .int .i64 a0_2], .agg #[.int .i64 a1_0, .int .i64 a1_1, .int .i64 a1_2]] w fun e w' => e = .returned (.agg #[.int .i64 r1, .int .i64 r2, .int .i64 r3]) ∧ Below w.heap.size w w' := by
 have hu92 := Tryd.underlying92
 have HB := zaJ (Below.refl w.heap.size w)
 have H : (zbH.l0 k a0_0 a0_1 a0_2 a1_0 a1_1 a1_2) = some (r1, r2, r3) := h
 clear h
 have H' := zaJ H
 clear H
 go_enter Tryd.func148, Tryd.ntmps148
 go_wp2_with (first | ((with_reducible refine zaQ (N := 2) rfl ?_); refine bx_ 2 #[.int .i64 a0_0, .int .i64 a0_1, .int .i64 a0_2] 92 ?_; intro gb171 hg w3 hbox hb; have n0_ := (ns_ hb); have n1_ := zaJ (hbox); have n2_ := (ng_ hg); have n3_ := n2_; clear HB; have HB := n0_; have BK171 := n1_; have GW171 := n2_; have GE171 := n3_; clear n0_ n1_ n2_ n3_; clear hb hbox hg) | ((with_reducible refine zaQ (N := 3) rfl ?_); refine bx_ 3 #[.int .i64 a1_0, .int .i64 a1_1, .int .i64 a1_2] 92 ?_; intro gb172 hg w4 hbox hb; have n0_ := zaJ (zaG (g := gb171) (o := .cells #[.int .i64 a0_0, .int .i64 a0_1, .int .i64 a0_2] 92 (0, 0)) bk_ hb); have n1_ := (ns_ hb); have n2_ := zaJ (hbox); have n3_ := (ng_ hg); have n4_ := n3_; have n5_ := zaJ ((by rw [hg]; exact Nat.ne_of_lt (zbC (g := gb171) (o := .cells #[.int .i64 a0_0, .int .i64 a0_1, .int .i64 a0_2] 92 (0, 0)) bk_) : gb171 ≠ gb172)); have n6_ := zaJ ((by rw [hg]; exact Nat.ne_of_gt (zbC (g := gb171) (o := .cells #[.int .i64 a0_0, .int .i64 a0_1, .int .i64 a0_2] 92 (0, 0)) bk_) : gb172 ≠ gb171)); clear BK171; clear HB; have BK171 := n0_; have HB := n1_; have BK172 := n2_; have GW172 := n3_; have GE172 := n4_; have NB171_172 := n5_; have NB172_171 := n6_; clear n0_ n1_ n2_ n3_ n4_ n5_ n6_; clear hb hbox hg) | ((with_reducible refine zaQ (N := 4) rfl ?_); refine bx_ 4 #[.int .i64 0, .int .i64 0, .int .i64 0] 92 ?_; intro gb173 hg w5 hbox hb; have n0_ := zaJ (zaG (g := gb171) (o := .cells #[.int .i64 a0_0, .int .i64 a0_1, .int .i64 a0_2] 92 (0, 0)) bk_ hb); have n1_ := zaJ (zaG (g := gb172) (o := .cells #[.int .i64 a1_0, .int .i64 a1_1, .int .i64 a1_2] 92 (0, 0)) bk_ hb); have n2_ := (ns_ hb); have n3_ := zaJ (hbox); have n4_ := (ng_ hg); have n5_ := n4_; have n6_ := zaJ ((by rw [hg]; exact Nat.ne_of_lt (zbC (g := gb171) (o := .cells #[.int .i64 a0_0, .int .i64 a0_1, .int .i64 a0_2] 92 (0, 0)) bk_) : gb171 ≠ gb173)); have n7_ := zaJ ((by rw [hg]; exact Nat.ne_of_gt (zbC (g := gb171) (o := .cells #[.int .i64 a0_0, .int .i64 a0_1, .int .i64 a0_2] 92 (0, 0)) bk_) : gb173 ≠ gb171)); have n8_ := zaJ ((by rw [hg]; exact Nat.ne_of_lt (zbC (g := gb172) (o := .cells #[.int .i64 a1_0, .int .i64 a1_1, .int .i64 a1_2] 92 (0, 0)) bk_) : gb172 ≠ gb173)); have n9_ := zaJ ((by rw [hg]; exact Nat.ne_of_gt (zbC (g := gb172) (o := .cells #[.int .i64 a1_0, .int .i64 a1_1, .int .i64 a1_2] 92 (0, 0)) bk_) : gb173 ≠ gb172)); clear BK171; clear BK172; clear HB; have BK171 := n0_; have BK172 := n1_; have HB := n2_; have BK173 := n3_; have GW173 := n4_; have GE173 := n5_; have NB171_173 := n6_; have NB173_171 := n7_; have NB172_173 := n8_; have NB173_172 := n9_; clear n0_ n1_ n2_ n3_ n4_ n5_ n6_ n7_ n8_ n9_; clear hb hbox hg))
 (try go_simp)
 go_loopg [] k (fun kq w' => ∃ (x172000_1 : Int) (x172001_1 : Int) (x172002_1 : Int), Aside0 (zbH.l0 kq x172000_1 x172001_1 x172002_1 a1_0 a1_1 a1_2 = some (r1, r2, r3)) ∧ Aside0 (kq ≤ k) ∧ Aside0 (w'.heap[gb171]? = some (.cells #[.int .i64 x172000_1, .int .i64 x172001_1, .int .i64 x172002_1] 92 (0, 0))) ∧ Aside0 (w'.heap[gb172]? = some (.cells #[.int .i64 a1_0, .int .i64 a1_1, .int .i64 a1_2] 92 (0, 0))) ∧ Aside0 (w'.heap[gb173]? = some (.cells #[.int .i64 0, .int .i64 0, .int .i64 0] 92 (0, 0))) ∧ Aside0 (Below w.heap.size w w'))
 case atStart => exact ⟨(a0_0), (a0_1), (a0_2), H', ⟨Nat.le_refl _⟩, ⟨bk_⟩, ⟨bk_⟩, ⟨bk_⟩, ⟨bb_⟩⟩
 case round =>
  clear H'
  try clear c1
  try clear p2
  obtain ⟨x172000_1, x172001_1, x172002_1, HA, HK1, BK171, BK172, BK173, HB⟩ := hrel
  cases gk with
  | zero => exact absurd HA.out (by simp [zbH.l0])
  | succ k1 =>
   have H := HA.out
   clear HA
   simp only [zbH.l0] at H
   by_cases c6 : x172002_1 < a1_2
   ·rw [if_pos c6] at H
    have c6b0 : decide (x172002_1 < a1_2) = true := decide_eq_true c6
    clear c6
    have H' := zaJ H
    clear H
    have hnb7 := NB171_172.out
    have hnc7 := NB172_171.out
    have hnb8 := NB171_173.out
    have hnc8 := NB173_171.out
    obtain ⟨hcz9_0, hcz9_1, hcz9_2⟩ := zeI BK171.out
    obtain ⟨hfz9_0, hfz9_1, hfz9_2⟩ := zeH BK171.out
    have hnb10 := NB172_173.out
    have hnc10 := NB173_172.out
    obtain ⟨hcz11_0, hcz11_1, hcz11_2⟩ := zeI BK172.out
    obtain ⟨hfz11_0, hfz11_1, hfz11_2⟩ := zeH BK172.out
    go_wp2
    go_roundg k1
    case measure => have := HK1.out; omega
    case rel => exact ⟨(wrap64 (x172000_1 * 2)), (wrap64 (x172001_1 * 2)), (wrap64 (x172002_1 + 1)), H', ⟨by have := HK1.out; omega⟩, ⟨by (with_reducible repeat (first | apply zaD | apply zaE | apply zaC)); refine zaL (cs := #[.int .i64 (wrap64 (x172000_1 * 2)), .int .i64 (wrap64 (x172001_1 * 2)), .int .i64 x172002_1]) ?_ 2 _ rfl; (with_reducible repeat (first | apply zaD | apply zaE | apply zaC)); refine zaL (cs := #[.int .i64 (wrap64 (x172000_1 * 2)), .int .i64 x172001_1, .int .i64 x172002_1]) ?_ 1 _ rfl; (with_reducible repeat (first | apply zaD | apply zaE | apply zaC)); refine zaL (cs := #[.int .i64 x172000_1, .int .i64 x172001_1, .int .i64 x172002_1]) ?_ 0 _ rfl; (with_reducible repeat (first | apply zaD | apply zaE | apply zaC)); exact BK171.out⟩, ⟨by (with_reducible repeat (first | apply zaD | apply zaE | apply zaC)); refine zbA ?_ NB172_171.out _; (with_reducible repeat (first | apply zaD | apply zaE | apply zaC)); refine zbA ?_ NB172_171.out _; (with_reducible repeat (first | apply zaD | apply zaE | apply zaC)); refine zbA ?_ NB172_171.out _; (with_reducible repeat (first | apply zaD | apply zaE | apply zaC)); exact BK172.out⟩, ⟨by (with_reducible repeat (first | apply zaD | apply zaE | apply zaC)); refine zbA ?_ NB173_171.out _; (with_reducible repeat (first | apply zaD | apply zaE | apply zaC)); refine zbA ?_ NB173_171.out _; (with_reducible repeat (first | apply zaD | apply zaE | apply zaC)); refine zbA ?_ NB173_171.out _; (with_reducible repeat (first | apply zaD | apply zaE | apply zaC)); exact BK173.out⟩, ⟨bb_⟩⟩
   ·rw [if_neg c6] at H
    have c6b0 : decide (x172002_1 < a1_2) = false := decide_eq_false c6
    clear c6
    have H' := zaJ H
    clear H
    have hnb12 := NB171_172.out
    have hnc12 := NB172_171.out
    have hnb13 := NB171_173.out
    have hnc13 := NB173_171.out
    obtain ⟨hcz14_0, hcz14_1, hcz14_2⟩ := zeI BK171.out
    obtain ⟨hfz14_0, hfz14_1, hfz14_2⟩ := zeH BK171.out
    have hnb15 := NB172_173.out
    have hnc15 := NB173_172.out
    obtain ⟨hcz16_0, hcz16_1, hcz16_2⟩ := zeI BK172.out
    obtain ⟨hfz16_0, hfz16_1, hfz16_2⟩ := zeH BK172.out
    go_wp2
    (try go_simp)
    go_loopg [] k1 (fun kq w' => ∃ (x173000_2 : Int) (x173001_2 : Int) (x173002_2 : Int), Aside0 (zbH.l1 kq x172000_1 x172001_1 x172002_1 x173000_2 x173001_2 x173002_2 = some (r1, r2, r3)) ∧ Aside0 (kq ≤ k1) ∧ Aside0 (w'.heap[gb171]? = some (.cells #[.int .i64 x172000_1, .int .i64 x172001_1, .int .i64 x172002_1] 92 (0, 0))) ∧ Aside0 (w'.heap[gb172]? = some (.cells #[.int .i64 x173000_2, .int .i64 x173001_2, .int .i64 x173002_2] 92 (0, 0))) ∧ Aside0 (w'.heap[gb173]? = some (.cells #[.int .i64 0, .int .i64 0, .int .i64 0] 92 (0, 0))) ∧ Aside0 (Below w.heap.size w w'))
    case atStart => exact ⟨(a1_0), (a1_1), (a1_2), H', ⟨Nat.le_refl _⟩, ⟨bk_⟩, ⟨bk_⟩, ⟨bk_⟩, ⟨bb_⟩⟩
    case round =>
     clear H'
     try clear c1
     try clear p2
     try clear c6
     try clear c6b0
     try clear p6
     try clear c7
     try clear c8
     try clear c10
     try clear c12
     try clear c13
     try clear c14
     try clear c15
     try clear hcz11_0
     try clear hcz11_1
     try clear hcz11_2
     try clear hcz14_0
     try clear hcz14_1
     try clear hcz14_2
     try clear hcz16_0
     try clear hcz16_1
     try clear hcz16_2
     try clear hcz9_0
     try clear hcz9_1
     try clear hcz9_2
     try clear hfz11_0
     try clear hfz11_1
     try clear hfz11_2
     try clear hfz14_0
     try clear hfz14_1
     try clear hfz14_2
     try clear hfz16_0
     try clear hfz16_1
     try clear hfz16_2
     try clear hfz9_0
     try clear hfz9_1
     try clear hfz9_2
     try clear p2
     obtain ⟨x173000_2, x173001_2, x173002_2, HA, HK2, BK171, BK172, BK173, HB⟩ := hrel
     cases gk with
     | zero => exact absurd HA.out (by simp [zbH.l1])
     | succ k2 =>
      have H := HA.out
      clear HA
      simp only [zbH.l1] at H
      by_cases c17 : x173002_2 < x172002_1
      ·rw [if_pos c17] at H
       have c17b0 : decide (x173002_2 < x172002_1) = true := decide_eq_true c17
       clear c17
       have H' := zaJ H
       clear H
       have hnb18 := NB172_171.out
       have hnc18 := NB171_172.out
       have hnb19 := NB172_173.out
       have hnc19 := NB173_172.out
       obtain ⟨hcz20_0, hcz20_1, hcz20_2⟩ := zeI BK172.out
       obtain ⟨hfz20_0, hfz20_1, hfz20_2⟩ := zeH BK172.out
       have hnb21 := NB171_173.out
       have hnc21 := NB173_171.out
       obtain ⟨hcz22_0, hcz22_1, hcz22_2⟩ := zeI BK171.out
       obtain ⟨hfz22_0, hfz22_1, hfz22_2⟩ := zeH BK171.out
       go_wp2
       go_roundg k2
       case measure => have := HK1.out; have := HK2.out; omega
       case rel => exact ⟨(wrap64 (x173000_2 * 2)), (wrap64 (x173001_2 * 2)), (wrap64 (x173002_2 + 1)), H', ⟨by have := HK1.out; have := HK2.out; omega⟩, ⟨by (with_reducible repeat (first | apply zaD | apply zaE | apply zaC)); refine zbA ?_ NB171_172.out _; (with_reducible repeat (first | apply zaD | apply zaE | apply zaC)); refine zbA ?_ NB171_172.out _; (with_reducible repeat (first | apply zaD | apply zaE | apply zaC)); refine zbA ?_ NB171_172.out _; (with_reducible repeat (first | apply zaD | apply zaE | apply zaC)); exact BK171.out⟩, ⟨by (with_reducible repeat (first | apply zaD | apply zaE | apply zaC)); refine zaL (cs := #[.int .i64 (wrap64 (x173000_2 * 2)), .int .i64 (wrap64 (x173001_2 * 2)), .int .i64 x173002_2]) ?_ 2 _ rfl; (with_reducible repeat (first | apply zaD | apply zaE | apply zaC)); refine zaL (cs := #[.int .i64 (wrap64 (x173000_2 * 2)), .int .i64 x173001_2, .int .i64 x173002_2]) ?_ 1 _ rfl; (with_reducible repeat (first | apply zaD | apply zaE | apply zaC)); refine zaL (cs := #[.int .i64 x173000_2, .int .i64 x173001_2, .int .i64 x173002_2]) ?_ 0 _ rfl; (with_reducible repeat (first | apply zaD | apply zaE | apply zaC)); exact BK172.out⟩, ⟨by (with_reducible repeat (first | apply zaD | apply zaE | apply zaC)); refine zbA ?_ NB173_172.out _; (with_reducible repeat (first | apply zaD | apply zaE | apply zaC)); refine zbA ?_ NB173_172.out _; (with_reducible repeat (first | apply zaD | apply zaE | apply zaC)); refine zbA ?_ NB173_172.out _; (with_reducible repeat (first | apply zaD | apply zaE | apply zaC)); exact BK173.out⟩, ⟨bb_⟩⟩
      ·rw [if_neg c17] at H
       have c17b0 : decide (x173002_2 < x172002_1) = false := decide_eq_false c17
       clear c17
       replace H := Option.bind_eq_some_iff.mp H
       obtain ⟨⟨t174, t175, t176⟩, A230, H⟩ := H
       replace H : (some (t174, t175, t176)) = some (r1, r2, r3) := H
       have A23 := zaJ A230
       clear A230
       simp only [Option.some.injEq, Prod.mk.injEq] at H
       obtain ⟨rfl, rfl, rfl⟩ := H
       have hnb24 := NB172_171.out
       have hnc24 := NB171_172.out
       have hnb25 := NB172_173.out
       have hnc25 := NB173_172.out
       obtain ⟨hcz26_0, hcz26_1, hcz26_2⟩ := zeI BK172.out
       obtain ⟨hfz26_0, hfz26_1, hfz26_2⟩ := zeH BK172.out
       have hnb27 := NB171_173.out
       have hnc27 := NB173_171.out
       obtain ⟨hcz28_0, hcz28_1, hcz28_2⟩ := zeI BK171.out
       obtain ⟨hfz28_0, hfz28_1, hfz28_2⟩ := zeH BK171.out
       go_wp2_with (first | ((with_reducible refine zaK (f := 174) rfl ?_); refine zbQ (some 52) rfl rfl Tryd.func174 (by kernel_rfl) rfl #[.agg #[.int .i64 (wrap64 (x172000_1 + x173000_2)), .int .i64 (wrap64 (x172001_1 + x173001_2)), .int .i64 x172002_1]] rfl (by (try simp only [List.map_toArray, List.map_cons, List.map_nil]); first | done | rfl | (simp only [List.length_drop, List.length_take]; rfl)) ?_; (with_reducible refine (zbK.calls k2 (wrap64 (x172000_1 + x173000_2)) (wrap64 (x172001_1 + x173001_2)) x172002_1 t174 t175 t176 _ A23.out).mono ?_); rintro e w29 ⟨rfl, hb⟩; refine ⟨_, rfl, ?_⟩; have n0_ := zaJ (zaG (g := gb171) (o := .cells #[.int .i64 x172000_1, .int .i64 x172001_1, .int .i64 x172002_1] 92 (0, 0)) bk_ hb); have n1_ := zaJ (zaG (g := gb172) (o := .cells #[.int .i64 x173000_2, .int .i64 x173001_2, .int .i64 x173002_2] 92 (0, 0)) bk_ hb); have n2_ := zaJ (zaG (g := gb173) (o := .cells #[.int .i64 0, .int .i64 0, .int .i64 0] 92 (0, 0)) bk_ hb); have n3_ := (ns_ hb); clear BK171; clear BK172; clear BK173; clear HB; have BK171 := n0_; have BK172 := n1_; have BK173 := n2_; have HB := n3_; clear n0_ n1_ n2_ n3_; (try clear hb); (try clear hb2); obtain ⟨hcz30_0, hcz30_1, hcz30_2⟩ := zeI BK173.out; obtain ⟨hfz30_0, hfz30_1, hfz30_2⟩ := zeH BK173.out))
       refine bodyPost_ret (results_cell_row rfl _ _ gb173 92 #[.int .i64 t174, .int .i64 t175, .int .i64 t176] (0, 0) _ rfl (by (with_reducible repeat (first | apply zaD | apply zaE | apply zaC)); refine zaL (cs := #[.int .i64 t174, .int .i64 t175, .int .i64 0]) ?_ 2 _ rfl; (with_reducible repeat (first | apply zaD | apply zaE | apply zaC)); refine zaL (cs := #[.int .i64 t174, .int .i64 0, .int .i64 0]) ?_ 1 _ rfl; (with_reducible repeat (first | apply zaD | apply zaE | apply zaC)); refine zaL (cs := #[.int .i64 0, .int .i64 0, .int .i64 0]) ?_ 0 _ rfl; (with_reducible repeat (first | apply zaD | apply zaE | apply zaC)); exact BK173.out) Tryd.underlying92 rfl (by kernel_rfl)) rfl ?_
       exact ⟨by first | rfl | (simp [zaI, zaH] <;> rfl) | (simp [*, zaI, zaH] <;> rfl), bb_⟩

def zcM.f (k : Nat) (a0_0 : Int) (a0_1 : Int) (a0_2 : Int) (a1_0 : Int) (a1_1 : Int) (a1_2 : Int) : Option (Int × Int × Int) := (zbK.f k (wrap64 ((wrap64 (a0_0 * a1_0)) + (wrap64 ((wrap64 (2 * a0_1)) * a1_1)))) (wrap64 ((wrap64 (a0_0 * a1_1)) + (wrap64 (a0_1 * a1_0)))) (wrap64 (a0_2 + a1_2))).bind fun bt180 => (some (bt180.1, bt180.2.1, bt180.2.2))
theorem zcM.mono : ∀ a0 a1 a2 a3 a4 a5 k, LeO (zcM.f k a0 a1 a2 a3 a4 a5) (zcM.f (k + 1) a0 a1 a2 a3 a4 a5) := by
 intro a0 a1 a2 a3 a4 a5 k
 unfold zcM.f
 repeat' first
   | (with_reducible exact zbK.mono _ _ _ _)
   | (with_reducible exact LeO.refl _)
   | (with_reducible exact LeO.none _)
   | (with_reducible refine LeO.ite ?_ ?_)
   | (with_reducible refine LeO.bind ?_ (fun _ => ?_))
   | exact zbK.mono _ _ _ _
   | exact LeO.none _
   | refine LeO.ite ?_ ?_
   | refine LeO.bind ?_ (fun _ => ?_)
set_option maxHeartbeats 8000000 in
set_option maxRecDepth 100000 in
theorem zcM.calls (k : Nat) (a0_0 : Int) (a0_1 : Int) (a0_2 : Int) (a1_0 : Int) (a1_1 : Int) (a1_2 : Int) (r1 : Int) (r2 : Int) (r3 : Int) (w : World) (h : zcM.f k a0_0 a0_1 a0_2 a1_0 a1_1 a1_2 = some (r1, r2, r3)) :
  Calls Tryd.prog 149 #[.agg #[.int .i64 a0_0, .int .i64 a0_1, .int .i64 a0_2], .agg #[.int .i64 a1_0, .int .i64 a1_1, .int .i64 a1_2]] w fun e w' => e = .returned (.agg #[.int .i64 r1, .int .i64 r2, .int .i64 r3]) ∧ Below w.heap.size w w' := by
 have hu92 := Tryd.underlying92
 have HB := zaJ (Below.refl w.heap.size w)
 have H : ((zbK.f k (wrap64 ((wrap64 (a0_0 * a1_0)) + (wrap64 ((wrap64 (2 * a0_1)) * a1_1)))) (wrap64 ((wrap64 (a0_0 * a1_1)) + (wrap64 (a0_1 * a1_0)))) (wrap64 (a0_2 + a1_2))).bind fun bt180 => (some (bt180.1, bt180.2.1, bt180.2.2))) = some (r1, r2, r3) := h
 clear h
 replace H := Option.bind_eq_some_iff.mp H
 obtain ⟨⟨t180, t181, t182⟩, A30, H⟩ := H
 replace H : (some (t180, t181, t182)) = some (r1, r2, r3) := H
 have A3 := zaJ A30
 clear A30
 simp only [Option.some.injEq, Prod.mk.injEq] at H
 obtain ⟨rfl, rfl, rfl⟩ := H
 go_enter Tryd.func149, Tryd.ntmps149
 go_wp2_with (first | ((with_reducible refine zaQ (N := 2) rfl ?_); refine bx_ 2 #[.int .i64 a0_0, .int .i64 a0_1, .int .i64 a0_2] 92 ?_; intro gb177 hg w4 hbox hb; have n0_ := (ns_ hb); have n1_ := zaJ (hbox); have n2_ := (ng_ hg); have n3_ := n2_; clear HB; have HB := n0_; have BK177 := n1_; have GW177 := n2_; have GE177 := n3_; clear n0_ n1_ n2_ n3_; clear hb hbox hg) | ((with_reducible refine zaQ (N := 3) rfl ?_); refine bx_ 3 #[.int .i64 a1_0, .int .i64 a1_1, .int .i64 a1_2] 92 ?_; intro gb178 hg w5 hbox hb; have n0_ := zaJ (zaG (g := gb177) (o := .cells #[.int .i64 a0_0, .int .i64 a0_1, .int .i64 a0_2] 92 (0, 0)) bk_ hb); have n1_ := (ns_ hb); have n2_ := zaJ (hbox); have n3_ := (ng_ hg); have n4_ := n3_; have n5_ := zaJ ((by rw [hg]; exact Nat.ne_of_lt (zbC (g := gb177) (o := .cells #[.int .i64 a0_0, .int .i64 a0_1, .int .i64 a0_2] 92 (0, 0)) bk_) : gb177 ≠ gb178)); have n6_ := zaJ ((by rw [hg]; exact Nat.ne_of_gt (zbC (g := gb177) (o := .cells #[.int .i64 a0_0, .int .i64 a0_1, .int .i64 a0_2] 92 (0, 0)) bk_) : gb178 ≠ gb177)); clear BK177; clear HB; have BK177 := n0_; have HB := n1_; have BK178 := n2_; have GW178 := n3_; have GE178 := n4_; have NB177_178 := n5_; have NB178_177 := n6_; clear n0_ n1_ n2_ n3_ n4_ n5_ n6_; clear hb hbox hg) | ((with_reducible refine zaQ (N := 4) rfl ?_); refine bx_ 4 #[.int .i64 0, .int .i64 0, .int .i64 0] 92 ?_; intro gb179 hg w6 hbox hb; have n0_ := zaJ (zaG (g := gb177) (o := .cells #[.int .i64 a0_0, .int .i64 a0_1, .int .i64 a0_2] 92 (0, 0)) bk_ hb); have n1_ := zaJ (zaG (g := gb178) (o := .cells #[.int .i64 a1_0, .int .i64 a1_1, .int .i64 a1_2] 92 (0, 0)) bk_ hb); have n2_ := (ns_ hb); have n3_ := zaJ (hbox); have n4_ := (ng_ hg); have n5_ := n4_; have n6_ := zaJ ((by rw [hg]; exact Nat.ne_of_lt (zbC (g := gb177) (o := .cells #[.int .i64 a0_0, .int .i64 a0_1, .int .i64 a0_2] 92 (0, 0)) bk_) : gb177 ≠ gb179)); have n7_ := zaJ ((by rw [hg]; exact Nat.ne_of_gt (zbC (g := gb177) (o := .cells #[.int .i64 a0_0, .int .i64 a0_1, .int .i64 a0_2] 92 (0, 0)) bk_) : gb179 ≠ gb177)); have n8_ := zaJ ((by rw [hg]; exact Nat.ne_of_lt (zbC (g := gb178) (o := .cells #[.int .i64 a1_0, .int .i64 a1_1, .int .i64 a1_2] 92 (0, 0)) bk_) : gb178 ≠ gb179)); have n9_ := zaJ ((by rw [hg]; exact Nat.ne_of_gt (zbC (g := gb178) (o := .cells #[.int .i64 a1_0, .int .i64 a1_1, .int .i64 a1_2] 92 (0, 0)) bk_) : gb179 ≠ gb178)); clear BK177; clear BK178; clear HB; have BK177 := n0_; have BK178 := n1_; have HB := n2_; have BK179 := n3_; have GW179 := n4_; have GE179 := n5_; have NB177_179 := n6_; have NB179_177 := n7_; have NB178_179 := n8_; have NB179_178 := n9_; clear n0_ n1_ n2_ n3_ n4_ n5_ n6_ n7_ n8_ n9_; clear hb hbox hg; have hnb7 := NB177_178.out; have hnc7 := NB178_177.out; have hnb8 := NB177_179.out; have hnc8 := NB179_177.out; obtain ⟨hcz9_0, hcz9_1, hcz9_2⟩ := zeI BK177.out; obtain ⟨hfz9_0, hfz9_1, hfz9_2⟩ := zeH BK177.out; have hnb10 := NB178_179.out; have hnc10 := NB179_178.out; obtain ⟨hcz11_0, hcz11_1, hcz11_2⟩ := zeI BK178.out; obtain ⟨hfz11_0, hfz11_1, hfz11_2⟩ := zeH BK178.out) | ((with_reducible refine zaK (f := 174) rfl ?_); refine zbQ (some 34) rfl rfl Tryd.func174 (by kernel_rfl) rfl #[.agg #[.int .i64 (wrap64 ((wrap64 (a0_0 * a1_0)) + (wrap64 ((wrap64 (2 * a0_1)) * a1_1)))), .int .i64 (wrap64 ((wrap64 (a0_0 * a1_1)) + (wrap64 (a0_1 * a1_0)))), .int .i64 (wrap64 (a0_2 + a1_2))]] rfl (by (try simp only [List.map_toArray, List.map_cons, List.map_nil]); first | done | rfl | (simp only [List.length_drop, List.length_take]; rfl)) ?_; (with_reducible refine (zbK.calls k (wrap64 ((wrap64 (a0_0 * a1_0)) + (wrap64 ((wrap64 (2 * a0_1)) * a1_1)))) (wrap64 ((wrap64 (a0_0 * a1_1)) + (wrap64 (a0_1 * a1_0)))) (wrap64 (a0_2 + a1_2)) t180 t181 t182 _ A3.out).mono ?_); rintro e w12 ⟨rfl, hb⟩; refine ⟨_, rfl, ?_⟩; have n0_ := zaJ (zaG (g := gb177) (o := .cells #[.int .i64 a0_0, .int .i64 a0_1, .int .i64 a0_2] 92 (0, 0)) bk_ hb); have n1_ := zaJ (zaG (g := gb178) (o := .cells #[.int .i64 a1_0, .int .i64 a1_1, .int .i64 a1_2] 92 (0, 0)) bk_ hb); have n2_ := zaJ (zaG (g := gb179) (o := .cells #[.int .i64 0, .int .i64 0, .int .i64 0] 92 (0, 0)) bk_ hb); have n3_ := (ns_ hb); clear BK177; clear BK178; clear BK179; clear HB; have BK177 := n0_; have BK178 := n1_; have BK179 := n2_; have HB := n3_; clear n0_ n1_ n2_ n3_; (try clear hb); (try clear hb2); obtain ⟨hcz13_0, hcz13_1, hcz13_2⟩ := zeI BK179.out; obtain ⟨hfz13_0, hfz13_1, hfz13_2⟩ := zeH BK179.out))
 refine bodyPost_ret (results_cell_row rfl _ _ gb179 92 #[.int .i64 t180, .int .i64 t181, .int .i64 t182] (0, 0) _ rfl (by (with_reducible repeat (first | apply zaD | apply zaE | apply zaC)); refine zaL (cs := #[.int .i64 t180, .int .i64 t181, .int .i64 0]) ?_ 2 _ rfl; (with_reducible repeat (first | apply zaD | apply zaE | apply zaC)); refine zaL (cs := #[.int .i64 t180, .int .i64 0, .int .i64 0]) ?_ 1 _ rfl; (with_reducible repeat (first | apply zaD | apply zaE | apply zaC)); refine zaL (cs := #[.int .i64 0, .int .i64 0, .int .i64 0]) ?_ 0 _ rfl; (with_reducible repeat (first | apply zaD | apply zaE | apply zaC)); exact BK179.out) Tryd.underlying92 rfl (by kernel_rfl)) rfl ?_
 exact ⟨by first | rfl | (simp [zaI, zaH] <;> rfl) | (simp [*, zaI, zaH] <;> rfl), bb_⟩

end Go.Proofs.YtmajpmofeddknaaDoor.PFnExactInPolygon
