-- Printed for this claim by this session's program pp.py, which drives the kit's print with additions. Not trusted: Lean checks it.
import Derived.Test.YtehghobmmpihfaaGreatDoorV1PFnExactReadPolygonx2
namespace Go.Proofs.YtehghobmmpihfaaGreatDoor.PFnExactReadPolygon
open Go.RowKit Go.Proofs.YtehghobmmpihfaaGreatDoorW.PrintWords Go.Proofs.YtehghobmmpihfaaGreatDoorW.PrintLast Go.Proofs.YtehghobmmpihfaaGreatDoorW.PrintMore
attribute [local go_sem] zbB ziB zrC zhD znE zuB znH zkT   -- for this text's walks alone
set_option linter.unusedVariables false
set_option maxHeartbeats 8000000
set_option maxRecDepth 100000
set_option linter.unusedSimpArgs false

mutual
def zqO.j0 : Nat → ByteArray → Int → Bool → Option (Int × Int × Bool)
 | 0, _, _, _ => none
 | k + 1, x0, x5, x25 => if x25 = true then ((zlS.f k x0).bind fun bt111 => (some (bt111.1, 0, bt111.2))) else (zqO.l0 k x0 x5 (wrap64 (x5 - 2)))
def zqO.j2 : Nat → ByteArray → Int → Int → Option (Int × Int × Bool)
 | 0, _, _, _ => none
 | k + 1, x0, x5, x8 => if x8 ≤ 0 then (if 0 ≤ (wrap64 (x5 - 1)) then (if (wrap64 (x5 - 1)) ≤ (x0.size : Int) then ((zlS.f k (x0.extract 0 ((wrap64 (x5 - 1)) : Int).toNat)).bind fun bt113 => (some (0, bt113.1, bt113.2))) else (none)) else (none)) else (if 0 ≤ x8 then (if x8 ≤ (x0.size : Int) then ((zlS.f k (x0.extract 0 (x8 : Int).toNat)).bind fun bt115 => (if x8 ≤ (wrap64 (x5 - 1)) then (if (wrap64 (x5 - 1)) ≤ (x0.size : Int) then ((zlS.f k (x0.extract (x8 : Int).toNat ((wrap64 (x5 - 1)) : Int).toNat)).bind fun bt117 => (if bt115.2 = true then (some (bt115.1, bt117.1, bt117.2)) else (some (bt115.1, bt117.1, false)))) else (none)) else (none))) else (none)) else (none))
def zqO.l0 : Nat → ByteArray → Int → Int → Option (Int × Int × Bool)
 | 0, _, _, _ => none
 | k + 1, x0, x5, x8 => if x8 > 0 then (if 0 ≤ x8 then (if x8 < (x0.size : Int) then (if (bt x0 x8) = 43 then (zqO.j2 k x0 x5 x8) else (if (bt x0 x8) = 45 then (zqO.j2 k x0 x5 x8) else (zqO.l0 k x0 x5 (wrap64 (x8 - 1))))) else (none)) else (none)) else (zqO.j2 k x0 x5 x8)
end
def zqO.f (k : Nat) (a0 : ByteArray) : Option (Int × Int × Bool) := if (a0.size : Int) = 0 then (zqO.j0 k a0 (a0.size : Int) true) else (if 0 ≤ (wrap64 ((a0.size : Int) - 1)) then (if (wrap64 ((a0.size : Int) - 1)) < (a0.size : Int) then (zqO.j0 k a0 (a0.size : Int) ((bt a0 (wrap64 ((a0.size : Int) - 1))) != 114)) else (none)) else (none))
theorem zqO.mono_l : ∀ k, (∀ y0 y1 y2, LeO (zqO.j0 k y0 y1 y2) (zqO.j0 (k + 1) y0 y1 y2)) ∧ (∀ y0 y1 y2, LeO (zqO.j2 k y0 y1 y2) (zqO.j2 (k + 1) y0 y1 y2)) ∧ (∀ y0 y1 y2, LeO (zqO.l0 k y0 y1 y2) (zqO.l0 (k + 1) y0 y1 y2))
 | 0 => ⟨fun _ _ _ r h => by simp [zqO.j0] at h, fun _ _ _ r h => by simp [zqO.j2] at h, fun _ _ _ r h => by simp [zqO.l0] at h⟩
 | k + 1 => by
  obtain ⟨ih0, ih1, ih2⟩ := zqO.mono_l k; refine ⟨?_, ?_, ?_⟩
  ·intro y0 y1 y2
   unfold zqO.j0
   repeat' (with_reducible first | exact ih0 _ _ _ | exact ih1 _ _ _ | exact ih2 _ _ _ | exact zlS.mono _ _ | exact LeO.refl _ | exact LeO.none _ | refine LeO.ite ?_ ?_ | refine LeO.bind ?_ (fun _ => ?_))
  ·intro y0 y1 y2
   unfold zqO.j2
   repeat' (with_reducible first | exact ih0 _ _ _ | exact ih1 _ _ _ | exact ih2 _ _ _ | exact zlS.mono _ _ | exact LeO.refl _ | exact LeO.none _ | refine LeO.ite ?_ ?_ | refine LeO.bind ?_ (fun _ => ?_))
  ·intro y0 y1 y2
   unfold zqO.l0
   repeat' (with_reducible first | exact ih0 _ _ _ | exact ih1 _ _ _ | exact ih2 _ _ _ | exact zlS.mono _ _ | exact LeO.refl _ | exact LeO.none _ | refine LeO.ite ?_ ?_ | refine LeO.bind ?_ (fun _ => ?_))
theorem zqO.mono : ∀ a0 k, LeO (zqO.f k a0) (zqO.f (k + 1) a0) := by
 intro a0 k; obtain ⟨ih0, ih1, ih2⟩ := zqO.mono_l k; unfold zqO.f
 repeat' (with_reducible first | exact ih0 _ _ _ | exact ih1 _ _ _ | exact ih2 _ _ _ | exact zlS.mono _ _ | exact LeO.refl _ | exact LeO.none _ | refine LeO.ite ?_ ?_ | refine LeO.bind ?_ (fun _ => ?_))
theorem zqO.calls (k : Nat) (a0 : ByteArray) (r1 : Int) (r2 : Int) (r3 : Bool) (w : World) (h : zqO.f k a0 = some (r1, r2, r3)) :
  Calls Tryz.prog 35 #[.string a0] w fun e w' => e = .returned (.tuple #[.int .i64 r1, .int .i64 r2, .bool r3]) ∧ Drawn0 w w' := by
 have H := h; unfold zqO.f at H; clear h; have HC2 := zpS H; clear H; go_enter Tryz.func35, Tryz.ntmps35
 go_upto_region 2 with (fail)
 go_cut [25] (fun v25 wc => ∃ (kq : Nat) (x25_1 : Bool), v25 = .bool x25_1 ∧ Aside0 (zqO.j0 kq a0 (a0.size : Int) x25_1 = some (r1, r2, r3)) ∧ Aside0 (kq ≤ k) ∧ Drawn0 w wc)
 case first =>
  have H := HC2.out; clear HC2; replace H := ip_ H
  rcases H with ⟨c3, H⟩ | ⟨c3, H⟩
  ·have c3b0 := bqt_ c3
   have c3b1 := bnf_ c3; clear c3
   (first | rw [c3b0] | (simp only [zcN, ziJ]; rw [c3b0]) | skip)
   have H' := zpS H; clear H
   go_wp2
   go_meet
   case rel => exact ⟨_, (true), (ey_), H', ⟨by first | omega | exact Nat.le_refl _⟩, dn_⟩
  ·have c3b0 := bqf_ c3
   have c3b1 := bnt_ c3
   (first | rw [c3b0] | (simp only [zcN, ziJ]; rw [c3b0]) | skip)
   obtain ⟨ji4, hji4⟩ : ∃ j_ : Int, (wrap64 ((a0.size : Int) - 1)) = j_ := ⟨_, rfl⟩
   replace H : (if 0 ≤ (ji4) then (if (ji4) < (a0.size : Int) then (zqO.j0 k a0 (a0.size : Int) ((bt a0 (ji4)) != 114)) else (none)) else (none)) = some (r1, r2, r3) := by first | (rw [hji4] at H; exact H) | (simp only [hji4] at H ⊢; exact H)
   have hji4w : (IntKind.i64.wrap ((a0.size : Int) - 1)) = ji4 := (zcN _).trans hji4; replace H := ie_ H; obtain ⟨c5b0, H⟩ := H; replace H := ie_ H; obtain ⟨c6b0, H⟩ := H; have H' := zpS H; clear H; have p7 : 0 ≤ ((ji4) : Int) := dt_; have q7 : (ji4) < (a0.size : Int) := dt_; have hx7 := bt_at a0 (ji4); replace p7 := eq_true p7; replace q7 := eq_true q7
   go_wp2
   go_meet
   case rel => exact ⟨_, (((bt a0 (ji4)) != 114)), (by first | rfl | (simp; done) | (simp only [← hji4] <;> (first | rfl | simp)) | (simp [*]; done)), H', ⟨by first | omega | exact Nat.le_refl _⟩, dn_⟩
 case rest =>
  clear HC2; (try clear p2); (try clear c3); (try clear c3b0); (try clear c3b1); (try clear c5); (try clear c5b0); (try clear c6); (try clear c6b0); (try clear p6); (try clear p7); (try clear q7); (try clear hx7); (try clear p7); (try clear q7); obtain ⟨kq, x25_1, rfl, HA, HJ1, ⟨mc1, rfl⟩⟩ := hcut
  cases kq with
  | zero => exact absurd HA.out (by simp [zqO.j0])
  | succ kj1 =>
   have H := HA.out; clear HA; simp only [zqO.j0] at H; replace H := ib_ H
   rcases H with ⟨rfl, H⟩ | ⟨rfl, H⟩
   ·replace H := be_ H
    obtain ⟨⟨t111, t112⟩, A9, H⟩ := H; dsimp only at H; simp only [Option.some.injEq, Prod.mk.injEq] at H; obtain ⟨rfl, rfl, rfl⟩ := H
    go_wp2_with (first | ((with_reducible refine zgK (f := 34) rfl ?_); refine gl_ (some 28) Tryz.func34 #[.string a0] ?_; (with_reducible refine (zlS.calls kj1 a0 t111 t112 _ A9.out).mono ?_); rintro e w' ⟨rfl, ⟨nd, rfl⟩⟩; refine ⟨_, rfl, ?_⟩))
    go_ret3
    exact ⟨ey_, dn_⟩
   ·have HC10 := zpS H
    clear H
    go_upto_block 0 with (fail)
    go_cut [8] (fun v8 wc => ∃ (kq : Nat) (x8_9 : Int), v8 = .int .i64 x8_9 ∧ Aside0 (zqO.j2 kq a0 (a0.size : Int) x8_9 = some (r1, r2, r3)) ∧ Aside0 (kq ≤ kj1) ∧ Drawn0 w wc)
    case first =>
     have H := HC10.out; clear HC10; have H' := zpS H; clear H
     go_wp2
     (try go_simp)
     go_loopg [8] kj1 (fun kq v8 w' => ∃ (x8_2 : Int), v8 = .int .i64 x8_2 ∧ Aside0 (zqO.l0 kq a0 (a0.size : Int) x8_2 = some (r1, r2, r3)) ∧ Aside0 (kq ≤ kj1) ∧ Drawn0 w w')
     case atStart => exact ⟨(wrap64 ((a0.size : Int) - 2)), (ey_), H', ⟨Nat.le_refl _⟩, dn_⟩
     case round =>
      clear H'; (try clear c1); (try clear p2); (try clear c3); (try clear c3b0); (try clear c3b1); (try clear c5); (try clear c5b0); (try clear c6); (try clear c6b0); (try clear p6); (try clear p7); (try clear q7); (try clear hx7); (try clear c8); (try clear p2); (try clear p6); (try clear p7); (try clear q7); obtain ⟨x8_2, rfl, HA, HK2, ⟨m2, rfl⟩⟩ := hrel
      cases gk with
      | zero => exact absurd HA.out (by simp [zqO.l0])
      | succ k2 =>
       have H := HA.out; clear HA; simp only [zqO.l0] at H; replace H := ip_ H
       rcases H with ⟨c11, H⟩ | ⟨c11, H⟩
       ·have c11b0 : decide (0 < x8_2) = true := decide_eq_true c11
        clear c11
        (first | rw [c11b0] | (simp only [zcN, ziJ]; rw [c11b0]) | skip)
        replace H := ie_ H; obtain ⟨c12b0, H⟩ := H; replace H := ie_ H; obtain ⟨c13b0, H⟩ := H; replace H := ip_ H
        rcases H with ⟨c15, H⟩ | ⟨c15, H⟩
        ·have c15b0 := bqt_ c15
         have c15b1 := bnf_ c15; clear c15; have H' := zpS H; clear H; have p14 : 0 ≤ (x8_2 : Int) := dt_; have q14 : x8_2 < (a0.size : Int) := dt_; have hx14 := bt_at a0 x8_2; replace p14 := eq_true p14; replace q14 := eq_true q14
         go_wp2
         go_meet
         case rel => exact ⟨_, (x8_2), (ey_), H', ⟨by have := HJ1.out; have := HK2.out; first | omega | exact Nat.le_refl _⟩, dn_⟩
        ·have c15b0 := bqf_ c15
         have c15b1 := bnt_ c15; replace H := ip_ H
         rcases H with ⟨c17, H⟩ | ⟨c17, H⟩
         ·have c17b0 := bqt_ c17
          have c17b1 := bnf_ c17; clear c17; have H' := zpS H; clear H; have p14 : 0 ≤ (x8_2 : Int) := dt_; have q14 : x8_2 < (a0.size : Int) := dt_; have hx14 := bt_at a0 x8_2; replace p14 := eq_true p14; replace q14 := eq_true q14; have p16 : 0 ≤ (x8_2 : Int) := dt_; have q16 : x8_2 < (a0.size : Int) := dt_; have hx16 := bt_at a0 x8_2; replace p16 := eq_true p16; replace q16 := eq_true q16
          go_wp2
          go_meet
          case rel => exact ⟨_, (x8_2), (ey_), H', ⟨by have := HJ1.out; have := HK2.out; first | omega | exact Nat.le_refl _⟩, dn_⟩
         ·have c17b0 := bqf_ c17
          have c17b1 := bnt_ c17; have H' := zpS H; clear H; have p14 : 0 ≤ (x8_2 : Int) := dt_; have q14 : x8_2 < (a0.size : Int) := dt_; have hx14 := bt_at a0 x8_2; replace p14 := eq_true p14; replace q14 := eq_true q14; have p16 : 0 ≤ (x8_2 : Int) := dt_; have q16 : x8_2 < (a0.size : Int) := dt_; have hx16 := bt_at a0 x8_2; replace p16 := eq_true p16; replace q16 := eq_true q16
          go_wp2
          go_roundg k2
          case measure => have := HJ1.out; have := HK2.out; omega
          case rel => exact ⟨(wrap64 (x8_2 - 1)), (ey_), H', ⟨by have := HJ1.out; have := HK2.out; omega⟩, dn_⟩
       ·have c11b0 : decide (0 < x8_2) = false := decide_eq_false c11
        clear c11
        (first | rw [c11b0] | (simp only [zcN, ziJ]; rw [c11b0]) | skip)
        have H' := zpS H; clear H
        go_wp2
        go_meet
        case rel => exact ⟨_, (x8_2), (ey_), H', ⟨by have := HJ1.out; have := HK2.out; first | omega | exact Nat.le_refl _⟩, dn_⟩
    case rest =>
     clear HC10; (try clear c1); (try clear p1); (try clear q1); (try clear hx1); (try clear p2); (try clear c3); (try clear c3b0); (try clear c3b1); (try clear c5); (try clear c5b0); (try clear c6); (try clear c6b0); (try clear p6); (try clear p7); (try clear q7); (try clear hx7); (try clear c8); (try clear c11); (try clear c11b0); (try clear c12); (try clear c12b0); (try clear c13); (try clear c13b0); (try clear p14); (try clear q14); (try clear hx14); (try clear c15); (try clear c15b0); (try clear c15b1); (try clear p16); (try clear q16); (try clear hx16); (try clear c17); (try clear c17b0); (try clear c17b1); (try clear p14); (try clear p16); (try clear p2); (try clear p6); (try clear p7); (try clear q14); (try clear q16); (try clear q7); obtain ⟨kq, x8_9, rfl, HA, HJ9, ⟨mc9, rfl⟩⟩ := hcut
     cases kq with
     | zero => exact absurd HA.out (by simp [zqO.j2])
     | succ kj9 =>
      have H := HA.out; clear HA; simp only [zqO.j2] at H; replace H := iq_ H
      rcases H with ⟨c18b0, H⟩ | ⟨c18b0, H⟩
      ·obtain ⟨ji19, hji19⟩ : ∃ j_ : Int, (wrap64 ((a0.size : Int) - 1)) = j_ := ⟨_, rfl⟩
       replace H : (if 0 ≤ (ji19) then (if (ji19) ≤ (a0.size : Int) then ((zlS.f kj9 (a0.extract 0 ((ji19) : Int).toNat)).bind fun bt113 => (some (0, bt113.1, bt113.2))) else (none)) else (none)) = some (r1, r2, r3) := by first | (rw [hji19] at H; exact H) | (simp only [hji19] at H ⊢; exact H)
       have hji19w : (IntKind.i64.wrap ((a0.size : Int) - 1)) = ji19 := (zcN _).trans hji19; replace H := in_ H; obtain ⟨c20, H⟩ := H; have c20b0 := eq_true c20; have c20b1 := decide_eq_true c20; clear c20; replace H := in_ H; obtain ⟨c21, H⟩ := H; have c21b0 := eq_true c21; have c21b1 := decide_eq_true c21; clear c21; replace H := be_ H; obtain ⟨⟨t113, t114⟩, A22, H⟩ := H; dsimp only at H; simp only [Option.some.injEq, Prod.mk.injEq] at H; obtain ⟨rfl, rfl, rfl⟩ := H
       go_wp2_with (first | ((with_reducible refine zgK (f := 34) rfl ?_); refine goesL_ (some 58) rfl rfl Tryz.func34 (by kernel_rfl) rfl #[.string (a0.extract 0 ((ji19) : Int).toNat)] rfl (by (try simp only [List.map_toArray, List.map_cons, List.map_nil]); first | done | (simp only [hji19]; rfl) | rfl | (simp only [List.length_drop, List.length_take]; rfl)) ?_; (with_reducible refine (zlS.calls kj9 (a0.extract 0 ((ji19) : Int).toNat) t113 t114 _ A22.out).mono ?_); rintro e w' ⟨rfl, ⟨nd, rfl⟩⟩; refine ⟨_, rfl, ?_⟩))
       go_ret3
       exact ⟨by first | rfl | (simp; done) | (simp only [← hji19] <;> (first | rfl | simp)) | (simp [*]; done), dn_⟩
      ·replace H := in_ H
       obtain ⟨c23, H⟩ := H; have c23b0 := eq_true c23; have c23b1 := decide_eq_true c23; clear c23; replace H := in_ H; obtain ⟨c24, H⟩ := H; have c24b0 := eq_true c24; have c24b1 := decide_eq_true c24; clear c24; replace H := be_ H; obtain ⟨⟨t115, t116⟩, A25, H⟩ := H; dsimp only at H; have c26b0 := eq_true (dt_ : 0 ≤ x8_9); replace H := in_ H; obtain ⟨c27, H⟩ := H; have c27b0 := eq_true c27; have c27b1 := decide_eq_true c27; clear c27; replace H := in_ H; obtain ⟨c28, H⟩ := H; have c28b0 := eq_true c28; have c28b1 := decide_eq_true c28; clear c28; replace H := be_ H; obtain ⟨⟨t117, t118⟩, A29, H⟩ := H; dsimp only at H; replace H := ib_ H
       rcases H with ⟨rfl, H⟩ | ⟨rfl, H⟩
       ·simp only [Option.some.injEq, Prod.mk.injEq] at H
        obtain ⟨rfl, rfl, rfl⟩ := H
        go_wp2_with (first | ((with_reducible refine zgK (f := 34) rfl ?_); refine gl_ (some 67) Tryz.func34 #[.string (a0.extract 0 (x8_9 : Int).toNat)] ?_; (with_reducible refine (zlS.calls kj9 (a0.extract 0 (x8_9 : Int).toNat) t115 true _ A25.out).mono ?_); rintro e w' ⟨rfl, ⟨nd, rfl⟩⟩; refine ⟨_, rfl, ?_⟩) | ((with_reducible refine zgK (f := 34) rfl ?_); refine gl_ (some 76) Tryz.func34 #[.string (a0.extract (x8_9 : Int).toNat ((wrap64 ((a0.size : Int) - 1)) : Int).toNat)] ?_; (with_reducible refine (zlS.calls kj9 (a0.extract (x8_9 : Int).toNat ((wrap64 ((a0.size : Int) - 1)) : Int).toNat) t117 t118 _ A29.out).mono ?_); rintro e w' ⟨rfl, ⟨nd, rfl⟩⟩; refine ⟨_, rfl, ?_⟩))
        go_ret3
        exact ⟨ey_, dn_⟩
       ·simp only [Option.some.injEq, Prod.mk.injEq] at H
        obtain ⟨rfl, rfl, rfl⟩ := H
        go_wp2_with (first | ((with_reducible refine zgK (f := 34) rfl ?_); refine gl_ (some 67) Tryz.func34 #[.string (a0.extract 0 (x8_9 : Int).toNat)] ?_; (with_reducible refine (zlS.calls kj9 (a0.extract 0 (x8_9 : Int).toNat) t115 false _ A25.out).mono ?_); rintro e w' ⟨rfl, ⟨nd, rfl⟩⟩; refine ⟨_, rfl, ?_⟩) | ((with_reducible refine zgK (f := 34) rfl ?_); refine gl_ (some 76) Tryz.func34 #[.string (a0.extract (x8_9 : Int).toNat ((wrap64 ((a0.size : Int) - 1)) : Int).toNat)] ?_; (with_reducible refine (zlS.calls kj9 (a0.extract (x8_9 : Int).toNat ((wrap64 ((a0.size : Int) - 1)) : Int).toNat) t117 t118 _ A29.out).mono ?_); rintro e w' ⟨rfl, ⟨nd, rfl⟩⟩; refine ⟨_, rfl, ?_⟩))
        go_ret3
        exact ⟨ey_, dn_⟩

def ziE.f (a0 : Int) (a1 : Int) (a2 : Int) : Option (Bool) := if a0 ≥ a1 then (some (decide (a0 ≤ a2))) else (some false)
theorem ziE.calls (a0 : Int) (a1 : Int) (a2 : Int) (r : Bool) (w : World) (h : ziE.f a0 a1 a2 = some r) :
  Calls Tryz.prog 22 #[.int .i64 a0, .int .i64 a1, .int .i64 a2] w fun e w' => e = .returned (.bool r) ∧ Drawn0 w w' := by
 have H := h; unfold ziE.f at H; clear h; replace H := ip_ H
 rcases H with ⟨c4, H⟩ | ⟨c4, H⟩
 ·have c4b0 : decide (a1 ≤ a0) = true := decide_eq_true c4
  clear c4; obtain rfl := Option.some.inj H; go_enter Tryz.func22, Tryz.ntmps22
  go_wp2
  go_ret
  exact ⟨ey_, dn_⟩
 ·have c4b0 : decide (a1 ≤ a0) = false := decide_eq_false c4
  clear c4; obtain rfl := Option.some.inj H; go_enter Tryz.func22, Tryz.ntmps22
  go_wp2
  go_ret
  exact ⟨ey_, dn_⟩

def zeG.f (a0_0 : Int) (a0_1 : Int) (a0_2 : Int) : Option (Bool) := (ziE.f a0_0 (-131072) 131072).bind fun t120 => (if t120 = true then ((ziE.f a0_1 (-131072) 131072).bind fun t121 => (if t121 = true then ((ziE.f a0_2 0 10).bind fun t122 => (if t122 = true then (if a0_2 = 0 then (some true) else (if (Int.tmod a0_0 2) = 0 then (some ((Int.tmod a0_1 2) != 0)) else (some true))) else (some false))) else (some false))) else (some false))
theorem zeG.calls (a0_0 : Int) (a0_1 : Int) (a0_2 : Int) (r : Bool) (w : World) (h : zeG.f a0_0 a0_1 a0_2 = some r) :
  Calls Tryz.prog 37 #[.agg #[.int .i64 a0_0, .int .i64 a0_1, .int .i64 a0_2]] w fun e w' => e = .returned (.bool r) ∧ Below w.heap.size w w' := by
 have hu31 := Tryz.underlying31; have HB := zpS (Below.refl w.heap.size w); have H := h; unfold zeG.f at H; clear h; replace H := be_ H; obtain ⟨t120, A2, H⟩ := H; replace H := ib_ H
 rcases H with ⟨rfl, H⟩ | ⟨rfl, H⟩
 ·replace H := be_ H
  obtain ⟨t121, A4, H⟩ := H; replace H := ib_ H
  rcases H with ⟨rfl, H⟩ | ⟨rfl, H⟩
  ·replace H := be_ H
   obtain ⟨t122, A6, H⟩ := H; replace H := ib_ H
   rcases H with ⟨rfl, H⟩ | ⟨rfl, H⟩
   ·replace H := ip_ H
    rcases H with ⟨c8, H⟩ | ⟨c8, H⟩
    ·have c8b0 := bqt_ c8
     have c8b1 := bnf_ c8; clear c8; obtain rfl := Option.some.inj H; go_enter Tryz.func37, Tryz.ntmps37
     go_wp2_with (first | ((with_reducible refine zpZ (N := 1) rfl ?_); refine bx_ 1 #[.int .i64 a0_0, .int .i64 a0_1, .int .i64 a0_2] 31 ?_; intro gb119 hg w9 hbox hb; have BK119 := zpS (hbox); have GW119 := ng_ hg; replace HB := ns_ hb; have GE119 := GW119; clear hb hbox hg; obtain ⟨hcz10_0, hcz10_1, hcz10_2⟩ := zdT BK119.out; obtain ⟨hfz10_0, hfz10_1, hfz10_2⟩ := zqD BK119.out) | ((with_reducible refine zgK (f := 22) rfl ?_); refine gl_ (some 5) Tryz.func22 #[.int .i64 a0_0, .int .i64 (-131072), .int .i64 131072] ?_; (with_reducible refine (ziE.calls a0_0 (-131072) 131072 true _ A2.out).mono ?_); rintro e w' ⟨rfl, ⟨nd, rfl⟩⟩; refine ⟨_, rfl, ?_⟩) | (go_at_call 22; (with_reducible refine (ziE.calls a0_1 (-131072) 131072 true _ A4.out).mono ?_); rintro e w' ⟨rfl, ⟨nd, rfl⟩⟩) | (go_at_call 22; (with_reducible refine (ziE.calls a0_2 0 10 true _ A6.out).mono ?_); rintro e w' ⟨rfl, ⟨nd, rfl⟩⟩))
     go_ret
     exact ⟨ex_, bb_⟩
    ·have c8b0 := bqf_ c8
     have c8b1 := bnt_ c8; replace H := ip_ H
     rcases H with ⟨c11, H⟩ | ⟨c11, H⟩
     ·have c11b0 := bqt_ c11
      have c11b1 := bnf_ c11; clear c11; obtain rfl := Option.some.inj H; go_enter Tryz.func37, Tryz.ntmps37
      go_wp2_with (first | ((with_reducible refine zpZ (N := 1) rfl ?_); refine bx_ 1 #[.int .i64 a0_0, .int .i64 a0_1, .int .i64 a0_2] 31 ?_; intro gb119 hg w12 hbox hb; have BK119 := zpS (hbox); have GW119 := ng_ hg; replace HB := ns_ hb; have GE119 := GW119; clear hb hbox hg; obtain ⟨hcz13_0, hcz13_1, hcz13_2⟩ := zdT BK119.out; obtain ⟨hfz13_0, hfz13_1, hfz13_2⟩ := zqD BK119.out) | ((with_reducible refine zgK (f := 22) rfl ?_); refine gl_ (some 5) Tryz.func22 #[.int .i64 a0_0, .int .i64 (-131072), .int .i64 131072] ?_; (with_reducible refine (ziE.calls a0_0 (-131072) 131072 true _ A2.out).mono ?_); rintro e w' ⟨rfl, ⟨nd, rfl⟩⟩; refine ⟨_, rfl, ?_⟩) | (go_at_call 22; (with_reducible refine (ziE.calls a0_1 (-131072) 131072 true _ A4.out).mono ?_); rintro e w' ⟨rfl, ⟨nd, rfl⟩⟩) | (go_at_call 22; (with_reducible refine (ziE.calls a0_2 0 10 true _ A6.out).mono ?_); rintro e w' ⟨rfl, ⟨nd, rfl⟩⟩))
      go_ret
      exact ⟨ex_, bb_⟩
     ·have c11b0 := bqf_ c11
      have c11b1 := bnt_ c11; obtain rfl := Option.some.inj H; go_enter Tryz.func37, Tryz.ntmps37
      go_wp2_with (first | ((with_reducible refine zpZ (N := 1) rfl ?_); refine bx_ 1 #[.int .i64 a0_0, .int .i64 a0_1, .int .i64 a0_2] 31 ?_; intro gb119 hg w14 hbox hb; have BK119 := zpS (hbox); have GW119 := ng_ hg; replace HB := ns_ hb; have GE119 := GW119; clear hb hbox hg; obtain ⟨hcz15_0, hcz15_1, hcz15_2⟩ := zdT BK119.out; obtain ⟨hfz15_0, hfz15_1, hfz15_2⟩ := zqD BK119.out) | ((with_reducible refine zgK (f := 22) rfl ?_); refine gl_ (some 5) Tryz.func22 #[.int .i64 a0_0, .int .i64 (-131072), .int .i64 131072] ?_; (with_reducible refine (ziE.calls a0_0 (-131072) 131072 true _ A2.out).mono ?_); rintro e w' ⟨rfl, ⟨nd, rfl⟩⟩; refine ⟨_, rfl, ?_⟩) | (go_at_call 22; (with_reducible refine (ziE.calls a0_1 (-131072) 131072 true _ A4.out).mono ?_); rintro e w' ⟨rfl, ⟨nd, rfl⟩⟩) | (go_at_call 22; (with_reducible refine (ziE.calls a0_2 0 10 true _ A6.out).mono ?_); rintro e w' ⟨rfl, ⟨nd, rfl⟩⟩))
      go_ret
      exact ⟨ex_, bb_⟩
   ·obtain rfl := Option.some.inj H
    go_enter Tryz.func37, Tryz.ntmps37
    go_wp2_with (first | ((with_reducible refine zpZ (N := 1) rfl ?_); refine bx_ 1 #[.int .i64 a0_0, .int .i64 a0_1, .int .i64 a0_2] 31 ?_; intro gb119 hg w16 hbox hb; have BK119 := zpS (hbox); have GW119 := ng_ hg; replace HB := ns_ hb; have GE119 := GW119; clear hb hbox hg; obtain ⟨hcz17_0, hcz17_1, hcz17_2⟩ := zdT BK119.out; obtain ⟨hfz17_0, hfz17_1, hfz17_2⟩ := zqD BK119.out) | ((with_reducible refine zgK (f := 22) rfl ?_); refine gl_ (some 5) Tryz.func22 #[.int .i64 a0_0, .int .i64 (-131072), .int .i64 131072] ?_; (with_reducible refine (ziE.calls a0_0 (-131072) 131072 true _ A2.out).mono ?_); rintro e w' ⟨rfl, ⟨nd, rfl⟩⟩; refine ⟨_, rfl, ?_⟩) | (go_at_call 22; (with_reducible refine (ziE.calls a0_1 (-131072) 131072 true _ A4.out).mono ?_); rintro e w' ⟨rfl, ⟨nd, rfl⟩⟩) | (go_at_call 22; (with_reducible refine (ziE.calls a0_2 0 10 false _ A6.out).mono ?_); rintro e w' ⟨rfl, ⟨nd, rfl⟩⟩))
    go_ret
    exact ⟨ex_, bb_⟩
  ·obtain rfl := Option.some.inj H
   go_enter Tryz.func37, Tryz.ntmps37
   go_wp2_with (first | ((with_reducible refine zpZ (N := 1) rfl ?_); refine bx_ 1 #[.int .i64 a0_0, .int .i64 a0_1, .int .i64 a0_2] 31 ?_; intro gb119 hg w18 hbox hb; have BK119 := zpS (hbox); have GW119 := ng_ hg; replace HB := ns_ hb; have GE119 := GW119; clear hb hbox hg; obtain ⟨hcz19_0, hcz19_1, hcz19_2⟩ := zdT BK119.out; obtain ⟨hfz19_0, hfz19_1, hfz19_2⟩ := zqD BK119.out) | ((with_reducible refine zgK (f := 22) rfl ?_); refine gl_ (some 5) Tryz.func22 #[.int .i64 a0_0, .int .i64 (-131072), .int .i64 131072] ?_; (with_reducible refine (ziE.calls a0_0 (-131072) 131072 true _ A2.out).mono ?_); rintro e w' ⟨rfl, ⟨nd, rfl⟩⟩; refine ⟨_, rfl, ?_⟩) | (go_at_call 22; (with_reducible refine (ziE.calls a0_1 (-131072) 131072 false _ A4.out).mono ?_); rintro e w' ⟨rfl, ⟨nd, rfl⟩⟩))
   go_ret
   exact ⟨ex_, bb_⟩
 ·obtain rfl := Option.some.inj H
  go_enter Tryz.func37, Tryz.ntmps37
  go_wp2_with (first | ((with_reducible refine zpZ (N := 1) rfl ?_); refine bx_ 1 #[.int .i64 a0_0, .int .i64 a0_1, .int .i64 a0_2] 31 ?_; intro gb119 hg w20 hbox hb; have BK119 := zpS (hbox); have GW119 := ng_ hg; replace HB := ns_ hb; have GE119 := GW119; clear hb hbox hg; obtain ⟨hcz21_0, hcz21_1, hcz21_2⟩ := zdT BK119.out; obtain ⟨hfz21_0, hfz21_1, hfz21_2⟩ := zqD BK119.out) | ((with_reducible refine zgK (f := 22) rfl ?_); refine gl_ (some 5) Tryz.func22 #[.int .i64 a0_0, .int .i64 (-131072), .int .i64 131072] ?_; (with_reducible refine (ziE.calls a0_0 (-131072) 131072 false _ A2.out).mono ?_); rintro e w' ⟨rfl, ⟨nd, rfl⟩⟩; refine ⟨_, rfl, ?_⟩))
  go_ret
  exact ⟨ex_, bb_⟩

end Go.Proofs.YtehghobmmpihfaaGreatDoor.PFnExactReadPolygon
