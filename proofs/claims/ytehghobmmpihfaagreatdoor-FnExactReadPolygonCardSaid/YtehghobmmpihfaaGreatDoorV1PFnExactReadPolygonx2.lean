-- Printed for this claim by this session's program pp.py, which drives the kit's print with additions. Not trusted: Lean checks it.
import Derived.Test.YtehghobmmpihfaaGreatDoorV1PFnExactReadPolygonx0
namespace Go.Proofs.YtehghobmmpihfaaGreatDoor.PFnExactReadPolygon
open Go.RowKit Go.Proofs.YtehghobmmpihfaaGreatDoorW.PrintWords Go.Proofs.YtehghobmmpihfaaGreatDoorW.PrintLast Go.Proofs.YtehghobmmpihfaaGreatDoorW.PrintMore
attribute [local go_sem] zbB ziB zrC zhD znE zuB znH zkT   -- for this text's walks alone
set_option linter.unusedVariables false
set_option maxHeartbeats 8000000
set_option maxRecDepth 100000
set_option linter.unusedSimpArgs false

def zjZ.l0 : Nat → ByteArray → Int → List ByteArray → Int → Int → Option (List ByteArray)
 | 0, _, _, _, _, _ => none
 | k + 1, x0, x1, x5, x6, x7 => if x7 < (x0.size : Int) then (if 0 ≤ x7 then (if (bt x0 x7) = x1 then (if 0 ≤ x6 then (if x6 ≤ x7 then (if x7 ≤ (x0.size : Int) then (if x5.length < 8796093022208 then (zjZ.l0 k x0 x1 (x5 ++ [x0.extract (x6 : Int).toNat (x7 : Int).toNat]) (wrap64 (x7 + 1)) (wrap64 (x7 + 1))) else (none)) else (none)) else (none)) else (none)) else (zjZ.l0 k x0 x1 x5 x6 (wrap64 (x7 + 1)))) else (none)) else (if 0 ≤ x6 then (if x6 ≤ (x0.size : Int) then (if x5.length < 8796093022208 then (some (x5 ++ [x0.extract (x6 : Int).toNat x0.size])) else (none)) else (none)) else (none))
def zjZ.f (k : Nat) (a0 : ByteArray) (a1 : Int) : Option (List ByteArray) := zjZ.l0 k a0 a1 (([] : List ByteArray)) 0 0
theorem zjZ.mono_l : ∀ k, (∀ y0 y1 y2 y3 y4, LeO (zjZ.l0 k y0 y1 y2 y3 y4) (zjZ.l0 (k + 1) y0 y1 y2 y3 y4))
 | 0 => fun _ _ _ _ _ r h => by simp [zjZ.l0] at h
 | k + 1 => by
  have ih0 := zjZ.mono_l k
  ·intro y0 y1 y2 y3 y4
   unfold zjZ.l0
   repeat' (with_reducible first | exact ih0 _ _ _ _ _ | exact LeO.refl _ | exact LeO.none _ | refine LeO.ite ?_ ?_ | refine LeO.bind ?_ (fun _ => ?_))
theorem zjZ.mono : ∀ a0 a1 k, LeO (zjZ.f k a0 a1) (zjZ.f (k + 1) a0 a1) := by
 intro a0 a1 k; have ih0 := zjZ.mono_l k; unfold zjZ.f
 repeat' (with_reducible first | exact ih0 _ _ _ _ _ | exact LeO.refl _ | exact LeO.none _ | refine LeO.ite ?_ ?_ | refine LeO.bind ?_ (fun _ => ?_))
theorem zjZ.calls (k : Nat) (a0 : ByteArray) (a1 : Int) (r : List ByteArray) (w : World) (h : zjZ.f k a0 a1 = some r) :
  Calls Tryz.prog 9 #[.string a0, .int .u8 a1] w fun e w' => ∃ v0_ : Value, e = .returned (v0_) ∧ Kd.R Kd.string 9 w' w.heap.size (fun _ => True) v0_ r ∧ Below w.heap.size w w' := by
 have HB := zpS (Below.refl w.heap.size w); have H := h; unfold zjZ.f at H; clear h; obtain ⟨y101, hy101⟩ : ∃ y_ : List ByteArray, y_ = (([] : List ByteArray)) := ⟨_, rfl⟩
 replace H : (zjZ.l0 k a0 a1 y101 0 0) = some r := by first | (rw [hy101]; with_reducible exact H) | (have H2_ := (Option.bind_some _ _).symm.trans H; rw [hy101]; with_reducible exact H2_) | (have H2_ := (Option.bind_some _ _).symm.trans H; with_reducible exact H2_) | with_reducible exact H | (rw [hy101]; exact H) | exact H
 have Ny101 := zpS hy101; clear hy101; have H' := zpS H; clear H; go_enter Tryz.func9, Tryz.ntmps9
 go_wp2_with (first | ((with_reducible refine zpZ (N := 8) rfl ?_); refine Kd.R_lit Kd.string _ 9 ?hg (N := 8) ?hd (xs := ([] : List ByteArray)) (inner := []) (ok := fun _ => True) (okp := fun _ => True) ?hr ?hp (fun _ hk => hk) trivial (Below.refl _ _) (Nat.le_refl _) (by simp) ?_; (case hd => rfl); (case hg => rfl); (case hr => first | (go_simp; done) | (go_simp; rfl)); (case hp => exact (zfH.none _ _)); intro v102 w3 ho4 hb hg_ hnew_; clear hg_ hnew_; (first | rw [← Ny101.out] at ho4 | (simp only [Int.reduceToNat] at ho4; rw [← Ny101.out] at ho4)); have HO103 := zpS (Kd.R_lower ho4 (zuA bb_)); replace HB := ns_ hb; clear hb ho4))
 (try go_simp)
 go_loopg [5, 6, 7] k (fun kq v5 v6 v7 w' => ∃ (x5_1 : List ByteArray) (x6_1 : Int) (x7_1 : Int), v6 = .int .i64 x6_1 ∧ v7 = .int .i64 x7_1 ∧ Aside0 (zjZ.l0 kq a0 a1 x5_1 x6_1 x7_1 = some r) ∧ Aside0 (kq ≤ k) ∧ Aside0 (Kd.R Kd.string 9 w' w.heap.size (fun _ => True) v5 x5_1) ∧ Aside0 (Below w.heap.size w w'))
 case atStart => exact ⟨(y101), (0), (0), (ey_), (ey_), H', ⟨Nat.le_refl _⟩, ⟨by (with_reducible repeat (first | apply Kd.R_alloc | apply Kd.R_drewN | apply Kd.R_drew)); exact HO103.out⟩, ⟨bb_⟩⟩
 case round =>
  clear H'; (try clear p2); obtain ⟨x5_1, x6_1, x7_1, rfl, rfl, HA, HK1, HO_5, HB⟩ := hrel
  cases gk with
  | zero => exact absurd HA.out (by simp [zjZ.l0])
  | succ k1 =>
   have H := HA.out; clear HA; simp only [zjZ.l0] at H; replace H := iq_ H
   rcases H with ⟨c5b0, H⟩ | ⟨c5b0, H⟩
   ·replace H := ie_ H
    obtain ⟨c6b0, H⟩ := H; replace H := ip_ H
    rcases H with ⟨c8, H⟩ | ⟨c8, H⟩
    ·have c8b0 := bqt_ c8
     have c8b1 := bnf_ c8; clear c8; replace H := in_ H; obtain ⟨c9, H⟩ := H; have c9b0 := eq_true c9; have c9b1 := decide_eq_true c9; clear c9; replace H := in_ H; obtain ⟨c10, H⟩ := H; have c10b0 := eq_true c10; have c10b1 := decide_eq_true c10; clear c10; replace H := in_ H; obtain ⟨c11, H⟩ := H; have c11b0 := eq_true c11; have c11b1 := decide_eq_true c11; clear c11; replace H := in_ H; obtain ⟨c12, H⟩ := H; have LMc12 := zpS c12; clear c12; obtain ⟨y104, hy104⟩ : ∃ y_ : List ByteArray, y_ = (x5_1 ++ [a0.extract (x6_1 : Int).toNat (x7_1 : Int).toNat]) := ⟨_, rfl⟩
     replace H : (zjZ.l0 k1 a0 a1 y104 (wrap64 (x7_1 + 1)) (wrap64 (x7_1 + 1))) = some r := by first | (rw [hy104]; with_reducible exact H) | (have H2_ := (Option.bind_some _ _).symm.trans H; rw [hy104]; with_reducible exact H2_) | (have H2_ := (Option.bind_some _ _).symm.trans H; with_reducible exact H2_) | with_reducible exact H | (rw [hy104]; exact H) | exact H
     have Ny104 := zpS hy104; clear hy104; have H' := zpS H; clear H; have p7 : 0 ≤ (x7_1 : Int) := dt_; have q7 : x7_1 < (a0.size : Int) := dt_; have hx7 := bt_at a0 x7_1; replace p7 := eq_true p7; replace q7 := eq_true q7
     go_wp2_with (first | ((with_reducible refine zcL (b := .append) (xs := #[.tmp 20, .tmp 25]) rfl ?_); at_builtin; refine Kd.R_append Kd.string (w0 := w) w.heap.size rfl (.tmp 20) (.tmp 25) 28 9 (.string ⟨#[]⟩) 16 rfl Tryz.underlying28 info9 rfl (by decide) (by omega) u5 x5_1 (a0.extract (x6_1 : Int).toNat (x7_1 : Int).toNat) [.string (a0.extract (x6_1 : Int).toNat (x7_1 : Int).toNat)] (fun _ => True) (fun _ => False) rfl rfl ?aP (fun _ hk => hk.elim) ?aF ?aO ?aB ?aS ?aL ?_; (case aP => exact rfl); (case aB => exact bb_); (case aF => exact (fun _ _ => trivial)); (case aO => exact (by (with_reducible repeat (first | apply Kd.R_alloc | apply Kd.R_drewN | apply Kd.R_drew)); exact HO_5.out)); (case aS => exact (zuA bb_)); (case aL => have := LMc12.out; omega); intro v105 w13 ho hb hg hat; rw [← Ny104.out] at ho; replace HB := zpS (hb); have HO106 := zpS (ho); clear HO_5; clear ho hb hg hat))
     go_roundg k1
     case measure => have := HK1.out; omega
     case rel => exact ⟨(y104), (wrap64 (x7_1 + 1)), (wrap64 (x7_1 + 1)), (ey_), (ey_), H', ⟨by have := HK1.out; omega⟩, ⟨by (with_reducible repeat (first | apply Kd.R_alloc | apply Kd.R_drewN | apply Kd.R_drew)); exact HO106.out⟩, ⟨bb_⟩⟩
    ·have c8b0 := bqf_ c8
     have c8b1 := bnt_ c8; have H' := zpS H; clear H; have p7 : 0 ≤ (x7_1 : Int) := dt_; have q7 : x7_1 < (a0.size : Int) := dt_; have hx7 := bt_at a0 x7_1; replace p7 := eq_true p7; replace q7 := eq_true q7
     go_wp2
     go_roundg k1
     case measure => have := HK1.out; omega
     case rel => exact ⟨(x5_1), (x6_1), (wrap64 (x7_1 + 1)), (ey_), (ey_), H', ⟨by have := HK1.out; omega⟩, ⟨by (with_reducible repeat (first | apply Kd.R_alloc | apply Kd.R_drewN | apply Kd.R_drew)); exact HO_5.out⟩, ⟨bb_⟩⟩
   ·replace H := in_ H
    obtain ⟨c14, H⟩ := H; have c14b0 := eq_true c14; have c14b1 := decide_eq_true c14; clear c14; replace H := in_ H; obtain ⟨c15, H⟩ := H; have c15b0 := eq_true c15; have c15b1 := decide_eq_true c15; clear c15; replace H := in_ H; obtain ⟨c16, H⟩ := H; have LMc16 := zpS c16; clear c16; obtain ⟨y107, hy107⟩ : ∃ y_ : List ByteArray, y_ = (x5_1 ++ [a0.extract (x6_1 : Int).toNat a0.size]) := ⟨_, rfl⟩
    replace H : (some y107) = some r := by first | (rw [hy107]; with_reducible exact H) | (have H2_ := (Option.bind_some _ _).symm.trans H; rw [hy107]; with_reducible exact H2_) | (have H2_ := (Option.bind_some _ _).symm.trans H; with_reducible exact H2_) | with_reducible exact H | (rw [hy107]; exact H) | exact H
    have Ny107 := zpS hy107; clear hy107; obtain rfl := Option.some.inj H
    go_wp2_with (first | ((with_reducible refine zcL (b := .append) (xs := #[.tmp 29, .tmp 33]) rfl ?_); at_builtin; refine Kd.R_append Kd.string (w0 := w) w.heap.size rfl (.tmp 29) (.tmp 33) 28 9 (.string ⟨#[]⟩) 16 rfl Tryz.underlying28 info9 rfl (by decide) (by omega) u5 x5_1 (a0.extract (x6_1 : Int).toNat a0.size) [.string (a0.extract (x6_1 : Int).toNat a0.size)] (fun _ => True) (fun _ => False) rfl rfl ?aP (fun _ hk => hk.elim) ?aF ?aO ?aB ?aS ?aL ?_; (case aP => exact rfl); (case aB => exact bb_); (case aF => exact (fun _ _ => trivial)); (case aO => exact (by (with_reducible repeat (first | apply Kd.R_alloc | apply Kd.R_drewN | apply Kd.R_drew)); exact HO_5.out)); (case aS => exact (zuA bb_)); (case aL => have := LMc16.out; omega); intro v108 w17 ho hb hg hat; rw [← Ny107.out] at ho; replace HB := zpS (hb); have HO109 := zpS (ho); clear HO_5; clear ho hb hg hat))
    go_ret
    exact ⟨_, ex_, by (with_reducible repeat (first | apply Kd.R_alloc | apply Kd.R_drewN | apply Kd.R_drew)); exact HO109.out, bb_⟩

def zsZ.f (a0 : Int) : Option (Bool) := if a0 ≥ 48 then (some (decide (a0 ≤ 57))) else (some false)
theorem zsZ.calls (a0 : Int) (r : Bool) (w : World) (h : zsZ.f a0 = some r) :
  Calls Tryz.prog 61 #[.int .u8 a0] w fun e w' => e = .returned (.bool r) ∧ Drawn0 w w' := by
 have H := h; unfold zsZ.f at H; clear h; replace H := ip_ H
 rcases H with ⟨c2, H⟩ | ⟨c2, H⟩
 ·have c2b0 : decide (48 ≤ a0) = true := decide_eq_true c2
  clear c2; obtain rfl := Option.some.inj H; go_enter Tryz.func61, Tryz.ntmps61
  go_wp2
  go_ret
  exact ⟨ey_, dn_⟩
 ·have c2b0 : decide (48 ≤ a0) = false := decide_eq_false c2
  clear c2; obtain rfl := Option.some.inj H; go_enter Tryz.func61, Tryz.ntmps61
  go_wp2
  go_ret
  exact ⟨ey_, dn_⟩

mutual
def zlS.j0 : Nat → ByteArray → Bool → Option (Int × Bool)
 | 0, _, _ => none
 | k + 1, x0, x4 => if x0.toList = ([] : List UInt8) then (zlS.j1 k x0 x4 false) else (if 0 < (x0.size : Int) then (if (bt x0 0) = 45 then (zlS.j1 k x0 x4 true) else (zlS.j1 k x0 x4 ((bt x0 0) == 43))) else (none))
def zlS.j1 : Nat → ByteArray → Bool → Bool → Option (Int × Bool)
 | 0, _, _, _ => none
 | k + 1, x0, x4, x25 => if x25 = true then (if 1 ≤ (x0.size : Int) then (zlS.j2 k (x0.extract 1 x0.size) x4) else (none)) else (zlS.j2 k x0 x4)
def zlS.j2 : Nat → ByteArray → Bool → Option (Int × Bool)
 | 0, _, _ => none
 | k + 1, x0, x4 => if (x0.size : Int) < 1 then (zlS.j3 k x0 x4 true) else (zlS.j3 k x0 x4 (decide ((x0.size : Int) > 7)))
def zlS.j3 : Nat → ByteArray → Bool → Bool → Option (Int × Bool)
 | 0, _, _, _ => none
 | k + 1, x0, x4, x35 => if x35 = true then (some (0, false)) else (zlS.l0 k x0 x4 0 0)
def zlS.l0 : Nat → ByteArray → Bool → Int → Int → Option (Int × Bool)
 | 0, _, _, _, _ => none
 | k + 1, x0, x4, x5, x6 => if x6 < (x0.size : Int) then (if 0 ≤ x6 then ((zsZ.f (bt x0 x6)).bind fun t110 => (if t110 = true then (zlS.l0 k x0 x4 (wrap64 ((wrap64 (10 * x5)) + (((bt x0 x6) - 48) % 256))) (wrap64 (x6 + 1))) else (some (0, false)))) else (none)) else (if x4 = true then (some (wrap64 (-x5), true)) else (some (x5, true)))
end
def zlS.f (k : Nat) (a0 : ByteArray) : Option (Int × Bool) := if a0.toList = ([] : List UInt8) then (zlS.j0 k a0 false) else (if 0 < (a0.size : Int) then (zlS.j0 k a0 ((bt a0 0) == 45)) else (none))
theorem zlS.mono_l : ∀ k, (∀ y0 y1, LeO (zlS.j0 k y0 y1) (zlS.j0 (k + 1) y0 y1)) ∧ (∀ y0 y1 y2, LeO (zlS.j1 k y0 y1 y2) (zlS.j1 (k + 1) y0 y1 y2)) ∧ (∀ y0 y1, LeO (zlS.j2 k y0 y1) (zlS.j2 (k + 1) y0 y1)) ∧ (∀ y0 y1 y2, LeO (zlS.j3 k y0 y1 y2) (zlS.j3 (k + 1) y0 y1 y2)) ∧ (∀ y0 y1 y2 y3, LeO (zlS.l0 k y0 y1 y2 y3) (zlS.l0 (k + 1) y0 y1 y2 y3))
 | 0 => ⟨fun _ _ r h => by simp [zlS.j0] at h, fun _ _ _ r h => by simp [zlS.j1] at h, fun _ _ r h => by simp [zlS.j2] at h, fun _ _ _ r h => by simp [zlS.j3] at h, fun _ _ _ _ r h => by simp [zlS.l0] at h⟩
 | k + 1 => by
  obtain ⟨ih0, ih1, ih2, ih3, ih4⟩ := zlS.mono_l k; refine ⟨?_, ?_, ?_, ?_, ?_⟩
  ·intro y0 y1
   unfold zlS.j0
   repeat' (with_reducible first | exact ih0 _ _ | exact ih1 _ _ _ | exact ih2 _ _ | exact ih3 _ _ _ | exact ih4 _ _ _ _ | exact LeO.refl _ | exact LeO.none _ | refine LeO.ite ?_ ?_ | refine LeO.bind ?_ (fun _ => ?_))
  ·intro y0 y1 y2
   unfold zlS.j1
   repeat' (with_reducible first | exact ih0 _ _ | exact ih1 _ _ _ | exact ih2 _ _ | exact ih3 _ _ _ | exact ih4 _ _ _ _ | exact LeO.refl _ | exact LeO.none _ | refine LeO.ite ?_ ?_ | refine LeO.bind ?_ (fun _ => ?_))
  ·intro y0 y1
   unfold zlS.j2
   repeat' (with_reducible first | exact ih0 _ _ | exact ih1 _ _ _ | exact ih2 _ _ | exact ih3 _ _ _ | exact ih4 _ _ _ _ | exact LeO.refl _ | exact LeO.none _ | refine LeO.ite ?_ ?_ | refine LeO.bind ?_ (fun _ => ?_))
  ·intro y0 y1 y2
   unfold zlS.j3
   repeat' (with_reducible first | exact ih0 _ _ | exact ih1 _ _ _ | exact ih2 _ _ | exact ih3 _ _ _ | exact ih4 _ _ _ _ | exact LeO.refl _ | exact LeO.none _ | refine LeO.ite ?_ ?_ | refine LeO.bind ?_ (fun _ => ?_))
  ·intro y0 y1 y2 y3
   unfold zlS.l0
   repeat' (with_reducible first | exact ih0 _ _ | exact ih1 _ _ _ | exact ih2 _ _ | exact ih3 _ _ _ | exact ih4 _ _ _ _ | exact LeO.refl _ | exact LeO.none _ | refine LeO.ite ?_ ?_ | refine LeO.bind ?_ (fun _ => ?_))
theorem zlS.mono : ∀ a0 k, LeO (zlS.f k a0) (zlS.f (k + 1) a0) := by
 intro a0 k; obtain ⟨ih0, ih1, ih2, ih3, ih4⟩ := zlS.mono_l k; unfold zlS.f
 repeat' (with_reducible first | exact ih0 _ _ | exact ih1 _ _ _ | exact ih2 _ _ | exact ih3 _ _ _ | exact ih4 _ _ _ _ | exact LeO.refl _ | exact LeO.none _ | refine LeO.ite ?_ ?_ | refine LeO.bind ?_ (fun _ => ?_))
theorem zlS.calls (k : Nat) (a0 : ByteArray) (r1 : Int) (r2 : Bool) (w : World) (h : zlS.f k a0 = some (r1, r2)) :
  Calls Tryz.prog 34 #[.string a0] w fun e w' => e = .returned (.tuple #[.int .i64 r1, .bool r2]) ∧ Drawn0 w w' := by
 have H := h; unfold zlS.f at H; clear h; have HC2 := zpS H; clear H; go_enter Tryz.func34, Tryz.ntmps34
 go_upto_region 1 with (fail)
 go_cut [4] (fun v4 wc => ∃ (kq : Nat) (x4_1 : Bool), v4 = .bool x4_1 ∧ Aside0 (zlS.j0 kq a0 x4_1 = some (r1, r2)) ∧ Aside0 (kq ≤ k) ∧ Drawn0 w wc)
 case first =>
  have H := HC2.out; clear HC2; replace H := ip_ H
  rcases H with ⟨c3, H⟩ | ⟨c3, H⟩
  ·have c3b0 := bqt_ c3
   have c3b1 := bnf_ c3; clear c3
   (first | rw [c3b0] | (simp only [zcN, ziJ]; rw [c3b0]) | skip)
   have H' := zpS H; clear H
   go_wp2
   go_meet
   case rel => exact ⟨_, (false), (ey_), H', ⟨by first | omega | exact Nat.le_refl _⟩, dn_⟩
  ·have c3b0 := bqf_ c3
   have c3b1 := bnt_ c3
   (first | rw [c3b0] | (simp only [zcN, ziJ]; rw [c3b0]) | skip)
   replace H := in_ H; obtain ⟨c4, H⟩ := H; have c4b0 := decide_eq_true c4; have c4b1 : decide (0 < a0.size) = true := decide_eq_true (by omega); clear c4; have H' := zpS H; clear H; have p5 : 0 ≤ (0 : Int) := (by omega)
   have q5 : 0 < a0.size := (by have : (0 : Int) < (a0.size : Int) := dt_; omega)
   have hx5 : ∀ h : 0 < a0.size, ((a0[0]'h).toNat : Int) = bt a0 0 := bt_at a0 0; clear p5; have qi5 : (0 < (a0.size : Int)) = True := eq_true dt_; replace q5 := eq_true q5
   go_wp2
   go_meet
   case rel => exact ⟨_, (((bt a0 0) == 45)), (ey_), H', ⟨by first | omega | exact Nat.le_refl _⟩, dn_⟩
 case rest =>
  clear HC2; (try clear p2); (try clear c3); (try clear c3b0); (try clear c3b1); (try clear c4); (try clear c4b0); (try clear c4b1); (try clear p5); (try clear q5); (try clear hx5); (try clear qi5); (try clear p5); (try clear q5); obtain ⟨kq, x4_1, rfl, HA, HJ1, ⟨mc1, rfl⟩⟩ := hcut
  cases kq with
  | zero => exact absurd HA.out (by simp [zlS.j0])
  | succ kj1 =>
   have H := HA.out; clear HA; simp only [zlS.j0] at H; have HC6 := zpS H; clear H
   go_upto_region 2 with (fail)
   go_cut [25] (fun v25 wc => ∃ (kq : Nat) (x25_5 : Bool), v25 = .bool x25_5 ∧ Aside0 (zlS.j1 kq a0 x4_1 x25_5 = some (r1, r2)) ∧ Aside0 (kq ≤ kj1) ∧ Drawn0 w wc)
   case first =>
    have H := HC6.out; clear HC6; replace H := ip_ H
    rcases H with ⟨c7, H⟩ | ⟨c7, H⟩
    ·have c7b0 := bqt_ c7
     have c7b1 := bnf_ c7; clear c7
     (first | rw [c7b0] | (simp only [zcN, ziJ]; rw [c7b0]) | skip)
     have H' := zpS H; clear H
     go_wp2
     go_meet
     case rel => exact ⟨_, (false), (ey_), H', ⟨by have := HJ1.out; first | omega | exact Nat.le_refl _⟩, dn_⟩
    ·have c7b0 := bqf_ c7
     have c7b1 := bnt_ c7
     (first | rw [c7b0] | (simp only [zcN, ziJ]; rw [c7b0]) | skip)
     replace H := in_ H; obtain ⟨c8, H⟩ := H; have c8b0 := decide_eq_true c8; have c8b1 : decide (0 < a0.size) = true := decide_eq_true (by omega); clear c8; replace H := ip_ H
     rcases H with ⟨c10, H⟩ | ⟨c10, H⟩
     ·have c10b0 := bqt_ c10
      have c10b1 := bnf_ c10; clear c10; have H' := zpS H; clear H; have p9 : 0 ≤ (0 : Int) := (by omega)
      have q9 : 0 < a0.size := (by have : (0 : Int) < (a0.size : Int) := dt_; omega)
      have hx9 : ∀ h : 0 < a0.size, ((a0[0]'h).toNat : Int) = bt a0 0 := bt_at a0 0; clear p9; have qi9 : (0 < (a0.size : Int)) = True := eq_true dt_; replace q9 := eq_true q9
      go_wp2
      go_meet
      case rel => exact ⟨_, (true), (ey_), H', ⟨by have := HJ1.out; first | omega | exact Nat.le_refl _⟩, dn_⟩
     ·have c10b0 := bqf_ c10
      have c10b1 := bnt_ c10; have H' := zpS H; clear H; have p9 : 0 ≤ (0 : Int) := (by omega)
      have q9 : 0 < a0.size := (by have : (0 : Int) < (a0.size : Int) := dt_; omega)
      have hx9 : ∀ h : 0 < a0.size, ((a0[0]'h).toNat : Int) = bt a0 0 := bt_at a0 0; clear p9; have qi9 : (0 < (a0.size : Int)) = True := eq_true dt_; replace q9 := eq_true q9; have p11 : 0 ≤ (0 : Int) := (by omega)
      have q11 : 0 < a0.size := (by have : (0 : Int) < (a0.size : Int) := dt_; omega)
      have hx11 : ∀ h : 0 < a0.size, ((a0[0]'h).toNat : Int) = bt a0 0 := bt_at a0 0; clear p11; have qi11 : (0 < (a0.size : Int)) = True := eq_true dt_; replace q11 := eq_true q11
      go_wp2
      go_meet
      case rel => exact ⟨_, (((bt a0 0) == 43)), (ey_), H', ⟨by have := HJ1.out; first | omega | exact Nat.le_refl _⟩, dn_⟩
   case rest =>
    clear HC6; (try clear c1); (try clear p1); (try clear q1); (try clear hx1); (try clear qi1); (try clear p2); (try clear c3); (try clear c3b0); (try clear c3b1); (try clear c4); (try clear c4b0); (try clear c4b1); (try clear p5); (try clear q5); (try clear hx5); (try clear qi5); (try clear c7); (try clear c7b0); (try clear c7b1); (try clear c8); (try clear c8b0); (try clear c8b1); (try clear p9); (try clear q9); (try clear hx9); (try clear qi9); (try clear c10); (try clear c10b0); (try clear c10b1); (try clear p11); (try clear q11); (try clear hx11); (try clear qi11); (try clear p11); (try clear p2); (try clear p5); (try clear p9); (try clear q11); (try clear q5); (try clear q9); obtain ⟨kq, x25_5, rfl, HA, HJ5, ⟨mc5, rfl⟩⟩ := hcut
    cases kq with
    | zero => exact absurd HA.out (by simp [zlS.j1])
    | succ kj5 =>
     have H := HA.out; clear HA; simp only [zlS.j1] at H; have HC12 := zpS H; clear H
     go_upto_if 25 with (fail)
     go_cut [0] (fun v0 wc => ∃ (kq : Nat) (x0_11 : ByteArray), v0 = .string x0_11 ∧ Aside0 (zlS.j2 kq x0_11 x4_1 = some (r1, r2)) ∧ Aside0 (kq ≤ kj5) ∧ Drawn0 w wc)
     case first =>
      have H := HC12.out; clear HC12; replace H := ib_ H
      rcases H with ⟨rfl, H⟩ | ⟨rfl, H⟩
      ·replace H := in_ H
       obtain ⟨c14, H⟩ := H; have c14b0 := eq_true c14; have c14b1 := decide_eq_true c14; clear c14; have H' := zpS H; clear H
       go_wp2
       go_meet
       case rel => exact ⟨_, (a0.extract 1 a0.size), (ey_), H', ⟨by have := HJ1.out; have := HJ5.out; first | omega | exact Nat.le_refl _⟩, dn_⟩
      ·have H' := zpS H
       clear H
       go_wp2
       go_meet
       case rel => exact ⟨_, (a0), (ey_), H', ⟨by have := HJ1.out; have := HJ5.out; first | omega | exact Nat.le_refl _⟩, dn_⟩
     case rest =>
      clear HC12; (try clear c1); (try clear p1); (try clear q1); (try clear hx1); (try clear qi1); (try clear p2); (try clear c3); (try clear c3b0); (try clear c3b1); (try clear c4); (try clear c4b0); (try clear c4b1); (try clear c5); (try clear p5); (try clear q5); (try clear hx5); (try clear qi5); (try clear c7); (try clear c7b0); (try clear c7b1); (try clear c8); (try clear c8b0); (try clear c8b1); (try clear p9); (try clear q9); (try clear hx9); (try clear qi9); (try clear c10); (try clear c10b0); (try clear c10b1); (try clear p11); (try clear q11); (try clear hx11); (try clear qi11); (try clear c13); (try clear c14); (try clear c14b0); (try clear c14b1); (try clear p1); (try clear p11); (try clear p2); (try clear p5); (try clear p9); (try clear q1); (try clear q11); (try clear q5); (try clear q9); obtain ⟨kq, x0_11, rfl, HA, HJ11, ⟨mc11, rfl⟩⟩ := hcut
      cases kq with
      | zero => exact absurd HA.out (by simp [zlS.j2])
      | succ kj11 =>
       have H := HA.out; clear HA; simp only [zlS.j2] at H; have HC15 := zpS H; clear H
       go_upto_region 4 with (fail)
       go_cut [35] (fun v35 wc => ∃ (kq : Nat) (x35_14 : Bool), v35 = .bool x35_14 ∧ Aside0 (zlS.j3 kq x0_11 x4_1 x35_14 = some (r1, r2)) ∧ Aside0 (kq ≤ kj11) ∧ Drawn0 w wc)
       case first =>
        have H := HC15.out; clear HC15; replace H := ip_ H
        rcases H with ⟨c16, H⟩ | ⟨c16, H⟩
        ·have c16b0 := decide_eq_true c16
         have c16b1 : decide (x0_11.size < 1) = true := decide_eq_true (by omega); clear c16
         (first | rw [c16b0] | (simp only [zcN, ziJ]; rw [c16b0]) | skip)
         have H' := zpS H; clear H
         go_wp2
         go_meet
         case rel => exact ⟨_, (true), (ey_), H', ⟨by have := HJ1.out; have := HJ5.out; have := HJ11.out; first | omega | exact Nat.le_refl _⟩, dn_⟩
        ·have c16b0 := decide_eq_false c16
         have c16b1 : decide (x0_11.size < 1) = false := decide_eq_false (by omega); clear c16
         (first | rw [c16b0] | (simp only [zcN, ziJ]; rw [c16b0]) | skip)
         have H' := zpS H; clear H
         go_wp2
         go_meet
         case rel => exact ⟨_, (decide ((x0_11.size : Int) > 7)), (ey_), H', ⟨by have := HJ1.out; have := HJ5.out; have := HJ11.out; first | omega | exact Nat.le_refl _⟩, dn_⟩
       case rest =>
        clear HC15; (try clear c1); (try clear p1); (try clear q1); (try clear hx1); (try clear qi1); (try clear p2); (try clear c3); (try clear c3b0); (try clear c3b1); (try clear c4); (try clear c4b0); (try clear c4b1); (try clear c5); (try clear p5); (try clear q5); (try clear hx5); (try clear qi5); (try clear c7); (try clear c7b0); (try clear c7b1); (try clear c8); (try clear c8b0); (try clear c8b1); (try clear p9); (try clear q9); (try clear hx9); (try clear qi9); (try clear c10); (try clear c10b0); (try clear c10b1); (try clear c11); (try clear p11); (try clear q11); (try clear hx11); (try clear qi11); (try clear c13); (try clear c14); (try clear c14b0); (try clear c14b1); (try clear c16); (try clear c16b0); (try clear c16b1); (try clear p1); (try clear p11); (try clear p2); (try clear p5); (try clear p9); (try clear q1); (try clear q11); (try clear q5); (try clear q9); obtain ⟨kq, x35_14, rfl, HA, HJ14, ⟨mc14, rfl⟩⟩ := hcut
        cases kq with
        | zero => exact absurd HA.out (by simp [zlS.j3])
        | succ kj14 =>
         have H := HA.out; clear HA; simp only [zlS.j3] at H; replace H := ib_ H
         rcases H with ⟨rfl, H⟩ | ⟨rfl, H⟩
         ·simp only [Option.some.injEq, Prod.mk.injEq] at H
          obtain ⟨rfl, rfl⟩ := H
          go_wp2
          go_ret2
          exact ⟨ey_, dn_⟩
         ·have H' := zpS H
          clear H
          go_wp2
          (try go_simp)
          go_loopg [5, 6] kj14 (fun kq v5 v6 w' => ∃ (x5_5 : Int) (x6_5 : Int), v5 = .int .i64 x5_5 ∧ v6 = .int .i64 x6_5 ∧ Aside0 (zlS.l0 kq x0_11 x4_1 x5_5 x6_5 = some (r1, r2)) ∧ Aside0 (kq ≤ kj14) ∧ Drawn0 w w')
          case atStart => exact ⟨(0), (0), (ey_), (ey_), H', ⟨Nat.le_refl _⟩, dn_⟩
          case round =>
           clear H'; (try clear c1); (try clear p1); (try clear q1); (try clear hx1); (try clear qi1); (try clear p2); (try clear c3); (try clear c3b0); (try clear c3b1); (try clear c4); (try clear c4b0); (try clear c4b1); (try clear c5); (try clear p5); (try clear q5); (try clear hx5); (try clear qi5); (try clear c7); (try clear c7b0); (try clear c7b1); (try clear c8); (try clear c8b0); (try clear c8b1); (try clear p9); (try clear q9); (try clear hx9); (try clear qi9); (try clear c10); (try clear c10b0); (try clear c10b1); (try clear c11); (try clear p11); (try clear q11); (try clear hx11); (try clear qi11); (try clear c13); (try clear c14); (try clear c14b0); (try clear c14b1); (try clear c16); (try clear c16b0); (try clear c16b1); (try clear c17); (try clear p1); (try clear p11); (try clear p2); (try clear p5); (try clear p9); (try clear q1); (try clear q11); (try clear q5); (try clear q9); obtain ⟨x5_5, x6_5, rfl, rfl, HA, HK5, ⟨m5, rfl⟩⟩ := hrel
           cases gk with
           | zero => exact absurd HA.out (by simp [zlS.l0])
           | succ k5 =>
            have H := HA.out; clear HA; simp only [zlS.l0] at H; replace H := iq_ H
            rcases H with ⟨c18b0, H⟩ | ⟨c18b0, H⟩
            ·replace H := ie_ H
             obtain ⟨c19b0, H⟩ := H; replace H := be_ H; obtain ⟨t110, A21, H⟩ := H; replace H := ib_ H
             rcases H with ⟨rfl, H⟩ | ⟨rfl, H⟩
             ·have H' := zpS H
              clear H; have p20 : 0 ≤ (x6_5 : Int) := dt_; have q20 : x6_5 < (x0_11.size : Int) := dt_; have hx20 := bt_at x0_11 x6_5; replace p20 := eq_true p20; replace q20 := eq_true q20
              go_wp2_with (first | ((with_reducible refine zgK (f := 61) rfl ?_); refine gl_ (some 45) Tryz.func61 #[.int .u8 (bt x0_11 x6_5)] ?_; (with_reducible refine (zsZ.calls (bt x0_11 x6_5) true _ A21.out).mono ?_); rintro e w' ⟨rfl, ⟨nd, rfl⟩⟩; refine ⟨_, rfl, ?_⟩; have p23 : 0 ≤ (x6_5 : Int) := dt_; have q23 : x6_5 < (x0_11.size : Int) := dt_; have hx23 := bt_at x0_11 x6_5; replace p23 := eq_true p23; replace q23 := eq_true q23))
              go_roundg k5
              case measure => have := HJ1.out; have := HJ5.out; have := HJ11.out; have := HJ14.out; have := HK5.out; omega
              case rel => exact ⟨(wrap64 ((wrap64 (10 * x5_5)) + (((bt x0_11 x6_5) - 48) % 256))), (wrap64 (x6_5 + 1)), (ey_), (ey_), H', ⟨by have := HJ1.out; have := HJ5.out; have := HJ11.out; have := HJ14.out; have := HK5.out; omega⟩, dn_⟩
             ·simp only [Option.some.injEq, Prod.mk.injEq] at H
              obtain ⟨rfl, rfl⟩ := H; have p20 : 0 ≤ (x6_5 : Int) := dt_; have q20 : x6_5 < (x0_11.size : Int) := dt_; have hx20 := bt_at x0_11 x6_5; replace p20 := eq_true p20; replace q20 := eq_true q20
              go_wp2_with (first | ((with_reducible refine zgK (f := 61) rfl ?_); refine gl_ (some 45) Tryz.func61 #[.int .u8 (bt x0_11 x6_5)] ?_; (with_reducible refine (zsZ.calls (bt x0_11 x6_5) false _ A21.out).mono ?_); rintro e w' ⟨rfl, ⟨nd, rfl⟩⟩; refine ⟨_, rfl, ?_⟩))
              go_ret2
              exact ⟨ey_, dn_⟩
            ·replace H := ib_ H
             rcases H with ⟨rfl, H⟩ | ⟨rfl, H⟩
             ·simp only [Option.some.injEq, Prod.mk.injEq] at H
              obtain ⟨rfl, rfl⟩ := H
              go_wp2
              go_ret2
              exact ⟨ey_, dn_⟩
             ·simp only [Option.some.injEq, Prod.mk.injEq] at H
              obtain ⟨rfl, rfl⟩ := H
              go_wp2
              go_ret2
              exact ⟨ey_, dn_⟩

end Go.Proofs.YtehghobmmpihfaaGreatDoor.PFnExactReadPolygon
