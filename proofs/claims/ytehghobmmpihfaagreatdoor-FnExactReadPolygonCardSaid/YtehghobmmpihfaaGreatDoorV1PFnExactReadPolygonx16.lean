-- Printed for this claim by this session's program pp.py, which drives the kit's print with additions. Not trusted: Lean checks it.
import Derived.Test.YtehghobmmpihfaaGreatDoorV1PFnExactReadPolygonx14
namespace Go.Proofs.YtehghobmmpihfaaGreatDoor.PFnExactReadPolygon
open Go.RowKit Go.Proofs.YtehghobmmpihfaaGreatDoorW.PrintWords Go.Proofs.YtehghobmmpihfaaGreatDoorW.PrintLast Go.Proofs.YtehghobmmpihfaaGreatDoorW.PrintMore
attribute [local go_sem] zbB ziB zrC zhD znE zuB znH zkT   -- for this text's walks alone
set_option linter.unusedVariables false
set_option maxHeartbeats 8000000
set_option maxRecDepth 100000
set_option linter.unusedSimpArgs false

def zkY.f (l0 : List (S33)) : Option (Int) := some (l0.length : Int)
theorem zkY.calls (A0 : Option Addr) (c0 : Nat) (l0 : List (S33)) (r : Int) (w : World) (hr0 : Kd.C k33 w A0 l0.length l0) (hc0 : l0.length ≤ c0) (h : zkY.f l0 = some r) :
  Calls Tryz.prog 29 #[.slice A0 l0.length c0] w fun e w' => e = .returned (.int .i64 r) ∧ Drawn0 w w' := by
 have HR0 := zpS hr0; have HC0 := zpS hc0; clear hr0 hc0; have H := h; unfold zkY.f at H; clear h; obtain rfl := Option.some.inj H; go_enter Tryz.func29, Tryz.ntmps29
 go_wp2
 go_ret
 exact ⟨ey_, dn_⟩

-- NOT PRINTED: function 80 (impl_Point_80)

-- NOT PRINTED: function 55 (impl_Point_55)

def ztU.f (a0_0 : Int) (a0_1 : Int) (a0_2 : Int) (a0_3 : Int) (a0_4 : Int) (a0_5 : Int) : Option (Bool) := (zdR.f a0_0 a0_1 a0_2).bind fun t405 => (if t405 = true then ((zdR.f a0_3 a0_4 a0_5).bind fun t406 => (some t406)) else (some false))
theorem ztU.calls (a0_0 : Int) (a0_1 : Int) (a0_2 : Int) (a0_3 : Int) (a0_4 : Int) (a0_5 : Int) (r : Bool) (w : World) (h : ztU.f a0_0 a0_1 a0_2 a0_3 a0_4 a0_5 = some r) :
  Calls Tryz.prog 57 #[.agg #[.int .i64 a0_0, .int .i64 a0_1, .int .i64 a0_2, .int .i64 a0_3, .int .i64 a0_4, .int .i64 a0_5]] w fun e w' => e = .returned (.bool r) ∧ Below w.heap.size w w' := by
 have hu33 := Tryz.underlying33; have hu31 := Tryz.underlying31; have HB := zpS (Below.refl w.heap.size w); have H := h; unfold ztU.f at H; clear h; replace H := be_ H; obtain ⟨t405, A2, H⟩ := H; replace H := ib_ H
 rcases H with ⟨rfl, H⟩ | ⟨rfl, H⟩
 ·replace H := be_ H
  obtain ⟨t406, A4, H⟩ := H; obtain rfl := Option.some.inj H; go_enter Tryz.func57, Tryz.ntmps57
  go_wp2_with (first | ((with_reducible refine zpZ (N := 1) rfl ?_); refine bx_ 1 #[.int .i64 a0_0, .int .i64 a0_1, .int .i64 a0_2, .int .i64 a0_3, .int .i64 a0_4, .int .i64 a0_5] 33 ?_; intro gb404 hg w5 hbox hb; have BK404 := zpS (hbox); have GW404 := ng_ hg; replace HB := ns_ hb; have GE404 := GW404; clear hb hbox hg; obtain ⟨hcz6_0, hcz6_1, hcz6_2, hcz6_3, hcz6_4, hcz6_5⟩ := zrN BK404.out; obtain ⟨hfz6_0, hfz6_1, hfz6_2, hfz6_3, hfz6_4, hfz6_5⟩ := zoO BK404.out) | ((with_reducible refine zgK (f := 53) rfl ?_); refine gl_ (some 5) Tryz.func53 #[.agg #[.int .i64 a0_0, .int .i64 a0_1, .int .i64 a0_2]] ?_; (with_reducible refine (zdR.calls a0_0 a0_1 a0_2 true _ A2.out).mono ?_); rintro e w7 ⟨rfl, hb⟩; refine ⟨_, rfl, ?_⟩; replace BK404 := kb_ BK404 hb; replace HB := ns_ hb; (try clear hb); (try clear hb2); obtain ⟨hcz8_0, hcz8_1, hcz8_2, hcz8_3, hcz8_4, hcz8_5⟩ := zrN BK404.out; obtain ⟨hfz8_0, hfz8_1, hfz8_2, hfz8_3, hfz8_4, hfz8_5⟩ := zoO BK404.out) | (go_at_call 53; (with_reducible refine (zdR.calls a0_3 a0_4 a0_5 t406 _ A4.out).mono ?_); rintro e w9 ⟨rfl, hb⟩; replace BK404 := kb_ BK404 hb; replace HB := ns_ hb; (try clear hb); (try clear hb2)))
  go_ret
  exact ⟨ex_, bb_⟩
 ·obtain rfl := Option.some.inj H
  go_enter Tryz.func57, Tryz.ntmps57
  go_wp2_with (first | ((with_reducible refine zpZ (N := 1) rfl ?_); refine bx_ 1 #[.int .i64 a0_0, .int .i64 a0_1, .int .i64 a0_2, .int .i64 a0_3, .int .i64 a0_4, .int .i64 a0_5] 33 ?_; intro gb404 hg w10 hbox hb; have BK404 := zpS (hbox); have GW404 := ng_ hg; replace HB := ns_ hb; have GE404 := GW404; clear hb hbox hg; obtain ⟨hcz11_0, hcz11_1, hcz11_2, hcz11_3, hcz11_4, hcz11_5⟩ := zrN BK404.out; obtain ⟨hfz11_0, hfz11_1, hfz11_2, hfz11_3, hfz11_4, hfz11_5⟩ := zoO BK404.out) | ((with_reducible refine zgK (f := 53) rfl ?_); refine gl_ (some 5) Tryz.func53 #[.agg #[.int .i64 a0_0, .int .i64 a0_1, .int .i64 a0_2]] ?_; (with_reducible refine (zdR.calls a0_0 a0_1 a0_2 false _ A2.out).mono ?_); rintro e w12 ⟨rfl, hb⟩; refine ⟨_, rfl, ?_⟩; replace BK404 := kb_ BK404 hb; replace HB := ns_ hb; (try clear hb); (try clear hb2)))
  go_ret
  exact ⟨ex_, bb_⟩

def zkG.f (a0_0 : Int) (a0_1 : Int) (a0_2 : Int) (a0_3 : Int) (a0_4 : Int) (a0_5 : Int) : Option (Bool) := (ztU.f a0_0 a0_1 a0_2 a0_3 a0_4 a0_5).bind fun t408 => (some (!t408))
theorem zkG.calls (a0_0 : Int) (a0_1 : Int) (a0_2 : Int) (a0_3 : Int) (a0_4 : Int) (a0_5 : Int) (r : Bool) (w : World) (h : zkG.f a0_0 a0_1 a0_2 a0_3 a0_4 a0_5 = some r) :
  Calls Tryz.prog 56 #[.agg #[.int .i64 a0_0, .int .i64 a0_1, .int .i64 a0_2, .int .i64 a0_3, .int .i64 a0_4, .int .i64 a0_5]] w fun e w' => e = .returned (.bool r) ∧ Below w.heap.size w w' := by
 have hu33 := Tryz.underlying33; have HB := zpS (Below.refl w.heap.size w); have H := h; unfold zkG.f at H; clear h; replace H := be_ H; obtain ⟨t408, A2, H⟩ := H; obtain rfl := Option.some.inj H; go_enter Tryz.func56, Tryz.ntmps56
 go_wp2_with (first | ((with_reducible refine zpZ (N := 1) rfl ?_); refine bx_ 1 #[.int .i64 a0_0, .int .i64 a0_1, .int .i64 a0_2, .int .i64 a0_3, .int .i64 a0_4, .int .i64 a0_5] 33 ?_; intro gb407 hg w3 hbox hb; have BK407 := zpS (hbox); have GW407 := ng_ hg; replace HB := ns_ hb; have GE407 := GW407; clear hb hbox hg; obtain ⟨hcz4_0, hcz4_1, hcz4_2, hcz4_3, hcz4_4, hcz4_5⟩ := zrN BK407.out; obtain ⟨hfz4_0, hfz4_1, hfz4_2, hfz4_3, hfz4_4, hfz4_5⟩ := zoO BK407.out) | ((with_reducible refine zgK (f := 57) rfl ?_); refine gl_ (some 4) Tryz.func57 #[.agg #[.int .i64 a0_0, .int .i64 a0_1, .int .i64 a0_2, .int .i64 a0_3, .int .i64 a0_4, .int .i64 a0_5]] ?_; (with_reducible refine (ztU.calls a0_0 a0_1 a0_2 a0_3 a0_4 a0_5 t408 _ A2.out).mono ?_); rintro e w5 ⟨rfl, hb⟩; refine ⟨_, rfl, ?_⟩; replace BK407 := kb_ BK407 hb; replace HB := ns_ hb; (try clear hb); (try clear hb2)))
 go_ret
 exact ⟨ex_, bb_⟩

def zhZ.i : Nat → List S33 → Option Int
 | _, [] => some (-1)
 | j, x :: xs => (zkG.f x.f0.f0 x.f0.f1 x.f0.f2 x.f1.f0 x.f1.f1 x.f1.f2).bind fun b => if b = true then some (j : Int) else zhZ.i (j + 1) xs
def zhZ.f (l0 : List S33) : Option Bool := (zhZ.i 0 l0).bind fun j => some (decide (0 ≤ j))
theorem zhZ.icalls (A0 : Option Addr) (c0 : Nat) (l0 : List S33) (r : Int) (w : World) (hr0 : Kd.C k33 w A0 l0.length l0) (hc0 : l0.length ≤ c0) (h : zhZ.i 0 l0 = some r) :
  Calls Tryz.prog 80 #[.slice A0 l0.length c0, .func (.func 56) #[] #[]] w fun e w' => e = .returned (.int .i64 r) ∧ Below w.heap.size w w' := by
 have hu := Tryz.underlying33; have hmx := hr0.2.1; have HR0 := zpS hr0; have HC0 := zpS hc0; clear hr0 hc0; have H' := zpS h; clear h; have HB := zpS (Below.refl w.heap.size w); go_enter Tryz.func80, Tryz.ntmps80
 go_wp2
 go_loopg [8] l0.length (fun kq v8 w' => ∃ j : Nat, v8 = .int .i64 j ∧ Aside0 (zhZ.i j (l0.drop j) = some r) ∧ Aside0 (kq + j = l0.length) ∧ Aside0 (Below w.heap.size w w'))
 case atStart => exact ⟨0, rfl, H', ⟨rfl⟩, ⟨bb_⟩⟩
 case round =>
  clear H' HB; obtain ⟨j, rfl, HA, HK1, HB⟩ := hrel
  by_cases hlt : j < l0.length
  ·have H := HA.out
   rw [List.drop_eq_getElem_cons hlt] at H; simp only [zhZ.i] at H; obtain ⟨b, A20, H⟩ := Option.bind_eq_some_iff.mp H
   have hrd : l0[j] = zdH l0 (j : Int) := by
    unfold zdH; rw [Int.toNat_natCast, List.getD_eq_getElem?_getD, List.getElem?_eq_getElem hlt]; rfl
   rw [hrd] at A20; have A2 := zpS A20; clear A20 HA hrd; have c2b0 : decide ((j : Int) < (l0.length : Int)) = true := decide_eq_true (by omega); have c3b0 : decide (0 ≤ (j : Int)) = true := decide_eq_true (by omega); obtain ⟨ad111, e111, hx0, hx1, hx2, hx3, hx4, hx5⟩ := zuR HR0.out (j : Int) (by omega) (by omega); cases e111; replace hx0 := zeA HB.out hx0; replace hx1 := zeA HB.out hx1; replace hx2 := zeA HB.out hx2; replace hx3 := zeA HB.out hx3; replace hx4 := zeA HB.out hx4; replace hx5 := zeA HB.out hx5; rw [Int.toNat_natCast] at hx0 hx1 hx2 hx3 hx4 hx5
   cases b with
   | true =>
    simp only [if_true, Option.some.injEq] at H; subst H
    go_wp2_with (go_at_call 56; (with_reducible refine (zkG.calls _ _ _ _ _ _ true _ A2.out).mono ?_); rintro e wz ⟨rfl, hz⟩; have HZ := (ns_ hz); clear hz)
    go_ret
    exact ⟨rfl, by repeat (first | (with_reducible first | exact HZ.out | apply znU | apply zkZ | apply below_drew1) | exact HZ.out)⟩
   | false =>
    have H2 := zpS (show zhZ.i (j + 1) (l0.drop (j + 1)) = some r from by simpa using H)
    clear H
    go_wp2_with (go_at_call 56; (with_reducible refine (zkG.calls _ _ _ _ _ _ false _ A2.out).mono ?_); rintro e wz ⟨rfl, hz⟩; have HZ := (ns_ hz); clear hz)
    go_roundg (l0.length - (j + 1))
    case measure => have := HK1.out; omega
    case rel => exact ⟨j + 1, by (try rw [wrap64]); go_num, H2, ⟨by omega⟩, ⟨by repeat (first | (with_reducible first | exact HZ.out | apply znU | apply zkZ | apply below_drew1) | exact HZ.out)⟩⟩
  ·have H := HA.out
   rw [List.drop_eq_nil_of_le (by omega)] at H; simp only [zhZ.i, Option.some.injEq] at H; subst H; have c2b0 : decide ((j : Int) < (l0.length : Int)) = false := decide_eq_false (by omega)
   go_wp2
   go_ret
   exact ⟨rfl, bb_⟩
theorem zhZ.calls (A0 : Option Addr) (c0 : Nat) (l0 : List S33) (r : Bool) (w : World) (hr0 : Kd.C k33 w A0 l0.length l0) (hc0 : l0.length ≤ c0) (h : zhZ.f l0 = some r) :
  Calls Tryz.prog 55 #[.slice A0 l0.length c0, .func (.func 56) #[] #[]] w fun e w' => e = .returned (.bool r) ∧ Below w.heap.size w w' := by
 obtain ⟨q, hq, h⟩ := Option.bind_eq_some_iff.mp h; obtain rfl := Option.some.inj h; have HQ := zpS hq; clear hq; have HB := zpS (Below.refl w.heap.size w); go_enter Tryz.func55, Tryz.ntmps55
 go_wp2_with (go_at_call 80; (with_reducible refine (zhZ.icalls _ _ l0 q _ ?h1 ?h2 HQ.out).mono ?_); (case h1 => exact hr0); (case h2 => exact hc0); rintro e wz ⟨rfl, hz⟩; have HZ := (ns_ hz); clear hz)
 go_ret
 exact ⟨rfl, by repeat (first | (with_reducible first | exact HZ.out | apply znU | apply zkZ | apply below_drew1) | exact HZ.out)⟩
theorem zhZ.i_any (p : S33 → Bool) : ∀ (l : List S33) (j : Nat), (∀ x ∈ l, zkG.f x.f0.f0 x.f0.f1 x.f0.f2 x.f1.f0 x.f1.f1 x.f1.f2 = some (p x)) → ∃ q : Int, zhZ.i j l = some q ∧ (0 ≤ q ↔ l.any p = true)
 | [], j, _ => ⟨-1, rfl, by simp⟩
 | x :: xs, j, hp => by
  simp only [zhZ.i, hp x List.mem_cons_self, Option.bind_some]
  cases h : p x with
  | true => exact ⟨j, by simp, by simp [h]⟩
  | false =>
   obtain ⟨q, hq, hq2⟩ := zhZ.i_any p xs (j + 1) (fun y hy => hp y (List.mem_cons_of_mem _ hy))
   exact ⟨q, by simpa using hq, by simpa [h] using hq2⟩
theorem zhZ.eq_any (p : S33 → Bool) (l : List S33) (hp : ∀ x ∈ l, zkG.f x.f0.f0 x.f0.f1 x.f0.f2 x.f1.f0 x.f1.f1 x.f1.f2 = some (p x)) : zhZ.f l = some (l.any p) := by
 obtain ⟨q, hq, hq2⟩ := zhZ.i_any p l 0 hp; unfold zhZ.f; rw [hq, Option.bind_some]
 by_cases h : 0 ≤ q
 ·rw [decide_eq_true h, hq2.1 h]
 ·rw [decide_eq_false h, Bool.eq_false_iff.2 (fun e => h (hq2.2 e))]

def zmI.f (l0 : List (S33)) : Option (Bool) := (zhZ.f l0).bind fun t409 => (some (!t409))
theorem zmI.calls (A0 : Option Addr) (c0 : Nat) (l0 : List (S33)) (r : Bool) (w : World) (hr0 : Kd.C k33 w A0 l0.length l0) (hc0 : l0.length ≤ c0) (h : zmI.f l0 = some r) :
  Calls Tryz.prog 30 #[.slice A0 l0.length c0] w fun e w' => e = .returned (.bool r) ∧ Below w.heap.size w w' := by
 have HR0 := zpS hr0; have HC0 := zpS hc0; clear hr0 hc0; have HB := zpS (Below.refl w.heap.size w); have H := h; unfold zmI.f at H; clear h; replace H := be_ H; obtain ⟨t409, A2, H⟩ := H; obtain rfl := Option.some.inj H; go_enter Tryz.func30, Tryz.ntmps30
 go_wp2_with (first | ((with_reducible refine zgK (f := 55) rfl ?_); refine gl_ (some 4) Tryz.func55 #[.slice A0 l0.length c0, .func (.func 56) #[] #[]] ?_; (with_reducible refine (zhZ.calls _ _ l0  t409 _ ?side1 ?side2 A2.out).mono ?_); (case side1 => repeat (first | exact HR0.out | (with_reducible refine Kd.C_alloc ?_ _) | (with_reducible refine Kd.C_drewN ?_ _) | (with_reducible refine Kd.C_drew ?_))); (case side2 => exact HC0.out); rintro e w3 ⟨rfl, hb⟩; refine ⟨_, rfl, ?_⟩; replace HB := ns_ hb; (try clear hb); (try clear hb2)))
 go_ret
 exact ⟨ex_, bb_⟩

def zjD.f (a0_0 : Int) (a0_1 : Int) (a0_2 : Int) : Option (Int × Int × Int) := some (wrap64 (-a0_0), wrap64 (-a0_1), a0_2)
theorem zjD.calls (a0_0 : Int) (a0_1 : Int) (a0_2 : Int) (r1 : Int) (r2 : Int) (r3 : Int) (w : World) (h : zjD.f a0_0 a0_1 a0_2 = some (r1, r2, r3)) :
  Calls Tryz.prog 107 #[.agg #[.int .i64 a0_0, .int .i64 a0_1, .int .i64 a0_2]] w fun e w' => e = .returned (.agg #[.int .i64 r1, .int .i64 r2, .int .i64 r3]) ∧ Below w.heap.size w w' := by
 have hu31 := Tryz.underlying31; have HB := zpS (Below.refl w.heap.size w); have H := h; unfold zjD.f at H; clear h; simp only [Option.some.injEq, Prod.mk.injEq] at H; obtain ⟨rfl, rfl, rfl⟩ := H; go_enter Tryz.func107, Tryz.ntmps107
 go_wp2_with (first | ((with_reducible refine zpZ (N := 1) rfl ?_); refine bx_ 1 #[.int .i64 a0_0, .int .i64 a0_1, .int .i64 a0_2] 31 ?_; intro gb410 hg w2 hbox hb; have BK410 := zpS (hbox); have GW410 := ng_ hg; replace HB := ns_ hb; have GE410 := GW410; clear hb hbox hg) | ((with_reducible refine zpZ (N := 2) rfl ?_); refine bx_ 2 #[.int .i64 0, .int .i64 0, .int .i64 0] 31 ?_; intro gb411 hg w3 hbox hb; have BK411 := zpS (hbox); have GW411 := ng_ hg; replace HB := ns_ hb; have GE411 := GW411; have NB410_411 := nl_ BK410 hg; have NB411_410 := nr_ BK410 hg; replace BK410 := kb_ BK410 hb; clear hb hbox hg; have hnb4 := NB410_411.out; have hnc4 := NB411_410.out; obtain ⟨hcz5_0, hcz5_1, hcz5_2⟩ := zdT BK410.out; obtain ⟨hfz5_0, hfz5_1, hfz5_2⟩ := zqD BK410.out; obtain ⟨hcz6_0, hcz6_1, hcz6_2⟩ := zdT BK411.out; obtain ⟨hfz6_0, hfz6_1, hfz6_2⟩ := zqD BK411.out))
 refine bodyPost_ret (results_cell_row rfl _ _ gb411 31 #[.int .i64 (wrap64 (-a0_0)), .int .i64 (wrap64 (-a0_1)), .int .i64 a0_2] (0, 0) _ rfl (pt3_ BK411 _ _ _).out Tryz.underlying31 rfl (by kernel_rfl)) rfl ?_
 exact ⟨ex_, bb_⟩

mutual
def zbI.l0 : Nat → Int → Int → Int → Option (Int × Int × Int)
 | 0, _, _, _ => none
 | k + 1, x413000, x413001, x413002 => if x413002 > 0 then (if (Go.bits .and .i64 x413000 1) = 0 then (zbI.j1 k ((Go.bits .and .i64 x413001 1) == 0) x413000 x413001 x413002) else (zbI.j1 k false x413000 x413001 x413002)) else (zbI.j1 k false x413000 x413001 x413002)
def zbI.j1 : Nat → Bool → Int → Int → Int → Option (Int × Int × Int)
 | 0, _, _, _, _ => none
 | k + 1, x17, x413000, x413001, x413002 => if x17 = true then (if (wrap64 (Int.tdiv x413000 2)) = 0 then (if (wrap64 (Int.tdiv x413001 2)) = 0 then (zbI.l0 k (wrap64 (Int.tdiv x413000 2)) (wrap64 (Int.tdiv x413001 2)) 0) else (zbI.l0 k (wrap64 (Int.tdiv x413000 2)) (wrap64 (Int.tdiv x413001 2)) (wrap64 (x413002 - 1)))) else (zbI.l0 k (wrap64 (Int.tdiv x413000 2)) (wrap64 (Int.tdiv x413001 2)) (wrap64 (x413002 - 1)))) else (some (x413000, x413001, x413002))
end
def zbI.f (k : Nat) (a0_0 : Int) (a0_1 : Int) (a0_2 : Int) : Option (Int × Int × Int) := zbI.l0 k a0_0 a0_1 a0_2
theorem zbI.mono_l : ∀ k, (∀ y0 y1 y2, LeO (zbI.l0 k y0 y1 y2) (zbI.l0 (k + 1) y0 y1 y2)) ∧ (∀ y0 y1 y2 y3, LeO (zbI.j1 k y0 y1 y2 y3) (zbI.j1 (k + 1) y0 y1 y2 y3))
 | 0 => ⟨fun _ _ _ r h => by simp [zbI.l0] at h, fun _ _ _ _ r h => by simp [zbI.j1] at h⟩
 | k + 1 => by
  obtain ⟨ih0, ih1⟩ := zbI.mono_l k; refine ⟨?_, ?_⟩
  ·intro y0 y1 y2
   unfold zbI.l0
   repeat' (with_reducible first | exact ih0 _ _ _ | exact ih1 _ _ _ _ | exact LeO.refl _ | exact LeO.none _ | refine LeO.ite ?_ ?_ | refine LeO.bind ?_ (fun _ => ?_))
  ·intro y0 y1 y2 y3
   unfold zbI.j1
   repeat' (with_reducible first | exact ih0 _ _ _ | exact ih1 _ _ _ _ | exact LeO.refl _ | exact LeO.none _ | refine LeO.ite ?_ ?_ | refine LeO.bind ?_ (fun _ => ?_))
theorem zbI.mono : ∀ a0 a1 a2 k, LeO (zbI.f k a0 a1 a2) (zbI.f (k + 1) a0 a1 a2) := by
 intro a0 a1 a2 k; obtain ⟨ih0, ih1⟩ := zbI.mono_l k; unfold zbI.f
 repeat' (with_reducible first | exact ih0 _ _ _ | exact ih1 _ _ _ _ | exact LeO.refl _ | exact LeO.none _ | refine LeO.ite ?_ ?_ | refine LeO.bind ?_ (fun _ => ?_))
theorem zbI.calls (k : Nat) (a0_0 : Int) (a0_1 : Int) (a0_2 : Int) (r1 : Int) (r2 : Int) (r3 : Int) (w : World) (h : zbI.f k a0_0 a0_1 a0_2 = some (r1, r2, r3)) :
  Calls Tryz.prog 125 #[.agg #[.int .i64 a0_0, .int .i64 a0_1, .int .i64 a0_2]] w fun e w' => e = .returned (.agg #[.int .i64 r1, .int .i64 r2, .int .i64 r3]) ∧ Below w.heap.size w w' := by
 have hu31 := Tryz.underlying31; have HB := zpS (Below.refl w.heap.size w); have H := h; unfold zbI.f at H; clear h; have H' := zpS H; clear H; go_enter Tryz.func125, Tryz.ntmps125
 go_wp2_with (first | ((with_reducible refine zpZ (N := 1) rfl ?_); refine bx_ 1 #[.int .i64 a0_0, .int .i64 a0_1, .int .i64 a0_2] 31 ?_; intro gb412 hg w2 hbox hb; have BK412 := zpS (hbox); have GW412 := ng_ hg; replace HB := ns_ hb; have GE412 := GW412; clear hb hbox hg) | ((with_reducible refine zpZ (N := 2) rfl ?_); refine bx_ 2 #[.int .i64 0, .int .i64 0, .int .i64 0] 31 ?_; intro gb413 hg w3 hbox hb; have BK413 := zpS (hbox); have GW413 := ng_ hg; replace HB := ns_ hb; have GE413 := GW413; have NB412_413 := nl_ BK412 hg; have NB413_412 := nr_ BK412 hg; replace BK412 := kb_ BK412 hb; clear hb hbox hg))
 (try go_simp)
 go_loopg [] k (fun kq w' => ∃ (x413000_1 : Int) (x413001_1 : Int) (x413002_1 : Int), Aside0 (zbI.l0 kq x413000_1 x413001_1 x413002_1 = some (r1, r2, r3)) ∧ Aside0 (kq ≤ k) ∧ Aside0 (w'.heap[gb412]? = some (.cells #[.int .i64 x413000_1, .int .i64 x413001_1, .int .i64 x413002_1] 31 (0, 0))) ∧ Aside0 (w'.heap[gb413]? = some (.cells #[.int .i64 0, .int .i64 0, .int .i64 0] 31 (0, 0))) ∧ Aside0 (Below w.heap.size w w'))
 case atStart => exact ⟨(a0_0), (a0_1), (a0_2), H', ⟨Nat.le_refl _⟩, ⟨bk_⟩, ⟨bk_⟩, ⟨bb_⟩⟩
 case round =>
  clear H'; (try clear c1); (try clear p2); obtain ⟨x413000_1, x413001_1, x413002_1, HA, HK1, BK412, BK413, HB⟩ := hrel
  cases gk with
  | zero => exact absurd HA.out (by simp [zbI.l0])
  | succ k1 =>
   have H := HA.out; clear HA; simp only [zbI.l0] at H; have HC4 := zpS H; clear H
   go_upto_region 1 with (fail)
   go_cut [17] (fun v17 wc => ∃ (kq : Nat) (x17_3 : Bool), v17 = .bool x17_3 ∧ Aside0 (zbI.j1 kq x17_3 x413000_1 x413001_1 x413002_1 = some (r1, r2, r3)) ∧ Aside0 (kq ≤ k1) ∧ Aside0 (wc.heap[gb412]? = some (.cells #[.int .i64 x413000_1, .int .i64 x413001_1, .int .i64 x413002_1] 31 (0, 0))) ∧ Aside0 (wc.heap[gb413]? = some (.cells #[.int .i64 0, .int .i64 0, .int .i64 0] 31 (0, 0))) ∧ Aside0 (Below w.heap.size w wc))
   case first =>
    have H := HC4.out; clear HC4; replace H := ip_ H
    rcases H with ⟨c5, H⟩ | ⟨c5, H⟩
    ·have c5b0 : decide (0 < x413002_1) = true := decide_eq_true c5
     clear c5
     (first | rw [c5b0] | (simp only [zcN, ziJ]; rw [c5b0]) | skip)
     replace H := ip_ H
     rcases H with ⟨c6, H⟩ | ⟨c6, H⟩
     ·have c6b0 := bqt_ c6
      have c6b1 := bnf_ c6; clear c6; have H' := zpS H; clear H; have hnb7 := NB412_413.out; have hnc7 := NB413_412.out; obtain ⟨hcz8_0, hcz8_1, hcz8_2⟩ := zdT BK412.out; obtain ⟨hfz8_0, hfz8_1, hfz8_2⟩ := zqD BK412.out
      go_wp2
      go_meet
      case rel => exact ⟨_, (((Go.bits .and .i64 x413001_1 1) == 0)), (ey_), H', ⟨by have := HK1.out; first | omega | exact Nat.le_refl _⟩, ⟨bk_⟩, ⟨bk_⟩, ⟨bb_⟩⟩
     ·have c6b0 := bqf_ c6
      have c6b1 := bnt_ c6; have H' := zpS H; clear H; have hnb9 := NB412_413.out; have hnc9 := NB413_412.out; obtain ⟨hcz10_0, hcz10_1, hcz10_2⟩ := zdT BK412.out; obtain ⟨hfz10_0, hfz10_1, hfz10_2⟩ := zqD BK412.out
      go_wp2
      go_meet
      case rel => exact ⟨_, (false), (ey_), H', ⟨by have := HK1.out; first | omega | exact Nat.le_refl _⟩, ⟨bk_⟩, ⟨bk_⟩, ⟨bb_⟩⟩
    ·have c5b0 : decide (0 < x413002_1) = false := decide_eq_false c5
     clear c5
     (first | rw [c5b0] | (simp only [zcN, ziJ]; rw [c5b0]) | skip)
     have H' := zpS H; clear H; have hnb11 := NB412_413.out; have hnc11 := NB413_412.out; obtain ⟨hcz12_0, hcz12_1, hcz12_2⟩ := zdT BK412.out; obtain ⟨hfz12_0, hfz12_1, hfz12_2⟩ := zqD BK412.out
     go_wp2
     go_meet
     case rel => exact ⟨_, (false), (ey_), H', ⟨by have := HK1.out; first | omega | exact Nat.le_refl _⟩, ⟨bk_⟩, ⟨bk_⟩, ⟨bb_⟩⟩
   case rest =>
    clear HC4; (try clear c1); (try clear p2); (try clear c5); (try clear c5b0); (try clear c6); (try clear c6b0); (try clear c6b1); (try clear c7); (try clear c9); (try clear c11); (try clear c12); (try clear hcz10_0); (try clear hcz10_1); (try clear hcz10_2); (try clear hcz12_0); (try clear hcz12_1); (try clear hcz12_2); (try clear hcz8_0); (try clear hcz8_1); (try clear hcz8_2); (try clear hfz10_0); (try clear hfz10_1); (try clear hfz10_2); (try clear hfz12_0); (try clear hfz12_1); (try clear hfz12_2); (try clear hfz8_0); (try clear hfz8_1); (try clear hfz8_2); (try clear p2); obtain ⟨kq, x17_3, rfl, HA, HJ3, BK412, BK413, HB⟩ := hcut
    cases kq with
    | zero => exact absurd HA.out (by simp [zbI.j1])
    | succ kj3 =>
     have H := HA.out; clear HA; simp only [zbI.j1] at H; replace H := ib_ H
     rcases H with ⟨rfl, H⟩ | ⟨rfl, H⟩
     ·replace H := ip_ H
      rcases H with ⟨c14, H⟩ | ⟨c14, H⟩
      ·have c14b0 := bqt_ c14
       have c14b1 := bnf_ c14; clear c14; replace H := ip_ H
       rcases H with ⟨c15, H⟩ | ⟨c15, H⟩
       ·have c15b0 := bqt_ c15
        have c15b1 := bnf_ c15; clear c15; have H' := zpS H; clear H; have hnb16 := NB412_413.out; have hnc16 := NB413_412.out; obtain ⟨hcz17_0, hcz17_1, hcz17_2⟩ := zdT BK412.out; obtain ⟨hfz17_0, hfz17_1, hfz17_2⟩ := zqD BK412.out
        go_wp2
        go_roundg kj3
        case measure => have := HK1.out; have := HJ3.out; omega
        case rel => exact ⟨(wrap64 (Int.tdiv x413000_1 2)), (wrap64 (Int.tdiv x413001_1 2)), (0), H', ⟨by have := HK1.out; have := HJ3.out; omega⟩, ⟨by (with_reducible repeat (first | apply zuW | apply ztN | apply zqY)); refine zlL (cs := #[.int .i64 (wrap64 (Int.tdiv x413000_1 2)), .int .i64 (wrap64 (Int.tdiv x413001_1 2)), .int .i64 (wrap64 (x413002_1 - 1))]) ?_ 2 _ rfl; (with_reducible repeat (first | apply zuW | apply ztN | apply zqY)); refine zlL (cs := #[.int .i64 (wrap64 (Int.tdiv x413000_1 2)), .int .i64 (wrap64 (Int.tdiv x413001_1 2)), .int .i64 x413002_1]) ?_ 2 _ rfl; (with_reducible repeat (first | apply zuW | apply ztN | apply zqY)); refine zlL (cs := #[.int .i64 (wrap64 (Int.tdiv x413000_1 2)), .int .i64 x413001_1, .int .i64 x413002_1]) ?_ 1 _ rfl; (with_reducible repeat (first | apply zuW | apply ztN | apply zqY)); refine zlL (cs := #[.int .i64 x413000_1, .int .i64 x413001_1, .int .i64 x413002_1]) ?_ 0 _ rfl; (with_reducible repeat (first | apply zuW | apply ztN | apply zqY)); exact BK412.out⟩, ⟨by (with_reducible repeat (first | apply zuW | apply ztN | apply zqY)); refine znI ?_ NB413_412.out _; (with_reducible repeat (first | apply zuW | apply ztN | apply zqY)); refine znI ?_ NB413_412.out _; (with_reducible repeat (first | apply zuW | apply ztN | apply zqY)); refine znI ?_ NB413_412.out _; (with_reducible repeat (first | apply zuW | apply ztN | apply zqY)); refine znI ?_ NB413_412.out _; (with_reducible repeat (first | apply zuW | apply ztN | apply zqY)); exact BK413.out⟩, ⟨bb_⟩⟩
       ·have c15b0 := bqf_ c15
        have c15b1 := bnt_ c15; have H' := zpS H; clear H; have hnb18 := NB412_413.out; have hnc18 := NB413_412.out; obtain ⟨hcz19_0, hcz19_1, hcz19_2⟩ := zdT BK412.out; obtain ⟨hfz19_0, hfz19_1, hfz19_2⟩ := zqD BK412.out
        go_wp2
        go_roundg kj3
        case measure => have := HK1.out; have := HJ3.out; omega
        case rel => exact ⟨(wrap64 (Int.tdiv x413000_1 2)), (wrap64 (Int.tdiv x413001_1 2)), (wrap64 (x413002_1 - 1)), H', ⟨by have := HK1.out; have := HJ3.out; omega⟩, ⟨by (with_reducible repeat (first | apply zuW | apply ztN | apply zqY)); refine zlL (cs := #[.int .i64 (wrap64 (Int.tdiv x413000_1 2)), .int .i64 (wrap64 (Int.tdiv x413001_1 2)), .int .i64 x413002_1]) ?_ 2 _ rfl; (with_reducible repeat (first | apply zuW | apply ztN | apply zqY)); refine zlL (cs := #[.int .i64 (wrap64 (Int.tdiv x413000_1 2)), .int .i64 x413001_1, .int .i64 x413002_1]) ?_ 1 _ rfl; (with_reducible repeat (first | apply zuW | apply ztN | apply zqY)); refine zlL (cs := #[.int .i64 x413000_1, .int .i64 x413001_1, .int .i64 x413002_1]) ?_ 0 _ rfl; (with_reducible repeat (first | apply zuW | apply ztN | apply zqY)); exact BK412.out⟩, ⟨by (with_reducible repeat (first | apply zuW | apply ztN | apply zqY)); refine znI ?_ NB413_412.out _; (with_reducible repeat (first | apply zuW | apply ztN | apply zqY)); refine znI ?_ NB413_412.out _; (with_reducible repeat (first | apply zuW | apply ztN | apply zqY)); refine znI ?_ NB413_412.out _; (with_reducible repeat (first | apply zuW | apply ztN | apply zqY)); exact BK413.out⟩, ⟨bb_⟩⟩
      ·have c14b0 := bqf_ c14
       have c14b1 := bnt_ c14; have H' := zpS H; clear H; have hnb20 := NB412_413.out; have hnc20 := NB413_412.out; obtain ⟨hcz21_0, hcz21_1, hcz21_2⟩ := zdT BK412.out; obtain ⟨hfz21_0, hfz21_1, hfz21_2⟩ := zqD BK412.out
       go_wp2
       go_roundg kj3
       case measure => have := HK1.out; have := HJ3.out; omega
       case rel => exact ⟨(wrap64 (Int.tdiv x413000_1 2)), (wrap64 (Int.tdiv x413001_1 2)), (wrap64 (x413002_1 - 1)), H', ⟨by have := HK1.out; have := HJ3.out; omega⟩, ⟨by (with_reducible repeat (first | apply zuW | apply ztN | apply zqY)); refine zlL (cs := #[.int .i64 (wrap64 (Int.tdiv x413000_1 2)), .int .i64 (wrap64 (Int.tdiv x413001_1 2)), .int .i64 x413002_1]) ?_ 2 _ rfl; (with_reducible repeat (first | apply zuW | apply ztN | apply zqY)); refine zlL (cs := #[.int .i64 (wrap64 (Int.tdiv x413000_1 2)), .int .i64 x413001_1, .int .i64 x413002_1]) ?_ 1 _ rfl; (with_reducible repeat (first | apply zuW | apply ztN | apply zqY)); refine zlL (cs := #[.int .i64 x413000_1, .int .i64 x413001_1, .int .i64 x413002_1]) ?_ 0 _ rfl; (with_reducible repeat (first | apply zuW | apply ztN | apply zqY)); exact BK412.out⟩, ⟨by (with_reducible repeat (first | apply zuW | apply ztN | apply zqY)); refine znI ?_ NB413_412.out _; (with_reducible repeat (first | apply zuW | apply ztN | apply zqY)); refine znI ?_ NB413_412.out _; (with_reducible repeat (first | apply zuW | apply ztN | apply zqY)); refine znI ?_ NB413_412.out _; (with_reducible repeat (first | apply zuW | apply ztN | apply zqY)); exact BK413.out⟩, ⟨bb_⟩⟩
     ·simp only [Option.some.injEq, Prod.mk.injEq] at H
      obtain ⟨rfl, rfl, rfl⟩ := H; have hnb22 := NB412_413.out; have hnc22 := NB413_412.out; obtain ⟨hcz23_0, hcz23_1, hcz23_2⟩ := zdT BK412.out; obtain ⟨hfz23_0, hfz23_1, hfz23_2⟩ := zqD BK412.out; obtain ⟨hcz24_0, hcz24_1, hcz24_2⟩ := zdT BK413.out; obtain ⟨hfz24_0, hfz24_1, hfz24_2⟩ := zqD BK413.out
      go_wp2
      refine bodyPost_ret (results_cell_row rfl _ _ gb413 31 #[.int .i64 x413000_1, .int .i64 x413001_1, .int .i64 x413002_1] (0, 0) _ rfl (pt3_ BK413 _ _ _).out Tryz.underlying31 rfl (by kernel_rfl)) rfl ?_
      exact ⟨ex_, bb_⟩

end Go.Proofs.YtehghobmmpihfaaGreatDoor.PFnExactReadPolygon
