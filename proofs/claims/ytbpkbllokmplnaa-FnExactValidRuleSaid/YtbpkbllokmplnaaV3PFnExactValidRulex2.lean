-- Printed for this claim by this session's program pp.py, which drives the kit's print with additions. Not trusted: Lean checks it.
import Derived.Test.YtbpkbllokmplnaaV3PFnExactValidRulex0
import Derived.Test.YtbpkbllokmplnaaV3PFnExactValidRulex1
namespace Go.Proofs.Ytbpkbllokmplnaa.PFnExactValidRule
open Go.RowKit Go.Proofs.YtbpkbllokmplnaaW.PrintWords Go.Proofs.YtbpkbllokmplnaaW.PrintLast Go.Proofs.YtbpkbllokmplnaaW.PrintMore
attribute [local go_sem] max2_int min2_int max_two min_two max_three min_three max_four min_four   -- for this text's walks alone
set_option linter.unusedVariables false
set_option linter.unusedSimpArgs false

def zzZ.f (a0 : Int) : Option (Bool) := (impl_isUnit.f a0).bind fun t125 => (some (!t125))
set_option maxHeartbeats 8000000 in
set_option maxRecDepth 100000 in
theorem zzZ.calls (a0 : Int) (r : Bool) (w : World) (h : zzZ.f a0 = some r) :
  Calls Try.prog 108 #[.int .i64 a0] w fun e w' => e = .returned (.bool r) ∧ Drawn0 w w' := by
 have H : ((impl_isUnit.f a0).bind fun t125 => (some (!t125))) = some r := h
 clear h
 replace H := Option.bind_eq_some_iff.mp H
 obtain ⟨t125, A20, H⟩ := H
 replace H : (some (!t125)) = some r := H
 have A2 := zpS A20
 clear A20
 obtain rfl := Option.some.inj H
 go_enter Try.func108, Try.ntmps108
 go_wp2_with (first | ((with_reducible refine zgK (f := 109) rfl ?_); refine zqQ (some 4) rfl rfl Try.func109 (by kernel_rfl) rfl #[.int .i64 a0] rfl (by (try simp only [List.map_toArray, List.map_cons, List.map_nil]); first | done | rfl | (simp only [List.length_drop, List.length_take]; rfl)) ?_; (with_reducible refine (impl_isUnit.calls a0 t125 _ A2.out).mono ?_); rintro e w' ⟨rfl, ⟨nd, rfl⟩⟩; refine ⟨_, rfl, ?_⟩))
 go_ret
 exact ⟨by first | rfl | (simp; done) | (simp [*]; done), by repeat (first | exact Drawn0.refl _ | apply Drawn0.step)⟩

def zoB.i : Nat → List Int → Option Int
 | _, [] => some (-1)
 | j, x :: xs => (zzZ.f x).bind fun b => if b = true then some (j : Int) else zoB.i (j + 1) xs
def zoB.f (l0 : List Int) : Option Bool := (zoB.i 0 l0).bind fun j => some (decide (0 ≤ j))
set_option maxHeartbeats 8000000 in
set_option maxRecDepth 100000 in
theorem zoB.icalls (A0 : Option Addr) (c0 : Nat) (l0 : List Int) (r : Int) (w : World) (hr0 : Kd.C (Kd.int .i64) w A0 l0.length l0) (hc0 : l0.length ≤ c0) (h : zoB.i 0 l0 = some r) :
  Calls Try.prog 97 #[.slice A0 l0.length c0, .func (.func 108) #[] #[]] w fun e w' => e = .returned (.int .i64 r) ∧ Drawn0 w w' := by
 have hmx := hr0.2.1
 have HR0 := zpS hr0
 have HC0 := zpS hc0
 clear hr0 hc0
 have H' := zpS h
 clear h
 go_enter Try.func97, Try.ntmps97
 go_wp2
 go_loopg [8] l0.length (fun kq v8 w' => ∃ j : Nat, v8 = .int .i64 j ∧ Aside0 (zoB.i j (l0.drop j) = some r) ∧ Aside0 (kq + j = l0.length) ∧ Drawn0 w w')
 case atStart => exact ⟨0, rfl, H', ⟨rfl⟩, Drawn0.refl _⟩
 case round =>
  clear H'
  obtain ⟨j, rfl, HA, HK1, ⟨m1, rfl⟩⟩ := hrel
  by_cases hlt : j < l0.length
  ·have H := HA.out
   rw [List.drop_eq_getElem_cons hlt] at H
   simp only [zoB.i] at H
   obtain ⟨b, A20, H⟩ := Option.bind_eq_some_iff.mp H
   have hrd : l0[j] = rd l0 (j : Int) := by
    unfold rd
    rw [Int.toNat_natCast, List.getD_eq_getElem?_getD, List.getElem?_eq_getElem hlt]
    rfl
   rw [hrd] at A20
   have A2 := zpS A20
   clear A20 HA hrd
   have c2b0 : decide ((j : Int) < (l0.length : Int)) = true := decide_eq_true (by omega)
   have c3b0 : decide (0 ≤ (j : Int)) = true := decide_eq_true (by omega)
   obtain ⟨ad111, e111, hx111_0⟩ := Kd.at_int HR0.out (j : Int) (by omega) (by omega)
   cases e111
   rw [Int.toNat_natCast] at hx111_0
   cases b with
   | true =>
    simp only [if_true, Option.some.injEq] at H
    subst H
    go_wp2_with (go_at_call 108; (with_reducible refine (zzZ.calls _ true _ A2.out).mono ?_); rintro e w' ⟨rfl, ⟨nd, rfl⟩⟩)
    go_ret
    exact ⟨rfl, by repeat (first | exact Drawn0.refl _ | apply Drawn0.step)⟩
   | false =>
    have H2 := zpS (show zoB.i (j + 1) (l0.drop (j + 1)) = some r from by simpa using H)
    clear H
    go_wp2_with (go_at_call 108; (with_reducible refine (zzZ.calls _ false _ A2.out).mono ?_); rintro e w' ⟨rfl, ⟨nd, rfl⟩⟩)
    go_roundg (l0.length - (j + 1))
    case measure => have := HK1.out; omega
    case rel => exact ⟨j + 1, by (try rw [wrap64]); go_num, H2, ⟨by omega⟩, by repeat (first | exact Drawn0.refl _ | apply Drawn0.step)⟩
  ·have H := HA.out
   rw [List.drop_eq_nil_of_le (by omega)] at H
   simp only [zoB.i, Option.some.injEq] at H
   subst H
   have c2b0 : decide ((j : Int) < (l0.length : Int)) = false := decide_eq_false (by omega)
   go_wp2
   go_ret
   exact ⟨rfl, by repeat (first | exact Drawn0.refl _ | apply Drawn0.step)⟩
set_option maxHeartbeats 8000000 in
set_option maxRecDepth 100000 in
theorem zoB.calls (A0 : Option Addr) (c0 : Nat) (l0 : List Int) (r : Bool) (w : World) (hr0 : Kd.C (Kd.int .i64) w A0 l0.length l0) (hc0 : l0.length ≤ c0) (h : zoB.f l0 = some r) :
  Calls Try.prog 62 #[.slice A0 l0.length c0, .func (.func 108) #[] #[]] w fun e w' => e = .returned (.bool r) ∧ Drawn0 w w' := by
 obtain ⟨q, hq, h⟩ := Option.bind_eq_some_iff.mp h
 obtain rfl := Option.some.inj h
 have HQ := zpS hq
 clear hq
 go_enter Try.func62, Try.ntmps62
 go_wp2_with (go_at_call 97; (with_reducible refine (zoB.icalls _ _ l0 q _ ?h1 ?h2 HQ.out).mono ?_); (case h1 => exact hr0); (case h2 => exact hc0); rintro e w' ⟨rfl, ⟨nd, rfl⟩⟩)
 go_ret
 exact ⟨rfl, by repeat (first | exact Drawn0.refl _ | apply Drawn0.step)⟩
theorem zoB.i_any (p : Int → Bool) : ∀ (l : List Int) (j : Nat), (∀ x ∈ l, zzZ.f x = some (p x)) → ∃ q : Int, zoB.i j l = some q ∧ (0 ≤ q ↔ l.any p = true)
 | [], j, _ => ⟨-1, rfl, by simp⟩
 | x :: xs, j, hp => by
  simp only [zoB.i, hp x List.mem_cons_self, Option.bind_some]
  cases h : p x with
  | true => exact ⟨j, by simp, by simp [h]⟩
  | false =>
   obtain ⟨q, hq, hq2⟩ := zoB.i_any p xs (j + 1) (fun y hy => hp y (List.mem_cons_of_mem _ hy))
   exact ⟨q, by simpa using hq, by simpa [h] using hq2⟩
theorem zoB.eq_any (p : Int → Bool) (l : List Int) (hp : ∀ x ∈ l, zzZ.f x = some (p x)) : zoB.f l = some (l.any p) := by
 obtain ⟨q, hq, hq2⟩ := zoB.i_any p l 0 hp
 unfold zoB.f
 rw [hq, Option.bind_some]
 by_cases h : 0 ≤ q
 ·rw [decide_eq_true h, hq2.1 h]
 ·rw [decide_eq_false h, Bool.eq_false_iff.2 (fun e => h (hq2.2 e))]

def zbO.f (l0 : List Int) : Option (Bool) := (zoB.f l0).bind fun t126 => (some (!t126))
set_option maxHeartbeats 8000000 in
set_option maxRecDepth 100000 in
theorem zbO.calls (A0 : Option Addr) (c0 : Nat) (l0 : List Int) (r : Bool) (w : World) (hr0 : Kd.C (Kd.int .i64) w A0 l0.length l0) (hc0 : l0.length ≤ c0) (h : zbO.f l0 = some r) :
  Calls Try.prog 84 #[.slice A0 l0.length c0] w fun e w' => e = .returned (.bool r) ∧ Drawn0 w w' := by
 have HR0 := zpS hr0
 have HC0 := zpS hc0
 clear hr0 hc0
 have H : ((zoB.f l0).bind fun t126 => (some (!t126))) = some r := h
 clear h
 replace H := Option.bind_eq_some_iff.mp H
 obtain ⟨t126, A20, H⟩ := H
 replace H : (some (!t126)) = some r := H
 have A2 := zpS A20
 clear A20
 obtain rfl := Option.some.inj H
 go_enter Try.func84, Try.ntmps84
 go_wp2_with (first | ((with_reducible refine zgK (f := 62) rfl ?_); refine zqQ (some 4) rfl rfl Try.func62 (by kernel_rfl) rfl #[.slice A0 l0.length c0, .func (.func 108) #[] #[]] rfl (by (try simp only [List.map_toArray, List.map_cons, List.map_nil]); first | done | rfl | (simp only [List.length_drop, List.length_take]; rfl)) ?_; (with_reducible refine (zoB.calls _ _ l0  t126 _ ?side1 ?side2 A2.out).mono ?_); (case side1 => repeat (first | exact HR0.out | (with_reducible refine Kd.C_alloc ?_ _) | (with_reducible refine Kd.C_drewN ?_ _) | (with_reducible refine Kd.C_drew ?_))); (case side2 => exact HC0.out); rintro e w' ⟨rfl, ⟨nd, rfl⟩⟩; refine ⟨_, rfl, ?_⟩))
 go_ret
 exact ⟨by first | rfl | (simp; done) | (simp [*]; done), by repeat (first | exact Drawn0.refl _ | apply Drawn0.step)⟩

end Go.Proofs.Ytbpkbllokmplnaa.PFnExactValidRule
