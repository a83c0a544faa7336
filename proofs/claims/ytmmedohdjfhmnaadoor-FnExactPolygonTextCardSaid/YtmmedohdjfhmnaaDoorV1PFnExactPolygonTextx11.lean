-- Printed for this claim by this session's program pp.py, which drives the kit's print with additions. Not trusted: Lean checks it.
import Derived.Test.YtmmedohdjfhmnaaDoorV1PFnExactPolygonTextx0
import Derived.Test.YtmmedohdjfhmnaaDoorV1PFnExactPolygonTextx10
namespace Go.Proofs.YtmmedohdjfhmnaaDoor.PFnExactPolygonText
open Go.RowKit Go.Proofs.YtmmedohdjfhmnaaDoorW.PrintWords Go.Proofs.YtmmedohdjfhmnaaDoorW.PrintLast Go.Proofs.YtmmedohdjfhmnaaDoorW.PrintMore
attribute [local go_sem] zbB ziC zrC zhD znE zuB znH zkT   -- for this text's walks alone
set_option linter.unusedVariables false
set_option linter.unusedSimpArgs false

def zhZ.i : Nat → List S33 → Option Int
 | _, [] => some (-1)
 | j, x :: xs => (zkG.f x.f0.f0 x.f0.f1 x.f0.f2 x.f1.f0 x.f1.f1 x.f1.f2).bind fun b => if b = true then some (j : Int) else zhZ.i (j + 1) xs
def zhZ.f (l0 : List S33) : Option Bool := (zhZ.i 0 l0).bind fun j => some (decide (0 ≤ j))
set_option maxHeartbeats 8000000 in
set_option maxRecDepth 100000 in
theorem zhZ.icalls (A0 : Option Addr) (c0 : Nat) (l0 : List S33) (r : Int) (w : World) (hr0 : Kd.C k33 w A0 l0.length l0) (hc0 : l0.length ≤ c0) (h : zhZ.i 0 l0 = some r) :
  Calls Tryd.prog 53 #[.slice A0 l0.length c0, .func (.func 38) #[] #[]] w fun e w' => e = .returned (.int .i64 r) ∧ Below w.heap.size w w' := by
 have hu := Tryd.underlying33
 have hmx := hr0.2.1
 have HR0 := zpS hr0
 have HC0 := zpS hc0
 clear hr0 hc0
 have H' := zpS h
 clear h
 have HB := zpS (Below.refl w.heap.size w)
 go_enter Tryd.func53, Tryd.ntmps53
 go_wp2
 go_loopg [8] l0.length (fun kq v8 w' => ∃ j : Nat, v8 = .int .i64 j ∧ Aside0 (zhZ.i j (l0.drop j) = some r) ∧ Aside0 (kq + j = l0.length) ∧ Aside0 (Below w.heap.size w w'))
 case atStart => exact ⟨0, rfl, H', ⟨rfl⟩, ⟨bb_⟩⟩
 case round =>
  clear H' HB
  obtain ⟨j, rfl, HA, HK1, HB⟩ := hrel
  by_cases hlt : j < l0.length
  ·have H := HA.out
   rw [List.drop_eq_getElem_cons hlt] at H
   simp only [zhZ.i] at H
   obtain ⟨b, A20, H⟩ := Option.bind_eq_some_iff.mp H
   have hrd : l0[j] = zdH l0 (j : Int) := by
    unfold zdH
    rw [Int.toNat_natCast, List.getD_eq_getElem?_getD, List.getElem?_eq_getElem hlt]
    rfl
   rw [hrd] at A20
   have A2 := zpS A20
   clear A20 HA hrd
   have c2b0 : decide ((j : Int) < (l0.length : Int)) = true := decide_eq_true (by omega)
   have c3b0 : decide (0 ≤ (j : Int)) = true := decide_eq_true (by omega)
   obtain ⟨ad111, e111, hx0, hx1, hx2, hx3, hx4, hx5⟩ := zuR HR0.out (j : Int) (by omega) (by omega)
   cases e111
   replace hx0 := zeA HB.out hx0
   replace hx1 := zeA HB.out hx1
   replace hx2 := zeA HB.out hx2
   replace hx3 := zeA HB.out hx3
   replace hx4 := zeA HB.out hx4
   replace hx5 := zeA HB.out hx5
   rw [Int.toNat_natCast] at hx0 hx1 hx2 hx3 hx4 hx5
   cases b with
   | true =>
    simp only [if_true, Option.some.injEq] at H
    subst H
    go_wp2_with (go_at_call 38; (with_reducible refine (zkG.calls _ _ _ _ _ _ true _ A2.out).mono ?_); rintro e wz ⟨rfl, hz⟩; have HZ := (ns_ hz); clear hz)
    go_ret
    exact ⟨rfl, by repeat (first | (with_reducible first | exact HZ.out | apply znU | apply zkZ | apply zvF) | exact HZ.out)⟩
   | false =>
    have H2 := zpS (show zhZ.i (j + 1) (l0.drop (j + 1)) = some r from by simpa using H)
    clear H
    go_wp2_with (go_at_call 38; (with_reducible refine (zkG.calls _ _ _ _ _ _ false _ A2.out).mono ?_); rintro e wz ⟨rfl, hz⟩; have HZ := (ns_ hz); clear hz)
    go_roundg (l0.length - (j + 1))
    case measure => have := HK1.out; omega
    case rel => exact ⟨j + 1, by (try rw [wrap64]); go_num, H2, ⟨by omega⟩, ⟨by repeat (first | (with_reducible first | exact HZ.out | apply znU | apply zkZ | apply zvF) | exact HZ.out)⟩⟩
  ·have H := HA.out
   rw [List.drop_eq_nil_of_le (by omega)] at H
   simp only [zhZ.i, Option.some.injEq] at H
   subst H
   have c2b0 : decide ((j : Int) < (l0.length : Int)) = false := decide_eq_false (by omega)
   go_wp2
   go_ret
   exact ⟨rfl, bb_⟩
set_option maxHeartbeats 8000000 in
set_option maxRecDepth 100000 in
theorem zhZ.calls (A0 : Option Addr) (c0 : Nat) (l0 : List S33) (r : Bool) (w : World) (hr0 : Kd.C k33 w A0 l0.length l0) (hc0 : l0.length ≤ c0) (h : zhZ.f l0 = some r) :
  Calls Tryd.prog 37 #[.slice A0 l0.length c0, .func (.func 38) #[] #[]] w fun e w' => e = .returned (.bool r) ∧ Below w.heap.size w w' := by
 obtain ⟨q, hq, h⟩ := Option.bind_eq_some_iff.mp h
 obtain rfl := Option.some.inj h
 have HQ := zpS hq
 clear hq
 have HB := zpS (Below.refl w.heap.size w)
 go_enter Tryd.func37, Tryd.ntmps37
 go_wp2_with (go_at_call 53; (with_reducible refine (zhZ.icalls _ _ l0 q _ ?h1 ?h2 HQ.out).mono ?_); (case h1 => exact hr0); (case h2 => exact hc0); rintro e wz ⟨rfl, hz⟩; have HZ := (ns_ hz); clear hz)
 go_ret
 exact ⟨rfl, by repeat (first | (with_reducible first | exact HZ.out | apply znU | apply zkZ | apply zvF) | exact HZ.out)⟩
theorem zhZ.i_any (p : S33 → Bool) : ∀ (l : List S33) (j : Nat), (∀ x ∈ l, zkG.f x.f0.f0 x.f0.f1 x.f0.f2 x.f1.f0 x.f1.f1 x.f1.f2 = some (p x)) → ∃ q : Int, zhZ.i j l = some q ∧ (0 ≤ q ↔ l.any p = true)
 | [], j, _ => ⟨-1, rfl, by simp⟩
 | x :: xs, j, hp => by
  simp only [zhZ.i, hp x List.mem_cons_self, Option.bind_some]
  cases h : p x with
  | true => exact ⟨j, by simp, by simp [h]⟩
  | false =>
   obtain ⟨q, hq, hq2⟩ := zhZ.i_any p xs (j + 1) (fun y hy => hp y (List.mem_cons_of_mem _ hy))
   exact ⟨q, by simpa using hq, by simpa [h] using hq2⟩
theorem zhZ.eq_any (p : S33 → Bool) (l : List S33) (hp : ∀ x ∈ l, zkG.f x.f0.f0 x.f0.f1 x.f0.f2 x.f1.f0 x.f1.f1 x.f1.f2 = some (p x)) : zhZ.f l = some (l.any p) := by
 obtain ⟨q, hq, hq2⟩ := zhZ.i_any p l 0 hp
 unfold zhZ.f
 rw [hq, Option.bind_some]
 by_cases h : 0 ≤ q
 ·rw [decide_eq_true h, hq2.1 h]
 ·rw [decide_eq_false h, Bool.eq_false_iff.2 (fun e => h (hq2.2 e))]

def zmH.f (l0 : List (S33)) : Option (Bool) := (zhZ.f l0).bind fun t313 => (some (!t313))
set_option maxHeartbeats 8000000 in
set_option maxRecDepth 100000 in
theorem zmH.calls (A0 : Option Addr) (c0 : Nat) (l0 : List (S33)) (r : Bool) (w : World) (hr0 : Kd.C k33 w A0 l0.length l0) (hc0 : l0.length ≤ c0) (h : zmH.f l0 = some r) :
  Calls Tryd.prog 25 #[.slice A0 l0.length c0] w fun e w' => e = .returned (.bool r) ∧ Below w.heap.size w w' := by
 have HR0 := zpS hr0
 have HC0 := zpS hc0
 clear hr0 hc0
 have HB := zpS (Below.refl w.heap.size w)
 have H : ((zhZ.f l0).bind fun t313 => (some (!t313))) = some r := h
 clear h
 replace H := Option.bind_eq_some_iff.mp H
 obtain ⟨t313, A20, H⟩ := H
 replace H : (some (!t313)) = some r := H
 have A2 := zpS A20
 clear A20
 obtain rfl := Option.some.inj H
 go_enter Tryd.func25, Tryd.ntmps25
 go_wp2_with (first | ((with_reducible refine zgK (f := 37) rfl ?_); refine zqQ (some 4) rfl rfl Tryd.func37 (by kernel_rfl) rfl #[.slice A0 l0.length c0, .func (.func 38) #[] #[]] rfl (by (try simp only [List.map_toArray, List.map_cons, List.map_nil]); first | done | rfl | (simp only [List.length_drop, List.length_take]; rfl)) ?_; (with_reducible refine (zhZ.calls _ _ l0  t313 _ ?side1 ?side2 A2.out).mono ?_); (case side1 => repeat (first | exact HR0.out | (with_reducible refine Kd.C_alloc ?_ _) | (with_reducible refine Kd.C_drewN ?_ _) | (with_reducible refine Kd.C_drew ?_))); (case side2 => exact HC0.out); rintro e w3 ⟨rfl, hb⟩; refine ⟨_, rfl, ?_⟩; have n0_ := (ns_ hb); clear HB; have HB := n0_; clear n0_; (try clear hb); (try clear hb2)))
 go_ret
 exact ⟨by first | rfl | (simp [ziS, znJ] <;> rfl) | (simp [*, ziS, znJ] <;> rfl), bb_⟩

def zjD.f (a0_0 : Int) (a0_1 : Int) (a0_2 : Int) : Option (Int × Int × Int) := some (wrap64 (-a0_0), wrap64 (-a0_1), a0_2)
set_option maxHeartbeats 8000000 in
set_option maxRecDepth 100000 in
theorem zjD.calls (a0_0 : Int) (a0_1 : Int) (a0_2 : Int) (r1 : Int) (r2 : Int) (r3 : Int) (w : World) (h : zjD.f a0_0 a0_1 a0_2 = some (r1, r2, r3)) :
  Calls Tryd.prog 71 #[.agg #[.int .i64 a0_0, .int .i64 a0_1, .int .i64 a0_2]] w fun e w' => e = .returned (.agg #[.int .i64 r1, .int .i64 r2, .int .i64 r3]) ∧ Below w.heap.size w w' := by
 have hu31 := Tryd.underlying31
 have HB := zpS (Below.refl w.heap.size w)
 have H : (some (wrap64 (-a0_0), wrap64 (-a0_1), a0_2)) = some (r1, r2, r3) := h
 clear h
 simp only [Option.some.injEq, Prod.mk.injEq] at H
 obtain ⟨rfl, rfl, rfl⟩ := H
 go_enter Tryd.func71, Tryd.ntmps71
 go_wp2_with (first | ((with_reducible refine zpZ (N := 1) rfl ?_); refine bx_ 1 #[.int .i64 a0_0, .int .i64 a0_1, .int .i64 a0_2] 31 ?_; intro gb314 hg w2 hbox hb; have n0_ := (ns_ hb); have n1_ := zpS (hbox); have n2_ := (ng_ hg); have n3_ := n2_; clear HB; have HB := n0_; have BK314 := n1_; have GW314 := n2_; have GE314 := n3_; clear n0_ n1_ n2_ n3_; clear hb hbox hg) | ((with_reducible refine zpZ (N := 2) rfl ?_); refine bx_ 2 #[.int .i64 0, .int .i64 0, .int .i64 0] 31 ?_; intro gb315 hg w3 hbox hb; have n0_ := zpS (zgM (g := gb314) (o := .cells #[.int .i64 a0_0, .int .i64 a0_1, .int .i64 a0_2] 31 (0, 0)) bk_ hb); have n1_ := (ns_ hb); have n2_ := zpS (hbox); have n3_ := (ng_ hg); have n4_ := n3_; have n5_ := zpS ((by rw [hg]; exact Nat.ne_of_lt (zmN (g := gb314) (o := .cells #[.int .i64 a0_0, .int .i64 a0_1, .int .i64 a0_2] 31 (0, 0)) bk_) : gb314 ≠ gb315)); have n6_ := zpS ((by rw [hg]; exact Nat.ne_of_gt (zmN (g := gb314) (o := .cells #[.int .i64 a0_0, .int .i64 a0_1, .int .i64 a0_2] 31 (0, 0)) bk_) : gb315 ≠ gb314)); clear BK314; clear HB; have BK314 := n0_; have HB := n1_; have BK315 := n2_; have GW315 := n3_; have GE315 := n4_; have NB314_315 := n5_; have NB315_314 := n6_; clear n0_ n1_ n2_ n3_ n4_ n5_ n6_; clear hb hbox hg; have hnb4 := NB314_315.out; have hnc4 := NB315_314.out; obtain ⟨hcz5_0, hcz5_1, hcz5_2⟩ := zdT BK314.out; obtain ⟨hfz5_0, hfz5_1, hfz5_2⟩ := zqD BK314.out; obtain ⟨hcz6_0, hcz6_1, hcz6_2⟩ := zdT BK315.out; obtain ⟨hfz6_0, hfz6_1, hfz6_2⟩ := zqD BK315.out))
 refine bodyPost_ret (results_cell_row rfl _ _ gb315 31 #[.int .i64 (wrap64 (-a0_0)), .int .i64 (wrap64 (-a0_1)), .int .i64 a0_2] (0, 0) _ rfl (by (with_reducible repeat (first | apply zuW | apply ztN | apply zqY)); refine zlL (cs := #[.int .i64 (wrap64 (-a0_0)), .int .i64 (wrap64 (-a0_1)), .int .i64 0]) ?_ 2 _ rfl; (with_reducible repeat (first | apply zuW | apply ztN | apply zqY)); refine zlL (cs := #[.int .i64 (wrap64 (-a0_0)), .int .i64 0, .int .i64 0]) ?_ 1 _ rfl; (with_reducible repeat (first | apply zuW | apply ztN | apply zqY)); refine zlL (cs := #[.int .i64 0, .int .i64 0, .int .i64 0]) ?_ 0 _ rfl; (with_reducible repeat (first | apply zuW | apply ztN | apply zqY)); exact BK315.out) Tryd.underlying31 rfl (by kernel_rfl)) rfl ?_
 exact ⟨by first | rfl | (simp [ziS, znJ] <;> rfl) | (simp [*, ziS, znJ] <;> rfl), bb_⟩

mutual
def zbI.l0 : Nat → Int → Int → Int → Option (Int × Int × Int)
 | 0, _, _, _ => none
 | k + 1, x317000, x317001, x317002 => if x317002 > 0 then (if (Go.bits .and .i64 x317000 1) = 0 then (zbI.j1 k ((Go.bits .and .i64 x317001 1) == 0) x317000 x317001 x317002) else (zbI.j1 k false x317000 x317001 x317002)) else (zbI.j1 k false x317000 x317001 x317002)
def zbI.j1 : Nat → Bool → Int → Int → Int → Option (Int × Int × Int)
 | 0, _, _, _, _ => none
 | k + 1, x17, x317000, x317001, x317002 => if x17 = true then (if (wrap64 (Int.tdiv x317000 2)) = 0 then (if (wrap64 (Int.tdiv x317001 2)) = 0 then (zbI.l0 k (wrap64 (Int.tdiv x317000 2)) (wrap64 (Int.tdiv x317001 2)) 0) else (zbI.l0 k (wrap64 (Int.tdiv x317000 2)) (wrap64 (Int.tdiv x317001 2)) (wrap64 (x317002 - 1)))) else (zbI.l0 k (wrap64 (Int.tdiv x317000 2)) (wrap64 (Int.tdiv x317001 2)) (wrap64 (x317002 - 1)))) else (some (x317000, x317001, x317002))
end
def zbI.f (k : Nat) (a0_0 : Int) (a0_1 : Int) (a0_2 : Int) : Option (Int × Int × Int) := zbI.l0 k a0_0 a0_1 a0_2
theorem zbI.mono_l : ∀ k, (∀ y0 y1 y2, LeO (zbI.l0 k y0 y1 y2) (zbI.l0 (k + 1) y0 y1 y2)) ∧ (∀ y0 y1 y2 y3, LeO (zbI.j1 k y0 y1 y2 y3) (zbI.j1 (k + 1) y0 y1 y2 y3))
 | 0 => ⟨fun _ _ _ r h => by simp [zbI.l0] at h, fun _ _ _ _ r h => by simp [zbI.j1] at h⟩
 | k + 1 => by
  obtain ⟨ih0, ih1⟩ := zbI.mono_l k
  refine ⟨?_, ?_⟩
  ·intro y0 y1 y2
   unfold zbI.l0
   repeat' first
   | (with_reducible exact ih0 _ _ _)
   | (with_reducible exact ih1 _ _ _ _)
   | (with_reducible exact LeO.refl _)
   | (with_reducible exact LeO.none _)
   | (with_reducible refine LeO.ite ?_ ?_)
   | (with_reducible refine LeO.bind ?_ (fun _ => ?_))
   | exact ih0 _ _ _
   | exact ih1 _ _ _ _
   | exact LeO.none _
   | refine LeO.ite ?_ ?_
   | refine LeO.bind ?_ (fun _ => ?_)
  ·intro y0 y1 y2 y3
   unfold zbI.j1
   repeat' first
   | (with_reducible exact ih0 _ _ _)
   | (with_reducible exact ih1 _ _ _ _)
   | (with_reducible exact LeO.refl _)
   | (with_reducible exact LeO.none _)
   | (with_reducible refine LeO.ite ?_ ?_)
   | (with_reducible refine LeO.bind ?_ (fun _ => ?_))
   | exact ih0 _ _ _
   | exact ih1 _ _ _ _
   | exact LeO.none _
   | refine LeO.ite ?_ ?_
   | refine LeO.bind ?_ (fun _ => ?_)
theorem zbI.mono : ∀ a0 a1 a2 k, LeO (zbI.f k a0 a1 a2) (zbI.f (k + 1) a0 a1 a2) := by
 intro a0 a1 a2 k
 obtain ⟨ih0, ih1⟩ := zbI.mono_l k
 unfold zbI.f
 repeat' first
   | (with_reducible exact ih0 _ _ _)
   | (with_reducible exact ih1 _ _ _ _)
   | (with_reducible exact LeO.refl _)
   | (with_reducible exact LeO.none _)
   | (with_reducible refine LeO.ite ?_ ?_)
   | (with_reducible refine LeO.bind ?_ (fun _ => ?_))
   | exact ih0 _ _ _
   | exact ih1 _ _ _ _
   | exact LeO.none _
   | refine LeO.ite ?_ ?_
   | refine LeO.bind ?_ (fun _ => ?_)
set_option maxHeartbeats 8000000 in
set_option maxRecDepth 100000 in
theorem zbI.calls (k : Nat) (a0_0 : Int) (a0_1 : Int) (a0_2 : Int) (r1 : Int) (r2 : Int) (r3 : Int) (w : World) (h : zbI.f k a0_0 a0_1 a0_2 = some (r1, r2, r3)) :
  Calls Tryd.prog 81 #[.agg #[.int .i64 a0_0, .int .i64 a0_1, .int .i64 a0_2]] w fun e w' => e = .returned (.agg #[.int .i64 r1, .int .i64 r2, .int .i64 r3]) ∧ Below w.heap.size w w' := by
 have hu31 := Tryd.underlying31
 have HB := zpS (Below.refl w.heap.size w)
 have H : (zbI.l0 k a0_0 a0_1 a0_2) = some (r1, r2, r3) := h
 clear h
 have H' := zpS H
 clear H
 go_enter Tryd.func81, Tryd.ntmps81
 go_wp2_with (first | ((with_reducible refine zpZ (N := 1) rfl ?_); refine bx_ 1 #[.int .i64 a0_0, .int .i64 a0_1, .int .i64 a0_2] 31 ?_; intro gb316 hg w2 hbox hb; have n0_ := (ns_ hb); have n1_ := zpS (hbox); have n2_ := (ng_ hg); have n3_ := n2_; clear HB; have HB := n0_; have BK316 := n1_; have GW316 := n2_; have GE316 := n3_; clear n0_ n1_ n2_ n3_; clear hb hbox hg) | ((with_reducible refine zpZ (N := 2) rfl ?_); refine bx_ 2 #[.int .i64 0, .int .i64 0, .int .i64 0] 31 ?_; intro gb317 hg w3 hbox hb; have n0_ := zpS (zgM (g := gb316) (o := .cells #[.int .i64 a0_0, .int .i64 a0_1, .int .i64 a0_2] 31 (0, 0)) bk_ hb); have n1_ := (ns_ hb); have n2_ := zpS (hbox); have n3_ := (ng_ hg); have n4_ := n3_; have n5_ := zpS ((by rw [hg]; exact Nat.ne_of_lt (zmN (g := gb316) (o := .cells #[.int .i64 a0_0, .int .i64 a0_1, .int .i64 a0_2] 31 (0, 0)) bk_) : gb316 ≠ gb317)); have n6_ := zpS ((by rw [hg]; exact Nat.ne_of_gt (zmN (g := gb316) (o := .cells #[.int .i64 a0_0, .int .i64 a0_1, .int .i64 a0_2] 31 (0, 0)) bk_) : gb317 ≠ gb316)); clear BK316; clear HB; have BK316 := n0_; have HB := n1_; have BK317 := n2_; have GW317 := n3_; have GE317 := n4_; have NB316_317 := n5_; have NB317_316 := n6_; clear n0_ n1_ n2_ n3_ n4_ n5_ n6_; clear hb hbox hg))
 (try go_simp)
 go_loopg [] k (fun kq w' => ∃ (x317000_1 : Int) (x317001_1 : Int) (x317002_1 : Int), Aside0 (zbI.l0 kq x317000_1 x317001_1 x317002_1 = some (r1, r2, r3)) ∧ Aside0 (kq ≤ k) ∧ Aside0 (w'.heap[gb316]? = some (.cells #[.int .i64 x317000_1, .int .i64 x317001_1, .int .i64 x317002_1] 31 (0, 0))) ∧ Aside0 (w'.heap[gb317]? = some (.cells #[.int .i64 0, .int .i64 0, .int .i64 0] 31 (0, 0))) ∧ Aside0 (Below w.heap.size w w'))
 case atStart => exact ⟨(a0_0), (a0_1), (a0_2), H', ⟨Nat.le_refl _⟩, ⟨bk_⟩, ⟨bk_⟩, ⟨bb_⟩⟩
 case round =>
  clear H'
  try clear p2
  obtain ⟨x317000_1, x317001_1, x317002_1, HA, HK1, BK316, BK317, HB⟩ := hrel
  cases gk with
  | zero => exact absurd HA.out (by simp [zbI.l0])
  | succ k1 =>
   have H := HA.out
   clear HA
   simp only [zbI.l0] at H
   have HC4 := zpS H
   clear H
   go_upto_region 1 with (fail)
   go_cut [17] (fun v17 wc => ∃ (kq : Nat) (x17_3 : Bool), v17 = .bool x17_3 ∧ Aside0 (zbI.j1 kq x17_3 x317000_1 x317001_1 x317002_1 = some (r1, r2, r3)) ∧ Aside0 (kq ≤ k1) ∧ Aside0 (wc.heap[gb316]? = some (.cells #[.int .i64 x317000_1, .int .i64 x317001_1, .int .i64 x317002_1] 31 (0, 0))) ∧ Aside0 (wc.heap[gb317]? = some (.cells #[.int .i64 0, .int .i64 0, .int .i64 0] 31 (0, 0))) ∧ Aside0 (Below w.heap.size w wc))
   case first =>
    have H := HC4.out
    clear HC4
    by_cases c5 : x317002_1 > 0
    ·rw [if_pos c5] at H
     have c5b0 : decide (0 < x317002_1) = true := decide_eq_true c5
     clear c5
     (first | rw [c5b0] | (simp only [zcM, ziJ]; rw [c5b0]) | skip)
     by_cases c6 : (Go.bits .and .i64 x317000_1 1) = 0
     ·rw [if_pos c6] at H
      have c6b0 : ((Go.bits .and .i64 x317000_1 1) == 0) = true := beq_iff_eq.mpr c6
      have c6b1 : ((Go.bits .and .i64 x317000_1 1) != 0) = false := bne_eq_false_iff_eq.mpr c6
      clear c6
      have H' := zpS H
      clear H
      have hnb7 := NB316_317.out
      have hnc7 := NB317_316.out
      obtain ⟨hcz8_0, hcz8_1, hcz8_2⟩ := zdT BK316.out
      obtain ⟨hfz8_0, hfz8_1, hfz8_2⟩ := zqD BK316.out
      go_wp2
      go_meet
      case rel => exact ⟨_, (((Go.bits .and .i64 x317001_1 1) == 0)), (by first | rfl | (simp; done) | (simp [*]; done)), H', ⟨by have := HK1.out; first | omega | exact Nat.le_refl _⟩, ⟨bk_⟩, ⟨bk_⟩, ⟨bb_⟩⟩
     ·rw [if_neg c6] at H
      have c6b0 : ((Go.bits .and .i64 x317000_1 1) == 0) = false := beq_eq_false_iff_ne.mpr c6
      have c6b1 : ((Go.bits .and .i64 x317000_1 1) != 0) = true := bne_iff_ne.mpr c6
      have H' := zpS H
      clear H
      have hnb9 := NB316_317.out
      have hnc9 := NB317_316.out
      obtain ⟨hcz10_0, hcz10_1, hcz10_2⟩ := zdT BK316.out
      obtain ⟨hfz10_0, hfz10_1, hfz10_2⟩ := zqD BK316.out
      go_wp2
      go_meet
      case rel => exact ⟨_, (false), (by first | rfl | (simp; done) | (simp [*]; done)), H', ⟨by have := HK1.out; first | omega | exact Nat.le_refl _⟩, ⟨bk_⟩, ⟨bk_⟩, ⟨bb_⟩⟩
    ·rw [if_neg c5] at H
     have c5b0 : decide (0 < x317002_1) = false := decide_eq_false c5
     clear c5
     (first | rw [c5b0] | (simp only [zcM, ziJ]; rw [c5b0]) | skip)
     have H' := zpS H
     clear H
     have hnb11 := NB316_317.out
     have hnc11 := NB317_316.out
     obtain ⟨hcz12_0, hcz12_1, hcz12_2⟩ := zdT BK316.out
     obtain ⟨hfz12_0, hfz12_1, hfz12_2⟩ := zqD BK316.out
     go_wp2
     go_meet
     case rel => exact ⟨_, (false), (by first | rfl | (simp; done) | (simp [*]; done)), H', ⟨by have := HK1.out; first | omega | exact Nat.le_refl _⟩, ⟨bk_⟩, ⟨bk_⟩, ⟨bb_⟩⟩
   case rest =>
    clear HC4
    try clear c1
    try clear p2
    try clear c5
    try clear c5b0
    try clear c6
    try clear c6b0
    try clear c6b1
    try clear c7
    try clear c8
    try clear c9
    try clear c11
    try clear hcz10_0
    try clear hcz10_1
    try clear hcz10_2
    try clear hcz12_0
    try clear hcz12_1
    try clear hcz12_2
    try clear hcz8_0
    try clear hcz8_1
    try clear hcz8_2
    try clear hfz10_0
    try clear hfz10_1
    try clear hfz10_2
    try clear hfz12_0
    try clear hfz12_1
    try clear hfz12_2
    try clear hfz8_0
    try clear hfz8_1
    try clear hfz8_2
    try clear p2
    obtain ⟨kq, x17_3, rfl, HA, HJ3, BK316, BK317, HB⟩ := hcut
    cases kq with
    | zero => exact absurd HA.out (by simp [zbI.j1])
    | succ kj3 =>
     have H := HA.out
     clear HA
     simp only [zbI.j1] at H
     by_cases c13 : x17_3 = true
     ·subst c13
      have H1 : (if (wrap64 (Int.tdiv x317000_1 2)) = 0 then (if (wrap64 (Int.tdiv x317001_1 2)) = 0 then (zbI.l0 kj3 (wrap64 (Int.tdiv x317000_1 2)) (wrap64 (Int.tdiv x317001_1 2)) 0) else (zbI.l0 kj3 (wrap64 (Int.tdiv x317000_1 2)) (wrap64 (Int.tdiv x317001_1 2)) (wrap64 (x317002_1 - 1)))) else (zbI.l0 kj3 (wrap64 (Int.tdiv x317000_1 2)) (wrap64 (Int.tdiv x317001_1 2)) (wrap64 (x317002_1 - 1)))) = some (r1, r2, r3) := by rw [if_pos rfl] at H; exact H
      clear H
      have H := H1
      clear H1
      by_cases c14 : (wrap64 (Int.tdiv x317000_1 2)) = 0
      ·rw [if_pos c14] at H
       have c14b0 : ((wrap64 (Int.tdiv x317000_1 2)) == 0) = true := beq_iff_eq.mpr c14
       have c14b1 : ((wrap64 (Int.tdiv x317000_1 2)) != 0) = false := bne_eq_false_iff_eq.mpr c14
       clear c14
       by_cases c15 : (wrap64 (Int.tdiv x317001_1 2)) = 0
       ·rw [if_pos c15] at H
        have c15b0 : ((wrap64 (Int.tdiv x317001_1 2)) == 0) = true := beq_iff_eq.mpr c15
        have c15b1 : ((wrap64 (Int.tdiv x317001_1 2)) != 0) = false := bne_eq_false_iff_eq.mpr c15
        clear c15
        have H' := zpS H
        clear H
        have hnb16 := NB316_317.out
        have hnc16 := NB317_316.out
        obtain ⟨hcz17_0, hcz17_1, hcz17_2⟩ := zdT BK316.out
        obtain ⟨hfz17_0, hfz17_1, hfz17_2⟩ := zqD BK316.out
        go_wp2
        go_roundg kj3
        case measure => have := HK1.out; have := HJ3.out; omega
        case rel => exact ⟨(wrap64 (Int.tdiv x317000_1 2)), (wrap64 (Int.tdiv x317001_1 2)), (0), H', ⟨by have := HK1.out; have := HJ3.out; omega⟩, ⟨by (with_reducible repeat (first | apply zuW | apply ztN | apply zqY)); refine zlL (cs := #[.int .i64 (wrap64 (Int.tdiv x317000_1 2)), .int .i64 (wrap64 (Int.tdiv x317001_1 2)), .int .i64 (wrap64 (x317002_1 - 1))]) ?_ 2 _ rfl; (with_reducible repeat (first | apply zuW | apply ztN | apply zqY)); refine zlL (cs := #[.int .i64 (wrap64 (Int.tdiv x317000_1 2)), .int .i64 (wrap64 (Int.tdiv x317001_1 2)), .int .i64 x317002_1]) ?_ 2 _ rfl; (with_reducible repeat (first | apply zuW | apply ztN | apply zqY)); refine zlL (cs := #[.int .i64 (wrap64 (Int.tdiv x317000_1 2)), .int .i64 x317001_1, .int .i64 x317002_1]) ?_ 1 _ rfl; (with_reducible repeat (first | apply zuW | apply ztN | apply zqY)); refine zlL (cs := #[.int .i64 x317000_1, .int .i64 x317001_1, .int .i64 x317002_1]) ?_ 0 _ rfl; (with_reducible repeat (first | apply zuW | apply ztN | apply zqY)); exact BK316.out⟩, ⟨by (with_reducible repeat (first | apply zuW | apply ztN | apply zqY)); refine znI ?_ NB317_316.out _; (with_reducible repeat (first | apply zuW | apply ztN | apply zqY)); refine znI ?_ NB317_316.out _; (with_reducible repeat (first | apply zuW | apply ztN | apply zqY)); refine znI ?_ NB317_316.out _; (with_reducible repeat (first | apply zuW | apply ztN | apply zqY)); refine znI ?_ NB317_316.out _; (with_reducible repeat (first | apply zuW | apply ztN | apply zqY)); exact BK317.out⟩, ⟨bb_⟩⟩
       ·rw [if_neg c15] at H
        have c15b0 : ((wrap64 (Int.tdiv x317001_1 2)) == 0) = false := beq_eq_false_iff_ne.mpr c15
        have c15b1 : ((wrap64 (Int.tdiv x317001_1 2)) != 0) = true := bne_iff_ne.mpr c15
        have H' := zpS H
        clear H
        have hnb18 := NB316_317.out
        have hnc18 := NB317_316.out
        obtain ⟨hcz19_0, hcz19_1, hcz19_2⟩ := zdT BK316.out
        obtain ⟨hfz19_0, hfz19_1, hfz19_2⟩ := zqD BK316.out
        go_wp2
        go_roundg kj3
        case measure => have := HK1.out; have := HJ3.out; omega
        case rel => exact ⟨(wrap64 (Int.tdiv x317000_1 2)), (wrap64 (Int.tdiv x317001_1 2)), (wrap64 (x317002_1 - 1)), H', ⟨by have := HK1.out; have := HJ3.out; omega⟩, ⟨by (with_reducible repeat (first | apply zuW | apply ztN | apply zqY)); refine zlL (cs := #[.int .i64 (wrap64 (Int.tdiv x317000_1 2)), .int .i64 (wrap64 (Int.tdiv x317001_1 2)), .int .i64 x317002_1]) ?_ 2 _ rfl; (with_reducible repeat (first | apply zuW | apply ztN | apply zqY)); refine zlL (cs := #[.int .i64 (wrap64 (Int.tdiv x317000_1 2)), .int .i64 x317001_1, .int .i64 x317002_1]) ?_ 1 _ rfl; (with_reducible repeat (first | apply zuW | apply ztN | apply zqY)); refine zlL (cs := #[.int .i64 x317000_1, .int .i64 x317001_1, .int .i64 x317002_1]) ?_ 0 _ rfl; (with_reducible repeat (first | apply zuW | apply ztN | apply zqY)); exact BK316.out⟩, ⟨by (with_reducible repeat (first | apply zuW | apply ztN | apply zqY)); refine znI ?_ NB317_316.out _; (with_reducible repeat (first | apply zuW | apply ztN | apply zqY)); refine znI ?_ NB317_316.out _; (with_reducible repeat (first | apply zuW | apply ztN | apply zqY)); refine znI ?_ NB317_316.out _; (with_reducible repeat (first | apply zuW | apply ztN | apply zqY)); exact BK317.out⟩, ⟨bb_⟩⟩
      ·rw [if_neg c14] at H
       have c14b0 : ((wrap64 (Int.tdiv x317000_1 2)) == 0) = false := beq_eq_false_iff_ne.mpr c14
       have c14b1 : ((wrap64 (Int.tdiv x317000_1 2)) != 0) = true := bne_iff_ne.mpr c14
       have H' := zpS H
       clear H
       have hnb20 := NB316_317.out
       have hnc20 := NB317_316.out
       obtain ⟨hcz21_0, hcz21_1, hcz21_2⟩ := zdT BK316.out
       obtain ⟨hfz21_0, hfz21_1, hfz21_2⟩ := zqD BK316.out
       go_wp2
       go_roundg kj3
       case measure => have := HK1.out; have := HJ3.out; omega
       case rel => exact ⟨(wrap64 (Int.tdiv x317000_1 2)), (wrap64 (Int.tdiv x317001_1 2)), (wrap64 (x317002_1 - 1)), H', ⟨by have := HK1.out; have := HJ3.out; omega⟩, ⟨by (with_reducible repeat (first | apply zuW | apply ztN | apply zqY)); refine zlL (cs := #[.int .i64 (wrap64 (Int.tdiv x317000_1 2)), .int .i64 (wrap64 (Int.tdiv x317001_1 2)), .int .i64 x317002_1]) ?_ 2 _ rfl; (with_reducible repeat (first | apply zuW | apply ztN | apply zqY)); refine zlL (cs := #[.int .i64 (wrap64 (Int.tdiv x317000_1 2)), .int .i64 x317001_1, .int .i64 x317002_1]) ?_ 1 _ rfl; (with_reducible repeat (first | apply zuW | apply ztN | apply zqY)); refine zlL (cs := #[.int .i64 x317000_1, .int .i64 x317001_1, .int .i64 x317002_1]) ?_ 0 _ rfl; (with_reducible repeat (first | apply zuW | apply ztN | apply zqY)); exact BK316.out⟩, ⟨by (with_reducible repeat (first | apply zuW | apply ztN | apply zqY)); refine znI ?_ NB317_316.out _; (with_reducible repeat (first | apply zuW | apply ztN | apply zqY)); refine znI ?_ NB317_316.out _; (with_reducible repeat (first | apply zuW | apply ztN | apply zqY)); refine znI ?_ NB317_316.out _; (with_reducible repeat (first | apply zuW | apply ztN | apply zqY)); exact BK317.out⟩, ⟨bb_⟩⟩
     ·replace c13 := Bool.eq_false_iff.mpr c13
      subst c13
      have H1 : (some (x317000_1, x317001_1, x317002_1)) = some (r1, r2, r3) := by rw [if_neg (show ¬ (false = true) by decide)] at H; exact H
      clear H
      have H := H1
      clear H1
      simp only [Option.some.injEq, Prod.mk.injEq] at H
      obtain ⟨rfl, rfl, rfl⟩ := H
      have hnb22 := NB316_317.out
      have hnc22 := NB317_316.out
      obtain ⟨hcz23_0, hcz23_1, hcz23_2⟩ := zdT BK316.out
      obtain ⟨hfz23_0, hfz23_1, hfz23_2⟩ := zqD BK316.out
      obtain ⟨hcz24_0, hcz24_1, hcz24_2⟩ := zdT BK317.out
      obtain ⟨hfz24_0, hfz24_1, hfz24_2⟩ := zqD BK317.out
      go_wp2
      refine bodyPost_ret (results_cell_row rfl _ _ gb317 31 #[.int .i64 x317000_1, .int .i64 x317001_1, .int .i64 x317002_1] (0, 0) _ rfl (by (with_reducible repeat (first | apply zuW | apply ztN | apply zqY)); refine zlL (cs := #[.int .i64 x317000_1, .int .i64 x317001_1, .int .i64 0]) ?_ 2 _ rfl; (with_reducible repeat (first | apply zuW | apply ztN | apply zqY)); refine zlL (cs := #[.int .i64 x317000_1, .int .i64 0, .int .i64 0]) ?_ 1 _ rfl; (with_reducible repeat (first | apply zuW | apply ztN | apply zqY)); refine zlL (cs := #[.int .i64 0, .int .i64 0, .int .i64 0]) ?_ 0 _ rfl; (with_reducible repeat (first | apply zuW | apply ztN | apply zqY)); exact BK317.out) Tryd.underlying31 rfl (by kernel_rfl)) rfl ?_
      exact ⟨by first | rfl | (simp [ziS, znJ] <;> rfl) | (simp [*, ziS, znJ] <;> rfl), bb_⟩

def zjL.f (k : Nat) (a0_0 : Int) (a0_1 : Int) (a0_2 : Int) (a1_0 : Int) (a1_1 : Int) (a1_2 : Int) : Option (Int × Int × Int) := if 0 ≤ (wrap64 ((mx a0_2 a1_2) - a0_2)) then (if 0 ≤ (wrap64 ((mx a0_2 a1_2) - a1_2)) then ((zbI.f k (wrap64 ((shl .i64 a0_0 (wrap64 ((mx a0_2 a1_2) - a0_2))) + (shl .i64 a1_0 (wrap64 ((mx a0_2 a1_2) - a1_2))))) (wrap64 ((shl .i64 a0_1 (wrap64 ((mx a0_2 a1_2) - a0_2))) + (shl .i64 a1_1 (wrap64 ((mx a0_2 a1_2) - a1_2))))) (mx a0_2 a1_2)).bind fun bt321 => (some (bt321.1, bt321.2.1, bt321.2.2))) else (none)) else (none)
theorem zjL.mono : ∀ a0 a1 a2 a3 a4 a5 k, LeO (zjL.f k a0 a1 a2 a3 a4 a5) (zjL.f (k + 1) a0 a1 a2 a3 a4 a5) := by
 intro a0 a1 a2 a3 a4 a5 k
 unfold zjL.f
 repeat' first
   | (with_reducible exact zbI.mono _ _ _ _)
   | (with_reducible exact LeO.refl _)
   | (with_reducible exact LeO.none _)
   | (with_reducible refine LeO.ite ?_ ?_)
   | (with_reducible refine LeO.bind ?_ (fun _ => ?_))
   | exact zbI.mono _ _ _ _
   | exact LeO.none _
   | refine LeO.ite ?_ ?_
   | refine LeO.bind ?_ (fun _ => ?_)
def zjL.T2 : Bool × List (List Nat × List Nat) := (true, [([], []), ([0], [0]), ([], []), ([], []), ([3], [3]), ([2, 4], [2, 4]), ([1, 5], [1, 5]), ([], []), ([7], [7]), ([], []), ([], []), ([10], [10]), ([9, 11], [9, 11]), ([8, 12], [8, 12]), ([6, 13], [6, 13]), ([], []), ([15], [15]), ([], []), ([], []), ([18], [18]), ([17, 19], [17, 19]), ([16, 20], [16, 20]), ([], []), ([22], [22]), ([], []), ([], []), ([25], [25]), ([24, 26], [24, 26]), ([23, 27], [23, 27]), ([21, 28], [21, 28]), ([], []), ([14, 29, 30], [14, 29, 30]), ([31], [31]), ([32, 32, 0, 1, 2, 3, 4, 5, 6, 7, 8, 9, 10, 11, 12, 13, 14, 15, 16, 17, 18, 19, 20, 21, 22, 23, 24, 25, 26, 27, 28, 29, 30, 31, 32], [32])])
def zjL.B2 : List Nat := [0, 1, 0, 0, 8, 28, 63, 0, 128, 0, 0, 1024, 3584, 8064, 16383, 0, 32768, 0, 0, 262144, 917504, 2064384, 0, 4194304, 0, 0, 33554432, 117440512, 264241152, 536838144, 0, 2147483647, 4294967295, 8589934591]
theorem zjL.tab2 : rtab .any (opsOf Tryd.f73 2) = zjL.T2 := by kernel_rfl
theorem zjL.bits2 : ztG zjL.T2.2 zjL.B2 = true := by kernel_rfl
set_option maxHeartbeats 8000000 in
set_option maxRecDepth 100000 in
theorem zjL.calls (k : Nat) (a0_0 : Int) (a0_1 : Int) (a0_2 : Int) (a1_0 : Int) (a1_1 : Int) (a1_2 : Int) (r1 : Int) (r2 : Int) (r3 : Int) (w : World) (h : zjL.f k a0_0 a0_1 a0_2 a1_0 a1_1 a1_2 = some (r1, r2, r3)) :
  Calls Tryd.prog 73 #[.agg #[.int .i64 a0_0, .int .i64 a0_1, .int .i64 a0_2], .agg #[.int .i64 a1_0, .int .i64 a1_1, .int .i64 a1_2]] w fun e w' => e = .returned (.agg #[.int .i64 r1, .int .i64 r2, .int .i64 r3]) ∧ Below w.heap.size w w' := by
 have hu31 := Tryd.underlying31
 have HB := zpS (Below.refl w.heap.size w)
 have H : (if 0 ≤ (wrap64 ((mx a0_2 a1_2) - a0_2)) then (if 0 ≤ (wrap64 ((mx a0_2 a1_2) - a1_2)) then ((zbI.f k (wrap64 ((shl .i64 a0_0 (wrap64 ((mx a0_2 a1_2) - a0_2))) + (shl .i64 a1_0 (wrap64 ((mx a0_2 a1_2) - a1_2))))) (wrap64 ((shl .i64 a0_1 (wrap64 ((mx a0_2 a1_2) - a0_2))) + (shl .i64 a1_1 (wrap64 ((mx a0_2 a1_2) - a1_2))))) (mx a0_2 a1_2)).bind fun bt321 => (some (bt321.1, bt321.2.1, bt321.2.2))) else (none)) else (none)) = some (r1, r2, r3) := h
 clear h
 obtain ⟨ji3, hji3⟩ : ∃ j_ : Int, (mx a0_2 a1_2) = j_ := ⟨_, rfl⟩
 replace H : (if 0 ≤ (wrap64 ((ji3) - a0_2)) then (if 0 ≤ (wrap64 ((ji3) - a1_2)) then ((zbI.f k (wrap64 ((shl .i64 a0_0 (wrap64 ((ji3) - a0_2))) + (shl .i64 a1_0 (wrap64 ((ji3) - a1_2))))) (wrap64 ((shl .i64 a0_1 (wrap64 ((ji3) - a0_2))) + (shl .i64 a1_1 (wrap64 ((ji3) - a1_2))))) (ji3)).bind fun bt321 => (some (bt321.1, bt321.2.1, bt321.2.2))) else (none)) else (none)) = some (r1, r2, r3) := by first | (rw [hji3] at H; exact H) | (simp only [hji3] at H ⊢; exact H)
 have hji3_ : (if a0_2 < a1_2 then a1_2 else a0_2) = ji3 := hji3
 obtain ⟨ji4, hji4⟩ : ∃ j_ : Int, (wrap64 ((ji3) - a0_2)) = j_ := ⟨_, rfl⟩
 replace H : (if 0 ≤ (ji4) then (if 0 ≤ (wrap64 ((ji3) - a1_2)) then ((zbI.f k (wrap64 ((shl .i64 a0_0 (ji4)) + (shl .i64 a1_0 (wrap64 ((ji3) - a1_2))))) (wrap64 ((shl .i64 a0_1 (ji4)) + (shl .i64 a1_1 (wrap64 ((ji3) - a1_2))))) (ji3)).bind fun bt321 => (some (bt321.1, bt321.2.1, bt321.2.2))) else (none)) else (none)) = some (r1, r2, r3) := by first | (rw [hji4] at H; exact H) | (simp only [hji4] at H ⊢; exact H)
 have hji4w : (IntKind.i64.wrap ((ji3) - a0_2)) = ji4 := (zcM _).trans hji4
 by_cases c5 : 0 ≤ (ji4)
 ·rw [if_pos c5] at H
  have c5b0 := eq_true c5
  have c5b1 : decide (0 ≤ (ji4)) = true := decide_eq_true c5
  clear c5
  obtain ⟨ji6, hji6⟩ : ∃ j_ : Int, (shl .i64 a0_0 (ji4)) = j_ := ⟨_, rfl⟩
  replace H : (if 0 ≤ (wrap64 ((ji3) - a1_2)) then ((zbI.f k (wrap64 ((ji6) + (shl .i64 a1_0 (wrap64 ((ji3) - a1_2))))) (wrap64 ((shl .i64 a0_1 (ji4)) + (shl .i64 a1_1 (wrap64 ((ji3) - a1_2))))) (ji3)).bind fun bt321 => (some (bt321.1, bt321.2.1, bt321.2.2))) else (none)) = some (r1, r2, r3) := by first | (rw [hji6] at H; exact H) | (simp only [hji6] at H ⊢; exact H)
  have hji6_ : (IntKind.i64.wrap (a0_0 * 2 ^ min (ji4).toNat 64)) = ji6 := hji6
  have hji6z : (ji4) ≤ 64 → (IntKind.i64.wrap (a0_0 * 2 ^ (ji4).toNat)) = ji6 := zsQ hji6
  have hji6y : (wrap64 (a0_0 * 2 ^ min (ji4).toNat 64)) = ji6 := (zcM _).symm.trans hji6_
  have hji6x : (ji4) ≤ 64 → (wrap64 (a0_0 * 2 ^ (ji4).toNat)) = ji6 := fun h_ => (zcM _).symm.trans (hji6z h_)
  obtain ⟨ji7, hji7⟩ : ∃ j_ : Int, (wrap64 ((ji3) - a1_2)) = j_ := ⟨_, rfl⟩
  replace H : (if 0 ≤ (ji7) then ((zbI.f k (wrap64 ((ji6) + (shl .i64 a1_0 (ji7)))) (wrap64 ((shl .i64 a0_1 (ji4)) + (shl .i64 a1_1 (ji7)))) (ji3)).bind fun bt321 => (some (bt321.1, bt321.2.1, bt321.2.2))) else (none)) = some (r1, r2, r3) := by first | (rw [hji7] at H; exact H) | (simp only [hji7] at H ⊢; exact H)
  have hji7w : (IntKind.i64.wrap ((ji3) - a1_2)) = ji7 := (zcM _).trans hji7
  by_cases c8 : 0 ≤ (ji7)
  ·rw [if_pos c8] at H
   have c8b0 := eq_true c8
   have c8b1 : decide (0 ≤ (ji7)) = true := decide_eq_true c8
   clear c8
   obtain ⟨ji9, hji9⟩ : ∃ j_ : Int, (shl .i64 a1_0 (ji7)) = j_ := ⟨_, rfl⟩
   replace H : ((zbI.f k (wrap64 ((ji6) + (ji9))) (wrap64 ((shl .i64 a0_1 (ji4)) + (shl .i64 a1_1 (ji7)))) (ji3)).bind fun bt321 => (some (bt321.1, bt321.2.1, bt321.2.2))) = some (r1, r2, r3) := by first | (rw [hji9] at H; exact H) | (simp only [hji9] at H ⊢; exact H)
   have hji9_ : (IntKind.i64.wrap (a1_0 * 2 ^ min (ji7).toNat 64)) = ji9 := hji9
   have hji9z : (ji7) ≤ 64 → (IntKind.i64.wrap (a1_0 * 2 ^ (ji7).toNat)) = ji9 := zsQ hji9
   have hji9y : (wrap64 (a1_0 * 2 ^ min (ji7).toNat 64)) = ji9 := (zcM _).symm.trans hji9_
   have hji9x : (ji7) ≤ 64 → (wrap64 (a1_0 * 2 ^ (ji7).toNat)) = ji9 := fun h_ => (zcM _).symm.trans (hji9z h_)
   have c10b0 := eq_true (of_decide_eq_true (by first | (with_reducible assumption) | assumption) : 0 ≤ (ji4))
   obtain ⟨ji11, hji11⟩ : ∃ j_ : Int, (shl .i64 a0_1 (ji4)) = j_ := ⟨_, rfl⟩
   replace H : ((zbI.f k (wrap64 ((ji6) + (ji9))) (wrap64 ((ji11) + (shl .i64 a1_1 (ji7)))) (ji3)).bind fun bt321 => (some (bt321.1, bt321.2.1, bt321.2.2))) = some (r1, r2, r3) := by first | (rw [hji11] at H; exact H) | (simp only [hji11] at H ⊢; exact H)
   have hji11_ : (IntKind.i64.wrap (a0_1 * 2 ^ min (ji4).toNat 64)) = ji11 := hji11
   have hji11z : (ji4) ≤ 64 → (IntKind.i64.wrap (a0_1 * 2 ^ (ji4).toNat)) = ji11 := zsQ hji11
   have hji11y : (wrap64 (a0_1 * 2 ^ min (ji4).toNat 64)) = ji11 := (zcM _).symm.trans hji11_
   have hji11x : (ji4) ≤ 64 → (wrap64 (a0_1 * 2 ^ (ji4).toNat)) = ji11 := fun h_ => (zcM _).symm.trans (hji11z h_)
   have c12b0 := eq_true (of_decide_eq_true (by first | (with_reducible assumption) | assumption) : 0 ≤ (ji7))
   obtain ⟨ji13, hji13⟩ : ∃ j_ : Int, (shl .i64 a1_1 (ji7)) = j_ := ⟨_, rfl⟩
   replace H : ((zbI.f k (wrap64 ((ji6) + (ji9))) (wrap64 ((ji11) + (ji13))) (ji3)).bind fun bt321 => (some (bt321.1, bt321.2.1, bt321.2.2))) = some (r1, r2, r3) := by first | (rw [hji13] at H; exact H) | (simp only [hji13] at H ⊢; exact H)
   have hji13_ : (IntKind.i64.wrap (a1_1 * 2 ^ min (ji7).toNat 64)) = ji13 := hji13
   have hji13z : (ji7) ≤ 64 → (IntKind.i64.wrap (a1_1 * 2 ^ (ji7).toNat)) = ji13 := zsQ hji13
   have hji13y : (wrap64 (a1_1 * 2 ^ min (ji7).toNat 64)) = ji13 := (zcM _).symm.trans hji13_
   have hji13x : (ji7) ≤ 64 → (wrap64 (a1_1 * 2 ^ (ji7).toNat)) = ji13 := fun h_ => (zcM _).symm.trans (hji13z h_)
   replace H := Option.bind_eq_some_iff.mp H
   obtain ⟨⟨t321, t322, t323⟩, A140, H⟩ := H
   replace H : (some (t321, t322, t323)) = some (r1, r2, r3) := H
   have A14 := zpS A140
   clear A140
   simp only [Option.some.injEq, Prod.mk.injEq] at H
   obtain ⟨rfl, rfl, rfl⟩ := H
   go_enter Tryd.func73, Tryd.ntmps73
   try go_wp2_with (first | ((with_reducible refine zpZ (N := 2) rfl ?_); refine bx_ 2 #[.int .i64 a0_0, .int .i64 a0_1, .int .i64 a0_2] 31 ?_; intro gb318 hg w15 hbox hb; have n0_ := (ns_ hb); have n1_ := zpS (hbox); have n2_ := (ng_ hg); have n3_ := n2_; clear HB; have HB := n0_; have BK318 := n1_; have GW318 := n2_; have GE318 := n3_; clear n0_ n1_ n2_ n3_; clear hb hbox hg) | ((with_reducible refine zpZ (N := 3) rfl ?_); refine bx_ 3 #[.int .i64 a1_0, .int .i64 a1_1, .int .i64 a1_2] 31 ?_; intro gb319 hg w16 hbox hb; have n0_ := zpS (zgM (g := gb318) (o := .cells #[.int .i64 a0_0, .int .i64 a0_1, .int .i64 a0_2] 31 (0, 0)) bk_ hb); have n1_ := (ns_ hb); have n2_ := zpS (hbox); have n3_ := (ng_ hg); have n4_ := n3_; have n5_ := zpS ((by rw [hg]; exact Nat.ne_of_lt (zmN (g := gb318) (o := .cells #[.int .i64 a0_0, .int .i64 a0_1, .int .i64 a0_2] 31 (0, 0)) bk_) : gb318 ≠ gb319)); have n6_ := zpS ((by rw [hg]; exact Nat.ne_of_gt (zmN (g := gb318) (o := .cells #[.int .i64 a0_0, .int .i64 a0_1, .int .i64 a0_2] 31 (0, 0)) bk_) : gb319 ≠ gb318)); clear BK318; clear HB; have BK318 := n0_; have HB := n1_; have BK319 := n2_; have GW319 := n3_; have GE319 := n4_; have NB318_319 := n5_; have NB319_318 := n6_; clear n0_ n1_ n2_ n3_ n4_ n5_ n6_; clear hb hbox hg) | ((with_reducible refine zpZ (N := 4) rfl ?_); refine bx_ 4 #[.int .i64 0, .int .i64 0, .int .i64 0] 31 ?_; intro gb320 hg w17 hbox hb; have n0_ := zpS (zgM (g := gb318) (o := .cells #[.int .i64 a0_0, .int .i64 a0_1, .int .i64 a0_2] 31 (0, 0)) bk_ hb); have n1_ := zpS (zgM (g := gb319) (o := .cells #[.int .i64 a1_0, .int .i64 a1_1, .int .i64 a1_2] 31 (0, 0)) bk_ hb); have n2_ := (ns_ hb); have n3_ := zpS (hbox); have n4_ := (ng_ hg); have n5_ := n4_; have n6_ := zpS ((by rw [hg]; exact Nat.ne_of_lt (zmN (g := gb318) (o := .cells #[.int .i64 a0_0, .int .i64 a0_1, .int .i64 a0_2] 31 (0, 0)) bk_) : gb318 ≠ gb320)); have n7_ := zpS ((by rw [hg]; exact Nat.ne_of_gt (zmN (g := gb318) (o := .cells #[.int .i64 a0_0, .int .i64 a0_1, .int .i64 a0_2] 31 (0, 0)) bk_) : gb320 ≠ gb318)); have n8_ := zpS ((by rw [hg]; exact Nat.ne_of_lt (zmN (g := gb319) (o := .cells #[.int .i64 a1_0, .int .i64 a1_1, .int .i64 a1_2] 31 (0, 0)) bk_) : gb319 ≠ gb320)); have n9_ := zpS ((by rw [hg]; exact Nat.ne_of_gt (zmN (g := gb319) (o := .cells #[.int .i64 a1_0, .int .i64 a1_1, .int .i64 a1_2] 31 (0, 0)) bk_) : gb320 ≠ gb319)); clear BK318; clear BK319; clear HB; have BK318 := n0_; have BK319 := n1_; have HB := n2_; have BK320 := n3_; have GW320 := n4_; have GE320 := n5_; have NB318_320 := n6_; have NB320_318 := n7_; have NB319_320 := n8_; have NB320_319 := n9_; clear n0_ n1_ n2_ n3_ n4_ n5_ n6_ n7_ n8_ n9_; clear hb hbox hg; have hnb18 := NB318_319.out; have hnc18 := NB319_318.out; have hnb19 := NB318_320.out; have hnc19 := NB320_318.out; obtain ⟨hcz20_0, hcz20_1, hcz20_2⟩ := zdT BK318.out; obtain ⟨hfz20_0, hfz20_1, hfz20_2⟩ := zqD BK318.out; have hnb21 := NB319_320.out; have hnc21 := NB320_319.out; obtain ⟨hcz22_0, hcz22_1, hcz22_2⟩ := zdT BK319.out; obtain ⟨hfz22_0, hfz22_1, hfz22_2⟩ := zqD BK319.out))
   have n0_ := zpS (ztN BK318.out)
   have n1_ := zpS (ztN BK319.out)
   have n2_ := zpS (ztN BK320.out)
   have n3_ := zpS (zvF HB.out)
   clear BK318
   clear BK319
   clear BK320
   clear HB
   have BK318 := n0_
   have BK319 := n1_
   have BK320 := n2_
   have HB := n3_
   clear n0_ n1_ n2_ n3_
   refine zpB (n := 34) (S := fun w' => w'.cell? ⟨gb318, 0, none⟩ = some (.int .i64 a0_0) ∧ w'.cell? ⟨gb318, 1, none⟩ = some (.int .i64 a0_1) ∧ w'.cell? ⟨gb318, 2, none⟩ = some (.int .i64 a0_2) ∧ w'.cell? ⟨gb319, 0, none⟩ = some (.int .i64 a1_0) ∧ w'.cell? ⟨gb319, 1, none⟩ = some (.int .i64 a1_1) ∧ w'.cell? ⟨gb319, 2, none⟩ = some (.int .i64 a1_2)) (ds := []) #[false, false, false, false, false, false, false, false, false, false, false, false, false, false, false, false, false, false, false, false, false, false, false, false, false, false, false, false, false, false, false, false, false, false] (by kernel_rfl) rfl rfl ⟨(zzS BK318.out 0).trans rfl, (zzS BK318.out 1).trans rfl, (zzS BK318.out 2).trans rfl, (zzS BK319.out 0).trans rfl, (zzS BK319.out 1).trans rfl, (zzS BK319.out 2).trans rfl⟩ (fun hHeld => ?_); refine zwI zjL.tab2 zjL.bits2 (fun HT_ HW_ => ?_)
   generalize w17.drew = w23 at BK318 BK319 BK320 HB hHeld ⊢
   refine pu_ 0 (some 11) (bl_ 34 1) ?_
   refine pu_ 2 (some 13) (bl_ 34 5) ?_
   refine pu_ 3 (some 14) (bl_ 34 13) ?_
   refine pu_ 7 (some 18) (bl_ 34 141) ?_
   refine pu_ 9 (some 20) (bl_ 34 653) ?_
   refine pu_ 10 (some 21) (bl_ 34 1677) ?_
   refine pu_ 15 (some 26) (bl_ 34 34445) ?_
   refine pu_ 17 (some 28) (bl_ 34 165517) ?_
   refine pu_ 18 (some 29) (bl_ 34 427661) ?_
   refine pu_ 22 (some 33) (bl_ 34 4621965) ?_
   refine pu_ 24 (some 35) (bl_ 34 21399181) ?_
   refine pu_ 25 (some 36) (bl_ 34 54953613) ?_
   refine pu_ 30 (some 41) (bl_ 34 1128695437) ?_
   refine tk6_ 1 (some 12) (bl_ 34 1128695439) hHeld ?_
   refine tk6_ 4 (some 15) (bl_ 34 1128695455) hHeld ?_
   refine pu_ 5 (some 16) (bl_ 34 1128695487) ?_
   refine pu_ 6 (some 17) (bl_ 34 1128695551) ?_
   refine tk6_ 8 (some 19) (bl_ 34 1128695807) hHeld ?_
   refine tk6_ 11 (some 22) (bl_ 34 1128697855) hHeld ?_
   refine pu_ 12 (some 23) (bl_ 34 1128701951) ?_
   refine pu_ 13 (some 24) (bl_ 34 1128710143) ?_
   refine pu_ 14 (some 25) (bl_ 34 1128726527) ?_
   refine tk6_ 16 (some 27) (bl_ 34 1128792063) hHeld ?_
   refine tk6_ 19 (some 30) (bl_ 34 1129316351) hHeld ?_
   refine pu_ 20 (some 31) (bl_ 34 1130364927) ?_
   refine pu_ 21 (some 32) (bl_ 34 1132462079) ?_
   refine tk6_ 23 (some 34) (bl_ 34 1140850687) hHeld ?_
   refine tk6_ 26 (some 37) (bl_ 34 1207959551) hHeld ?_
   refine pu_ 27 (some 38) (bl_ 34 1342177279) ?_
   refine pu_ 28 (some 39) (bl_ 34 1610612735) ?_
   refine pu_ 29 (some 40) (bl_ 34 2147483647) ?_
   refine pu_ 31 (some 42) (bl_ 34 4294967295) ?_
   refine zdC (i := 32) (N := some 43) (bl_ 34 8589934591) rfl rfl (zeO HT_.out (by kernel_rfl)) (by decide) (fun K hK => ?_)
   refine zqW Tryd.func81 (by kernel_rfl) rfl #[.agg #[.int .i64 (wrap64 ((ji6) + (ji9))), .int .i64 (wrap64 ((ji11) + (ji13))), .int .i64 ji3]] (by rfl) rfl rfl (by (try simp only [List.map_toArray, List.map_cons, List.map_nil]); first | done | (simp only [hji11, hji13, hji3, hji6, hji9]; rfl) | rfl | (simp only [List.length_drop, List.length_take]; rfl)) ?_
   with_reducible refine (zbI.calls k (wrap64 ((ji6) + (ji9))) (wrap64 ((ji11) + (ji13))) ji3 t321 t322 t323 _ A14.out).mono ?_
   rintro e w24 ⟨rfl, hb⟩
   refine ⟨_, rfl, ?_⟩
   have n0_ := zpS (zgM (g := gb318) (o := .cells #[.int .i64 a0_0, .int .i64 a0_1, .int .i64 a0_2] 31 (0, 0)) bk_ hb)
   have n1_ := zpS (zgM (g := gb319) (o := .cells #[.int .i64 a1_0, .int .i64 a1_1, .int .i64 a1_2] 31 (0, 0)) bk_ hb)
   have n2_ := zpS (zgM (g := gb320) (o := .cells #[.int .i64 0, .int .i64 0, .int .i64 0] 31 (0, 0)) bk_ hb)
   have n3_ := (ns_ hb)
   clear BK318
   clear BK319
   clear BK320
   clear HB
   have BK318 := n0_
   have BK319 := n1_
   have BK320 := n2_
   have HB := n3_
   clear n0_ n1_ n2_ n3_
   (try clear hb)
   (try clear hb2)
   (try clear hk)
   (try clear hi)
   refine hK.out _ _ ⟨(zzS BK318.out 0).trans rfl, (zzS BK318.out 1).trans rfl, (zzS BK318.out 2).trans rfl, (zzS BK319.out 0).trans rfl, (zzS BK319.out 1).trans rfl, (zzS BK319.out 2).trans rfl⟩ (fun hHeld => ?_)
   clear hK K
   refine zaN (a' := ?_) ?_ ?_
   rotate_left
   ·show Act.put _ (some 43) _ = _
    simp only [Act.put, List.setIfInBounds_toArray, List.set_cons_zero, List.set_cons_succ, zcM, ziJ]
    rfl
   refine zdC (i := 33) (N := none) (bl_ 34 17179869183) rfl rfl (zeO HT_.out (by kernel_rfl)) (by decide) (fun K hK => ?_)
   have hs25 : w24.cell? ⟨gb320, 0, none⟩ = some (.int .i64 0) := (zzS BK320.out 0).trans rfl
   have hfs25 := zjF BK320.out 0
   have hns25_0 := NB318_320.out
   have hns25_1 := NB319_320.out
   have hms25_0 := NB320_318.out
   have hms25_1 := NB320_319.out
   have hs26 : w24.cell? ⟨gb320, 1, none⟩ = some (.int .i64 0) := (zzS BK320.out 1).trans rfl
   have hfs26 := zjF BK320.out 1
   have hns26_0 := NB318_320.out
   have hns26_1 := NB319_320.out
   have hms26_0 := NB320_318.out
   have hms26_1 := NB320_319.out
   have hs27 : w24.cell? ⟨gb320, 2, none⟩ = some (.int .i64 0) := (zzS BK320.out 2).trans rfl
   have hfs27 := zjF BK320.out 2
   have hns27_0 := NB318_320.out
   have hns27_1 := NB319_320.out
   have hms27_0 := NB320_318.out
   have hms27_1 := NB320_319.out
   refine skip_ (w1 := ?_) (by rfl) rfl ?_ ?_
   rotate_left
   ·go_simp
    rfl
   refine hK.out _ _ ⟨((zgQ (p := ⟨gb320, _, none⟩) NB318_320.out _).trans (((zgQ (p := ⟨gb320, _, none⟩) NB318_320.out _).trans (((zgQ (p := ⟨gb320, _, none⟩) NB318_320.out _).trans (hHeld.1)))))), ((zgQ (p := ⟨gb320, _, none⟩) NB318_320.out _).trans (((zgQ (p := ⟨gb320, _, none⟩) NB318_320.out _).trans (((zgQ (p := ⟨gb320, _, none⟩) NB318_320.out _).trans (hHeld.2.1)))))), ((zgQ (p := ⟨gb320, _, none⟩) NB318_320.out _).trans (((zgQ (p := ⟨gb320, _, none⟩) NB318_320.out _).trans (((zgQ (p := ⟨gb320, _, none⟩) NB318_320.out _).trans (hHeld.2.2.1)))))), ((zgQ (p := ⟨gb320, _, none⟩) NB319_320.out _).trans (((zgQ (p := ⟨gb320, _, none⟩) NB319_320.out _).trans (((zgQ (p := ⟨gb320, _, none⟩) NB319_320.out _).trans (hHeld.2.2.2.1)))))), ((zgQ (p := ⟨gb320, _, none⟩) NB319_320.out _).trans (((zgQ (p := ⟨gb320, _, none⟩) NB319_320.out _).trans (((zgQ (p := ⟨gb320, _, none⟩) NB319_320.out _).trans (hHeld.2.2.2.2.1)))))), ((zgQ (p := ⟨gb320, _, none⟩) NB319_320.out _).trans (((zgQ (p := ⟨gb320, _, none⟩) NB319_320.out _).trans (((zgQ (p := ⟨gb320, _, none⟩) NB319_320.out _).trans (hHeld.2.2.2.2.2))))))⟩ (fun hHeld => ?_)
   clear hK K
   refine znK (zzP HT_.out (by kernel_rfl)) ?_
   try go_wp2
   refine bodyPost_ret (results_cell_row rfl _ _ gb320 31 #[.int .i64 t321, .int .i64 t322, .int .i64 t323] (0, 0) _ rfl (by (with_reducible repeat (first | apply zuW | apply ztN | apply zqY)); refine zlL (cs := #[.int .i64 t321, .int .i64 t322, .int .i64 0]) ?_ 2 _ rfl; (with_reducible repeat (first | apply zuW | apply ztN | apply zqY)); refine zlL (cs := #[.int .i64 t321, .int .i64 0, .int .i64 0]) ?_ 1 _ rfl; (with_reducible repeat (first | apply zuW | apply ztN | apply zqY)); refine zlL (cs := #[.int .i64 0, .int .i64 0, .int .i64 0]) ?_ 0 _ rfl; (with_reducible repeat (first | apply zuW | apply ztN | apply zqY)); exact BK320.out) Tryd.underlying31 rfl (by kernel_rfl)) rfl ?_
   exact ⟨by first | rfl | (simp [ziS, znJ] <;> rfl) | (simp only [← hji3, ← hji4, ← hji6, ← hji7, ← hji9, ← hji11, ← hji13]; first | rfl | (simp [ziS, znJ] <;> rfl)) | (simp [*, ziS, znJ] <;> rfl), bb_⟩
  ·rw [if_neg c8] at H
   exact absurd H (by simp)
 ·rw [if_neg c5] at H
  exact absurd H (by simp)

end Go.Proofs.YtmmedohdjfhmnaaDoor.PFnExactPolygonText
