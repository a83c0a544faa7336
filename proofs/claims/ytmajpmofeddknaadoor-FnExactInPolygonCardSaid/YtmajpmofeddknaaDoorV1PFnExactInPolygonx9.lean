-- Printed for this claim by this session's program pp.py, which drives the kit's print with additions. Not trusted: Lean checks it.
import Derived.Test.YtmajpmofeddknaaDoorV1PFnExactInPolygonx0
import Derived.Test.YtmajpmofeddknaaDoorV1PFnExactInPolygonx8
namespace Go.Proofs.YtmajpmofeddknaaDoor.PFnExactInPolygon
open Go.RowKit Go.Proofs.YtmajpmofeddknaaDoorW.PrintWords Go.Proofs.YtmajpmofeddknaaDoorW.PrintLast Go.Proofs.YtmajpmofeddknaaDoorW.PrintMore
attribute [local go_sem] zeE zdX zeQ zeO zdK zdI zeA zeC   -- for this text's walks alone
set_option linter.unusedVariables false
set_option linter.unusedSimpArgs false

def zdJ.f (a0_0 : Int) (a0_1 : Int) (a0_2 : Int) (a0_3 : Int) (a0_4 : Int) (a0_5 : Int) : Option (Bool) := (zcP.f a0_0 a0_1 a0_2 a0_3 a0_4 a0_5).bind fun t322 => (some (!t322))
set_option maxHeartbeats 8000000 in
set_option maxRecDepth 100000 in
theorem zdJ.calls (a0_0 : Int) (a0_1 : Int) (a0_2 : Int) (a0_3 : Int) (a0_4 : Int) (a0_5 : Int) (r : Bool) (w : World) (h : zdJ.f a0_0 a0_1 a0_2 a0_3 a0_4 a0_5 = some r) :
  Calls Tryd.prog 105 #[.agg #[.int .i64 a0_0, .int .i64 a0_1, .int .i64 a0_2, .int .i64 a0_3, .int .i64 a0_4, .int .i64 a0_5]] w fun e w' => e = .returned (.bool r) ∧ Below w.heap.size w w' := by
 have hu36 := Tryd.underlying36
 have HB := zaJ (Below.refl w.heap.size w)
 have H : ((zcP.f a0_0 a0_1 a0_2 a0_3 a0_4 a0_5).bind fun t322 => (some (!t322))) = some r := h
 clear h
 replace H := Option.bind_eq_some_iff.mp H
 obtain ⟨t322, A20, H⟩ := H
 replace H : (some (!t322)) = some r := H
 have A2 := zaJ A20
 clear A20
 obtain rfl := Option.some.inj H
 go_enter Tryd.func105, Tryd.ntmps105
 go_wp2_with (first | ((with_reducible refine zaQ (N := 1) rfl ?_); refine bx_ 1 #[.int .i64 a0_0, .int .i64 a0_1, .int .i64 a0_2, .int .i64 a0_3, .int .i64 a0_4, .int .i64 a0_5] 36 ?_; intro gb321 hg w3 hbox hb; have n0_ := (ns_ hb); have n1_ := zaJ (hbox); have n2_ := (ng_ hg); have n3_ := n2_; clear HB; have HB := n0_; have BK321 := n1_; have GW321 := n2_; have GE321 := n3_; clear n0_ n1_ n2_ n3_; clear hb hbox hg; obtain ⟨hcz4_0, hcz4_1, hcz4_2, hcz4_3, hcz4_4, hcz4_5⟩ := zeX BK321.out; obtain ⟨hfz4_0, hfz4_1, hfz4_2, hfz4_3, hfz4_4, hfz4_5⟩ := zeW BK321.out) | ((with_reducible refine zaK (f := 65) rfl ?_); refine zbQ (some 4) rfl rfl Tryd.func65 (by kernel_rfl) rfl #[.agg #[.int .i64 a0_0, .int .i64 a0_1, .int .i64 a0_2, .int .i64 a0_3, .int .i64 a0_4, .int .i64 a0_5]] rfl (by (try simp only [List.map_toArray, List.map_cons, List.map_nil]); first | done | rfl | (simp only [List.length_drop, List.length_take]; rfl)) ?_; (with_reducible refine (zcP.calls a0_0 a0_1 a0_2 a0_3 a0_4 a0_5 t322 _ A2.out).mono ?_); rintro e w5 ⟨rfl, hb⟩; refine ⟨_, rfl, ?_⟩; have n0_ := zaJ (zaG (g := gb321) (o := .cells #[.int .i64 a0_0, .int .i64 a0_1, .int .i64 a0_2, .int .i64 a0_3, .int .i64 a0_4, .int .i64 a0_5] 36 (0, 0)) bk_ hb); have n1_ := (ns_ hb); clear BK321; clear HB; have BK321 := n0_; have HB := n1_; clear n0_ n1_; (try clear hb); (try clear hb2)))
 go_ret
 exact ⟨by first | rfl | (simp [zaI, zaH] <;> rfl) | (simp [*, zaI, zaH] <;> rfl), bb_⟩

def zaX.i : Nat → List S36 → Option Int
 | _, [] => some (-1)
 | j, x :: xs => (zdJ.f x.f0.f0 x.f0.f1 x.f0.f2 x.f1.f0 x.f1.f1 x.f1.f2).bind fun b => if b = true then some (j : Int) else zaX.i (j + 1) xs
def zaX.f (l0 : List S36) : Option Bool := (zaX.i 0 l0).bind fun j => some (decide (0 ≤ j))
set_option maxHeartbeats 8000000 in
set_option maxRecDepth 100000 in
theorem zaX.icalls (A0 : Option Addr) (c0 : Nat) (l0 : List S36) (r : Int) (w : World) (hr0 : Kd.C k36 w A0 l0.length l0) (hc0 : l0.length ≤ c0) (h : zaX.i 0 l0 = some r) :
  Calls Tryd.prog 137 #[.slice A0 l0.length c0, .func (.func 105) #[] #[]] w fun e w' => e = .returned (.int .i64 r) ∧ Below w.heap.size w w' := by
 have hu := Tryd.underlying36
 have hmx := hr0.2.1
 have HR0 := zaJ hr0
 have HC0 := zaJ hc0
 clear hr0 hc0
 have H' := zaJ h
 clear h
 have HB := zaJ (Below.refl w.heap.size w)
 go_enter Tryd.func137, Tryd.ntmps137
 go_wp2
 go_loopg [8] l0.length (fun kq v8 w' => ∃ j : Nat, v8 = .int .i64 j ∧ Aside0 (zaX.i j (l0.drop j) = some r) ∧ Aside0 (kq + j = l0.length) ∧ Aside0 (Below w.heap.size w w'))
 case atStart => exact ⟨0, rfl, H', ⟨rfl⟩, ⟨bb_⟩⟩
 case round =>
  clear H' HB
  obtain ⟨j, rfl, HA, HK1, HB⟩ := hrel
  by_cases hlt : j < l0.length
  ·have H := HA.out
   rw [List.drop_eq_getElem_cons hlt] at H
   simp only [zaX.i] at H
   obtain ⟨b, A20, H⟩ := Option.bind_eq_some_iff.mp H
   have hrd : l0[j] = zaA l0 (j : Int) := by
    unfold zaA
    rw [Int.toNat_natCast, List.getD_eq_getElem?_getD, List.getElem?_eq_getElem hlt]
    rfl
   rw [hrd] at A20
   have A2 := zaJ A20
   clear A20 HA hrd
   have c2b0 : decide ((j : Int) < (l0.length : Int)) = true := decide_eq_true (by omega)
   have c3b0 : decide (0 ≤ (j : Int)) = true := decide_eq_true (by omega)
   obtain ⟨ad111, e111, hx0, hx1, hx2, hx3, hx4, hx5⟩ := zdN HR0.out (j : Int) (by omega) (by omega)
   cases e111
   replace hx0 := zaR HB.out hx0
   replace hx1 := zaR HB.out hx1
   replace hx2 := zaR HB.out hx2
   replace hx3 := zaR HB.out hx3
   replace hx4 := zaR HB.out hx4
   replace hx5 := zaR HB.out hx5
   rw [Int.toNat_natCast] at hx0 hx1 hx2 hx3 hx4 hx5
   cases b with
   | true =>
    simp only [if_true, Option.some.injEq] at H
    subst H
    go_wp2_with (go_at_call 105; (with_reducible refine (zdJ.calls _ _ _ _ _ _ true _ A2.out).mono ?_); rintro e wz ⟨rfl, hz⟩; have HZ := (ns_ hz); clear hz)
    go_ret
    exact ⟨rfl, by repeat (first | (with_reducible first | exact HZ.out | apply zdU | apply zdQ | apply zbT) | exact HZ.out)⟩
   | false =>
    have H2 := zaJ (show zaX.i (j + 1) (l0.drop (j + 1)) = some r from by simpa using H)
    clear H
    go_wp2_with (go_at_call 105; (with_reducible refine (zdJ.calls _ _ _ _ _ _ false _ A2.out).mono ?_); rintro e wz ⟨rfl, hz⟩; have HZ := (ns_ hz); clear hz)
    go_roundg (l0.length - (j + 1))
    case measure => have := HK1.out; omega
    case rel => exact ⟨j + 1, by (try rw [wrap64]); go_num, H2, ⟨by omega⟩, ⟨by repeat (first | (with_reducible first | exact HZ.out | apply zdU | apply zdQ | apply zbT) | exact HZ.out)⟩⟩
  ·have H := HA.out
   rw [List.drop_eq_nil_of_le (by omega)] at H
   simp only [zaX.i, Option.some.injEq] at H
   subst H
   have c2b0 : decide ((j : Int) < (l0.length : Int)) = false := decide_eq_false (by omega)
   go_wp2
   go_ret
   exact ⟨rfl, bb_⟩
set_option maxHeartbeats 8000000 in
set_option maxRecDepth 100000 in
theorem zaX.calls (A0 : Option Addr) (c0 : Nat) (l0 : List S36) (r : Bool) (w : World) (hr0 : Kd.C k36 w A0 l0.length l0) (hc0 : l0.length ≤ c0) (h : zaX.f l0 = some r) :
  Calls Tryd.prog 104 #[.slice A0 l0.length c0, .func (.func 105) #[] #[]] w fun e w' => e = .returned (.bool r) ∧ Below w.heap.size w w' := by
 obtain ⟨q, hq, h⟩ := Option.bind_eq_some_iff.mp h
 obtain rfl := Option.some.inj h
 have HQ := zaJ hq
 clear hq
 have HB := zaJ (Below.refl w.heap.size w)
 go_enter Tryd.func104, Tryd.ntmps104
 go_wp2_with (go_at_call 137; (with_reducible refine (zaX.icalls _ _ l0 q _ ?h1 ?h2 HQ.out).mono ?_); (case h1 => exact hr0); (case h2 => exact hc0); rintro e wz ⟨rfl, hz⟩; have HZ := (ns_ hz); clear hz)
 go_ret
 exact ⟨rfl, by repeat (first | (with_reducible first | exact HZ.out | apply zdU | apply zdQ | apply zbT) | exact HZ.out)⟩
theorem zaX.i_any (p : S36 → Bool) : ∀ (l : List S36) (j : Nat), (∀ x ∈ l, zdJ.f x.f0.f0 x.f0.f1 x.f0.f2 x.f1.f0 x.f1.f1 x.f1.f2 = some (p x)) → ∃ q : Int, zaX.i j l = some q ∧ (0 ≤ q ↔ l.any p = true)
 | [], j, _ => ⟨-1, rfl, by simp⟩
 | x :: xs, j, hp => by
  simp only [zaX.i, hp x List.mem_cons_self, Option.bind_some]
  cases h : p x with
  | true => exact ⟨j, by simp, by simp [h]⟩
  | false =>
   obtain ⟨q, hq, hq2⟩ := zaX.i_any p xs (j + 1) (fun y hy => hp y (List.mem_cons_of_mem _ hy))
   exact ⟨q, by simpa using hq, by simpa [h] using hq2⟩
theorem zaX.eq_any (p : S36 → Bool) (l : List S36) (hp : ∀ x ∈ l, zdJ.f x.f0.f0 x.f0.f1 x.f0.f2 x.f1.f0 x.f1.f1 x.f1.f2 = some (p x)) : zaX.f l = some (l.any p) := by
 obtain ⟨q, hq, hq2⟩ := zaX.i_any p l 0 hp
 unfold zaX.f
 rw [hq, Option.bind_some]
 by_cases h : 0 ≤ q
 ·rw [decide_eq_true h, hq2.1 h]
 ·rw [decide_eq_false h, Bool.eq_false_iff.2 (fun e => h (hq2.2 e))]

def zcW.f (l0 : List (S36)) : Option (Bool) := (zaX.f l0).bind fun t323 => (some (!t323))
set_option maxHeartbeats 8000000 in
set_option maxRecDepth 100000 in
theorem zcW.calls (A0 : Option Addr) (c0 : Nat) (l0 : List (S36)) (r : Bool) (w : World) (hr0 : Kd.C k36 w A0 l0.length l0) (hc0 : l0.length ≤ c0) (h : zcW.f l0 = some r) :
  Calls Tryd.prog 56 #[.slice A0 l0.length c0] w fun e w' => e = .returned (.bool r) ∧ Below w.heap.size w w' := by
 have HR0 := zaJ hr0
 have HC0 := zaJ hc0
 clear hr0 hc0
 have HB := zaJ (Below.refl w.heap.size w)
 have H : ((zaX.f l0).bind fun t323 => (some (!t323))) = some r := h
 clear h
 replace H := Option.bind_eq_some_iff.mp H
 obtain ⟨t323, A20, H⟩ := H
 replace H : (some (!t323)) = some r := H
 have A2 := zaJ A20
 clear A20
 obtain rfl := Option.some.inj H
 go_enter Tryd.func56, Tryd.ntmps56
 go_wp2_with (first | ((with_reducible refine zaK (f := 104) rfl ?_); refine zbQ (some 4) rfl rfl Tryd.func104 (by kernel_rfl) rfl #[.slice A0 l0.length c0, .func (.func 105) #[] #[]] rfl (by (try simp only [List.map_toArray, List.map_cons, List.map_nil]); first | done | rfl | (simp only [List.length_drop, List.length_take]; rfl)) ?_; (with_reducible refine (zaX.calls _ _ l0  t323 _ ?side1 ?side2 A2.out).mono ?_); (case side1 => repeat (first | exact HR0.out | (with_reducible refine Kd.C_alloc ?_ _) | (with_reducible refine Kd.C_drewN ?_ _) | (with_reducible refine Kd.C_drew ?_))); (case side2 => exact HC0.out); rintro e w3 ⟨rfl, hb⟩; refine ⟨_, rfl, ?_⟩; have n0_ := (ns_ hb); clear HB; have HB := n0_; clear n0_; (try clear hb); (try clear hb2)))
 go_ret
 exact ⟨by first | rfl | (simp [zaI, zaH] <;> rfl) | (simp [*, zaI, zaH] <;> rfl), bb_⟩

def zcS.f (a0_0 : Int) (a0_1 : Int) (a0_2 : Int) : Option (Int × Int × Int) := some (wrap64 (-a0_0), wrap64 (-a0_1), a0_2)
set_option maxHeartbeats 8000000 in
set_option maxRecDepth 100000 in
theorem zcS.calls (a0_0 : Int) (a0_1 : Int) (a0_2 : Int) (r1 : Int) (r2 : Int) (r3 : Int) (w : World) (h : zcS.f a0_0 a0_1 a0_2 = some (r1, r2, r3)) :
  Calls Tryd.prog 167 #[.agg #[.int .i64 a0_0, .int .i64 a0_1, .int .i64 a0_2]] w fun e w' => e = .returned (.agg #[.int .i64 r1, .int .i64 r2, .int .i64 r3]) ∧ Below w.heap.size w w' := by
 have hu34 := Tryd.underlying34
 have HB := zaJ (Below.refl w.heap.size w)
 have H : (some (wrap64 (-a0_0), wrap64 (-a0_1), a0_2)) = some (r1, r2, r3) := h
 clear h
 simp only [Option.some.injEq, Prod.mk.injEq] at H
 obtain ⟨rfl, rfl, rfl⟩ := H
 go_enter Tryd.func167, Tryd.ntmps167
 go_wp2_with (first | ((with_reducible refine zaQ (N := 1) rfl ?_); refine bx_ 1 #[.int .i64 a0_0, .int .i64 a0_1, .int .i64 a0_2] 34 ?_; intro gb324 hg w2 hbox hb; have n0_ := (ns_ hb); have n1_ := zaJ (hbox); have n2_ := (ng_ hg); have n3_ := n2_; clear HB; have HB := n0_; have BK324 := n1_; have GW324 := n2_; have GE324 := n3_; clear n0_ n1_ n2_ n3_; clear hb hbox hg) | ((with_reducible refine zaQ (N := 2) rfl ?_); refine bx_ 2 #[.int .i64 0, .int .i64 0, .int .i64 0] 34 ?_; intro gb325 hg w3 hbox hb; have n0_ := zaJ (zaG (g := gb324) (o := .cells #[.int .i64 a0_0, .int .i64 a0_1, .int .i64 a0_2] 34 (0, 0)) bk_ hb); have n1_ := (ns_ hb); have n2_ := zaJ (hbox); have n3_ := (ng_ hg); have n4_ := n3_; have n5_ := zaJ ((by rw [hg]; exact Nat.ne_of_lt (zbC (g := gb324) (o := .cells #[.int .i64 a0_0, .int .i64 a0_1, .int .i64 a0_2] 34 (0, 0)) bk_) : gb324 ≠ gb325)); have n6_ := zaJ ((by rw [hg]; exact Nat.ne_of_gt (zbC (g := gb324) (o := .cells #[.int .i64 a0_0, .int .i64 a0_1, .int .i64 a0_2] 34 (0, 0)) bk_) : gb325 ≠ gb324)); clear BK324; clear HB; have BK324 := n0_; have HB := n1_; have BK325 := n2_; have GW325 := n3_; have GE325 := n4_; have NB324_325 := n5_; have NB325_324 := n6_; clear n0_ n1_ n2_ n3_ n4_ n5_ n6_; clear hb hbox hg; have hnb4 := NB324_325.out; have hnc4 := NB325_324.out; obtain ⟨hcz5_0, hcz5_1, hcz5_2⟩ := zeI BK324.out; obtain ⟨hfz5_0, hfz5_1, hfz5_2⟩ := zeH BK324.out; obtain ⟨hcz6_0, hcz6_1, hcz6_2⟩ := zeI BK325.out; obtain ⟨hfz6_0, hfz6_1, hfz6_2⟩ := zeH BK325.out))
 refine bodyPost_ret (results_cell_row rfl _ _ gb325 34 #[.int .i64 (wrap64 (-a0_0)), .int .i64 (wrap64 (-a0_1)), .int .i64 a0_2] (0, 0) _ rfl (by (with_reducible repeat (first | apply zaD | apply zaE | apply zaC)); refine zaL (cs := #[.int .i64 (wrap64 (-a0_0)), .int .i64 (wrap64 (-a0_1)), .int .i64 0]) ?_ 2 _ rfl; (with_reducible repeat (first | apply zaD | apply zaE | apply zaC)); refine zaL (cs := #[.int .i64 (wrap64 (-a0_0)), .int .i64 0, .int .i64 0]) ?_ 1 _ rfl; (with_reducible repeat (first | apply zaD | apply zaE | apply zaC)); refine zaL (cs := #[.int .i64 0, .int .i64 0, .int .i64 0]) ?_ 0 _ rfl; (with_reducible repeat (first | apply zaD | apply zaE | apply zaC)); exact BK325.out) Tryd.underlying34 rfl (by kernel_rfl)) rfl ?_
 exact ⟨by first | rfl | (simp [zaI, zaH] <;> rfl) | (simp [*, zaI, zaH] <;> rfl), bb_⟩

mutual
def zaM.l0 : Nat → Int → Int → Int → Option (Int × Int × Int)
 | 0, _, _, _ => none
 | k + 1, x327000, x327001, x327002 => if x327002 > 0 then (if (Go.bits .and .i64 x327000 1) = 0 then (zaM.j1 k ((Go.bits .and .i64 x327001 1) == 0) x327000 x327001 x327002) else (zaM.j1 k false x327000 x327001 x327002)) else (zaM.j1 k false x327000 x327001 x327002)
def zaM.j1 : Nat → Bool → Int → Int → Int → Option (Int × Int × Int)
 | 0, _, _, _, _ => none
 | k + 1, x17, x327000, x327001, x327002 => if x17 = true then (if (wrap64 (Int.tdiv x327000 2)) = 0 then (if (wrap64 (Int.tdiv x327001 2)) = 0 then (zaM.l0 k (wrap64 (Int.tdiv x327000 2)) (wrap64 (Int.tdiv x327001 2)) 0) else (zaM.l0 k (wrap64 (Int.tdiv x327000 2)) (wrap64 (Int.tdiv x327001 2)) (wrap64 (x327002 - 1)))) else (zaM.l0 k (wrap64 (Int.tdiv x327000 2)) (wrap64 (Int.tdiv x327001 2)) (wrap64 (x327002 - 1)))) else (some (x327000, x327001, x327002))
end
def zaM.f (k : Nat) (a0_0 : Int) (a0_1 : Int) (a0_2 : Int) : Option (Int × Int × Int) := zaM.l0 k a0_0 a0_1 a0_2
theorem zaM.mono_l : ∀ k, (∀ y0 y1 y2, LeO (zaM.l0 k y0 y1 y2) (zaM.l0 (k + 1) y0 y1 y2)) ∧ (∀ y0 y1 y2 y3, LeO (zaM.j1 k y0 y1 y2 y3) (zaM.j1 (k + 1) y0 y1 y2 y3))
 | 0 => ⟨fun _ _ _ r h => by simp [zaM.l0] at h, fun _ _ _ _ r h => by simp [zaM.j1] at h⟩
 | k + 1 => by
  obtain ⟨ih0, ih1⟩ := zaM.mono_l k
  refine ⟨?_, ?_⟩
  ·intro y0 y1 y2
   unfold zaM.l0
   repeat' first
   | (with_reducible exact ih0 _ _ _)
   | (with_reducible exact ih1 _ _ _ _)
   | (with_reducible exact LeO.refl _)
   | (with_reducible exact LeO.none _)
   | (with_reducible refine LeO.ite ?_ ?_)
   | (with_reducible refine LeO.bind ?_ (fun _ => ?_))
   | exact ih0 _ _ _
   | exact ih1 _ _ _ _
   | exact LeO.none _
   | refine LeO.ite ?_ ?_
   | refine LeO.bind ?_ (fun _ => ?_)
  ·intro y0 y1 y2 y3
   unfold zaM.j1
   repeat' first
   | (with_reducible exact ih0 _ _ _)
   | (with_reducible exact ih1 _ _ _ _)
   | (with_reducible exact LeO.refl _)
   | (with_reducible exact LeO.none _)
   | (with_reducible refine LeO.ite ?_ ?_)
   | (with_reducible refine LeO.bind ?_ (fun _ => ?_))
   | exact ih0 _ _ _
   | exact ih1 _ _ _ _
   | exact LeO.none _
   | refine LeO.ite ?_ ?_
   | refine LeO.bind ?_ (fun _ => ?_)
theorem zaM.mono : ∀ a0 a1 a2 k, LeO (zaM.f k a0 a1 a2) (zaM.f (k + 1) a0 a1 a2) := by
 intro a0 a1 a2 k
 obtain ⟨ih0, ih1⟩ := zaM.mono_l k
 unfold zaM.f
 repeat' first
   | (with_reducible exact ih0 _ _ _)
   | (with_reducible exact ih1 _ _ _ _)
   | (with_reducible exact LeO.refl _)
   | (with_reducible exact LeO.none _)
   | (with_reducible refine LeO.ite ?_ ?_)
   | (with_reducible refine LeO.bind ?_ (fun _ => ?_))
   | exact ih0 _ _ _
   | exact ih1 _ _ _ _
   | exact LeO.none _
   | refine LeO.ite ?_ ?_
   | refine LeO.bind ?_ (fun _ => ?_)
set_option maxHeartbeats 8000000 in
set_option maxRecDepth 100000 in
theorem zaM.calls (k : Nat) (a0_0 : Int) (a0_1 : Int) (a0_2 : Int) (r1 : Int) (r2 : Int) (r3 : Int) (w : World) (h : zaM.f k a0_0 a0_1 a0_2 = some (r1, r2, r3)) :
  Calls Tryd.prog 191 #[.agg #[.int .i64 a0_0, .int .i64 a0_1, .int .i64 a0_2]] w fun e w' => e = .returned (.agg #[.int .i64 r1, .int .i64 r2, .int .i64 r3]) ∧ Below w.heap.size w w' := by
 have hu34 := Tryd.underlying34
 have HB := zaJ (Below.refl w.heap.size w)
 have H : (zaM.l0 k a0_0 a0_1 a0_2) = some (r1, r2, r3) := h
 clear h
 have H' := zaJ H
 clear H
 go_enter Tryd.func191, Tryd.ntmps191
 go_wp2_with (first | ((with_reducible refine zaQ (N := 1) rfl ?_); refine bx_ 1 #[.int .i64 a0_0, .int .i64 a0_1, .int .i64 a0_2] 34 ?_; intro gb326 hg w2 hbox hb; have n0_ := (ns_ hb); have n1_ := zaJ (hbox); have n2_ := (ng_ hg); have n3_ := n2_; clear HB; have HB := n0_; have BK326 := n1_; have GW326 := n2_; have GE326 := n3_; clear n0_ n1_ n2_ n3_; clear hb hbox hg) | ((with_reducible refine zaQ (N := 2) rfl ?_); refine bx_ 2 #[.int .i64 0, .int .i64 0, .int .i64 0] 34 ?_; intro gb327 hg w3 hbox hb; have n0_ := zaJ (zaG (g := gb326) (o := .cells #[.int .i64 a0_0, .int .i64 a0_1, .int .i64 a0_2] 34 (0, 0)) bk_ hb); have n1_ := (ns_ hb); have n2_ := zaJ (hbox); have n3_ := (ng_ hg); have n4_ := n3_; have n5_ := zaJ ((by rw [hg]; exact Nat.ne_of_lt (zbC (g := gb326) (o := .cells #[.int .i64 a0_0, .int .i64 a0_1, .int .i64 a0_2] 34 (0, 0)) bk_) : gb326 ≠ gb327)); have n6_ := zaJ ((by rw [hg]; exact Nat.ne_of_gt (zbC (g := gb326) (o := .cells #[.int .i64 a0_0, .int .i64 a0_1, .int .i64 a0_2] 34 (0, 0)) bk_) : gb327 ≠ gb326)); clear BK326; clear HB; have BK326 := n0_; have HB := n1_; have BK327 := n2_; have GW327 := n3_; have GE327 := n4_; have NB326_327 := n5_; have NB327_326 := n6_; clear n0_ n1_ n2_ n3_ n4_ n5_ n6_; clear hb hbox hg))
 (try go_simp)
 go_loopg [] k (fun kq w' => ∃ (x327000_1 : Int) (x327001_1 : Int) (x327002_1 : Int), Aside0 (zaM.l0 kq x327000_1 x327001_1 x327002_1 = some (r1, r2, r3)) ∧ Aside0 (kq ≤ k) ∧ Aside0 (w'.heap[gb326]? = some (.cells #[.int .i64 x327000_1, .int .i64 x327001_1, .int .i64 x327002_1] 34 (0, 0))) ∧ Aside0 (w'.heap[gb327]? = some (.cells #[.int .i64 0, .int .i64 0, .int .i64 0] 34 (0, 0))) ∧ Aside0 (Below w.heap.size w w'))
 case atStart => exact ⟨(a0_0), (a0_1), (a0_2), H', ⟨Nat.le_refl _⟩, ⟨bk_⟩, ⟨bk_⟩, ⟨bb_⟩⟩
 case round =>
  clear H'
  try clear c1
  try clear p2
  obtain ⟨x327000_1, x327001_1, x327002_1, HA, HK1, BK326, BK327, HB⟩ := hrel
  cases gk with
  | zero => exact absurd HA.out (by simp [zaM.l0])
  | succ k1 =>
   have H := HA.out
   clear HA
   simp only [zaM.l0] at H
   have HC4 := zaJ H
   clear H
   go_upto_region 1 with (fail)
   go_cut [17] (fun v17 wc => ∃ (kq : Nat) (x17_3 : Bool), v17 = .bool x17_3 ∧ Aside0 (zaM.j1 kq x17_3 x327000_1 x327001_1 x327002_1 = some (r1, r2, r3)) ∧ Aside0 (kq ≤ k1) ∧ Aside0 (wc.heap[gb326]? = some (.cells #[.int .i64 x327000_1, .int .i64 x327001_1, .int .i64 x327002_1] 34 (0, 0))) ∧ Aside0 (wc.heap[gb327]? = some (.cells #[.int .i64 0, .int .i64 0, .int .i64 0] 34 (0, 0))) ∧ Aside0 (Below w.heap.size w wc))
   case first =>
    have H := HC4.out
    clear HC4
    by_cases c5 : x327002_1 > 0
    ·rw [if_pos c5] at H
     have c5b0 : decide (0 < x327002_1) = true := decide_eq_true c5
     clear c5
     (first | rw [c5b0] | (simp only [zbW, zbY]; rw [c5b0]) | skip)
     by_cases c6 : (Go.bits .and .i64 x327000_1 1) = 0
     ·rw [if_pos c6] at H
      have c6b0 : ((Go.bits .and .i64 x327000_1 1) == 0) = true := beq_iff_eq.mpr c6
      have c6b1 : ((Go.bits .and .i64 x327000_1 1) != 0) = false := bne_eq_false_iff_eq.mpr c6
      clear c6
      have H' := zaJ H
      clear H
      have hnb7 := NB326_327.out
      have hnc7 := NB327_326.out
      obtain ⟨hcz8_0, hcz8_1, hcz8_2⟩ := zeI BK326.out
      obtain ⟨hfz8_0, hfz8_1, hfz8_2⟩ := zeH BK326.out
      go_wp2
      go_meet
      case rel => exact ⟨_, (((Go.bits .and .i64 x327001_1 1) == 0)), (by first | rfl | (simp; done) | (simp [*]; done)), H', ⟨by have := HK1.out; first | omega | exact Nat.le_refl _⟩, ⟨bk_⟩, ⟨bk_⟩, ⟨bb_⟩⟩
     ·rw [if_neg c6] at H
      have c6b0 : ((Go.bits .and .i64 x327000_1 1) == 0) = false := beq_eq_false_iff_ne.mpr c6
      have c6b1 : ((Go.bits .and .i64 x327000_1 1) != 0) = true := bne_iff_ne.mpr c6
      have H' := zaJ H
      clear H
      have hnb9 := NB326_327.out
      have hnc9 := NB327_326.out
      obtain ⟨hcz10_0, hcz10_1, hcz10_2⟩ := zeI BK326.out
      obtain ⟨hfz10_0, hfz10_1, hfz10_2⟩ := zeH BK326.out
      go_wp2
      go_meet
      case rel => exact ⟨_, (false), (by first | rfl | (simp; done) | (simp [*]; done)), H', ⟨by have := HK1.out; first | omega | exact Nat.le_refl _⟩, ⟨bk_⟩, ⟨bk_⟩, ⟨bb_⟩⟩
    ·rw [if_neg c5] at H
     have c5b0 : decide (0 < x327002_1) = false := decide_eq_false c5
     clear c5
     (first | rw [c5b0] | (simp only [zbW, zbY]; rw [c5b0]) | skip)
     have H' := zaJ H
     clear H
     have hnb11 := NB326_327.out
     have hnc11 := NB327_326.out
     obtain ⟨hcz12_0, hcz12_1, hcz12_2⟩ := zeI BK326.out
     obtain ⟨hfz12_0, hfz12_1, hfz12_2⟩ := zeH BK326.out
     go_wp2
     go_meet
     case rel => exact ⟨_, (false), (by first | rfl | (simp; done) | (simp [*]; done)), H', ⟨by have := HK1.out; first | omega | exact Nat.le_refl _⟩, ⟨bk_⟩, ⟨bk_⟩, ⟨bb_⟩⟩
   case rest =>
    clear HC4
    try clear c1
    try clear p2
    try clear c5
    try clear c5b0
    try clear c6
    try clear c6b0
    try clear c6b1
    try clear c7
    try clear c9
    try clear c11
    try clear hcz10_0
    try clear hcz10_1
    try clear hcz10_2
    try clear hcz12_0
    try clear hcz12_1
    try clear hcz12_2
    try clear hcz8_0
    try clear hcz8_1
    try clear hcz8_2
    try clear hfz10_0
    try clear hfz10_1
    try clear hfz10_2
    try clear hfz12_0
    try clear hfz12_1
    try clear hfz12_2
    try clear hfz8_0
    try clear hfz8_1
    try clear hfz8_2
    try clear p2
    obtain ⟨kq, x17_3, rfl, HA, HJ3, BK326, BK327, HB⟩ := hcut
    cases kq with
    | zero => exact absurd HA.out (by simp [zaM.j1])
    | succ kj3 =>
     have H := HA.out
     clear HA
     simp only [zaM.j1] at H
     by_cases c13 : x17_3 = true
     ·subst c13
      have H1 : (if (wrap64 (Int.tdiv x327000_1 2)) = 0 then (if (wrap64 (Int.tdiv x327001_1 2)) = 0 then (zaM.l0 kj3 (wrap64 (Int.tdiv x327000_1 2)) (wrap64 (Int.tdiv x327001_1 2)) 0) else (zaM.l0 kj3 (wrap64 (Int.tdiv x327000_1 2)) (wrap64 (Int.tdiv x327001_1 2)) (wrap64 (x327002_1 - 1)))) else (zaM.l0 kj3 (wrap64 (Int.tdiv x327000_1 2)) (wrap64 (Int.tdiv x327001_1 2)) (wrap64 (x327002_1 - 1)))) = some (r1, r2, r3) := by rw [if_pos rfl] at H; exact H
      clear H
      have H := H1
      clear H1
      by_cases c14 : (wrap64 (Int.tdiv x327000_1 2)) = 0
      ·rw [if_pos c14] at H
       have c14b0 : ((wrap64 (Int.tdiv x327000_1 2)) == 0) = true := beq_iff_eq.mpr c14
       have c14b1 : ((wrap64 (Int.tdiv x327000_1 2)) != 0) = false := bne_eq_false_iff_eq.mpr c14
       clear c14
       by_cases c15 : (wrap64 (Int.tdiv x327001_1 2)) = 0
       ·rw [if_pos c15] at H
        have c15b0 : ((wrap64 (Int.tdiv x327001_1 2)) == 0) = true := beq_iff_eq.mpr c15
        have c15b1 : ((wrap64 (Int.tdiv x327001_1 2)) != 0) = false := bne_eq_false_iff_eq.mpr c15
        clear c15
        have H' := zaJ H
        clear H
        have hnb16 := NB326_327.out
        have hnc16 := NB327_326.out
        obtain ⟨hcz17_0, hcz17_1, hcz17_2⟩ := zeI BK326.out
        obtain ⟨hfz17_0, hfz17_1, hfz17_2⟩ := zeH BK326.out
        go_wp2
        go_roundg kj3
        case measure => have := HK1.out; have := HJ3.out; omega
        case rel => exact ⟨(wrap64 (Int.tdiv x327000_1 2)), (wrap64 (Int.tdiv x327001_1 2)), (0), H', ⟨by have := HK1.out; have := HJ3.out; omega⟩, ⟨by (with_reducible repeat (first | apply zaD | apply zaE | apply zaC)); refine zaL (cs := #[.int .i64 (wrap64 (Int.tdiv x327000_1 2)), .int .i64 (wrap64 (Int.tdiv x327001_1 2)), .int .i64 (wrap64 (x327002_1 - 1))]) ?_ 2 _ rfl; (with_reducible repeat (first | apply zaD | apply zaE | apply zaC)); refine zaL (cs := #[.int .i64 (wrap64 (Int.tdiv x327000_1 2)), .int .i64 (wrap64 (Int.tdiv x327001_1 2)), .int .i64 x327002_1]) ?_ 2 _ rfl; (with_reducible repeat (first | apply zaD | apply zaE | apply zaC)); refine zaL (cs := #[.int .i64 (wrap64 (Int.tdiv x327000_1 2)), .int .i64 x327001_1, .int .i64 x327002_1]) ?_ 1 _ rfl; (with_reducible repeat (first | apply zaD | apply zaE | apply zaC)); refine zaL (cs := #[.int .i64 x327000_1, .int .i64 x327001_1, .int .i64 x327002_1]) ?_ 0 _ rfl; (with_reducible repeat (first | apply zaD | apply zaE | apply zaC)); exact BK326.out⟩, ⟨by (with_reducible repeat (first | apply zaD | apply zaE | apply zaC)); refine zbA ?_ NB327_326.out _; (with_reducible repeat (first | apply zaD | apply zaE | apply zaC)); refine zbA ?_ NB327_326.out _; (with_reducible repeat (first | apply zaD | apply zaE | apply zaC)); refine zbA ?_ NB327_326.out _; (with_reducible repeat (first | apply zaD | apply zaE | apply zaC)); refine zbA ?_ NB327_326.out _; (with_reducible repeat (first | apply zaD | apply zaE | apply zaC)); exact BK327.out⟩, ⟨bb_⟩⟩
       ·rw [if_neg c15] at H
        have c15b0 : ((wrap64 (Int.tdiv x327001_1 2)) == 0) = false := beq_eq_false_iff_ne.mpr c15
        have c15b1 : ((wrap64 (Int.tdiv x327001_1 2)) != 0) = true := bne_iff_ne.mpr c15
        have H' := zaJ H
        clear H
        have hnb18 := NB326_327.out
        have hnc18 := NB327_326.out
        obtain ⟨hcz19_0, hcz19_1, hcz19_2⟩ := zeI BK326.out
        obtain ⟨hfz19_0, hfz19_1, hfz19_2⟩ := zeH BK326.out
        go_wp2
        go_roundg kj3
        case measure => have := HK1.out; have := HJ3.out; omega
        case rel => exact ⟨(wrap64 (Int.tdiv x327000_1 2)), (wrap64 (Int.tdiv x327001_1 2)), (wrap64 (x327002_1 - 1)), H', ⟨by have := HK1.out; have := HJ3.out; omega⟩, ⟨by (with_reducible repeat (first | apply zaD | apply zaE | apply zaC)); refine zaL (cs := #[.int .i64 (wrap64 (Int.tdiv x327000_1 2)), .int .i64 (wrap64 (Int.tdiv x327001_1 2)), .int .i64 x327002_1]) ?_ 2 _ rfl; (with_reducible repeat (first | apply zaD | apply zaE | apply zaC)); refine zaL (cs := #[.int .i64 (wrap64 (Int.tdiv x327000_1 2)), .int .i64 x327001_1, .int .i64 x327002_1]) ?_ 1 _ rfl; (with_reducible repeat (first | apply zaD | apply zaE | apply zaC)); refine zaL (cs := #[.int .i64 x327000_1, .int .i64 x327001_1, .int .i64 x327002_1]) ?_ 0 _ rfl; (with_reducible repeat (first | apply zaD | apply zaE | apply zaC)); exact BK326.out⟩, ⟨by (with_reducible repeat (first | apply zaD | apply zaE | apply zaC)); refine zbA ?_ NB327_326.out _; (with_reducible repeat (first | apply zaD | apply zaE | apply zaC)); refine zbA ?_ NB327_326.out _; (with_reducible repeat (first | apply zaD | apply zaE | apply zaC)); refine zbA ?_ NB327_326.out _; (with_reducible repeat (first | apply zaD | apply zaE | apply zaC)); exact BK327.out⟩, ⟨bb_⟩⟩
      ·rw [if_neg c14] at H
       have c14b0 : ((wrap64 (Int.tdiv x327000_1 2)) == 0) = false := beq_eq_false_iff_ne.mpr c14
       have c14b1 : ((wrap64 (Int.tdiv x327000_1 2)) != 0) = true := bne_iff_ne.mpr c14
       have H' := zaJ H
       clear H
       have hnb20 := NB326_327.out
       have hnc20 := NB327_326.out
       obtain ⟨hcz21_0, hcz21_1, hcz21_2⟩ := zeI BK326.out
       obtain ⟨hfz21_0, hfz21_1, hfz21_2⟩ := zeH BK326.out
       go_wp2
       go_roundg kj3
       case measure => have := HK1.out; have := HJ3.out; omega
       case rel => exact ⟨(wrap64 (Int.tdiv x327000_1 2)), (wrap64 (Int.tdiv x327001_1 2)), (wrap64 (x327002_1 - 1)), H', ⟨by have := HK1.out; have := HJ3.out; omega⟩, ⟨by (with_reducible repeat (first | apply zaD | apply zaE | apply zaC)); refine zaL (cs := #[.int .i64 (wrap64 (Int.tdiv x327000_1 2)), .int .i64 (wrap64 (Int.tdiv x327001_1 2)), .int .i64 x327002_1]) ?_ 2 _ rfl; (with_reducible repeat (first | apply zaD | apply zaE | apply zaC)); refine zaL (cs := #[.int .i64 (wrap64 (Int.tdiv x327000_1 2)), .int .i64 x327001_1, .int .i64 x327002_1]) ?_ 1 _ rfl; (with_reducible repeat (first | apply zaD | apply zaE | apply zaC)); refine zaL (cs := #[.int .i64 x327000_1, .int .i64 x327001_1, .int .i64 x327002_1]) ?_ 0 _ rfl; (with_reducible repeat (first | apply zaD | apply zaE | apply zaC)); exact BK326.out⟩, ⟨by (with_reducible repeat (first | apply zaD | apply zaE | apply zaC)); refine zbA ?_ NB327_326.out _; (with_reducible repeat (first | apply zaD | apply zaE | apply zaC)); refine zbA ?_ NB327_326.out _; (with_reducible repeat (first | apply zaD | apply zaE | apply zaC)); refine zbA ?_ NB327_326.out _; (with_reducible repeat (first | apply zaD | apply zaE | apply zaC)); exact BK327.out⟩, ⟨bb_⟩⟩
     ·replace c13 := Bool.eq_false_iff.mpr c13
      subst c13
      have H1 : (some (x327000_1, x327001_1, x327002_1)) = some (r1, r2, r3) := by rw [if_neg (show ¬ (false = true) by decide)] at H; exact H
      clear H
      have H := H1
      clear H1
      simp only [Option.some.injEq, Prod.mk.injEq] at H
      obtain ⟨rfl, rfl, rfl⟩ := H
      have hnb22 := NB326_327.out
      have hnc22 := NB327_326.out
      obtain ⟨hcz23_0, hcz23_1, hcz23_2⟩ := zeI BK326.out
      obtain ⟨hfz23_0, hfz23_1, hfz23_2⟩ := zeH BK326.out
      obtain ⟨hcz24_0, hcz24_1, hcz24_2⟩ := zeI BK327.out
      obtain ⟨hfz24_0, hfz24_1, hfz24_2⟩ := zeH BK327.out
      go_wp2
      refine bodyPost_ret (results_cell_row rfl _ _ gb327 34 #[.int .i64 x327000_1, .int .i64 x327001_1, .int .i64 x327002_1] (0, 0) _ rfl (by (with_reducible repeat (first | apply zaD | apply zaE | apply zaC)); refine zaL (cs := #[.int .i64 x327000_1, .int .i64 x327001_1, .int .i64 0]) ?_ 2 _ rfl; (with_reducible repeat (first | apply zaD | apply zaE | apply zaC)); refine zaL (cs := #[.int .i64 x327000_1, .int .i64 0, .int .i64 0]) ?_ 1 _ rfl; (with_reducible repeat (first | apply zaD | apply zaE | apply zaC)); refine zaL (cs := #[.int .i64 0, .int .i64 0, .int .i64 0]) ?_ 0 _ rfl; (with_reducible repeat (first | apply zaD | apply zaE | apply zaC)); exact BK327.out) Tryd.underlying34 rfl (by kernel_rfl)) rfl ?_
      exact ⟨by first | rfl | (simp [zaI, zaH] <;> rfl) | (simp [*, zaI, zaH] <;> rfl), bb_⟩

def zbU.f (k : Nat) (a0_0 : Int) (a0_1 : Int) (a0_2 : Int) (a1_0 : Int) (a1_1 : Int) (a1_2 : Int) : Option (Int × Int × Int) := if 0 ≤ (wrap64 ((mx a0_2 a1_2) - a0_2)) then (if 0 ≤ (wrap64 ((mx a0_2 a1_2) - a1_2)) then ((zaM.f k (wrap64 ((shl .i64 a0_0 (wrap64 ((mx a0_2 a1_2) - a0_2))) + (shl .i64 a1_0 (wrap64 ((mx a0_2 a1_2) - a1_2))))) (wrap64 ((shl .i64 a0_1 (wrap64 ((mx a0_2 a1_2) - a0_2))) + (shl .i64 a1_1 (wrap64 ((mx a0_2 a1_2) - a1_2))))) (mx a0_2 a1_2)).bind fun bt331 => (some (bt331.1, bt331.2.1, bt331.2.2))) else (none)) else (none)
theorem zbU.mono : ∀ a0 a1 a2 a3 a4 a5 k, LeO (zbU.f k a0 a1 a2 a3 a4 a5) (zbU.f (k + 1) a0 a1 a2 a3 a4 a5) := by
 intro a0 a1 a2 a3 a4 a5 k
 unfold zbU.f
 repeat' first
   | (with_reducible exact zaM.mono _ _ _ _)
   | (with_reducible exact LeO.refl _)
   | (with_reducible exact LeO.none _)
   | (with_reducible refine LeO.ite ?_ ?_)
   | (with_reducible refine LeO.bind ?_ (fun _ => ?_))
   | exact zaM.mono _ _ _ _
   | exact LeO.none _
   | refine LeO.ite ?_ ?_
   | refine LeO.bind ?_ (fun _ => ?_)
def zbU.T2 : Bool × List (List Nat × List Nat) := (true, [([], []), ([0], [0]), ([], []), ([], []), ([3], [3]), ([2, 4], [2, 4]), ([1, 5], [1, 5]), ([], []), ([7], [7]), ([], []), ([], []), ([10], [10]), ([9, 11], [9, 11]), ([8, 12], [8, 12]), ([6, 13], [6, 13]), ([], []), ([15], [15]), ([], []), ([], []), ([18], [18]), ([17, 19], [17, 19]), ([16, 20], [16, 20]), ([], []), ([22], [22]), ([], []), ([], []), ([25], [25]), ([24, 26], [24, 26]), ([23, 27], [23, 27]), ([21, 28], [21, 28]), ([], []), ([14, 29, 30], [14, 29, 30]), ([31], [31]), ([32, 32, 0, 1, 2, 3, 4, 5, 6, 7, 8, 9, 10, 11, 12, 13, 14, 15, 16, 17, 18, 19, 20, 21, 22, 23, 24, 25, 26, 27, 28, 29, 30, 31, 32], [32])])
def zbU.B2 : List Nat := [0, 1, 0, 0, 8, 28, 63, 0, 128, 0, 0, 1024, 3584, 8064, 16383, 0, 32768, 0, 0, 262144, 917504, 2064384, 0, 4194304, 0, 0, 33554432, 117440512, 264241152, 536838144, 0, 2147483647, 4294967295, 8589934591]
theorem zbU.tab2 : rtab .any (opsOf Tryd.f169 2) = zbU.T2 := by kernel_rfl
theorem zbU.bits2 : zdW zbU.T2.2 zbU.B2 = true := by kernel_rfl
set_option maxHeartbeats 8000000 in
set_option maxRecDepth 100000 in
theorem zbU.calls (k : Nat) (a0_0 : Int) (a0_1 : Int) (a0_2 : Int) (a1_0 : Int) (a1_1 : Int) (a1_2 : Int) (r1 : Int) (r2 : Int) (r3 : Int) (w : World) (h : zbU.f k a0_0 a0_1 a0_2 a1_0 a1_1 a1_2 = some (r1, r2, r3)) :
  Calls Tryd.prog 169 #[.agg #[.int .i64 a0_0, .int .i64 a0_1, .int .i64 a0_2], .agg #[.int .i64 a1_0, .int .i64 a1_1, .int .i64 a1_2]] w fun e w' => e = .returned (.agg #[.int .i64 r1, .int .i64 r2, .int .i64 r3]) ∧ Below w.heap.size w w' := by
 have hu34 := Tryd.underlying34
 have HB := zaJ (Below.refl w.heap.size w)
 have H : (if 0 ≤ (wrap64 ((mx a0_2 a1_2) - a0_2)) then (if 0 ≤ (wrap64 ((mx a0_2 a1_2) - a1_2)) then ((zaM.f k (wrap64 ((shl .i64 a0_0 (wrap64 ((mx a0_2 a1_2) - a0_2))) + (shl .i64 a1_0 (wrap64 ((mx a0_2 a1_2) - a1_2))))) (wrap64 ((shl .i64 a0_1 (wrap64 ((mx a0_2 a1_2) - a0_2))) + (shl .i64 a1_1 (wrap64 ((mx a0_2 a1_2) - a1_2))))) (mx a0_2 a1_2)).bind fun bt331 => (some (bt331.1, bt331.2.1, bt331.2.2))) else (none)) else (none)) = some (r1, r2, r3) := h
 clear h
 obtain ⟨ji3, hji3⟩ : ∃ j_ : Int, (mx a0_2 a1_2) = j_ := ⟨_, rfl⟩
 replace H : (if 0 ≤ (wrap64 ((ji3) - a0_2)) then (if 0 ≤ (wrap64 ((ji3) - a1_2)) then ((zaM.f k (wrap64 ((shl .i64 a0_0 (wrap64 ((ji3) - a0_2))) + (shl .i64 a1_0 (wrap64 ((ji3) - a1_2))))) (wrap64 ((shl .i64 a0_1 (wrap64 ((ji3) - a0_2))) + (shl .i64 a1_1 (wrap64 ((ji3) - a1_2))))) (ji3)).bind fun bt331 => (some (bt331.1, bt331.2.1, bt331.2.2))) else (none)) else (none)) = some (r1, r2, r3) := by first | (rw [hji3] at H; exact H) | (simp only [hji3] at H ⊢; exact H)
 have hji3_ : (if a0_2 < a1_2 then a1_2 else a0_2) = ji3 := hji3
 obtain ⟨ji4, hji4⟩ : ∃ j_ : Int, (wrap64 ((ji3) - a0_2)) = j_ := ⟨_, rfl⟩
 replace H : (if 0 ≤ (ji4) then (if 0 ≤ (wrap64 ((ji3) - a1_2)) then ((zaM.f k (wrap64 ((shl .i64 a0_0 (ji4)) + (shl .i64 a1_0 (wrap64 ((ji3) - a1_2))))) (wrap64 ((shl .i64 a0_1 (ji4)) + (shl .i64 a1_1 (wrap64 ((ji3) - a1_2))))) (ji3)).bind fun bt331 => (some (bt331.1, bt331.2.1, bt331.2.2))) else (none)) else (none)) = some (r1, r2, r3) := by first | (rw [hji4] at H; exact H) | (simp only [hji4] at H ⊢; exact H)
 have hji4w : (IntKind.i64.wrap ((ji3) - a0_2)) = ji4 := (zbW _).trans hji4
 by_cases c5 : 0 ≤ (ji4)
 ·rw [if_pos c5] at H
  have c5b0 := eq_true c5
  have c5b1 : decide (0 ≤ (ji4)) = true := decide_eq_true c5
  clear c5
  obtain ⟨ji6, hji6⟩ : ∃ j_ : Int, (shl .i64 a0_0 (ji4)) = j_ := ⟨_, rfl⟩
  replace H : (if 0 ≤ (wrap64 ((ji3) - a1_2)) then ((zaM.f k (wrap64 ((ji6) + (shl .i64 a1_0 (wrap64 ((ji3) - a1_2))))) (wrap64 ((shl .i64 a0_1 (ji4)) + (shl .i64 a1_1 (wrap64 ((ji3) - a1_2))))) (ji3)).bind fun bt331 => (some (bt331.1, bt331.2.1, bt331.2.2))) else (none)) = some (r1, r2, r3) := by first | (rw [hji6] at H; exact H) | (simp only [hji6] at H ⊢; exact H)
  have hji6_ : (IntKind.i64.wrap (a0_0 * 2 ^ min (ji4).toNat 64)) = ji6 := hji6
  have hji6z : (ji4) ≤ 64 → (IntKind.i64.wrap (a0_0 * 2 ^ (ji4).toNat)) = ji6 := shl_small hji6
  have hji6y : (wrap64 (a0_0 * 2 ^ min (ji4).toNat 64)) = ji6 := (zbW _).symm.trans hji6_
  have hji6x : (ji4) ≤ 64 → (wrap64 (a0_0 * 2 ^ (ji4).toNat)) = ji6 := fun h_ => (zbW _).symm.trans (hji6z h_)
  obtain ⟨ji7, hji7⟩ : ∃ j_ : Int, (wrap64 ((ji3) - a1_2)) = j_ := ⟨_, rfl⟩
  replace H : (if 0 ≤ (ji7) then ((zaM.f k (wrap64 ((ji6) + (shl .i64 a1_0 (ji7)))) (wrap64 ((shl .i64 a0_1 (ji4)) + (shl .i64 a1_1 (ji7)))) (ji3)).bind fun bt331 => (some (bt331.1, bt331.2.1, bt331.2.2))) else (none)) = some (r1, r2, r3) := by first | (rw [hji7] at H; exact H) | (simp only [hji7] at H ⊢; exact H)
  have hji7w : (IntKind.i64.wrap ((ji3) - a1_2)) = ji7 := (zbW _).trans hji7
  by_cases c8 : 0 ≤ (ji7)
  ·rw [if_pos c8] at H
   have c8b0 := eq_true c8
   have c8b1 : decide (0 ≤ (ji7)) = true := decide_eq_true c8
   clear c8
   obtain ⟨ji9, hji9⟩ : ∃ j_ : Int, (shl .i64 a1_0 (ji7)) = j_ := ⟨_, rfl⟩
   replace H : ((zaM.f k (wrap64 ((ji6) + (ji9))) (wrap64 ((shl .i64 a0_1 (ji4)) + (shl .i64 a1_1 (ji7)))) (ji3)).bind fun bt331 => (some (bt331.1, bt331.2.1, bt331.2.2))) = some (r1, r2, r3) := by first | (rw [hji9] at H; exact H) | (simp only [hji9] at H ⊢; exact H)
   have hji9_ : (IntKind.i64.wrap (a1_0 * 2 ^ min (ji7).toNat 64)) = ji9 := hji9
   have hji9z : (ji7) ≤ 64 → (IntKind.i64.wrap (a1_0 * 2 ^ (ji7).toNat)) = ji9 := shl_small hji9
   have hji9y : (wrap64 (a1_0 * 2 ^ min (ji7).toNat 64)) = ji9 := (zbW _).symm.trans hji9_
   have hji9x : (ji7) ≤ 64 → (wrap64 (a1_0 * 2 ^ (ji7).toNat)) = ji9 := fun h_ => (zbW _).symm.trans (hji9z h_)
   have c10b0 := eq_true (of_decide_eq_true (by first | (with_reducible assumption) | assumption) : 0 ≤ (ji4))
   obtain ⟨ji11, hji11⟩ : ∃ j_ : Int, (shl .i64 a0_1 (ji4)) = j_ := ⟨_, rfl⟩
   replace H : ((zaM.f k (wrap64 ((ji6) + (ji9))) (wrap64 ((ji11) + (shl .i64 a1_1 (ji7)))) (ji3)).bind fun bt331 => (some (bt331.1, bt331.2.1, bt331.2.2))) = some (r1, r2, r3) := by first | (rw [hji11] at H; exact H) | (simp only [hji11] at H ⊢; exact H)
   have hji11_ : (IntKind.i64.wrap (a0_1 * 2 ^ min (ji4).toNat 64)) = ji11 := hji11
   have hji11z : (ji4) ≤ 64 → (IntKind.i64.wrap (a0_1 * 2 ^ (ji4).toNat)) = ji11 := shl_small hji11
   have hji11y : (wrap64 (a0_1 * 2 ^ min (ji4).toNat 64)) = ji11 := (zbW _).symm.trans hji11_
   have hji11x : (ji4) ≤ 64 → (wrap64 (a0_1 * 2 ^ (ji4).toNat)) = ji11 := fun h_ => (zbW _).symm.trans (hji11z h_)
   have c12b0 := eq_true (of_decide_eq_true (by first | (with_reducible assumption) | assumption) : 0 ≤ (ji7))
   obtain ⟨ji13, hji13⟩ : ∃ j_ : Int, (shl .i64 a1_1 (ji7)) = j_ := ⟨_, rfl⟩
   replace H : ((zaM.f k (wrap64 ((ji6) + (ji9))) (wrap64 ((ji11) + (ji13))) (ji3)).bind fun bt331 => (some (bt331.1, bt331.2.1, bt331.2.2))) = some (r1, r2, r3) := by first | (rw [hji13] at H; exact H) | (simp only [hji13] at H ⊢; exact H)
   have hji13_ : (IntKind.i64.wrap (a1_1 * 2 ^ min (ji7).toNat 64)) = ji13 := hji13
   have hji13z : (ji7) ≤ 64 → (IntKind.i64.wrap (a1_1 * 2 ^ (ji7).toNat)) = ji13 := shl_small hji13
   have hji13y : (wrap64 (a1_1 * 2 ^ min (ji7).toNat 64)) = ji13 := (zbW _).symm.trans hji13_
   have hji13x : (ji7) ≤ 64 → (wrap64 (a1_1 * 2 ^ (ji7).toNat)) = ji13 := fun h_ => (zbW _).symm.trans (hji13z h_)
   replace H := Option.bind_eq_some_iff.mp H
   obtain ⟨⟨t331, t332, t333⟩, A140, H⟩ := H
   replace H : (some (t331, t332, t333)) = some (r1, r2, r3) := H
   have A14 := zaJ A140
   clear A140
   simp only [Option.some.injEq, Prod.mk.injEq] at H
   obtain ⟨rfl, rfl, rfl⟩ := H
   go_enter Tryd.func169, Tryd.ntmps169
   try go_wp2_with (first | ((with_reducible refine zaQ (N := 2) rfl ?_); refine bx_ 2 #[.int .i64 a0_0, .int .i64 a0_1, .int .i64 a0_2] 34 ?_; intro gb328 hg w15 hbox hb; have n0_ := (ns_ hb); have n1_ := zaJ (hbox); have n2_ := (ng_ hg); have n3_ := n2_; clear HB; have HB := n0_; have BK328 := n1_; have GW328 := n2_; have GE328 := n3_; clear n0_ n1_ n2_ n3_; clear hb hbox hg) | ((with_reducible refine zaQ (N := 3) rfl ?_); refine bx_ 3 #[.int .i64 a1_0, .int .i64 a1_1, .int .i64 a1_2] 34 ?_; intro gb329 hg w16 hbox hb; have n0_ := zaJ (zaG (g := gb328) (o := .cells #[.int .i64 a0_0, .int .i64 a0_1, .int .i64 a0_2] 34 (0, 0)) bk_ hb); have n1_ := (ns_ hb); have n2_ := zaJ (hbox); have n3_ := (ng_ hg); have n4_ := n3_; have n5_ := zaJ ((by rw [hg]; exact Nat.ne_of_lt (zbC (g := gb328) (o := .cells #[.int .i64 a0_0, .int .i64 a0_1, .int .i64 a0_2] 34 (0, 0)) bk_) : gb328 ≠ gb329)); have n6_ := zaJ ((by rw [hg]; exact Nat.ne_of_gt (zbC (g := gb328) (o := .cells #[.int .i64 a0_0, .int .i64 a0_1, .int .i64 a0_2] 34 (0, 0)) bk_) : gb329 ≠ gb328)); clear BK328; clear HB; have BK328 := n0_; have HB := n1_; have BK329 := n2_; have GW329 := n3_; have GE329 := n4_; have NB328_329 := n5_; have NB329_328 := n6_; clear n0_ n1_ n2_ n3_ n4_ n5_ n6_; clear hb hbox hg) | ((with_reducible refine zaQ (N := 4) rfl ?_); refine bx_ 4 #[.int .i64 0, .int .i64 0, .int .i64 0] 34 ?_; intro gb330 hg w17 hbox hb; have n0_ := zaJ (zaG (g := gb328) (o := .cells #[.int .i64 a0_0, .int .i64 a0_1, .int .i64 a0_2] 34 (0, 0)) bk_ hb); have n1_ := zaJ (zaG (g := gb329) (o := .cells #[.int .i64 a1_0, .int .i64 a1_1, .int .i64 a1_2] 34 (0, 0)) bk_ hb); have n2_ := (ns_ hb); have n3_ := zaJ (hbox); have n4_ := (ng_ hg); have n5_ := n4_; have n6_ := zaJ ((by rw [hg]; exact Nat.ne_of_lt (zbC (g := gb328) (o := .cells #[.int .i64 a0_0, .int .i64 a0_1, .int .i64 a0_2] 34 (0, 0)) bk_) : gb328 ≠ gb330)); have n7_ := zaJ ((by rw [hg]; exact Nat.ne_of_gt (zbC (g := gb328) (o := .cells #[.int .i64 a0_0, .int .i64 a0_1, .int .i64 a0_2] 34 (0, 0)) bk_) : gb330 ≠ gb328)); have n8_ := zaJ ((by rw [hg]; exact Nat.ne_of_lt (zbC (g := gb329) (o := .cells #[.int .i64 a1_0, .int .i64 a1_1, .int .i64 a1_2] 34 (0, 0)) bk_) : gb329 ≠ gb330)); have n9_ := zaJ ((by rw [hg]; exact Nat.ne_of_gt (zbC (g := gb329) (o := .cells #[.int .i64 a1_0, .int .i64 a1_1, .int .i64 a1_2] 34 (0, 0)) bk_) : gb330 ≠ gb329)); clear BK328; clear BK329; clear HB; have BK328 := n0_; have BK329 := n1_; have HB := n2_; have BK330 := n3_; have GW330 := n4_; have GE330 := n5_; have NB328_330 := n6_; have NB330_328 := n7_; have NB329_330 := n8_; have NB330_329 := n9_; clear n0_ n1_ n2_ n3_ n4_ n5_ n6_ n7_ n8_ n9_; clear hb hbox hg; have hnb18 := NB328_329.out; have hnc18 := NB329_328.out; have hnb19 := NB328_330.out; have hnc19 := NB330_328.out; obtain ⟨hcz20_0, hcz20_1, hcz20_2⟩ := zeI BK328.out; obtain ⟨hfz20_0, hfz20_1, hfz20_2⟩ := zeH BK328.out; have hnb21 := NB329_330.out; have hnc21 := NB330_329.out; obtain ⟨hcz22_0, hcz22_1, hcz22_2⟩ := zeI BK329.out; obtain ⟨hfz22_0, hfz22_1, hfz22_2⟩ := zeH BK329.out))
   have n0_ := zaJ (zaE BK328.out)
   have n1_ := zaJ (zaE BK329.out)
   have n2_ := zaJ (zaE BK330.out)
   have n3_ := zaJ (zbT HB.out)
   clear BK328
   clear BK329
   clear BK330
   clear HB
   have BK328 := n0_
   have BK329 := n1_
   have BK330 := n2_
   have HB := n3_
   clear n0_ n1_ n2_ n3_
   refine zdL (n := 34) (S := fun w' => w'.cell? ⟨gb328, 0, none⟩ = some (.int .i64 a0_0) ∧ w'.cell? ⟨gb328, 1, none⟩ = some (.int .i64 a0_1) ∧ w'.cell? ⟨gb328, 2, none⟩ = some (.int .i64 a0_2) ∧ w'.cell? ⟨gb329, 0, none⟩ = some (.int .i64 a1_0) ∧ w'.cell? ⟨gb329, 1, none⟩ = some (.int .i64 a1_1) ∧ w'.cell? ⟨gb329, 2, none⟩ = some (.int .i64 a1_2)) (ds := []) #[false, false, false, false, false, false, false, false, false, false, false, false, false, false, false, false, false, false, false, false, false, false, false, false, false, false, false, false, false, false, false, false, false, false] (by kernel_rfl) rfl rfl ⟨(zaB BK328.out 0).trans rfl, (zaB BK328.out 1).trans rfl, (zaB BK328.out 2).trans rfl, (zaB BK329.out 0).trans rfl, (zaB BK329.out 1).trans rfl, (zaB BK329.out 2).trans rfl⟩ (fun hHeld => ?_); refine zcN zbU.tab2 zbU.bits2 (fun HT_ HW_ => ?_)
   generalize w17.drew = w23 at BK328 BK329 BK330 HB hHeld ⊢
   refine pu_ 0 (some 11) (bl_ 34 1) ?_
   refine pu_ 2 (some 13) (bl_ 34 5) ?_
   refine pu_ 3 (some 14) (bl_ 34 13) ?_
   refine pu_ 7 (some 18) (bl_ 34 141) ?_
   refine pu_ 9 (some 20) (bl_ 34 653) ?_
   refine pu_ 10 (some 21) (bl_ 34 1677) ?_
   refine pu_ 15 (some 26) (bl_ 34 34445) ?_
   refine pu_ 17 (some 28) (bl_ 34 165517) ?_
   refine pu_ 18 (some 29) (bl_ 34 427661) ?_
   refine pu_ 22 (some 33) (bl_ 34 4621965) ?_
   refine pu_ 24 (some 35) (bl_ 34 21399181) ?_
   refine pu_ 25 (some 36) (bl_ 34 54953613) ?_
   refine pu_ 30 (some 41) (bl_ 34 1128695437) ?_
   refine tk6_ 1 (some 12) (bl_ 34 1128695439) hHeld ?_
   refine tk6_ 4 (some 15) (bl_ 34 1128695455) hHeld ?_
   refine pu_ 5 (some 16) (bl_ 34 1128695487) ?_
   refine pu_ 6 (some 17) (bl_ 34 1128695551) ?_
   refine tk6_ 8 (some 19) (bl_ 34 1128695807) hHeld ?_
   refine tk6_ 11 (some 22) (bl_ 34 1128697855) hHeld ?_
   refine pu_ 12 (some 23) (bl_ 34 1128701951) ?_
   refine pu_ 13 (some 24) (bl_ 34 1128710143) ?_
   refine pu_ 14 (some 25) (bl_ 34 1128726527) ?_
   refine tk6_ 16 (some 27) (bl_ 34 1128792063) hHeld ?_
   refine tk6_ 19 (some 30) (bl_ 34 1129316351) hHeld ?_
   refine pu_ 20 (some 31) (bl_ 34 1130364927) ?_
   refine pu_ 21 (some 32) (bl_ 34 1132462079) ?_
   refine tk6_ 23 (some 34) (bl_ 34 1140850687) hHeld ?_
   refine tk6_ 26 (some 37) (bl_ 34 1207959551) hHeld ?_
   refine pu_ 27 (some 38) (bl_ 34 1342177279) ?_
   refine pu_ 28 (some 39) (bl_ 34 1610612735) ?_
   refine pu_ 29 (some 40) (bl_ 34 2147483647) ?_
   refine pu_ 31 (some 42) (bl_ 34 4294967295) ?_
   refine zeK (i := 32) (N := some 43) (bl_ 34 8589934591) rfl rfl (zcK HT_.out (by kernel_rfl)) (by decide) (fun K hK => ?_)
   refine zcY Tryd.func191 (by kernel_rfl) rfl #[.agg #[.int .i64 (wrap64 ((ji6) + (ji9))), .int .i64 (wrap64 ((ji11) + (ji13))), .int .i64 ji3]] (by rfl) rfl rfl (by (try simp only [List.map_toArray, List.map_cons, List.map_nil]); first | done | (simp only [hji11, hji13, hji3, hji6, hji9]; rfl) | rfl | (simp only [List.length_drop, List.length_take]; rfl)) ?_
   with_reducible refine (zaM.calls k (wrap64 ((ji6) + (ji9))) (wrap64 ((ji11) + (ji13))) ji3 t331 t332 t333 _ A14.out).mono ?_
   rintro e w24 ⟨rfl, hb⟩
   refine ⟨_, rfl, ?_⟩
   have n0_ := zaJ (zaG (g := gb328) (o := .cells #[.int .i64 a0_0, .int .i64 a0_1, .int .i64 a0_2] 34 (0, 0)) bk_ hb)
   have n1_ := zaJ (zaG (g := gb329) (o := .cells #[.int .i64 a1_0, .int .i64 a1_1, .int .i64 a1_2] 34 (0, 0)) bk_ hb)
   have n2_ := zaJ (zaG (g := gb330) (o := .cells #[.int .i64 0, .int .i64 0, .int .i64 0] 34 (0, 0)) bk_ hb)
   have n3_ := (ns_ hb)
   clear BK328
   clear BK329
   clear BK330
   clear HB
   have BK328 := n0_
   have BK329 := n1_
   have BK330 := n2_
   have HB := n3_
   clear n0_ n1_ n2_ n3_
   (try clear hb)
   (try clear hb2)
   (try clear hk)
   (try clear hi)
   refine hK.out _ _ ⟨(zaB BK328.out 0).trans rfl, (zaB BK328.out 1).trans rfl, (zaB BK328.out 2).trans rfl, (zaB BK329.out 0).trans rfl, (zaB BK329.out 1).trans rfl, (zaB BK329.out 2).trans rfl⟩ (fun hHeld => ?_)
   clear hK K
   refine zcX (a' := ?_) ?_ ?_
   rotate_left
   ·show Act.put _ (some 43) _ = _
    simp only [Act.put, List.setIfInBounds_toArray, List.set_cons_zero, List.set_cons_succ, zbW, zbY]
    rfl
   refine zeK (i := 33) (N := none) (bl_ 34 17179869183) rfl rfl (zcK HT_.out (by kernel_rfl)) (by decide) (fun K hK => ?_)
   have hs25 : w24.cell? ⟨gb330, 0, none⟩ = some (.int .i64 0) := (zaB BK330.out 0).trans rfl
   have hfs25 := zbE BK330.out 0
   have hns25_0 := NB328_330.out
   have hns25_1 := NB329_330.out
   have hms25_0 := NB330_328.out
   have hms25_1 := NB330_329.out
   have hs26 : w24.cell? ⟨gb330, 1, none⟩ = some (.int .i64 0) := (zaB BK330.out 1).trans rfl
   have hfs26 := zbE BK330.out 1
   have hns26_0 := NB328_330.out
   have hns26_1 := NB329_330.out
   have hms26_0 := NB330_328.out
   have hms26_1 := NB330_329.out
   have hs27 : w24.cell? ⟨gb330, 2, none⟩ = some (.int .i64 0) := (zaB BK330.out 2).trans rfl
   have hfs27 := zbE BK330.out 2
   have hns27_0 := NB328_330.out
   have hns27_1 := NB329_330.out
   have hms27_0 := NB330_328.out
   have hms27_1 := NB330_329.out
   refine skip_ (w1 := ?_) (by rfl) rfl ?_ ?_
   rotate_left
   ·go_simp
    rfl
   refine hK.out _ _ ⟨((zaF (p := ⟨gb330, _, none⟩) NB328_330.out _).trans (((zaF (p := ⟨gb330, _, none⟩) NB328_330.out _).trans (((zaF (p := ⟨gb330, _, none⟩) NB328_330.out _).trans (hHeld.1)))))), ((zaF (p := ⟨gb330, _, none⟩) NB328_330.out _).trans (((zaF (p := ⟨gb330, _, none⟩) NB328_330.out _).trans (((zaF (p := ⟨gb330, _, none⟩) NB328_330.out _).trans (hHeld.2.1)))))), ((zaF (p := ⟨gb330, _, none⟩) NB328_330.out _).trans (((zaF (p := ⟨gb330, _, none⟩) NB328_330.out _).trans (((zaF (p := ⟨gb330, _, none⟩) NB328_330.out _).trans (hHeld.2.2.1)))))), ((zaF (p := ⟨gb330, _, none⟩) NB329_330.out _).trans (((zaF (p := ⟨gb330, _, none⟩) NB329_330.out _).trans (((zaF (p := ⟨gb330, _, none⟩) NB329_330.out _).trans (hHeld.2.2.2.1)))))), ((zaF (p := ⟨gb330, _, none⟩) NB329_330.out _).trans (((zaF (p := ⟨gb330, _, none⟩) NB329_330.out _).trans (((zaF (p := ⟨gb330, _, none⟩) NB329_330.out _).trans (hHeld.2.2.2.2.1)))))), ((zaF (p := ⟨gb330, _, none⟩) NB329_330.out _).trans (((zaF (p := ⟨gb330, _, none⟩) NB329_330.out _).trans (((zaF (p := ⟨gb330, _, none⟩) NB329_330.out _).trans (hHeld.2.2.2.2.2))))))⟩ (fun hHeld => ?_)
   clear hK K
   refine zeS (zdD HT_.out (by kernel_rfl)) ?_
   try go_wp2
   refine bodyPost_ret (results_cell_row rfl _ _ gb330 34 #[.int .i64 t331, .int .i64 t332, .int .i64 t333] (0, 0) _ rfl (by (with_reducible repeat (first | apply zaD | apply zaE | apply zaC)); refine zaL (cs := #[.int .i64 t331, .int .i64 t332, .int .i64 0]) ?_ 2 _ rfl; (with_reducible repeat (first | apply zaD | apply zaE | apply zaC)); refine zaL (cs := #[.int .i64 t331, .int .i64 0, .int .i64 0]) ?_ 1 _ rfl; (with_reducible repeat (first | apply zaD | apply zaE | apply zaC)); refine zaL (cs := #[.int .i64 0, .int .i64 0, .int .i64 0]) ?_ 0 _ rfl; (with_reducible repeat (first | apply zaD | apply zaE | apply zaC)); exact BK330.out) Tryd.underlying34 rfl (by kernel_rfl)) rfl ?_
   exact ⟨by first | rfl | (simp [zaI, zaH] <;> rfl) | (simp only [← hji3, ← hji4, ← hji6, ← hji7, ← hji9, ← hji11, ← hji13]; first | rfl | (simp [zaI, zaH] <;> rfl)) | (simp [*, zaI, zaH] <;> rfl), bb_⟩
  ·rw [if_neg c8] at H
   exact absurd H (by simp)
 ·rw [if_neg c5] at H
  exact absurd H (by simp)

end Go.Proofs.YtmajpmofeddknaaDoor.PFnExactInPolygon
