-- Printed for this claim by this session's program pp.py, which drives the kit's print with additions. Not trusted: Lean checks it.
import Derived.Test.YtehghobmmpihfaaGreatDoorV1PFnExactReadPolygonx3
namespace Go.Proofs.YtehghobmmpihfaaGreatDoor.PFnExactReadPolygon
open Go.RowKit Go.Proofs.YtehghobmmpihfaaGreatDoorW.PrintWords Go.Proofs.YtehghobmmpihfaaGreatDoorW.PrintLast Go.Proofs.YtehghobmmpihfaaGreatDoorW.PrintMore
attribute [local go_sem] zbB ziB zrC zhD znE zuB znH zkT   -- for this text's walks alone
set_option linter.unusedVariables false
set_option maxHeartbeats 8000000
set_option maxRecDepth 100000
set_option linter.unusedSimpArgs false

def zzR.f (a0_0 : Int) (a0_1 : Int) (a0_2 : Int) (a0_3 : Int) (a0_4 : Int) (a0_5 : Int) : Option (Bool) := (zeG.f a0_0 a0_1 a0_2).bind fun t172 => (if t172 = true then ((zeG.f a0_3 a0_4 a0_5).bind fun t173 => (some t173)) else (some false))
theorem zzR.calls (a0_0 : Int) (a0_1 : Int) (a0_2 : Int) (a0_3 : Int) (a0_4 : Int) (a0_5 : Int) (r : Bool) (w : World) (h : zzR.f a0_0 a0_1 a0_2 a0_3 a0_4 a0_5 = some r) :
  Calls Tryz.prog 17 #[.agg #[.int .i64 a0_0, .int .i64 a0_1, .int .i64 a0_2, .int .i64 a0_3, .int .i64 a0_4, .int .i64 a0_5]] w fun e w' => e = .returned (.bool r) ∧ Below w.heap.size w w' := by
 have hu33 := Tryz.underlying33; have hu31 := Tryz.underlying31; have HB := zpS (Below.refl w.heap.size w); have H := h; unfold zzR.f at H; clear h; replace H := be_ H; obtain ⟨t172, A2, H⟩ := H; replace H := ib_ H
 rcases H with ⟨rfl, H⟩ | ⟨rfl, H⟩
 ·replace H := be_ H
  obtain ⟨t173, A4, H⟩ := H; obtain rfl := Option.some.inj H; go_enter Tryz.func17, Tryz.ntmps17
  go_wp2_with (first | ((with_reducible refine zpZ (N := 1) rfl ?_); refine bx_ 1 #[.int .i64 a0_0, .int .i64 a0_1, .int .i64 a0_2, .int .i64 a0_3, .int .i64 a0_4, .int .i64 a0_5] 33 ?_; intro gb171 hg w5 hbox hb; have BK171 := zpS (hbox); have GW171 := ng_ hg; replace HB := ns_ hb; have GE171 := GW171; clear hb hbox hg; obtain ⟨hcz6_0, hcz6_1, hcz6_2, hcz6_3, hcz6_4, hcz6_5⟩ := zrN BK171.out; obtain ⟨hfz6_0, hfz6_1, hfz6_2, hfz6_3, hfz6_4, hfz6_5⟩ := zoO BK171.out) | ((with_reducible refine zgK (f := 37) rfl ?_); refine gl_ (some 5) Tryz.func37 #[.agg #[.int .i64 a0_0, .int .i64 a0_1, .int .i64 a0_2]] ?_; (with_reducible refine (zeG.calls a0_0 a0_1 a0_2 true _ A2.out).mono ?_); rintro e w7 ⟨rfl, hb⟩; refine ⟨_, rfl, ?_⟩; replace BK171 := kb_ BK171 hb; replace HB := ns_ hb; (try clear hb); (try clear hb2); obtain ⟨hcz8_0, hcz8_1, hcz8_2, hcz8_3, hcz8_4, hcz8_5⟩ := zrN BK171.out; obtain ⟨hfz8_0, hfz8_1, hfz8_2, hfz8_3, hfz8_4, hfz8_5⟩ := zoO BK171.out) | (go_at_call 37; (with_reducible refine (zeG.calls a0_3 a0_4 a0_5 t173 _ A4.out).mono ?_); rintro e w9 ⟨rfl, hb⟩; replace BK171 := kb_ BK171 hb; replace HB := ns_ hb; (try clear hb); (try clear hb2)))
  go_ret
  exact ⟨ex_, bb_⟩
 ·obtain rfl := Option.some.inj H
  go_enter Tryz.func17, Tryz.ntmps17
  go_wp2_with (first | ((with_reducible refine zpZ (N := 1) rfl ?_); refine bx_ 1 #[.int .i64 a0_0, .int .i64 a0_1, .int .i64 a0_2, .int .i64 a0_3, .int .i64 a0_4, .int .i64 a0_5] 33 ?_; intro gb171 hg w10 hbox hb; have BK171 := zpS (hbox); have GW171 := ng_ hg; replace HB := ns_ hb; have GE171 := GW171; clear hb hbox hg; obtain ⟨hcz11_0, hcz11_1, hcz11_2, hcz11_3, hcz11_4, hcz11_5⟩ := zrN BK171.out; obtain ⟨hfz11_0, hfz11_1, hfz11_2, hfz11_3, hfz11_4, hfz11_5⟩ := zoO BK171.out) | ((with_reducible refine zgK (f := 37) rfl ?_); refine gl_ (some 5) Tryz.func37 #[.agg #[.int .i64 a0_0, .int .i64 a0_1, .int .i64 a0_2]] ?_; (with_reducible refine (zeG.calls a0_0 a0_1 a0_2 false _ A2.out).mono ?_); rintro e w12 ⟨rfl, hb⟩; refine ⟨_, rfl, ?_⟩; replace BK171 := kb_ BK171 hb; replace HB := ns_ hb; (try clear hb); (try clear hb2)))
  go_ret
  exact ⟨ex_, bb_⟩

def zpT.f (a0 : Int) : Option (Int × Int) := if a0 < 0 then (if (IntKind.u64.wrap ((IntKind.u64.wrap ((Go.bits .and .u64 (IntKind.u64.wrap (wrap64 (-a0))) 4294967295) * (Go.bits .and .u64 (IntKind.u64.wrap (wrap64 (-a0))) 4294967295))) + (IntKind.u64.wrap ((IntKind.u64.wrap ((IntKind.u64.wrap (2 * (Go.bits .and .u64 (IntKind.u64.wrap (wrap64 (-a0))) 4294967295))) * ((IntKind.u64.wrap (wrap64 (-a0))) / 4294967296))) * 4294967296)))) < (IntKind.u64.wrap ((Go.bits .and .u64 (IntKind.u64.wrap (wrap64 (-a0))) 4294967295) * (Go.bits .and .u64 (IntKind.u64.wrap (wrap64 (-a0))) 4294967295))) then (some (IntKind.u64.wrap ((IntKind.u64.wrap (((IntKind.u64.wrap (wrap64 (-a0))) / 4294967296) * ((IntKind.u64.wrap (wrap64 (-a0))) / 4294967296))) + (IntKind.u64.wrap (((IntKind.u64.wrap ((IntKind.u64.wrap (2 * (Go.bits .and .u64 (IntKind.u64.wrap (wrap64 (-a0))) 4294967295))) * ((IntKind.u64.wrap (wrap64 (-a0))) / 4294967296))) / 4294967296) + 1))), IntKind.u64.wrap ((IntKind.u64.wrap ((Go.bits .and .u64 (IntKind.u64.wrap (wrap64 (-a0))) 4294967295) * (Go.bits .and .u64 (IntKind.u64.wrap (wrap64 (-a0))) 4294967295))) + (IntKind.u64.wrap ((IntKind.u64.wrap ((IntKind.u64.wrap (2 * (Go.bits .and .u64 (IntKind.u64.wrap (wrap64 (-a0))) 4294967295))) * ((IntKind.u64.wrap (wrap64 (-a0))) / 4294967296))) * 4294967296))))) else (some (IntKind.u64.wrap ((IntKind.u64.wrap (((IntKind.u64.wrap (wrap64 (-a0))) / 4294967296) * ((IntKind.u64.wrap (wrap64 (-a0))) / 4294967296))) + ((IntKind.u64.wrap ((IntKind.u64.wrap (2 * (Go.bits .and .u64 (IntKind.u64.wrap (wrap64 (-a0))) 4294967295))) * ((IntKind.u64.wrap (wrap64 (-a0))) / 4294967296))) / 4294967296)), IntKind.u64.wrap ((IntKind.u64.wrap ((Go.bits .and .u64 (IntKind.u64.wrap (wrap64 (-a0))) 4294967295) * (Go.bits .and .u64 (IntKind.u64.wrap (wrap64 (-a0))) 4294967295))) + (IntKind.u64.wrap ((IntKind.u64.wrap ((IntKind.u64.wrap (2 * (Go.bits .and .u64 (IntKind.u64.wrap (wrap64 (-a0))) 4294967295))) * ((IntKind.u64.wrap (wrap64 (-a0))) / 4294967296))) * 4294967296)))))) else (if (IntKind.u64.wrap ((IntKind.u64.wrap ((Go.bits .and .u64 (IntKind.u64.wrap (a0)) 4294967295) * (Go.bits .and .u64 (IntKind.u64.wrap (a0)) 4294967295))) + (IntKind.u64.wrap ((IntKind.u64.wrap ((IntKind.u64.wrap (2 * (Go.bits .and .u64 (IntKind.u64.wrap (a0)) 4294967295))) * ((IntKind.u64.wrap (a0)) / 4294967296))) * 4294967296)))) < (IntKind.u64.wrap ((Go.bits .and .u64 (IntKind.u64.wrap (a0)) 4294967295) * (Go.bits .and .u64 (IntKind.u64.wrap (a0)) 4294967295))) then (some (IntKind.u64.wrap ((IntKind.u64.wrap (((IntKind.u64.wrap (a0)) / 4294967296) * ((IntKind.u64.wrap (a0)) / 4294967296))) + (IntKind.u64.wrap (((IntKind.u64.wrap ((IntKind.u64.wrap (2 * (Go.bits .and .u64 (IntKind.u64.wrap (a0)) 4294967295))) * ((IntKind.u64.wrap (a0)) / 4294967296))) / 4294967296) + 1))), IntKind.u64.wrap ((IntKind.u64.wrap ((Go.bits .and .u64 (IntKind.u64.wrap (a0)) 4294967295) * (Go.bits .and .u64 (IntKind.u64.wrap (a0)) 4294967295))) + (IntKind.u64.wrap ((IntKind.u64.wrap ((IntKind.u64.wrap (2 * (Go.bits .and .u64 (IntKind.u64.wrap (a0)) 4294967295))) * ((IntKind.u64.wrap (a0)) / 4294967296))) * 4294967296))))) else (some (IntKind.u64.wrap ((IntKind.u64.wrap (((IntKind.u64.wrap (a0)) / 4294967296) * ((IntKind.u64.wrap (a0)) / 4294967296))) + ((IntKind.u64.wrap ((IntKind.u64.wrap (2 * (Go.bits .and .u64 (IntKind.u64.wrap (a0)) 4294967295))) * ((IntKind.u64.wrap (a0)) / 4294967296))) / 4294967296)), IntKind.u64.wrap ((IntKind.u64.wrap ((Go.bits .and .u64 (IntKind.u64.wrap (a0)) 4294967295) * (Go.bits .and .u64 (IntKind.u64.wrap (a0)) 4294967295))) + (IntKind.u64.wrap ((IntKind.u64.wrap ((IntKind.u64.wrap (2 * (Go.bits .and .u64 (IntKind.u64.wrap (a0)) 4294967295))) * ((IntKind.u64.wrap (a0)) / 4294967296))) * 4294967296))))))
theorem zpT.calls (a0 : Int) (r1 : Int) (r2 : Int) (w : World) (h : zpT.f a0 = some (r1, r2)) :
  Calls Tryz.prog 112 #[.int .i64 a0] w fun e w' => e = .returned (.tuple #[.int .u64 r1, .int .u64 r2]) ∧ Drawn0 w w' := by
 have H := h; unfold zpT.f at H; clear h; replace H := iq_ H
 rcases H with ⟨c2b0, H⟩ | ⟨c2b0, H⟩
 ·replace H := iq_ H
  rcases H with ⟨c3b0, H⟩ | ⟨c3b0, H⟩
  ·simp only [Option.some.injEq, Prod.mk.injEq] at H
   obtain ⟨rfl, rfl⟩ := H; go_enter Tryz.func112, Tryz.ntmps112
   go_wp2
   go_ret2
   exact ⟨ey_, dn_⟩
  ·simp only [Option.some.injEq, Prod.mk.injEq] at H
   obtain ⟨rfl, rfl⟩ := H; go_enter Tryz.func112, Tryz.ntmps112
   go_wp2
   go_ret2
   exact ⟨ey_, dn_⟩
 ·replace H := iq_ H
  rcases H with ⟨c4b0, H⟩ | ⟨c4b0, H⟩
  ·simp only [Option.some.injEq, Prod.mk.injEq] at H
   obtain ⟨rfl, rfl⟩ := H; go_enter Tryz.func112, Tryz.ntmps112
   go_wp2
   go_ret2
   exact ⟨ey_, dn_⟩
  ·simp only [Option.some.injEq, Prod.mk.injEq] at H
   obtain ⟨rfl, rfl⟩ := H; go_enter Tryz.func112, Tryz.ntmps112
   go_wp2
   go_ret2
   exact ⟨ey_, dn_⟩

def zoU.f (a0 : Int) (a1 : Int) : Option (Bool) := (zpT.f a0).bind fun bt174 => ((zpT.f a1).bind fun bt176 => (if bt174.1 < (IntKind.u64.wrap ((IntKind.u64.wrap (bt176.1 * 2)) + (bt176.2 / 9223372036854775808))) then (some true) else (if bt174.1 = (IntKind.u64.wrap ((IntKind.u64.wrap (bt176.1 * 2)) + (bt176.2 / 9223372036854775808))) then (some (decide (bt174.2 < (IntKind.u64.wrap (bt176.2 * 2))))) else (some false))))
theorem zoU.calls (a0 : Int) (a1 : Int) (r : Bool) (w : World) (h : zoU.f a0 a1 = some r) :
  Calls Tryz.prog 88 #[.int .i64 a0, .int .i64 a1] w fun e w' => e = .returned (.bool r) ∧ Drawn0 w w' := by
 have H := h; unfold zoU.f at H; clear h; replace H := be_ H; obtain ⟨⟨t174, t175⟩, A3, H⟩ := H; dsimp only at H; replace H := be_ H; obtain ⟨⟨t176, t177⟩, A4, H⟩ := H; dsimp only at H; replace H := iq_ H
 rcases H with ⟨c5b0, H⟩ | ⟨c5b0, H⟩
 ·obtain rfl := Option.some.inj H
  go_enter Tryz.func88, Tryz.ntmps88
  go_wp2_with (first | ((with_reducible refine zgK (f := 112) rfl ?_); refine gl_ (some 11) Tryz.func112 #[.int .i64 a0] ?_; (with_reducible refine (zpT.calls a0 t174 t175 _ A3.out).mono ?_); rintro e w' ⟨rfl, ⟨nd, rfl⟩⟩; refine ⟨_, rfl, ?_⟩) | ((with_reducible refine zgK (f := 112) rfl ?_); refine gl_ (some 16) Tryz.func112 #[.int .i64 a1] ?_; (with_reducible refine (zpT.calls a1 t176 t177 _ A4.out).mono ?_); rintro e w' ⟨rfl, ⟨nd, rfl⟩⟩; refine ⟨_, rfl, ?_⟩))
  go_ret
  exact ⟨ey_, dn_⟩
 ·replace H := ip_ H
  rcases H with ⟨c6, H⟩ | ⟨c6, H⟩
  ·have c6b0 := bqt_ c6
   have c6b1 := bnf_ c6; clear c6; obtain rfl := Option.some.inj H; go_enter Tryz.func88, Tryz.ntmps88
   go_wp2_with (first | ((with_reducible refine zgK (f := 112) rfl ?_); refine gl_ (some 11) Tryz.func112 #[.int .i64 a0] ?_; (with_reducible refine (zpT.calls a0 t174 t175 _ A3.out).mono ?_); rintro e w' ⟨rfl, ⟨nd, rfl⟩⟩; refine ⟨_, rfl, ?_⟩) | ((with_reducible refine zgK (f := 112) rfl ?_); refine gl_ (some 16) Tryz.func112 #[.int .i64 a1] ?_; (with_reducible refine (zpT.calls a1 t176 t177 _ A4.out).mono ?_); rintro e w' ⟨rfl, ⟨nd, rfl⟩⟩; refine ⟨_, rfl, ?_⟩))
   go_ret
   exact ⟨ey_, dn_⟩
  ·have c6b0 := bqf_ c6
   have c6b1 := bnt_ c6; obtain rfl := Option.some.inj H; go_enter Tryz.func88, Tryz.ntmps88
   go_wp2_with (first | ((with_reducible refine zgK (f := 112) rfl ?_); refine gl_ (some 11) Tryz.func112 #[.int .i64 a0] ?_; (with_reducible refine (zpT.calls a0 t174 t175 _ A3.out).mono ?_); rintro e w' ⟨rfl, ⟨nd, rfl⟩⟩; refine ⟨_, rfl, ?_⟩) | ((with_reducible refine zgK (f := 112) rfl ?_); refine gl_ (some 16) Tryz.func112 #[.int .i64 a1] ?_; (with_reducible refine (zpT.calls a1 t176 t177 _ A4.out).mono ?_); rintro e w' ⟨rfl, ⟨nd, rfl⟩⟩; refine ⟨_, rfl, ?_⟩))
   go_ret
   exact ⟨ey_, dn_⟩

mutual
def zxR.j0 : Nat → Bool → Int → Int → Int → Option (Int)
 | 0, _, _, _, _ => none
 | k + 1, x3, x179000, x179001, x179002 => if x3 = true then (some 0) else (if x179000 ≥ 0 then (zxR.j1 k (decide (x179001 ≥ 0)) x179000 x179001 x179002) else (zxR.j1 k false x179000 x179001 x179002))
def zxR.j1 : Nat → Bool → Int → Int → Int → Option (Int)
 | 0, _, _, _, _ => none
 | k + 1, x12, x179000, x179001, x179002 => if x12 = true then (some 1) else (if x179000 ≤ 0 then (zxR.j2 k (decide (x179001 ≤ 0)) x179000 x179001 x179002) else (zxR.j2 k false x179000 x179001 x179002))
def zxR.j2 : Nat → Bool → Int → Int → Int → Option (Int)
 | 0, _, _, _, _ => none
 | k + 1, x21, x179000, x179001, x179002 => if x21 = true then (some (-1)) else ((zoU.f x179000 x179001).bind fun t179 => (if (t179 == (decide (x179001 > 0))) = true then (some 1) else (some (-1))))
end
def zxR.f (k : Nat) (a0_0 : Int) (a0_1 : Int) (a0_2 : Int) : Option (Int) := if a0_0 = 0 then (zxR.j0 k (a0_1 == 0) a0_0 a0_1 a0_2) else (zxR.j0 k false a0_0 a0_1 a0_2)
theorem zxR.mono_l : ∀ k, (∀ y0 y1 y2 y3, LeO (zxR.j0 k y0 y1 y2 y3) (zxR.j0 (k + 1) y0 y1 y2 y3)) ∧ (∀ y0 y1 y2 y3, LeO (zxR.j1 k y0 y1 y2 y3) (zxR.j1 (k + 1) y0 y1 y2 y3)) ∧ (∀ y0 y1 y2 y3, LeO (zxR.j2 k y0 y1 y2 y3) (zxR.j2 (k + 1) y0 y1 y2 y3))
 | 0 => ⟨fun _ _ _ _ r h => by simp [zxR.j0] at h, fun _ _ _ _ r h => by simp [zxR.j1] at h, fun _ _ _ _ r h => by simp [zxR.j2] at h⟩
 | k + 1 => by
  obtain ⟨ih0, ih1, ih2⟩ := zxR.mono_l k; refine ⟨?_, ?_, ?_⟩
  ·intro y0 y1 y2 y3
   unfold zxR.j0
   repeat' (with_reducible first | exact ih0 _ _ _ _ | exact ih1 _ _ _ _ | exact ih2 _ _ _ _ | exact LeO.refl _ | exact LeO.none _ | refine LeO.ite ?_ ?_ | refine LeO.bind ?_ (fun _ => ?_))
  ·intro y0 y1 y2 y3
   unfold zxR.j1
   repeat' (with_reducible first | exact ih0 _ _ _ _ | exact ih1 _ _ _ _ | exact ih2 _ _ _ _ | exact LeO.refl _ | exact LeO.none _ | refine LeO.ite ?_ ?_ | refine LeO.bind ?_ (fun _ => ?_))
  ·intro y0 y1 y2 y3
   unfold zxR.j2
   repeat' (with_reducible first | exact ih0 _ _ _ _ | exact ih1 _ _ _ _ | exact ih2 _ _ _ _ | exact LeO.refl _ | exact LeO.none _ | refine LeO.ite ?_ ?_ | refine LeO.bind ?_ (fun _ => ?_))
theorem zxR.mono : ∀ a0 a1 a2 k, LeO (zxR.f k a0 a1 a2) (zxR.f (k + 1) a0 a1 a2) := by
 intro a0 a1 a2 k; obtain ⟨ih0, ih1, ih2⟩ := zxR.mono_l k; unfold zxR.f
 repeat' (with_reducible first | exact ih0 _ _ _ _ | exact ih1 _ _ _ _ | exact ih2 _ _ _ _ | exact LeO.refl _ | exact LeO.none _ | refine LeO.ite ?_ ?_ | refine LeO.bind ?_ (fun _ => ?_))
theorem zxR.calls (k : Nat) (a0_0 : Int) (a0_1 : Int) (a0_2 : Int) (r : Int) (w : World) (h : zxR.f k a0_0 a0_1 a0_2 = some r) :
  Calls Tryz.prog 63 #[.agg #[.int .i64 a0_0, .int .i64 a0_1, .int .i64 a0_2]] w fun e w' => e = .returned (.int .i64 r) ∧ Below w.heap.size w w' := by
 have hu68 := Tryz.underlying68; have HB := zpS (Below.refl w.heap.size w); have H := h; unfold zxR.f at H; clear h; have HC2 := zpS H; clear H; go_enter Tryz.func63, Tryz.ntmps63
 go_upto_region 1 with (first | ((with_reducible refine zpZ (N := 1) rfl ?_); refine bx_ 1 #[.int .i64 a0_0, .int .i64 a0_1, .int .i64 a0_2] 68 ?_; intro gb178 hg w3 hbox hb; have BK178 := zpS (hbox); have GW178 := ng_ hg; replace HB := ns_ hb; have GE178 := GW178; clear hb hbox hg))
 repeat (go_quiet (first | ((with_reducible refine zpZ (N := 1) rfl ?_); refine bx_ 1 #[.int .i64 a0_0, .int .i64 a0_1, .int .i64 a0_2] 68 ?_; intro gb178 hg w3 hbox hb; have BK178 := zpS (hbox); have GW178 := ng_ hg; replace HB := ns_ hb; have GE178 := GW178; clear hb hbox hg)); go_upto_region 1 with (first | ((with_reducible refine zpZ (N := 1) rfl ?_); refine bx_ 1 #[.int .i64 a0_0, .int .i64 a0_1, .int .i64 a0_2] 68 ?_; intro gb178 hg w3 hbox hb; have BK178 := zpS (hbox); have GW178 := ng_ hg; replace HB := ns_ hb; have GE178 := GW178; clear hb hbox hg)))
 (try simp only [Act.put, set_a_, set_b_, set_c_])
 go_cut [3] (fun v3 wc => ∃ (kq : Nat) (x3_1 : Bool), v3 = .bool x3_1 ∧ Aside0 (zxR.j0 kq x3_1 a0_0 a0_1 a0_2 = some r) ∧ Aside0 (kq ≤ k) ∧ Aside0 (wc.heap[gb178]? = some (.cells #[.int .i64 a0_0, .int .i64 a0_1, .int .i64 a0_2] 68 (0, 0))) ∧ Aside0 (Below w.heap.size w wc))
 case first =>
  have H := HC2.out; clear HC2; replace H := ip_ H
  rcases H with ⟨c4, H⟩ | ⟨c4, H⟩
  ·have c4b0 := bqt_ c4
   have c4b1 := bnf_ c4; clear c4
   (first | rw [c4b0] | (simp only [zcN, ziJ]; rw [c4b0]) | skip)
   have H' := zpS H; clear H; obtain ⟨hcz5_0, hcz5_1, hcz5_2⟩ := zdT BK178.out; obtain ⟨hfz5_0, hfz5_1, hfz5_2⟩ := zqD BK178.out
   go_wp2
   repeat (go_quiet (fail); try go_wp2)
   go_meet
   case rel => exact ⟨_, ((a0_1 == 0)), (ey_), H', ⟨by first | omega | exact Nat.le_refl _⟩, ⟨bk_⟩, ⟨bb_⟩⟩
  ·have c4b0 := bqf_ c4
   have c4b1 := bnt_ c4
   (first | rw [c4b0] | (simp only [zcN, ziJ]; rw [c4b0]) | skip)
   have H' := zpS H; clear H; obtain ⟨hcz6_0, hcz6_1, hcz6_2⟩ := zdT BK178.out; obtain ⟨hfz6_0, hfz6_1, hfz6_2⟩ := zqD BK178.out
   go_wp2
   repeat (go_quiet (fail); try go_wp2)
   go_meet
   case rel => exact ⟨_, (false), (ey_), H', ⟨by first | omega | exact Nat.le_refl _⟩, ⟨bk_⟩, ⟨bb_⟩⟩
 case rest =>
  clear HC2; (try clear p2); (try clear c4); (try clear c4b0); (try clear c4b1); (try clear c6); (try clear hcz5_0); (try clear hcz5_1); (try clear hcz5_2); (try clear hcz6_0); (try clear hcz6_1); (try clear hcz6_2); (try clear hfz5_0); (try clear hfz5_1); (try clear hfz5_2); (try clear hfz6_0); (try clear hfz6_1); (try clear hfz6_2); obtain ⟨kq, x3_1, rfl, HA, HJ1, BK178, HB⟩ := hcut
  cases kq with
  | zero => exact absurd HA.out (by simp [zxR.j0])
  | succ kj1 =>
   have H := HA.out; clear HA; simp only [zxR.j0] at H; replace H := ib_ H
   rcases H with ⟨rfl, H⟩ | ⟨rfl, H⟩
   ·obtain rfl := Option.some.inj H
    go_wp2
    repeat (go_quiet (fail); try go_wp2)
    go_ret
    exact ⟨ex_, bb_⟩
   ·have HC8 := zpS H
    clear H
    go_upto_region 3 with (fail)
    repeat (go_quiet (fail); go_upto_region 3 with (fail))
    go_cut [12] (fun v12 wc => ∃ (kq : Nat) (x12_7 : Bool), v12 = .bool x12_7 ∧ Aside0 (zxR.j1 kq x12_7 a0_0 a0_1 a0_2 = some r) ∧ Aside0 (kq ≤ kj1) ∧ Aside0 (wc.heap[gb178]? = some (.cells #[.int .i64 a0_0, .int .i64 a0_1, .int .i64 a0_2] 68 (0, 0))) ∧ Aside0 (Below w.heap.size w wc))
    case first =>
     have H := HC8.out; clear HC8; replace H := ip_ H
     rcases H with ⟨c9, H⟩ | ⟨c9, H⟩
     ·have c9b0 : decide (0 ≤ a0_0) = true := decide_eq_true c9
      clear c9
      (first | rw [c9b0] | (simp only [zcN, ziJ]; rw [c9b0]) | skip)
      have H' := zpS H; clear H; obtain ⟨hcz10_0, hcz10_1, hcz10_2⟩ := zdT BK178.out; obtain ⟨hfz10_0, hfz10_1, hfz10_2⟩ := zqD BK178.out
      go_wp2
      repeat (go_quiet (fail); try go_wp2)
      go_meet
      case rel => exact ⟨_, (decide (a0_1 ≥ 0)), (ey_), H', ⟨by have := HJ1.out; first | omega | exact Nat.le_refl _⟩, ⟨bk_⟩, ⟨bb_⟩⟩
     ·have c9b0 : decide (0 ≤ a0_0) = false := decide_eq_false c9
      clear c9
      (first | rw [c9b0] | (simp only [zcN, ziJ]; rw [c9b0]) | skip)
      have H' := zpS H; clear H; obtain ⟨hcz11_0, hcz11_1, hcz11_2⟩ := zdT BK178.out; obtain ⟨hfz11_0, hfz11_1, hfz11_2⟩ := zqD BK178.out
      go_wp2
      repeat (go_quiet (fail); try go_wp2)
      go_meet
      case rel => exact ⟨_, (false), (ey_), H', ⟨by have := HJ1.out; first | omega | exact Nat.le_refl _⟩, ⟨bk_⟩, ⟨bb_⟩⟩
    case rest =>
     clear HC8; (try clear p2); (try clear c4); (try clear c4b0); (try clear c4b1); (try clear c6); (try clear c7); (try clear c9); (try clear c9b0); (try clear hcz10_0); (try clear hcz10_1); (try clear hcz10_2); (try clear hcz11_0); (try clear hcz11_1); (try clear hcz11_2); (try clear hcz5_0); (try clear hcz5_1); (try clear hcz5_2); (try clear hcz6_0); (try clear hcz6_1); (try clear hcz6_2); (try clear hfz10_0); (try clear hfz10_1); (try clear hfz10_2); (try clear hfz11_0); (try clear hfz11_1); (try clear hfz11_2); (try clear hfz5_0); (try clear hfz5_1); (try clear hfz5_2); (try clear hfz6_0); (try clear hfz6_1); (try clear hfz6_2); (try clear p2); obtain ⟨kq, x12_7, rfl, HA, HJ7, BK178, HB⟩ := hcut
     cases kq with
     | zero => exact absurd HA.out (by simp [zxR.j1])
     | succ kj7 =>
      have H := HA.out; clear HA; simp only [zxR.j1] at H; replace H := ib_ H
      rcases H with ⟨rfl, H⟩ | ⟨rfl, H⟩
      ·obtain rfl := Option.some.inj H
       go_wp2
       repeat (go_quiet (fail); try go_wp2)
       go_ret
       exact ⟨ex_, bb_⟩
      ·have HC13 := zpS H
       clear H
       go_upto_region 5 with (fail)
       repeat (go_quiet (fail); go_upto_region 5 with (fail))
       go_cut [21] (fun v21 wc => ∃ (kq : Nat) (x21_12 : Bool), v21 = .bool x21_12 ∧ Aside0 (zxR.j2 kq x21_12 a0_0 a0_1 a0_2 = some r) ∧ Aside0 (kq ≤ kj7) ∧ Aside0 (wc.heap[gb178]? = some (.cells #[.int .i64 a0_0, .int .i64 a0_1, .int .i64 a0_2] 68 (0, 0))) ∧ Aside0 (Below w.heap.size w wc))
       case first =>
        have H := HC13.out; clear HC13; replace H := iq_ H
        rcases H with ⟨c14b0, H⟩ | ⟨c14b0, H⟩
        ·(first | rw [c14b0] | (simp only [zcN, ziJ]; rw [c14b0]) | skip)
         have H' := zpS H; clear H; obtain ⟨hcz15_0, hcz15_1, hcz15_2⟩ := zdT BK178.out; obtain ⟨hfz15_0, hfz15_1, hfz15_2⟩ := zqD BK178.out
         go_wp2
         repeat (go_quiet (fail); try go_wp2)
         go_meet
         case rel => exact ⟨_, (decide (a0_1 ≤ 0)), (ey_), H', ⟨by have := HJ1.out; have := HJ7.out; first | omega | exact Nat.le_refl _⟩, ⟨bk_⟩, ⟨bb_⟩⟩
        ·(first | rw [c14b0] | (simp only [zcN, ziJ]; rw [c14b0]) | skip)
         have H' := zpS H; clear H; obtain ⟨hcz16_0, hcz16_1, hcz16_2⟩ := zdT BK178.out; obtain ⟨hfz16_0, hfz16_1, hfz16_2⟩ := zqD BK178.out
         go_wp2
         repeat (go_quiet (fail); try go_wp2)
         go_meet
         case rel => exact ⟨_, (false), (ey_), H', ⟨by have := HJ1.out; have := HJ7.out; first | omega | exact Nat.le_refl _⟩, ⟨bk_⟩, ⟨bb_⟩⟩
       case rest =>
        clear HC13; (try clear c1); (try clear p2); (try clear c4); (try clear c4b0); (try clear c4b1); (try clear c6); (try clear c7); (try clear c9); (try clear c9b0); (try clear c12); (try clear c14); (try clear c14b0); (try clear hcz10_0); (try clear hcz10_1); (try clear hcz10_2); (try clear hcz11_0); (try clear hcz11_1); (try clear hcz11_2); (try clear hcz15_0); (try clear hcz15_1); (try clear hcz15_2); (try clear hcz16_0); (try clear hcz16_1); (try clear hcz16_2); (try clear hcz5_0); (try clear hcz5_1); (try clear hcz5_2); (try clear hcz6_0); (try clear hcz6_1); (try clear hcz6_2); (try clear hfz10_0); (try clear hfz10_1); (try clear hfz10_2); (try clear hfz11_0); (try clear hfz11_1); (try clear hfz11_2); (try clear hfz15_0); (try clear hfz15_1); (try clear hfz15_2); (try clear hfz16_0); (try clear hfz16_1); (try clear hfz16_2); (try clear hfz5_0); (try clear hfz5_1); (try clear hfz5_2); (try clear hfz6_0)
        (try clear hfz6_1); (try clear hfz6_2); (try clear p2); obtain ⟨kq, x21_12, rfl, HA, HJ12, BK178, HB⟩ := hcut
        cases kq with
        | zero => exact absurd HA.out (by simp [zxR.j2])
        | succ kj12 =>
         have H := HA.out; clear HA; simp only [zxR.j2] at H; replace H := ib_ H
         rcases H with ⟨rfl, H⟩ | ⟨rfl, H⟩
         ·obtain rfl := Option.some.inj H
          go_wp2
          repeat (go_quiet (fail); try go_wp2)
          go_ret
          exact ⟨ex_, bb_⟩
         ·replace H := be_ H
          obtain ⟨t179, A18, H⟩ := H; replace H := ip_ H
          rcases H with ⟨c19, H⟩ | ⟨c19, H⟩
          ·have c19b0 : (t179 == (decide (a0_1 > 0))) = true := c19
           (try (have c19b1 : decide (t179 = (decide (a0_1 > 0))) = true := by simpa using c19))
           (try (have c19b2 : (t179 == (decide (a0_1 > 0))) = true := by simpa using c19))
           clear c19; obtain rfl := Option.some.inj H; obtain ⟨hcz20_0, hcz20_1, hcz20_2⟩ := zdT BK178.out; obtain ⟨hfz20_0, hfz20_1, hfz20_2⟩ := zqD BK178.out
           go_wp2_with (first | (go_at_call 88; (with_reducible refine (zoU.calls a0_0 a0_1 t179 _ A18.out).mono ?_); rintro e w' ⟨rfl, ⟨nd, rfl⟩⟩; (try first | exact ⟨rfl, _, World.drewN_drewN _ _ _⟩ | exact ⟨rfl, _, Eq.trans (World.drewN_drewN _ _ _) (congrArg (World.drewN _) (Nat.add_assoc _ _ _))⟩)))
           repeat (go_quiet (first | (go_at_call 88; (with_reducible refine (zoU.calls a0_0 a0_1 t179 _ A18.out).mono ?_); rintro e w' ⟨rfl, ⟨nd, rfl⟩⟩; (try first | exact ⟨rfl, _, World.drewN_drewN _ _ _⟩ | exact ⟨rfl, _, Eq.trans (World.drewN_drewN _ _ _) (congrArg (World.drewN _) (Nat.add_assoc _ _ _))⟩))); try go_wp2_with (first | (go_at_call 88; (with_reducible refine (zoU.calls a0_0 a0_1 t179 _ A18.out).mono ?_); rintro e w' ⟨rfl, ⟨nd, rfl⟩⟩; (try first | exact ⟨rfl, _, World.drewN_drewN _ _ _⟩ | exact ⟨rfl, _, Eq.trans (World.drewN_drewN _ _ _) (congrArg (World.drewN _) (Nat.add_assoc _ _ _))⟩))))
           go_ret
           exact ⟨ex_, bb_⟩
          ·have c19b0 : (t179 == (decide (a0_1 > 0))) = false := by simpa using c19
           (try (have c19b1 : decide (t179 = (decide (a0_1 > 0))) = false := by simpa using c19))
           (try (have c19b2 : (t179 == (decide (a0_1 > 0))) = false := by simpa using c19))
           (try (have c19b3 : ¬ (t179 = (decide (a0_1 > 0))) := by simpa using c19))
           clear c19; obtain rfl := Option.some.inj H; obtain ⟨hcz21_0, hcz21_1, hcz21_2⟩ := zdT BK178.out; obtain ⟨hfz21_0, hfz21_1, hfz21_2⟩ := zqD BK178.out
           go_wp2_with (first | (go_at_call 88; (with_reducible refine (zoU.calls a0_0 a0_1 t179 _ A18.out).mono ?_); rintro e w' ⟨rfl, ⟨nd, rfl⟩⟩; (try first | exact ⟨rfl, _, World.drewN_drewN _ _ _⟩ | exact ⟨rfl, _, Eq.trans (World.drewN_drewN _ _ _) (congrArg (World.drewN _) (Nat.add_assoc _ _ _))⟩)))
           repeat (go_quiet (first | (go_at_call 88; (with_reducible refine (zoU.calls a0_0 a0_1 t179 _ A18.out).mono ?_); rintro e w' ⟨rfl, ⟨nd, rfl⟩⟩; (try first | exact ⟨rfl, _, World.drewN_drewN _ _ _⟩ | exact ⟨rfl, _, Eq.trans (World.drewN_drewN _ _ _) (congrArg (World.drewN _) (Nat.add_assoc _ _ _))⟩))); try go_wp2_with (first | (go_at_call 88; (with_reducible refine (zoU.calls a0_0 a0_1 t179 _ A18.out).mono ?_); rintro e w' ⟨rfl, ⟨nd, rfl⟩⟩; (try first | exact ⟨rfl, _, World.drewN_drewN _ _ _⟩ | exact ⟨rfl, _, Eq.trans (World.drewN_drewN _ _ _) (congrArg (World.drewN _) (Nat.add_assoc _ _ _))⟩))))
           go_ret
           exact ⟨ex_, bb_⟩

mutual
def zhR.j0 : Nat → Bool → Int → Int → Int → Option (Int × Int × Int)
 | 0, _, _, _, _ => none
 | k + 1, x10, x181000, x181001, x181002 => if x10 = true then (some (0, 0, 0)) else (zhR.l0 k x181000 x181001 x181002)
def zhR.l0 : Nat → Int → Int → Int → Option (Int × Int × Int)
 | 0, _, _, _ => none
 | k + 1, x181000, x181001, x181002 => if x181002 > 0 then (if (Int.tmod x181000 2) = 0 then (if (Int.tmod x181001 2) = 0 then (zhR.l0 k (wrap64 (Int.tdiv x181000 2)) (wrap64 (Int.tdiv x181001 2)) (wrap64 (x181002 - 1))) else (some (x181000, x181001, x181002))) else (some (x181000, x181001, x181002))) else (some (x181000, x181001, x181002))
end
def zhR.f (k : Nat) (a0_0 : Int) (a0_1 : Int) (a0_2 : Int) : Option (Int × Int × Int) := if a0_0 = 0 then (zhR.j0 k (a0_1 == 0) a0_0 a0_1 a0_2) else (zhR.j0 k false a0_0 a0_1 a0_2)
theorem zhR.mono_l : ∀ k, (∀ y0 y1 y2 y3, LeO (zhR.j0 k y0 y1 y2 y3) (zhR.j0 (k + 1) y0 y1 y2 y3)) ∧ (∀ y0 y1 y2, LeO (zhR.l0 k y0 y1 y2) (zhR.l0 (k + 1) y0 y1 y2))
 | 0 => ⟨fun _ _ _ _ r h => by simp [zhR.j0] at h, fun _ _ _ r h => by simp [zhR.l0] at h⟩
 | k + 1 => by
  obtain ⟨ih0, ih1⟩ := zhR.mono_l k; refine ⟨?_, ?_⟩
  ·intro y0 y1 y2 y3
   unfold zhR.j0
   repeat' (with_reducible first | exact ih0 _ _ _ _ | exact ih1 _ _ _ | exact LeO.refl _ | exact LeO.none _ | refine LeO.ite ?_ ?_ | refine LeO.bind ?_ (fun _ => ?_))
  ·intro y0 y1 y2
   unfold zhR.l0
   repeat' (with_reducible first | exact ih0 _ _ _ _ | exact ih1 _ _ _ | exact LeO.refl _ | exact LeO.none _ | refine LeO.ite ?_ ?_ | refine LeO.bind ?_ (fun _ => ?_))
theorem zhR.mono : ∀ a0 a1 a2 k, LeO (zhR.f k a0 a1 a2) (zhR.f (k + 1) a0 a1 a2) := by
 intro a0 a1 a2 k; obtain ⟨ih0, ih1⟩ := zhR.mono_l k; unfold zhR.f
 repeat' (with_reducible first | exact ih0 _ _ _ _ | exact ih1 _ _ _ | exact LeO.refl _ | exact LeO.none _ | refine LeO.ite ?_ ?_ | refine LeO.bind ?_ (fun _ => ?_))
theorem zhR.calls (k : Nat) (a0_0 : Int) (a0_1 : Int) (a0_2 : Int) (r1 : Int) (r2 : Int) (r3 : Int) (w : World) (h : zhR.f k a0_0 a0_1 a0_2 = some (r1, r2, r3)) :
  Calls Tryz.prog 113 #[.agg #[.int .i64 a0_0, .int .i64 a0_1, .int .i64 a0_2]] w fun e w' => e = .returned (.agg #[.int .i64 r1, .int .i64 r2, .int .i64 r3]) ∧ Below w.heap.size w w' := by
 have hu68 := Tryz.underlying68; have HB := zpS (Below.refl w.heap.size w); have H := h; unfold zhR.f at H; clear h; have HC2 := zpS H; clear H; go_enter Tryz.func113, Tryz.ntmps113
 go_upto_region 1 with (first | ((with_reducible refine zpZ (N := 1) rfl ?_); refine bx_ 1 #[.int .i64 a0_0, .int .i64 a0_1, .int .i64 a0_2] 68 ?_; intro gb180 hg w3 hbox hb; have BK180 := zpS (hbox); have GW180 := ng_ hg; replace HB := ns_ hb; have GE180 := GW180; clear hb hbox hg) | ((with_reducible refine zpZ (N := 2) rfl ?_); refine bx_ 2 #[.int .i64 0, .int .i64 0, .int .i64 0] 68 ?_; intro gb181 hg w4 hbox hb; have BK181 := zpS (hbox); have GW181 := ng_ hg; replace HB := ns_ hb; have GE181 := GW181; have NB180_181 := nl_ BK180 hg; have NB181_180 := nr_ BK180 hg; replace BK180 := kb_ BK180 hb; clear hb hbox hg))
 (try simp only [Act.put, set_a_, set_b_, set_c_])
 go_cut [10] (fun v10 wc => ∃ (kq : Nat) (x10_1 : Bool), v10 = .bool x10_1 ∧ Aside0 (zhR.j0 kq x10_1 a0_0 a0_1 a0_2 = some (r1, r2, r3)) ∧ Aside0 (kq ≤ k) ∧ Aside0 (wc.heap[gb180]? = some (.cells #[.int .i64 a0_0, .int .i64 a0_1, .int .i64 a0_2] 68 (0, 0))) ∧ Aside0 (wc.heap[gb181]? = some (.cells #[.int .i64 0, .int .i64 0, .int .i64 0] 68 (0, 0))) ∧ Aside0 (Below w.heap.size w wc))
 case first =>
  have H := HC2.out; clear HC2; replace H := ip_ H
  rcases H with ⟨c5, H⟩ | ⟨c5, H⟩
  ·have c5b0 := bqt_ c5
   have c5b1 := bnf_ c5; clear c5
   (first | rw [c5b0] | (simp only [zcN, ziJ]; rw [c5b0]) | skip)
   have H' := zpS H; clear H; have hnb6 := NB180_181.out; have hnc6 := NB181_180.out; obtain ⟨hcz7_0, hcz7_1, hcz7_2⟩ := zdT BK180.out; obtain ⟨hfz7_0, hfz7_1, hfz7_2⟩ := zqD BK180.out
   go_wp2
   go_meet
   case rel => exact ⟨_, ((a0_1 == 0)), (ey_), H', ⟨by first | omega | exact Nat.le_refl _⟩, ⟨bk_⟩, ⟨bk_⟩, ⟨bb_⟩⟩
  ·have c5b0 := bqf_ c5
   have c5b1 := bnt_ c5
   (first | rw [c5b0] | (simp only [zcN, ziJ]; rw [c5b0]) | skip)
   have H' := zpS H; clear H; have hnb8 := NB180_181.out; have hnc8 := NB181_180.out; obtain ⟨hcz9_0, hcz9_1, hcz9_2⟩ := zdT BK180.out; obtain ⟨hfz9_0, hfz9_1, hfz9_2⟩ := zqD BK180.out
   go_wp2
   go_meet
   case rel => exact ⟨_, (false), (ey_), H', ⟨by first | omega | exact Nat.le_refl _⟩, ⟨bk_⟩, ⟨bk_⟩, ⟨bb_⟩⟩
 case rest =>
  clear HC2; (try clear c1); (try clear p2); (try clear c5); (try clear c5b0); (try clear c5b1); (try clear c6); (try clear c8); (try clear hcz7_0); (try clear hcz7_1); (try clear hcz7_2); (try clear hcz9_0); (try clear hcz9_1); (try clear hcz9_2); (try clear hfz7_0); (try clear hfz7_1); (try clear hfz7_2); (try clear hfz9_0); (try clear hfz9_1); (try clear hfz9_2); obtain ⟨kq, x10_1, rfl, HA, HJ1, BK180, BK181, HB⟩ := hcut
  cases kq with
  | zero => exact absurd HA.out (by simp [zhR.j0])
  | succ kj1 =>
   have H := HA.out; clear HA; simp only [zhR.j0] at H; replace H := ib_ H
   rcases H with ⟨rfl, H⟩ | ⟨rfl, H⟩
   ·simp only [Option.some.injEq, Prod.mk.injEq] at H
    obtain ⟨rfl, rfl, rfl⟩ := H; have hnb11 := NB181_180.out; have hnc11 := NB180_181.out; obtain ⟨hcz12_0, hcz12_1, hcz12_2⟩ := zdT BK181.out; obtain ⟨hfz12_0, hfz12_1, hfz12_2⟩ := zqD BK181.out
    go_wp2
    refine bodyPost_ret (results_cell_row rfl _ _ gb181 68 #[.int .i64 0, .int .i64 0, .int .i64 0] (0, 0) _ rfl (pt3_ BK181 _ _ _).out Tryz.underlying68 rfl (by kernel_rfl)) rfl ?_
    exact ⟨ex_, bb_⟩
   ·have H' := zpS H
    clear H
    go_wp2
    (try go_simp)
    go_loopg [] kj1 (fun kq w' => ∃ (x181000_2 : Int) (x181001_2 : Int) (x181002_2 : Int), Aside0 (zhR.l0 kq x181000_2 x181001_2 x181002_2 = some (r1, r2, r3)) ∧ Aside0 (kq ≤ kj1) ∧ Aside0 (w'.heap[gb180]? = some (.cells #[.int .i64 x181000_2, .int .i64 x181001_2, .int .i64 x181002_2] 68 (0, 0))) ∧ Aside0 (w'.heap[gb181]? = some (.cells #[.int .i64 0, .int .i64 0, .int .i64 0] 68 (0, 0))) ∧ Aside0 (Below w.heap.size w w'))
    case atStart => exact ⟨(a0_0), (a0_1), (a0_2), H', ⟨Nat.le_refl _⟩, ⟨bk_⟩, ⟨bk_⟩, ⟨bb_⟩⟩
    case round =>
     clear H'; (try clear c1); (try clear p2); (try clear c5); (try clear c5b0); (try clear c5b1); (try clear c6); (try clear c8); (try clear c10); (try clear c11); (try clear hcz12_0); (try clear hcz12_1); (try clear hcz12_2); (try clear hcz7_0); (try clear hcz7_1); (try clear hcz7_2); (try clear hcz9_0); (try clear hcz9_1); (try clear hcz9_2); (try clear hfz12_0); (try clear hfz12_1); (try clear hfz12_2); (try clear hfz7_0); (try clear hfz7_1); (try clear hfz7_2); (try clear hfz9_0); (try clear hfz9_1); (try clear hfz9_2); (try clear p2); obtain ⟨x181000_2, x181001_2, x181002_2, HA, HK2, BK180, BK181, HB⟩ := hrel
     cases gk with
     | zero => exact absurd HA.out (by simp [zhR.l0])
     | succ k2 =>
      have H := HA.out; clear HA; simp only [zhR.l0] at H; replace H := ip_ H
      rcases H with ⟨c13, H⟩ | ⟨c13, H⟩
      ·have c13b0 : decide (0 < x181002_2) = true := decide_eq_true c13
       clear c13; replace H := ip_ H
       rcases H with ⟨c14, H⟩ | ⟨c14, H⟩
       ·have c14b0 := bqt_ c14
        have c14b1 := bnf_ c14; clear c14; replace H := ip_ H
        rcases H with ⟨c15, H⟩ | ⟨c15, H⟩
        ·have c15b0 := bqt_ c15
         have c15b1 := bnf_ c15; clear c15; have H' := zpS H; clear H; have hnb16 := NB180_181.out; have hnc16 := NB181_180.out; obtain ⟨hcz17_0, hcz17_1, hcz17_2⟩ := zdT BK180.out; obtain ⟨hfz17_0, hfz17_1, hfz17_2⟩ := zqD BK180.out
         go_wp2
         go_roundg k2
         case measure => have := HJ1.out; have := HK2.out; omega
         case rel => exact ⟨(wrap64 (Int.tdiv x181000_2 2)), (wrap64 (Int.tdiv x181001_2 2)), (wrap64 (x181002_2 - 1)), H', ⟨by have := HJ1.out; have := HK2.out; omega⟩, ⟨by (with_reducible repeat (first | apply zuW | apply ztN | apply zqY)); refine zlL (cs := #[.int .i64 (wrap64 (Int.tdiv x181000_2 2)), .int .i64 (wrap64 (Int.tdiv x181001_2 2)), .int .i64 x181002_2]) ?_ 2 _ rfl; (with_reducible repeat (first | apply zuW | apply ztN | apply zqY)); refine zlL (cs := #[.int .i64 (wrap64 (Int.tdiv x181000_2 2)), .int .i64 x181001_2, .int .i64 x181002_2]) ?_ 1 _ rfl; (with_reducible repeat (first | apply zuW | apply ztN | apply zqY)); refine zlL (cs := #[.int .i64 x181000_2, .int .i64 x181001_2, .int .i64 x181002_2]) ?_ 0 _ rfl; (with_reducible repeat (first | apply zuW | apply ztN | apply zqY)); exact BK180.out⟩, ⟨by (with_reducible repeat (first | apply zuW | apply ztN | apply zqY)); refine znI ?_ NB181_180.out _; (with_reducible repeat (first | apply zuW | apply ztN | apply zqY)); refine znI ?_ NB181_180.out _; (with_reducible repeat (first | apply zuW | apply ztN | apply zqY)); refine znI ?_ NB181_180.out _; (with_reducible repeat (first | apply zuW | apply ztN | apply zqY)); exact BK181.out⟩, ⟨bb_⟩⟩
        ·have c15b0 := bqf_ c15
         have c15b1 := bnt_ c15; simp only [Option.some.injEq, Prod.mk.injEq] at H; obtain ⟨rfl, rfl, rfl⟩ := H; have hnb18 := NB180_181.out; have hnc18 := NB181_180.out; obtain ⟨hcz19_0, hcz19_1, hcz19_2⟩ := zdT BK180.out; obtain ⟨hfz19_0, hfz19_1, hfz19_2⟩ := zqD BK180.out; obtain ⟨hcz20_0, hcz20_1, hcz20_2⟩ := zdT BK181.out; obtain ⟨hfz20_0, hfz20_1, hfz20_2⟩ := zqD BK181.out
         go_wp2
         refine bodyPost_ret (results_cell_row rfl _ _ gb181 68 #[.int .i64 x181000_2, .int .i64 x181001_2, .int .i64 x181002_2] (0, 0) _ rfl (pt3_ BK181 _ _ _).out Tryz.underlying68 rfl (by kernel_rfl)) rfl ?_
         exact ⟨ex_, bb_⟩
       ·have c14b0 := bqf_ c14
        have c14b1 := bnt_ c14; simp only [Option.some.injEq, Prod.mk.injEq] at H; obtain ⟨rfl, rfl, rfl⟩ := H; have hnb21 := NB180_181.out; have hnc21 := NB181_180.out; obtain ⟨hcz22_0, hcz22_1, hcz22_2⟩ := zdT BK180.out; obtain ⟨hfz22_0, hfz22_1, hfz22_2⟩ := zqD BK180.out; obtain ⟨hcz23_0, hcz23_1, hcz23_2⟩ := zdT BK181.out; obtain ⟨hfz23_0, hfz23_1, hfz23_2⟩ := zqD BK181.out
        go_wp2
        refine bodyPost_ret (results_cell_row rfl _ _ gb181 68 #[.int .i64 x181000_2, .int .i64 x181001_2, .int .i64 x181002_2] (0, 0) _ rfl (pt3_ BK181 _ _ _).out Tryz.underlying68 rfl (by kernel_rfl)) rfl ?_
        exact ⟨ex_, bb_⟩
      ·have c13b0 : decide (0 < x181002_2) = false := decide_eq_false c13
       clear c13; simp only [Option.some.injEq, Prod.mk.injEq] at H; obtain ⟨rfl, rfl, rfl⟩ := H; have hnb24 := NB180_181.out; have hnc24 := NB181_180.out; obtain ⟨hcz25_0, hcz25_1, hcz25_2⟩ := zdT BK180.out; obtain ⟨hfz25_0, hfz25_1, hfz25_2⟩ := zqD BK180.out; obtain ⟨hcz26_0, hcz26_1, hcz26_2⟩ := zdT BK181.out; obtain ⟨hfz26_0, hfz26_1, hfz26_2⟩ := zqD BK181.out
       go_wp2
       refine bodyPost_ret (results_cell_row rfl _ _ gb181 68 #[.int .i64 x181000_2, .int .i64 x181001_2, .int .i64 x181002_2] (0, 0) _ rfl (pt3_ BK181 _ _ _).out Tryz.underlying68 rfl (by kernel_rfl)) rfl ?_
       exact ⟨ex_, bb_⟩

end Go.Proofs.YtehghobmmpihfaaGreatDoor.PFnExactReadPolygon
