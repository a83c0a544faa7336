-- Printed for this claim by this session's program pp.py, which drives the kit's print with additions. Not trusted: Lean checks it.
import Derived.Test.YtbkcmdccomngnaaDoorV2PFnExactReadPointx0
namespace Go.Proofs.YtbkcmdccomngnaaDoor.PFnExactReadPoint
open Go.RowKit Go.Proofs.YtbkcmdccomngnaaDoorW.PrintWords Go.Proofs.YtbkcmdccomngnaaDoorW.PrintLast Go.Proofs.YtbkcmdccomngnaaDoorW.PrintMore
attribute [local go_sem] zbB ziA max_two min_two znE zuA znH zkT   -- for this text's walks alone
set_option linter.unusedVariables false
set_option maxHeartbeats 8000000
set_option maxRecDepth 100000
set_option linter.unusedSimpArgs false

def LaidV3 (w : World) : Prop := Lib.TabIs Tryd.prog w "internal/strconv.uint64pow10" .u64 Lib.pow10Tab
theorem LaidV3.below {w w' : World} (h : LaidV3 w) (hB : Below w.heap.size w w') : LaidV3 w' := by
 unfold LaidV3 Lib.TabIs World.var? at h ⊢
 cases hg : Tryd.prog.globalNamed "internal/strconv.uint64pow10" with
 | none => rw [hg] at h; cases h
 | some g =>
  rw [hg] at h
  simp only [Option.bind_some] at h ⊢
  have hlt : g < w.heap.size := by
   cases hh : w.heap[g]? with
   | none => rw [hh] at h; cases h
   | some o => exact (Array.getElem?_eq_some_iff.1 hh).1
  rw [hB.block g hlt]
  exact h
def LaidV2 (w : World) : Prop := ∃ v, w.cell? ⟨2, 0, none⟩ = some v ∧ (v = .nilIface ∨ ∃ te pe, v = .iface te pe)
theorem LaidV2.below {w w' : World} (h : LaidV2 w) (hB : Below w.heap.size w w') : LaidV2 w' := by
 obtain ⟨m, hm, h2⟩ := h
 exact ⟨m, (hB.cell (World.block_lt_of_cell? w _ hm)).trans hm, h2⟩
def LaidV1 (w : World) : Prop := ∃ v, w.cell? ⟨1, 0, none⟩ = some v ∧ (v = .nilIface ∨ ∃ te pe, v = .iface te pe)
theorem LaidV1.below {w w' : World} (h : LaidV1 w) (hB : Below w.heap.size w w') : LaidV1 w' := by
 obtain ⟨m, hm, h2⟩ := h
 exact ⟨m, (hB.cell (World.block_lt_of_cell? w _ hm)).trans hm, h2⟩
def LaidV4 (w : World) : Prop := Lib.Utf8Tabs 4 5 w
theorem LaidV4.below {w w' : World} (h : LaidV4 w) (hB : Below w.heap.size w w') : LaidV4 w' := Utf8Tabs_below h hB
def LaidV0 (w : World) : Prop := ∃ m : Int, w.cell? ⟨0, 0, none⟩ = some (.int .i64 m)
theorem LaidV0.below {w w' : World} (h : LaidV0 w) (hB : Below w.heap.size w w') : LaidV0 w' := by
 obtain ⟨m, hm⟩ := h
 exact ⟨m, (hB.cell (World.block_lt_of_cell? w _ hm)).trans hm⟩
structure LaidV (w : World) : Prop where
 v3 : LaidV3 w
 v2 : LaidV2 w
 v1 : LaidV1 w
 v4 : LaidV4 w
 v0 : LaidV0 w
theorem LaidV.below {w w' : World} (h : LaidV w) (hB : Below w.heap.size w w') : LaidV w' := ⟨LaidV3.below h.v3 hB, LaidV2.below h.v2 hB, LaidV1.below h.v1 hB, LaidV4.below h.v4 hB, LaidV0.below h.v0 hB⟩

def strings_Cut.f (a0 a1 : ByteArray) : Option (ByteArray × ByteArray × Bool) := if a0.size < 4294967281 then some (⟨(Lib.cut a0.data.toList a1.data.toList).1.toArray⟩, ⟨(Lib.cut a0.data.toList a1.data.toList).2.1.toArray⟩, (Lib.cut a0.data.toList a1.data.toList).2.2) else none
theorem strings_Cut.calls (a0 a1 : ByteArray) (r1 r2 : ByteArray) (r3 : Bool) (w : World) (hG : LaidV w) (h : strings_Cut.f a0 a1 = some (r1, r2, r3)) :
  Calls Tryd.prog 22 #[.string a0, .string a1] w fun e w' => e = .returned (.tuple #[.string r1, .string r2, .bool r3]) ∧ Drawn0 w w' := by
 unfold strings_Cut.f at h
 by_cases h1 : a0.size < 4294967281
 ·rw [if_pos h1] at h
  simp only [Option.some.injEq, Prod.mk.injEq] at h
  obtain ⟨rfl, rfl, rfl⟩ := h
  obtain ⟨m, hm⟩ := hG.v0
  refine (Tryd.strings_Cut a0 a1 m w h1 hm).mono ?_
  rintro e w' ⟨rfl, n, rfl⟩
  exact ⟨rfl, n, rfl⟩
 ·rw [if_neg h1] at h; cases h

def zkI.f (a0 : ByteArray) : Option (Int × Bool) := if a0.size ≤ 281474976710656 then (match Lib.parseIntB 64 a0.data.toList with | .ok v => if -9223372036854775808 ≤ v ∧ v ≤ 9223372036854775807 then some (v, Lib.itoa v == a0.toList) else none | .range => some (Lib.intSat 64 a0.data.toList, false) | _ => some (0, false)) else none
theorem impl_readNumber_fmt (v : Int) (h0 : -9223372036854775808 ≤ v) (h1 : v ≤ 9223372036854775807) (w W : World) (hG : LaidV w) (hB : Below w.heap.size w W) :
  Calls Tryd.prog 56 #[.int .i64 v, .int .i64 10] W fun e w' => e = .returned (.string ⟨(Lib.itoa v).toArray⟩) ∧ Below w.heap.size w w' := by
 refine (Tryd.strconv_FormatInt_10 v h0 h1 W (LaidV.below hG hB).v3).mono ?_
 rintro e w' ⟨rfl, k, os, rfl⟩
 exact ⟨rfl, hB.trans ((show Below W.heap.size W («Sort».grow (W.drewN k) os) from ⟨rfl, rfl, rfl, by show W.heap.size ≤ (W.heap ++ os).size; rw [Array.size_append]; omega, fun i hi => Array.getElem?_append_left hi⟩).mono hB.size)⟩
theorem impl_readNumber_dec (v : Int) (h0 : -9223372036854775808 ≤ v) (h1 : v ≤ 9223372036854775807) (w W : World) (hG : LaidV w) (hB : Below w.heap.size w W) :
  Calls Tryd.prog 42 #[.int .i64 v] W fun e w' => e = .returned (.string ⟨(Lib.itoa v).toArray⟩) ∧ Below w.heap.size w w' := by
 have HB := zpS hB
 have V0 := zpS h0
 have V1 := zpS h1
 clear hB h0 h1
 go_enter Tryd.func42, Tryd.ntmps42
 go_wp2_with (go_at_call 56; (refine (impl_readNumber_fmt v V0.out V1.out w _ hG HB.out).mono ?_); rintro e w' ⟨rfl, hw⟩; clear HB; have HB := zpS hw; clear hw)
 go_ret
 exact ⟨rfl, HB.out⟩
theorem impl_readNumber_bad (s : ByteArray) (h0 : s.size ≤ 281474976710656) (v : Int) (hv : (Lib.parseIntB 64 s.data.toList = Lib.parseIntB 64 [] ∧ v = 0) ∨ (Lib.parseIntB 64 s.data.toList = .range ∧ v = Lib.intSat 64 s.data.toList)) (w : World) (hG : LaidV w) :
  Calls Tryd.prog 41 #[.string s, .int .i64 10, .int .i64 64] w fun e w' => ∃ te pe, e = .returned (.tuple #[.int .i64 v, .iface te pe]) ∧ Below w.heap.size w w' := by
 rcases hv with ⟨hp, rfl⟩ | ⟨hp, rfl⟩
 ·obtain ⟨ev, h1, h2⟩ := hG.v1
  exact (Tryd.strconv_ParseInt_10_at64_syntax s h0 hp ev w h1 h2).mono (by rintro e w' ⟨N, rfl, _, _, hb⟩; exact ⟨_, _, rfl, hb⟩)
 ·obtain ⟨ev, h1, h2⟩ := hG.v2
  exact (Tryd.strconv_ParseInt_10_at64_range s h0 hp ev w h1 h2).mono (by rintro e w' ⟨N, rfl, _, _, hb⟩; exact ⟨_, _, rfl, hb⟩)
theorem impl_readNumber_good (s : ByteArray) (h0 : s.size ≤ 281474976710656) (v : Int) (hp : Lib.parseIntB 64 s.data.toList = .ok v) (w : World) :
  Calls Tryd.prog 41 #[.string s, .int .i64 10, .int .i64 64] w fun e w' => e = .returned (.tuple #[.int .i64 v, .nilIface]) ∧ Below w.heap.size w w' :=
 (Tryd.strconv_ParseInt_10_at64_ok s (by omega) v hp w).mono (by
  rintro e w' ⟨rfl, rfl | ⟨t, rfl⟩⟩
  ·exact ⟨rfl, Below.refl _ _⟩
  ·exact ⟨rfl, rfl, rfl, rfl, by rw [Lib.bytesWorld_size]; omega, fun k hk => Lib.bytesWorld_at_old w _ _ k (by omega)⟩)
theorem impl_readNumber_no (a0 : ByteArray) (v : Int) (w : World) (hG : LaidV w) (h1 : a0.size ≤ 281474976710656) (hv : (Lib.parseIntB 64 a0.data.toList = Lib.parseIntB 64 [] ∧ v = 0) ∨ (Lib.parseIntB 64 a0.data.toList = .range ∧ v = Lib.intSat 64 a0.data.toList)) :
  Calls Tryd.prog 23 #[.string a0] w fun e w' => e = .returned (.tuple #[.int .i64 v, .bool false]) ∧ Below w.heap.size w w' := by
 have HP := zpS hv
 have H1 := zpS h1
 clear hv h1
 go_enter Tryd.func23, Tryd.ntmps23
 go_wp2_with (first | (go_at_call 41; (refine (impl_readNumber_bad a0 H1.out v HP.out w hG).mono ?_); rintro e w' ⟨te, pe, rfl, hw⟩; have HB := zpS hw; clear hw))
 go_ret2
 exact ⟨rfl, HB.out⟩
theorem zkI.calls (a0 : ByteArray) (r1 : Int) (r2 : Bool) (w : World) (hG : LaidV w) (h : zkI.f a0 = some (r1, r2)) :
  Calls Tryd.prog 23 #[.string a0] w fun e w' => e = .returned (.tuple #[.int .i64 r1, .bool r2]) ∧ Below w.heap.size w w' := by
 unfold zkI.f at h
 by_cases h1 : a0.size ≤ 281474976710656
 ·rw [if_pos h1] at h
  cases hp : Lib.parseIntB 64 a0.data.toList with
  | ok v =>
   rw [hp] at h
   dsimp only at h
   by_cases hv : -9223372036854775808 ≤ v ∧ v ≤ 9223372036854775807
   ·rw [if_pos hv] at h
    simp only [Option.some.injEq, Prod.mk.injEq] at h
    obtain ⟨rfl, rfl⟩ := h
    obtain ⟨v0, v1⟩ := hv
    have HP := zpS hp
    have H1 := zpS h1
    have V0 := zpS v0
    have V1 := zpS v1
    clear hp h1 v0 v1
    go_enter Tryd.func23, Tryd.ntmps23
    go_wp2_with (first | (go_at_call 41; (refine (impl_readNumber_good a0 H1.out v HP.out w).mono ?_); rintro e w' ⟨rfl, hw⟩; have HB := zpS hw; clear hw) | (go_at_call 42; (refine (impl_readNumber_dec v V0.out V1.out w _ hG HB.out).mono ?_); rintro e w' ⟨rfl, hw⟩; clear HB; have HB := zpS hw; clear hw))
    go_ret2
    exact ⟨rfl, HB.out⟩
   ·rw [if_neg hv] at h; cases h
  | range =>
   rw [hp] at h
   simp only [Option.some.injEq, Prod.mk.injEq] at h
   obtain ⟨rfl, rfl⟩ := h
   exact impl_readNumber_no a0 _ w hG h1 (Or.inr ⟨hp, rfl⟩)
  | _ =>
   rw [hp] at h
   simp only [Option.some.injEq, Prod.mk.injEq] at h
   obtain ⟨rfl, rfl⟩ := h
   exact impl_readNumber_no a0 _ w hG h1 (Or.inl ⟨hp, rfl⟩)
 ·rw [if_neg h1] at h; cases h

def bits_Len64.f (a0 : Int) : Option Int := if 0 ≤ a0 ∧ a0 ≤ 18446744073709551615 then some (Lib.bitLen a0.toNat : Int) else none
theorem bits_Len64.calls (a0 : Int) (r : Int) (w : World) (h : bits_Len64.f a0 = some r) :
  Calls Tryd.prog 24 #[.int .u64 a0] w fun e w' => e = .returned (.int .i64 r) ∧ Drawn0 w w' := by
 unfold bits_Len64.f at h
 by_cases h1 : 0 ≤ a0 ∧ a0 ≤ 18446744073709551615
 ·rw [if_pos h1] at h
  obtain rfl := Option.some.inj h
  refine (Tryd.bits_Len64 a0 w h1.1 h1.2).mono ?_
  rintro e w' ⟨rfl, rfl⟩
  exact ⟨rfl, Drawn0.refl _⟩
 ·rw [if_neg h1] at h; cases h

def stringslite_HasPrefix.f (a0 : ByteArray) (a1 : ByteArray) : Option (Bool) := if (a0.size : Int) ≥ (a1.size : Int) then (if 0 ≤ (a1.size : Int) then (if (a1.size : Int) ≤ (a0.size : Int) then (some ((a0.extract 0 ((a1.size : Int) : Int).toNat).toList == a1.toList)) else (none)) else (none)) else (some false)
theorem stringslite_HasPrefix.calls (a0 : ByteArray) (a1 : ByteArray) (r : Bool) (w : World) (h : stringslite_HasPrefix.f a0 a1 = some r) :
  Calls Tryd.prog 63 #[.string a0, .string a1] w fun e w' => e = .returned (.bool r) ∧ Drawn0 w w' := by
 have H : (if (a0.size : Int) ≥ (a1.size : Int) then (if 0 ≤ (a1.size : Int) then (if (a1.size : Int) ≤ (a0.size : Int) then (some ((a0.extract 0 ((a1.size : Int) : Int).toNat).toList == a1.toList)) else (none)) else (none)) else (some false)) = some r := h
 clear h
 by_cases c3 : (a0.size : Int) ≥ (a1.size : Int)
 ·rw [if_pos c3] at H
  have c3b0 : decide ((a1.size : Int) ≤ (a0.size : Int)) = true := decide_eq_true c3
  have c3b1 : decide (a1.size ≤ a0.size) = true := decide_eq_true (Int.ofNat_le.mp c3)
  clear c3
  by_cases c4 : 0 ≤ (a1.size : Int)
  ·rw [if_pos c4] at H
   have c4b0 := eq_true c4
   have c4b1 : decide (0 ≤ (a1.size : Int)) = true := decide_eq_true c4
   clear c4
   by_cases c5 : (a1.size : Int) ≤ (a0.size : Int)
   ·rw [if_pos c5] at H
    have c5b0 := eq_true c5
    have c5b1 : decide ((a1.size : Int) ≤ (a0.size : Int)) = true := decide_eq_true c5
    clear c5
    obtain rfl := Option.some.inj H
    go_enter Tryd.func63, Tryd.ntmps63
    go_wp2
    go_ret
    exact ⟨by first | rfl | (simp; done) | (simp [*]; done), by repeat (first | exact Drawn0.refl _ | apply Drawn0.step)⟩
   ·rw [if_neg c5] at H
    exact absurd H (by simp)
  ·rw [if_neg c4] at H
   exact absurd H (by simp)
 ·rw [if_neg c3] at H
  have c3b0 : decide ((a1.size : Int) ≤ (a0.size : Int)) = false := decide_eq_false c3
  have c3b1 : decide (a1.size ≤ a0.size) = false := decide_eq_false (fun h => c3 (Int.ofNat_le.mpr h))
  clear c3
  obtain rfl := Option.some.inj H
  go_enter Tryd.func63, Tryd.ntmps63
  go_wp2
  go_ret
  exact ⟨by first | rfl | (simp; done) | (simp [*]; done), by repeat (first | exact Drawn0.refl _ | apply Drawn0.step)⟩

def stringslite_TrimPrefix.f (a0 : ByteArray) (a1 : ByteArray) : Option (ByteArray) := (stringslite_HasPrefix.f a0 a1).bind fun t171 => (if t171 = true then (if 0 ≤ (a1.size : Int) then (if (a1.size : Int) ≤ (a0.size : Int) then (some (a0.extract ((a1.size : Int) : Int).toNat a0.size)) else (none)) else (none)) else (some a0))
theorem stringslite_TrimPrefix.calls (a0 : ByteArray) (a1 : ByteArray) (r : ByteArray) (w : World) (h : stringslite_TrimPrefix.f a0 a1 = some r) :
  Calls Tryd.prog 45 #[.string a0, .string a1] w fun e w' => e = .returned (.string r) ∧ Drawn0 w w' := by
 have H : ((stringslite_HasPrefix.f a0 a1).bind fun t171 => (if t171 = true then (if 0 ≤ (a1.size : Int) then (if (a1.size : Int) ≤ (a0.size : Int) then (some (a0.extract ((a1.size : Int) : Int).toNat a0.size)) else (none)) else (none)) else (some a0))) = some r := h
 clear h
 replace H := Option.bind_eq_some_iff.mp H
 obtain ⟨t171, A30, H⟩ := H
 replace H : (if t171 = true then (if 0 ≤ (a1.size : Int) then (if (a1.size : Int) ≤ (a0.size : Int) then (some (a0.extract ((a1.size : Int) : Int).toNat a0.size)) else (none)) else (none)) else (some a0)) = some r := H
 have A3 := zpS A30
 clear A30
 by_cases c4 : t171 = true
 ·subst c4
  have H1 : (if 0 ≤ (a1.size : Int) then (if (a1.size : Int) ≤ (a0.size : Int) then (some (a0.extract ((a1.size : Int) : Int).toNat a0.size)) else (none)) else (none)) = some r := by rw [if_pos rfl] at H; exact H
  clear H
  have H := H1
  clear H1
  by_cases c5 : 0 ≤ (a1.size : Int)
  ·rw [if_pos c5] at H
   have c5b0 := eq_true c5
   have c5b1 : decide (0 ≤ (a1.size : Int)) = true := decide_eq_true c5
   clear c5
   by_cases c6 : (a1.size : Int) ≤ (a0.size : Int)
   ·rw [if_pos c6] at H
    have c6b0 := eq_true c6
    have c6b1 : decide ((a1.size : Int) ≤ (a0.size : Int)) = true := decide_eq_true c6
    clear c6
    obtain rfl := Option.some.inj H
    go_enter Tryd.func45, Tryd.ntmps45
    go_wp2_with (first | ((with_reducible refine zgK (f := 63) rfl ?_); refine zqQ (some 7) rfl rfl Tryd.func63 (by kernel_rfl) rfl #[.string a0, .string a1] rfl (by (try simp only [List.map_toArray, List.map_cons, List.map_nil]); first | done | rfl | (simp only [List.length_drop, List.length_take]; rfl)) ?_; (with_reducible refine (stringslite_HasPrefix.calls a0 a1 true _ A3.out).mono ?_); rintro e w' ⟨rfl, ⟨nd, rfl⟩⟩; refine ⟨_, rfl, ?_⟩))
    go_ret
    exact ⟨by first | rfl | (simp; done) | (simp [*]; done), by repeat (first | exact Drawn0.refl _ | apply Drawn0.step)⟩
   ·rw [if_neg c6] at H
    exact absurd H (by simp)
  ·rw [if_neg c5] at H
   exact absurd H (by simp)
 ·replace c4 := Bool.eq_false_iff.mpr c4
  subst c4
  have H1 : (some a0) = some r := by rw [if_neg (show ¬ (false = true) by decide)] at H; exact H
  clear H
  have H := H1
  clear H1
  obtain rfl := Option.some.inj H
  go_enter Tryd.func45, Tryd.ntmps45
  go_wp2_with (first | ((with_reducible refine zgK (f := 63) rfl ?_); refine zqQ (some 7) rfl rfl Tryd.func63 (by kernel_rfl) rfl #[.string a0, .string a1] rfl (by (try simp only [List.map_toArray, List.map_cons, List.map_nil]); first | done | rfl | (simp only [List.length_drop, List.length_take]; rfl)) ?_; (with_reducible refine (stringslite_HasPrefix.calls a0 a1 false _ A3.out).mono ?_); rintro e w' ⟨rfl, ⟨nd, rfl⟩⟩; refine ⟨_, rfl, ?_⟩))
  go_ret
  exact ⟨by first | rfl | (simp; done) | (simp [*]; done), by repeat (first | exact Drawn0.refl _ | apply Drawn0.step)⟩

def zjE.f (a0 : ByteArray) (a1 : ByteArray) : Option (ByteArray) := (stringslite_TrimPrefix.f a0 a1).bind fun t172 => (some t172)
theorem zjE.calls (a0 : ByteArray) (a1 : ByteArray) (r : ByteArray) (w : World) (h : zjE.f a0 a1 = some r) :
  Calls Tryd.prog 27 #[.string a0, .string a1] w fun e w' => e = .returned (.string r) ∧ Drawn0 w w' := by
 have H : ((stringslite_TrimPrefix.f a0 a1).bind fun t172 => (some t172)) = some r := h
 clear h
 replace H := Option.bind_eq_some_iff.mp H
 obtain ⟨t172, A30, H⟩ := H
 replace H : (some t172) = some r := H
 have A3 := zpS A30
 clear A30
 obtain rfl := Option.some.inj H
 go_enter Tryd.func27, Tryd.ntmps27
 go_wp2_with (first | ((with_reducible refine zgK (f := 45) rfl ?_); refine zqQ (some 7) rfl rfl Tryd.func45 (by kernel_rfl) rfl #[.string a0, .string a1] rfl (by (try simp only [List.map_toArray, List.map_cons, List.map_nil]); first | done | rfl | (simp only [List.length_drop, List.length_take]; rfl)) ?_; (with_reducible refine (stringslite_TrimPrefix.calls a0 a1 t172 _ A3.out).mono ?_); rintro e w' ⟨rfl, ⟨nd, rfl⟩⟩; refine ⟨_, rfl, ?_⟩))
 go_ret
 exact ⟨by first | rfl | (simp; done) | (simp [*]; done), by repeat (first | exact Drawn0.refl _ | apply Drawn0.step)⟩

def stringslite_HasSuffix.f (a0 : ByteArray) (a1 : ByteArray) : Option (Bool) := if (a0.size : Int) ≥ (a1.size : Int) then (if 0 ≤ (wrap64 ((a0.size : Int) - (a1.size : Int))) then (if (wrap64 ((a0.size : Int) - (a1.size : Int))) ≤ (a0.size : Int) then (some ((a0.extract ((wrap64 ((a0.size : Int) - (a1.size : Int))) : Int).toNat a0.size).toList == a1.toList)) else (none)) else (none)) else (some false)
theorem stringslite_HasSuffix.calls (a0 : ByteArray) (a1 : ByteArray) (r : Bool) (w : World) (h : stringslite_HasSuffix.f a0 a1 = some r) :
  Calls Tryd.prog 62 #[.string a0, .string a1] w fun e w' => e = .returned (.bool r) ∧ Drawn0 w w' := by
 have H : (if (a0.size : Int) ≥ (a1.size : Int) then (if 0 ≤ (wrap64 ((a0.size : Int) - (a1.size : Int))) then (if (wrap64 ((a0.size : Int) - (a1.size : Int))) ≤ (a0.size : Int) then (some ((a0.extract ((wrap64 ((a0.size : Int) - (a1.size : Int))) : Int).toNat a0.size).toList == a1.toList)) else (none)) else (none)) else (some false)) = some r := h
 clear h
 by_cases c3 : (a0.size : Int) ≥ (a1.size : Int)
 ·rw [if_pos c3] at H
  have c3b0 : decide ((a1.size : Int) ≤ (a0.size : Int)) = true := decide_eq_true c3
  have c3b1 : decide (a1.size ≤ a0.size) = true := decide_eq_true (Int.ofNat_le.mp c3)
  clear c3
  obtain ⟨ji4, hji4⟩ : ∃ j_ : Int, (wrap64 ((a0.size : Int) - (a1.size : Int))) = j_ := ⟨_, rfl⟩
  replace H : (if 0 ≤ (ji4) then (if (ji4) ≤ (a0.size : Int) then (some ((a0.extract ((ji4) : Int).toNat a0.size).toList == a1.toList)) else (none)) else (none)) = some r := by first | (rw [hji4] at H; exact H) | (simp only [hji4] at H ⊢; exact H)
  have hji4w : (IntKind.i64.wrap ((a0.size : Int) - (a1.size : Int))) = ji4 := (zcN _).trans hji4
  by_cases c5 : 0 ≤ (ji4)
  ·rw [if_pos c5] at H
   have c5b0 := eq_true c5
   have c5b1 : decide (0 ≤ (ji4)) = true := decide_eq_true c5
   clear c5
   by_cases c6 : (ji4) ≤ (a0.size : Int)
   ·rw [if_pos c6] at H
    have c6b0 := eq_true c6
    have c6b1 : decide ((ji4) ≤ (a0.size : Int)) = true := decide_eq_true c6
    clear c6
    obtain rfl := Option.some.inj H
    go_enter Tryd.func62, Tryd.ntmps62
    go_wp2
    go_ret
    exact ⟨by first | rfl | (simp; done) | (simp only [← hji4] <;> (first | rfl | simp)) | (simp [*]; done), by repeat (first | exact Drawn0.refl _ | apply Drawn0.step)⟩
   ·rw [if_neg c6] at H
    exact absurd H (by simp)
  ·rw [if_neg c5] at H
   exact absurd H (by simp)
 ·rw [if_neg c3] at H
  have c3b0 : decide ((a1.size : Int) ≤ (a0.size : Int)) = false := decide_eq_false c3
  have c3b1 : decide (a1.size ≤ a0.size) = false := decide_eq_false (fun h => c3 (Int.ofNat_le.mpr h))
  clear c3
  obtain rfl := Option.some.inj H
  go_enter Tryd.func62, Tryd.ntmps62
  go_wp2
  go_ret
  exact ⟨by first | rfl | (simp; done) | (simp [*]; done), by repeat (first | exact Drawn0.refl _ | apply Drawn0.step)⟩

def stringslite_CutSuffix.f (a0 : ByteArray) (a1 : ByteArray) : Option (ByteArray × Bool) := (stringslite_HasSuffix.f a0 a1).bind fun t173 => (if t173 = true then (if 0 ≤ (wrap64 ((a0.size : Int) - (a1.size : Int))) then (if (wrap64 ((a0.size : Int) - (a1.size : Int))) ≤ (a0.size : Int) then (some (a0.extract 0 ((wrap64 ((a0.size : Int) - (a1.size : Int))) : Int).toNat, true)) else (none)) else (none)) else (some (a0, false)))
theorem stringslite_CutSuffix.calls (a0 : ByteArray) (a1 : ByteArray) (r1 : ByteArray) (r2 : Bool) (w : World) (h : stringslite_CutSuffix.f a0 a1 = some (r1, r2)) :
  Calls Tryd.prog 49 #[.string a0, .string a1] w fun e w' => e = .returned (.tuple #[.string r1, .bool r2]) ∧ Drawn0 w w' := by
 have H : ((stringslite_HasSuffix.f a0 a1).bind fun t173 => (if t173 = true then (if 0 ≤ (wrap64 ((a0.size : Int) - (a1.size : Int))) then (if (wrap64 ((a0.size : Int) - (a1.size : Int))) ≤ (a0.size : Int) then (some (a0.extract 0 ((wrap64 ((a0.size : Int) - (a1.size : Int))) : Int).toNat, true)) else (none)) else (none)) else (some (a0, false)))) = some (r1, r2) := h
 clear h
 replace H := Option.bind_eq_some_iff.mp H
 obtain ⟨t173, A30, H⟩ := H
 replace H : (if t173 = true then (if 0 ≤ (wrap64 ((a0.size : Int) - (a1.size : Int))) then (if (wrap64 ((a0.size : Int) - (a1.size : Int))) ≤ (a0.size : Int) then (some (a0.extract 0 ((wrap64 ((a0.size : Int) - (a1.size : Int))) : Int).toNat, true)) else (none)) else (none)) else (some (a0, false))) = some (r1, r2) := H
 have A3 := zpS A30
 clear A30
 by_cases c4 : t173 = true
 ·subst c4
  have H1 : (if 0 ≤ (wrap64 ((a0.size : Int) - (a1.size : Int))) then (if (wrap64 ((a0.size : Int) - (a1.size : Int))) ≤ (a0.size : Int) then (some (a0.extract 0 ((wrap64 ((a0.size : Int) - (a1.size : Int))) : Int).toNat, true)) else (none)) else (none)) = some (r1, r2) := by rw [if_pos rfl] at H; exact H
  clear H
  have H := H1
  clear H1
  obtain ⟨ji5, hji5⟩ : ∃ j_ : Int, (wrap64 ((a0.size : Int) - (a1.size : Int))) = j_ := ⟨_, rfl⟩
  replace H : (if 0 ≤ (ji5) then (if (ji5) ≤ (a0.size : Int) then (some (a0.extract 0 ((ji5) : Int).toNat, true)) else (none)) else (none)) = some (r1, r2) := by first | (rw [hji5] at H; exact H) | (simp only [hji5] at H ⊢; exact H)
  (try rw [hji5] at A3)
  have hji5w : (IntKind.i64.wrap ((a0.size : Int) - (a1.size : Int))) = ji5 := (zcN _).trans hji5
  by_cases c6 : 0 ≤ (ji5)
  ·rw [if_pos c6] at H
   have c6b0 := eq_true c6
   have c6b1 : decide (0 ≤ (ji5)) = true := decide_eq_true c6
   clear c6
   by_cases c7 : (ji5) ≤ (a0.size : Int)
   ·rw [if_pos c7] at H
    have c7b0 := eq_true c7
    have c7b1 : decide ((ji5) ≤ (a0.size : Int)) = true := decide_eq_true c7
    clear c7
    simp only [Option.some.injEq, Prod.mk.injEq] at H
    obtain ⟨rfl, rfl⟩ := H
    go_enter Tryd.func49, Tryd.ntmps49
    go_wp2_with (first | ((with_reducible refine zgK (f := 62) rfl ?_); refine zqQ (some 8) rfl rfl Tryd.func62 (by kernel_rfl) rfl #[.string a0, .string a1] rfl (by (try simp only [List.map_toArray, List.map_cons, List.map_nil]); first | done | rfl | (simp only [List.length_drop, List.length_take]; rfl)) ?_; (with_reducible refine (stringslite_HasSuffix.calls a0 a1 true _ A3.out).mono ?_); rintro e w' ⟨rfl, ⟨nd, rfl⟩⟩; refine ⟨_, rfl, ?_⟩))
    go_ret2
    exact ⟨by first | rfl | (simp; done) | (simp only [← hji5] <;> (first | rfl | simp)) | (simp [*]; done), by repeat (first | exact Drawn0.refl _ | apply Drawn0.step)⟩
   ·rw [if_neg c7] at H
    exact absurd H (by simp)
  ·rw [if_neg c6] at H
   exact absurd H (by simp)
 ·replace c4 := Bool.eq_false_iff.mpr c4
  subst c4
  have H1 : (some (a0, false)) = some (r1, r2) := by rw [if_neg (show ¬ (false = true) by decide)] at H; exact H
  clear H
  have H := H1
  clear H1
  simp only [Option.some.injEq, Prod.mk.injEq] at H
  obtain ⟨rfl, rfl⟩ := H
  go_enter Tryd.func49, Tryd.ntmps49
  go_wp2_with (first | ((with_reducible refine zgK (f := 62) rfl ?_); refine zqQ (some 8) rfl rfl Tryd.func62 (by kernel_rfl) rfl #[.string a0, .string a1] rfl (by (try simp only [List.map_toArray, List.map_cons, List.map_nil]); first | done | rfl | (simp only [List.length_drop, List.length_take]; rfl)) ?_; (with_reducible refine (stringslite_HasSuffix.calls a0 a1 false _ A3.out).mono ?_); rintro e w' ⟨rfl, ⟨nd, rfl⟩⟩; refine ⟨_, rfl, ?_⟩))
  go_ret2
  exact ⟨by first | rfl | (simp; done) | (simp [*]; done), by repeat (first | exact Drawn0.refl _ | apply Drawn0.step)⟩

def zlW.f (a0 : ByteArray) (a1 : ByteArray) : Option (ByteArray × Bool) := (stringslite_CutSuffix.f a0 a1).bind fun bt174 => (some (bt174.1, bt174.2))
theorem zlW.calls (a0 : ByteArray) (a1 : ByteArray) (r1 : ByteArray) (r2 : Bool) (w : World) (h : zlW.f a0 a1 = some (r1, r2)) :
  Calls Tryd.prog 34 #[.string a0, .string a1] w fun e w' => e = .returned (.tuple #[.string r1, .bool r2]) ∧ Drawn0 w w' := by
 have H : ((stringslite_CutSuffix.f a0 a1).bind fun bt174 => (some (bt174.1, bt174.2))) = some (r1, r2) := h
 clear h
 replace H := Option.bind_eq_some_iff.mp H
 obtain ⟨⟨t174, t175⟩, A30, H⟩ := H
 replace H : (some (t174, t175)) = some (r1, r2) := H
 have A3 := zpS A30
 clear A30
 simp only [Option.some.injEq, Prod.mk.injEq] at H
 obtain ⟨rfl, rfl⟩ := H
 go_enter Tryd.func34, Tryd.ntmps34
 go_wp2_with (first | ((with_reducible refine zgK (f := 49) rfl ?_); refine zqQ (some 8) rfl rfl Tryd.func49 (by kernel_rfl) rfl #[.string a0, .string a1] rfl (by (try simp only [List.map_toArray, List.map_cons, List.map_nil]); first | done | rfl | (simp only [List.length_drop, List.length_take]; rfl)) ?_; (with_reducible refine (stringslite_CutSuffix.calls a0 a1 t174 t175 _ A3.out).mono ?_); rintro e w' ⟨rfl, ⟨nd, rfl⟩⟩; refine ⟨_, rfl, ?_⟩))
 go_ret2
 exact ⟨by first | rfl | (simp; done) | (simp [*]; done), by repeat (first | exact Drawn0.refl _ | apply Drawn0.step)⟩

def zwV (b : UInt8) : Bool := b == 43 || b == 45
def zhK (l : List UInt8) : Nat → Int
 | 0 => -1
 | i + 1 => if zwV (l.getD i 0) = true then (i : Int) else zhK l i
def zrT (l : List UInt8) : Nat → Nat → Int
 | 0, _ => -1
 | f + 1, i => if i = 0 then -1 else if (Lib.decodeLastL (l.take i)).1 = 43 ∨ (Lib.decodeLastL (l.take i)).1 = 45 then ((i - (Lib.decodeLastL (l.take i)).2 : Nat) : Int) else zrT l f (i - (Lib.decodeLastL (l.take i)).2)
def zmH.f (a0 a1 : ByteArray) : Option Int := if a1 = ⟨#[43, 45]⟩ ∧ a0.size ≤ 1048576 then some (if a0.size = 1 then (if zwV (a0.data.toList.getD 0 0) = true then 0 else -1) else if 8 < a0.size then zhK a0.data.toList a0.size else zrT a0.data.toList (a0.size + 1) a0.size) else none
theorem strings_LastIndexAny_enc (r : Int) (h0 : 128 ≤ r) : ∃ l : List UInt8, ∃ x : UInt8, Utf8.encode r = ⟨(l ++ [x]).toArray⟩ ∧ 1 ≤ l.length ∧ l.length ≤ 3 ∧ 128 ≤ x.toNat := by
 obtain ⟨c, hc⟩ : ∃ c : Nat, c = if Utf8.valid r = true then r.toNat else Utf8.runeError := ⟨_, rfl⟩
 have h1 : 128 ≤ c := by
  rw [hc]; split
  ·omega
  ·decide
 have hx : 128 ≤ (UInt8.ofNat (128 + c % 64)).toNat := by
  have : (UInt8.ofNat (128 + c % 64)).toNat = 128 + c % 64 := by simp; omega
  omega
 unfold Utf8.encode
 dsimp only
 rw [← hc, if_neg (by omega)]
 split
 ·exact ⟨[UInt8.ofNat (192 + c / 64)], _, rfl, by simp, by simp, hx⟩
 ·split
  ·exact ⟨[UInt8.ofNat (224 + c / 4096), UInt8.ofNat (128 + c / 64 % 64)], _, rfl, by simp, by simp, hx⟩
  ·exact ⟨[UInt8.ofNat (240 + c / 262144), UInt8.ofNat (128 + c / 4096 % 64), UInt8.ofNat (128 + c / 64 % 64)], _, rfl, by simp, by simp, hx⟩
theorem znY (w W : World) (hB : Below w.heap.size w W) :
  Calls Tryd.prog 57 #[.string ⟨#[43, 45]⟩, .int .i32 65533] W fun e w' => e = .returned (.int .i64 (-1)) ∧ Below w.heap.size w w' := by
 have HB := zpS hB
 clear hB
 go_enter Tryd.func57, Tryd.ntmps57
 go_wp2
 go_loopg [5, 6] 2 (fun g _ _ wx => ∃ i : Nat, Aside0 (i + g = 2) ∧ wx = W.iter ⟨#[43, 45]⟩ i)
 case atStart => exact ⟨0, ⟨rfl⟩, rfl⟩
 case round =>
  obtain ⟨i, HI, rfl⟩ := hrel
  have hi2 : i + gk = 2 := HI.out
  clear HI
  obtain rfl | rfl | rfl : i = 0 ∨ i = 1 ∨ i = 2 := by omega
  ·have hnx := fun ty => run_next_ascii (P := Tryd.prog) W ⟨#[43, 45]⟩ 0 ty (by decide) (by decide)
   go_wp2
   go_roundg 1
   case measure => omega
   case rel => exact ⟨1, ⟨rfl⟩, rfl⟩
  ·have hnx := fun ty => run_next_ascii (P := Tryd.prog) W ⟨#[43, 45]⟩ 1 ty (by decide) (by decide)
   go_wp2
   go_roundg 0
   case measure => omega
   case rel => exact ⟨2, ⟨rfl⟩, rfl⟩
  ·have hnx := run_next_end (P := Tryd.prog) W ⟨#[43, 45]⟩ 2
   go_wp2
   go_ret
   exact ⟨rfl, HB.out.alloc HB.out.size _⟩
theorem strings_LastIndexAny_ib (c : Int) (W : World) :
  Calls Tryd.prog 74 #[.string ByteArray.empty, .int .u8 c] W fun e w' => e = .returned (.int .i64 (-1)) ∧ ∃ m, w' = W.drewN m := by
 refine (Tryd.strings_IndexByte _ _ _).mono ?_
 rintro e w' ⟨rfl, rfl⟩
 exact ⟨by rfl, 0, by rfl⟩
theorem strings_LastIndexAny_high (r : Int) (h0 : 128 ≤ r) (h1 : r ≠ 65533) (w W : World) (hB : Below w.heap.size w W) :
  Calls Tryd.prog 57 #[.string ⟨#[43, 45]⟩, .int .i32 r] W fun e w' => e = .returned (.int .i64 (-1)) ∧ Below w.heap.size w w' := by
 obtain ⟨l, x, he, hl1, hl3, hx⟩ := strings_LastIndexAny_enc r h0
 have HB := zpS hB
 clear hB
 have c0 : decide (r < 128) = false := decide_eq_false (by omega)
 have c1 : decide (0 ≤ r) = true := decide_eq_true (by omega)
 have c2 : (r == 65533) = false := beq_eq_false_iff_ne.2 h1
 cases hv : Lib.validRune r with
 | false =>
  go_enter Tryd.func57, Tryd.ntmps57
  go_wp2_with (first | (go_at_call 75; (refine (Tryd.utf8_ValidRune r _).mono ?_); rintro e w' ⟨rfl, rfl⟩; rw [hv]))
  go_ret
  exact ⟨rfl, HB.out⟩
 | true =>
  obtain ⟨rs, hrs⟩ : ∃ rs : ByteArray, rs = Utf8.encode r := ⟨_, rfl⟩
  have hcv : ∀ w, (convert 21 9 (.int .i32 r)).run Tryd.prog w = .ok (.string rs) w := fun w => by rw [hrs]; exact run_convert_int_string w 21 9 .i32 r (by rw [Tryd.underlying21]; rfl) Tryd.underlying9
  rw [he] at hrs
  have hsz : rs.size = l.length + 1 := by rw [hrs]; show (l ++ [x]).toArray.size = _; simp
  have hlast : ∀ h : l.length < rs.size, rs[l.length]'h = x := by subst hrs; intro h; show (l ++ [x]).toArray[l.length] = x; simp
  clear hrs he c0
  by_cases e1 : l.length = 1
  ·rw [e1] at hsz hlast
   have hl1' := hlast (by omega)
   have hm : ((45 : Int) != (x.toNat : Int)) = true := bne_iff_ne.2 (by omega)
   have hm2 : (((((ByteArray.mk #[43, 45])[1]'(by decide)).toNat : Nat) : Int) != (x.toNat : Int)) = true := hm
   have c3 : decide ((1 : Int) < 2) = true := by decide
   go_enter Tryd.func57, Tryd.ntmps57
   go_wp2_with (first | (go_at_call 75; (refine (Tryd.utf8_ValidRune r _).mono ?_); rintro e w' ⟨rfl, rfl⟩; rw [hv]))
   refine wp_scope_straight ?_
   go_wp2
   go_loopg [9, 10, 11, 12] 0 (fun g v9 _ _ _ wx => v9 = .int .i64 1 ∧ wx = w')
   case atStart => exact ⟨rfl, rfl⟩
   case round =>
    obtain ⟨rfl, rfl⟩ := hrel
    have hw2 : IntKind.i64.wrap 2 = 2 := by decide
    have hs2 : (ByteArray.size ⟨#[43, 45]⟩ : Int) = 2 := by decide
    go_wp2
    refine wp_scope_straight ?_
    go_wp2
    go_quiet (fail)
    have n0_ := zpS (show Below w.heap.size w (wr.drewN nq) from by first | exact zkZ HB.out _ | exact zkZ HB.out)
    clear HB
    generalize wr.drewN nq = w2 at n0_ ⊢
    have HB := n0_
    clear n0_
    go_wp2
    go_quiet (first | (go_at_call 74; refine Calls.quiet_of (strings_LastIndexAny_ib _ _)))
    go_wp2
    rw [Exit.noGoto_ret]
    go_simp
    go_ret
    exact ⟨rfl, by repeat (first | exact HB.out | apply zkZ)⟩
  ·go_enter Tryd.func57, Tryd.ntmps57
   have c3 : decide ((l.length : Int) < 2) = false := decide_eq_false (by omega)
   go_wp2_with (first | (go_at_call 75; (refine (Tryd.utf8_ValidRune r _).mono ?_); rintro e w' ⟨rfl, rfl⟩; rw [hv]))
   refine wp_scope_straight ?_
   go_wp2
   go_loopg [9, 10, 11, 12] 0 (fun g v9 _ _ _ wx => v9 = .int .i64 l.length ∧ wx = w')
   case atStart => exact ⟨rfl, rfl⟩
   case round =>
    obtain ⟨rfl, rfl⟩ := hrel
    go_wp2
    rw [Exit.noGoto_ret]
    go_ret
    exact ⟨rfl, HB.out⟩
theorem strings_LastIndexAny_lowN : ∀ r : Nat, r < 128 → ¬ (r = 43 ∨ r = 45) → Lib.indexByte [43, 45] (UInt8.ofNat r) = -1 := by decide
theorem zmI (r : Int) (h0 : 0 ≤ r) (h : ¬ (r = 43 ∨ r = 45)) (w W : World) (hB : Below w.heap.size w W) :
  Calls Tryd.prog 57 #[.string ⟨#[43, 45]⟩, .int .i32 r] W fun e w' => e = .returned (.int .i64 (-1)) ∧ Below w.heap.size w w' := by
 by_cases h1 : r < 128
 ·refine (Tryd.strings_IndexRune_ascii _ r W h0 h1).mono ?_
  rintro e w' ⟨rfl, rfl⟩
  refine ⟨?_, hB⟩
  have := strings_LastIndexAny_lowN r.toNat (by omega) (by omega)
  rw [show Lib.indexByte (ByteArray.mk #[43, 45]).data.toList r.toNat.toUInt8 = -1 from this]
 ·by_cases h2 : r = 65533
  ·subst h2; exact znY w W hB
  ·exact strings_LastIndexAny_high r (by omega) h2 w W hB
theorem zdV (r : Int) (h : r = 43 ∨ r = 45) (w W : World) (hB : Below w.heap.size w W) :
  Calls Tryd.prog 57 #[.string ⟨#[43, 45]⟩, .int .i32 r] W fun e w' => ∃ x : Nat, e = .returned (.int .i64 (x : Int)) ∧ Below w.heap.size w w' := by
 refine (Tryd.strings_IndexRune_ascii _ r W (by omega) (by omega)).mono ?_
 rintro e w' ⟨rfl, rfl⟩
 rcases h with rfl | rfl
 ·exact ⟨0, rfl, hB⟩
 ·exact ⟨1, rfl, hB⟩
theorem strings_LastIndexAny_dl (l : List UInt8) (h : l ≠ []) : 1 ≤ (Lib.decodeLastL l).2 ∧ (Lib.decodeLastL l).2 ≤ l.length := by
 have hp : 1 ≤ l.length := by cases l with | nil => exact absurd rfl h | cons _ _ => simp
 have hs := Lib.lastStart_lt l h
 unfold Lib.decodeLastL
 rw [if_neg h]
 split
 ·exact ⟨Nat.le_refl _, hp⟩
 ·dsimp only
  split
  ·omega
  ·exact ⟨Nat.le_refl _, hp⟩
theorem strings_LastIndexAny_ascii : ∀ (j : Nat) (b : UInt8), ([43, 45] : List UInt8)[j]? = some b → b.toNat < 128 := by
 intro j b h
 have := List.mem_of_getElem? h
 simp only [List.mem_cons, List.not_mem_nil, or_false] at this
 rcases this with rfl | rfl <;> decide
theorem strings_LastIndexAny_sgc (x : UInt8) : ([43, 45] : List UInt8).contains x = zwV x := by
 unfold zwV
 simp only [List.contains_cons, List.contains_nil, Bool.or_false]
theorem zwG (x : UInt8) : (zwV x = true) ↔ (x.toNat = 43 ∨ x.toNat = 45) := by
 unfold zwV
 simp only [Bool.or_eq_true, beq_iff_eq, ← UInt8.toNat_inj]
 rfl
theorem strings_LastIndexAny_ext (s : ByteArray) (i : Nat) : (s.extract 0 i).data.toList = s.data.toList.take i := by
 rw [ByteArray.data_extract, Array.toList_extract]; simp
set_option maxRecDepth 1000000 in
theorem strings_LastIndexAny_long (s : ByteArray) (w : World) (h8 : 8 < s.size) (hs : s.size ≤ 1048576) :
  Calls Tryd.prog 43 #[.string s, .string ⟨#[43, 45]⟩] w fun e w' => e = .returned (.int .i64 (zhK s.data.toList s.size)) ∧ Below w.heap.size w w' := by
 have h116 : (Tryd.prog.info? 80).map (fun i => (i.zero, i.size)) = some (some (.agg (Array.replicate 256 (.bool false))), 256) := by kernel_rfl
 have hM := Tryd.strings_makeASCIISet (zero_of_info h116).1 ⟨#[43, 45]⟩ w (by decide) strings_LastIndexAny_ascii
 have hn1 : (s.size == 1) = false := beq_eq_false_iff_ne.2 (by omega)
 have hn2 : ((s.size : Int) == 1) = false := beq_eq_false_iff_ne.2 (by omega)
 have h8z : decide ((8 : Int) < (s.size : Int)) = true := decide_eq_true (by omega)
 obtain ⟨cs, hcs⟩ : ∃ cs, cs = Lib.setCells [43, 45] := ⟨_, rfl⟩
 have hM' : Calls Tryd.prog 59 #[.string ⟨#[43, 45]⟩] w fun e w' => e = .returned (.tuple #[.agg cs, .bool true]) ∧ w' = w.alloc (.cells cs 80) := by rw [hcs]; exact hM
 have hsc : (storeCells ⟨w.heap.size + 1, 0, none⟩ cs.toList 0).run Tryd.prog ((w.alloc (.cells cs 80)).alloc (.cells (Array.replicate 256 (.bool false)) 80)) = .ok () ((w.alloc (.cells cs 80)).alloc (.cells cs 80)) := by
  have := run_storeCells_new (P := Tryd.prog) (w.alloc (.cells cs 80)) 80 (Array.replicate 256 (.bool false)) cs (by rw [hcs, Lib.setCells_size]; exact (zero_of_info h116).2) (by rw [hcs, Lib.setCells_size, Array.size_replicate]) (by rw [hcs]; exact Lib.setCells_one _)
  simpa using this
 have hcellAt : ∀ x : UInt8, ((w.alloc (.cells cs 80)).alloc (.cells cs 80)).cell? ⟨w.heap.size + 1, x.toNat, none⟩ = some (.bool (zwV x)) := fun x => by
  rw [World.cell?_alloc_at _ _ _ _ (by simp), hcs, Lib.setCells_at, strings_LastIndexAny_sgc]
 have HC : Aside (∀ x : UInt8, ((w.alloc (.cells cs 80)).alloc (.cells cs 80)).cell? ⟨w.heap.size + 1, x.toNat, none⟩ = some (.bool (zwV x))) := hcellAt
 have hz : Tryd.zeroCells80 = Array.replicate 256 (.bool false) := by kernel_rfl
 have hcsz : cs.size = 256 := by rw [hcs]; exact Lib.setCells_size _
 clear hcellAt hcs hM
 go_enter Tryd.func43, Tryd.ntmps43
 go_wp2_with (first
  | (go_at_call 58; refine (Tryd.strings_shouldUseASCIISet _ _).mono ?_; rintro e w' ⟨rfl, hw⟩; rw [hw, h8z])
  | (go_at_call 59; refine hM'.mono ?_; rintro e w' ⟨rfl, hw⟩; rw [hw]))
 clear hM' hsc
 go_loopg [8] s.size (fun g s8 wx => s8 = .int .i64 ((g : Int) - 1) ∧ wx = ((w.alloc (.cells cs 80)).alloc (.cells cs 80)) ∧ Aside0 (g ≤ s.size ∧ zhK s.data.toList s.size = zhK s.data.toList g))
 case atStart => exact ⟨rfl, rfl, ⟨Nat.le_refl _, rfl⟩⟩
 case round =>
  obtain ⟨rfl, rfl, HS⟩ := hrel
  cases gk with
  | zero =>
   have e1 : (((0 : Nat) : Int) - 1) = -1 := rfl
   rw [e1]
   go_wp2
   go_ret
   have hS := HS.out.2
   refine ⟨by rw [hS]; rfl, znU (znU (Below.refl _ _) _) _⟩
  | succ g =>
   have e1 : (((g + 1 : Nat) : Int) - 1) = (g : Int) := by omega
   rw [e1]
   have hi : g < s.size := HS.out.1
   have hS := HS.out.2
   have hge : decide ((g : Int) ≥ 0) = true := decide_eq_true (by omega)
   have hge2 : decide (0 ≤ (g : Int)) = true := decide_eq_true (by omega)
   obtain ⟨x, hx⟩ : ∃ x : UInt8, s[g]'hi = x := ⟨_, rfl⟩
   have hxl : s.data.toList.getD g 0 = x := by rw [List.getD_eq_getElem?_getD, Lib.data_getElem? s g hi, hx]; rfl
   have Hx := zpS hxl
   have HI := zpS hS
   clear hxl hS e1
   have hcx := HC.out x
   cases hin : zwV x <;> rw [hin] at hcx
   ·go_wp2_with (go_at_call 60; refine (Tryd.asciiSet_contains _ x _ _ hcx).mono ?_; rintro e w' ⟨rfl, hw⟩; rw [hw])
    go_roundg g
    case measure => omega
    case rel => exact ⟨by first | rfl | simp, rfl, ⟨by omega, by rw [HI.out]; show (if zwV (s.data.toList.getD g 0) = true then (g : Int) else _) = _; rw [Hx.out, hin]; rfl⟩⟩
   ·go_wp2_with (go_at_call 60; refine (Tryd.asciiSet_contains _ x _ _ hcx).mono ?_; rintro e w' ⟨rfl, hw⟩; rw [hw])
    go_ret
    refine ⟨?_, znU (znU (Below.refl _ _) _) _⟩
    rw [HI.out]; show Ending.returned (.int .i64 _) = .returned (.int .i64 (if zwV (s.data.toList.getD g 0) = true then (g : Int) else _)); rw [Hx.out, hin]; rfl
set_option maxRecDepth 1000000 in
theorem strings_LastIndexAny_one (s : ByteArray) (x : UInt8) (v : Int) (w : World) (h1 : s.size = 1) (hx : ∀ h, s[0]'h = x) (hv : (zwV x = true ∧ v = 0) ∨ (zwV x = false ∧ v = -1)) :
  Calls Tryd.prog 43 #[.string s, .string ⟨#[43, 45]⟩] w fun e w' => e = .returned (.int .i64 v) ∧ Below w.heap.size w w' := by
 have hx := hx (by omega)
 have hn2 : ((s.size : Int) == 1) = true := beq_iff_eq.2 (by omega)
 have hz1 : (s.size : Int) = 1 := by omega
 rcases hv with ⟨hs, rfl⟩ | ⟨hs, rfl⟩
 ·have hs' := (zwG x).1 hs
  have HS := zpS hs'
  have c3 : ¬ (128 ≤ (x.toNat : Int)) := by omega
  have c1 : decide ((x.toNat : Int) ≥ 128) = false := decide_eq_false c3
  clear hs hs'
  go_enter Tryd.func43, Tryd.ntmps43
  go_wp2_with (first | (go_at_call 57; refine (zdV (x.toNat : Int) (by have := HS.out; omega) w _ (Below.refl _ _)).mono ?_; rintro e w' ⟨y, rfl, hb⟩; have HB := zpS hb; clear hb))
  go_ret
  exact ⟨rfl, HB.out⟩
 ·have hs' : ¬ (x.toNat = 43 ∨ x.toNat = 45) := fun h => by rw [(zwG x).2 h] at hs; cases hs
  have HS := zpS hs'
  clear hs hs'
  have hx256 : x.toNat < 256 := UInt8.toNat_lt x
  have hw : wrap32 (x.toNat : Int) = (x.toNat : Int) := by unfold wrap32; omega
  by_cases c3 : 128 ≤ (x.toNat : Int)
  ·have c1 : decide ((x.toNat : Int) ≥ 128) = true := decide_eq_true c3
   go_enter Tryd.func43, Tryd.ntmps43
   go_wp2_with (first | (go_at_call 57; refine (znY w _ (Below.refl _ _)).mono ?_; rintro e w' ⟨rfl, hb⟩; have HB := zpS hb; clear hb))
   go_ret
   exact ⟨rfl, HB.out⟩
  ·have c1 : decide ((x.toNat : Int) ≥ 128) = false := decide_eq_false c3
   go_enter Tryd.func43, Tryd.ntmps43
   go_wp2_with (first | (go_at_call 57; refine (zmI (x.toNat : Int) (by omega) (by have := HS.out; omega) w _ (Below.refl _ _)).mono ?_; rintro e w' ⟨rfl, hb⟩; have HB := zpS hb; clear hb))
   go_ret
   exact ⟨rfl, HB.out⟩
set_option maxRecDepth 1000000 in
theorem strings_LastIndexAny_short (s : ByteArray) (v : Int) (w : World) (hG : LaidV w) (h1 : s.size ≠ 1) (h8 : s.size ≤ 8) (hv : v = zrT s.data.toList (s.size + 1) s.size) :
  Calls Tryd.prog 43 #[.string s, .string ⟨#[43, 45]⟩] w fun e w' => e = .returned (.int .i64 v) ∧ Below w.heap.size w w' := by
 have hn2 : ((s.size : Int) == 1) = false := beq_eq_false_iff_ne.2 (by omega)
 have h8z : decide ((8 : Int) < (s.size : Int)) = false := decide_eq_false (by omega)
 have HV := zpS hv
 have HT := zpS hG
 clear hv hG
 go_enter Tryd.func43, Tryd.ntmps43
 go_wp2_with (first
  | (go_at_call 58; refine (Tryd.strings_shouldUseASCIISet _ _).mono ?_; rintro e w' ⟨rfl, hw⟩; rw [hw, h8z]))
 go_loopg [13, 14, 15] s.size (fun g s13 _ _ wx => ∃ i : Nat, s13 = .int .i64 (i : Int) ∧ Aside0 (i ≤ g ∧ i ≤ s.size ∧ v = zrT s.data.toList (g + 1) i) ∧ Aside0 (Below w.heap.size w wx))
 case atStart => exact ⟨_, rfl, ⟨Nat.le_refl _, Nat.le_refl _, HV.out⟩, ⟨Below.refl _ _⟩⟩
 case round =>
  obtain ⟨i, rfl, HI, HB⟩ := hrel
  by_cases hi : i = 0
  ·subst hi
   have c1 : decide (((0 : Nat) : Int) > 0) = false := by decide
   go_wp2
   go_ret
   have := HI.out.2.2
   exact ⟨by rw [this]; rfl, HB.out⟩
  ·have c1 : decide ((i : Int) > 0) = true := decide_eq_true (by omega)
   have c0 : (0 : Int) < (i : Int) := by omega
   have c2 : (i : Int) ≤ (s.size : Int) := by have := HI.out.2.1; omega
   have hne : s.data.toList.take i ≠ [] := fun h => by
    have h2 := congrArg List.length h
    have h3 := Lib.size_eq s
    have h4 := HI.out.2.1
    rw [List.length_take] at h2
    simp only [List.length_nil] at h2
    omega
   obtain ⟨d1, d2⟩ := strings_LastIndexAny_dl _ hne
   rw [List.length_take] at d2
   obtain ⟨d, hd⟩ : ∃ d, d = Lib.decodeLastL (s.data.toList.take i) := ⟨_, rfl⟩
   rw [← hd] at d1 d2
   have d3 : d.2 ≤ i := Nat.le_trans d2 (Nat.min_le_left _ _)
   have HD := zpS hd
   have hdec : ∀ W, Below w.heap.size w W → Calls Tryd.prog 61 #[.string (s.extract 0 i)] W fun e w' => e = .returned (.tuple #[.int .i32 (d.1 : Int), .int .i64 (d.2 : Int)]) ∧ Below w.heap.size w w' := fun W hb => by
    refine (Tryd.utf8_DecodeLastRuneInString _ W (by rw [ByteArray.size_extract]; omega) (LaidV.below HT.out hb).v4).mono ?_
    rintro e w' ⟨rfl, hb2⟩
    rw [strings_LastIndexAny_ext, ← hd]
    exact ⟨rfl, hb.trans (hb2.mono hb.size)⟩
   have HDC := zpS hdec
   have i8 : i ≤ 8 := by have := HI.out.2.1; omega
   have hsub : ((i : Int) - (d.2 : Int)) = ((i - d.2 : Nat) : Int) := by omega
   have hback : zrT s.data.toList (gk + 1) i = if d.1 = 43 ∨ d.1 = 45 then ((i - d.2 : Nat) : Int) else zrT s.data.toList gk (i - d.2) := by
    rw [zrT, if_neg hi, ← hd]
   have HBK := zpS hback
   have h1 := d1
   have h2 := d3
   clear hdec hd HD hback d2 hne
   obtain ⟨r, z⟩ := d
   dsimp only at *
   by_cases hr : r = 43 ∨ r = 45
   ·have HR := zpS hr
    clear hr
    go_wp2_with (first
     | (go_at_call 61; refine (HDC.out _ HB.out).mono ?_; rintro e w' ⟨rfl, hb⟩; have n0_ := zpS hb; clear hb HB; have HB := n0_; clear n0_)
     | (go_at_call 57; refine (zdV (r : Int) (by have := HR.out; omega) w _ HB.out).mono ?_; rintro e w' ⟨y, rfl, hb⟩; have n0_ := zpS hb; clear hb HB; have HB := n0_; clear n0_))
    go_ret
    refine ⟨?_, HB.out⟩
    have hv := HI.out.2.2
    rw [HBK.out, if_pos HR.out] at hv
    rw [hv]; rfl
   ·have HR := zpS hr
    clear hr
    go_wp2_with (first
     | (go_at_call 61; refine (HDC.out _ HB.out).mono ?_; rintro e w' ⟨rfl, hb⟩; have n0_ := zpS hb; clear hb HB; have HB := n0_; clear n0_)
     | (go_at_call 57; refine (zmI (r : Int) (by omega) (by have := HR.out; omega) w _ HB.out).mono ?_; rintro e w' ⟨rfl, hb⟩; have n0_ := zpS hb; clear hb HB; have HB := n0_; clear n0_))
    go_roundg (gk - 1)
    case measure => have := HI.out.1; omega
    case rel =>
     have hv := HI.out.2.2
     rw [HBK.out, if_neg HR.out] at hv
     exact ⟨i - z, rfl, ⟨by have := HI.out.1; omega, by have := HI.out.2.1; omega, by rw [hv, show gk - 1 + 1 = gk by have := HI.out.1; omega]⟩, HB⟩
theorem zmH.calls (a0 a1 : ByteArray) (r : Int) (w : World) (hG : LaidV w) (h : zmH.f a0 a1 = some r) :
  Calls Tryd.prog 43 #[.string a0, .string a1] w fun e w' => e = .returned (.int .i64 r) ∧ Below w.heap.size w w' := by
 unfold zmH.f at h
 by_cases hc : a1 = ⟨#[43, 45]⟩ ∧ a0.size ≤ 1048576
 ·rw [if_pos hc] at h
  obtain ⟨rfl, hsz⟩ := hc
  have h := Option.some.inj h
  by_cases h1 : a0.size = 1
  ·rw [if_pos h1] at h
   have hx : ∀ hh, a0[0]'hh = a0.data.toList.getD 0 0 := fun hh => by rw [List.getD_eq_getElem?_getD, Lib.data_getElem? a0 0 hh]; rfl
   refine strings_LastIndexAny_one a0 _ r w h1 hx ?_
   cases hs : zwV (a0.data.toList.getD 0 0) <;> rw [hs] at h
   ·exact Or.inr ⟨rfl, by simpa using h.symm⟩
   ·exact Or.inl ⟨rfl, by simpa using h.symm⟩
  ·rw [if_neg h1] at h
   by_cases h8 : 8 < a0.size
   ·rw [if_pos h8] at h
    subst h
    exact strings_LastIndexAny_long a0 w h8 hsz
   ·rw [if_neg h8] at h
    exact strings_LastIndexAny_short a0 r w hG h1 (by omega) h.symm
 ·rw [if_neg hc] at h; cases h

def zsS.f (a0 : ByteArray) : Option (Int × Int) := (zlW.f a0 (⟨#[114]⟩ : ByteArray)).bind fun bt176 => (if bt176.2 = true then ((zmH.f bt176.1 (⟨#[43, 45]⟩ : ByteArray)).bind fun t180 => (if t180 ≤ 0 then ((zkI.f bt176.1).bind fun bt181 => (some (0, bt181.1))) else (if 0 ≤ t180 then (if t180 ≤ (bt176.1.size : Int) then ((zkI.f (bt176.1.extract 0 (t180 : Int).toNat)).bind fun bt183 => ((zjE.f (bt176.1.extract (t180 : Int).toNat bt176.1.size) (⟨#[43]⟩ : ByteArray)).bind fun t185 => ((zkI.f t185).bind fun bt186 => (some (bt183.1, bt186.1))))) else (none)) else (none)))) else ((zkI.f a0).bind fun bt178 => (some (bt178.1, 0))))
theorem zsS.calls (a0 : ByteArray) (r1 : Int) (r2 : Int) (w : World) (hG : LaidV w) (h : zsS.f a0 = some (r1, r2)) :
  Calls Tryd.prog 25 #[.string a0] w fun e w' => e = .returned (.tuple #[.int .i64 r1, .int .i64 r2]) ∧ Below w.heap.size w w' := by
 have HB := zpS (Below.refl w.heap.size w)
 have H : ((zlW.f a0 (⟨#[114]⟩ : ByteArray)).bind fun bt176 => (if bt176.2 = true then ((zmH.f bt176.1 (⟨#[43, 45]⟩ : ByteArray)).bind fun t180 => (if t180 ≤ 0 then ((zkI.f bt176.1).bind fun bt181 => (some (0, bt181.1))) else (if 0 ≤ t180 then (if t180 ≤ (bt176.1.size : Int) then ((zkI.f (bt176.1.extract 0 (t180 : Int).toNat)).bind fun bt183 => ((zjE.f (bt176.1.extract (t180 : Int).toNat bt176.1.size) (⟨#[43]⟩ : ByteArray)).bind fun t185 => ((zkI.f t185).bind fun bt186 => (some (bt183.1, bt186.1))))) else (none)) else (none)))) else ((zkI.f a0).bind fun bt178 => (some (bt178.1, 0))))) = some (r1, r2) := h
 clear h
 replace H := Option.bind_eq_some_iff.mp H
 obtain ⟨⟨t176, t177⟩, A20, H⟩ := H
 replace H : (if t177 = true then ((zmH.f t176 (⟨#[43, 45]⟩ : ByteArray)).bind fun t180 => (if t180 ≤ 0 then ((zkI.f t176).bind fun bt181 => (some (0, bt181.1))) else (if 0 ≤ t180 then (if t180 ≤ (t176.size : Int) then ((zkI.f (t176.extract 0 (t180 : Int).toNat)).bind fun bt183 => ((zjE.f (t176.extract (t180 : Int).toNat t176.size) (⟨#[43]⟩ : ByteArray)).bind fun t185 => ((zkI.f t185).bind fun bt186 => (some (bt183.1, bt186.1))))) else (none)) else (none)))) else ((zkI.f a0).bind fun bt178 => (some (bt178.1, 0)))) = some (r1, r2) := H
 have A2 := zpS A20
 clear A20
 by_cases c3 : t177 = true
 ·subst c3
  have H1 : ((zmH.f t176 (⟨#[43, 45]⟩ : ByteArray)).bind fun t180 => (if t180 ≤ 0 then ((zkI.f t176).bind fun bt181 => (some (0, bt181.1))) else (if 0 ≤ t180 then (if t180 ≤ (t176.size : Int) then ((zkI.f (t176.extract 0 (t180 : Int).toNat)).bind fun bt183 => ((zjE.f (t176.extract (t180 : Int).toNat t176.size) (⟨#[43]⟩ : ByteArray)).bind fun t185 => ((zkI.f t185).bind fun bt186 => (some (bt183.1, bt186.1))))) else (none)) else (none)))) = some (r1, r2) := by rw [if_pos rfl] at H; exact H
  clear H
  have H := H1
  clear H1
  replace H := Option.bind_eq_some_iff.mp H
  obtain ⟨t180, A40, H⟩ := H
  replace H : (if t180 ≤ 0 then ((zkI.f t176).bind fun bt181 => (some (0, bt181.1))) else (if 0 ≤ t180 then (if t180 ≤ (t176.size : Int) then ((zkI.f (t176.extract 0 (t180 : Int).toNat)).bind fun bt183 => ((zjE.f (t176.extract (t180 : Int).toNat t176.size) (⟨#[43]⟩ : ByteArray)).bind fun t185 => ((zkI.f t185).bind fun bt186 => (some (bt183.1, bt186.1))))) else (none)) else (none))) = some (r1, r2) := H
  have A4 := zpS A40
  clear A40
  by_cases c5 : t180 ≤ 0
  ·rw [if_pos c5] at H
   have c5b0 : decide (t180 ≤ 0) = true := decide_eq_true c5
   clear c5
   replace H := Option.bind_eq_some_iff.mp H
   obtain ⟨⟨t181, t182⟩, A60, H⟩ := H
   replace H : (some (0, t181)) = some (r1, r2) := H
   have A6 := zpS A60
   clear A60
   simp only [Option.some.injEq, Prod.mk.injEq] at H
   obtain ⟨rfl, rfl⟩ := H
   go_enter Tryd.func25, Tryd.ntmps25
   go_wp2_with (first | ((with_reducible refine zgK (f := 34) rfl ?_); refine zqQ (some 17) rfl rfl Tryd.func34 (by kernel_rfl) rfl #[.string a0, .string (⟨#[114]⟩ : ByteArray)] rfl (by (try simp only [List.map_toArray, List.map_cons, List.map_nil]); first | done | rfl | (simp only [List.length_drop, List.length_take]; rfl)) ?_; (with_reducible refine (zlW.calls a0 (⟨#[114]⟩ : ByteArray) t176 true _ A2.out).mono ?_); rintro e w' ⟨rfl, ⟨nd, rfl⟩⟩; refine ⟨_, rfl, ?_⟩) | ((with_reducible refine zgK (f := 43) rfl ?_); refine zqQ (some 29) rfl rfl Tryd.func43 (by kernel_rfl) rfl #[.string t176, .string (⟨#[43, 45]⟩ : ByteArray)] rfl (by (try simp only [List.map_toArray, List.map_cons, List.map_nil]); first | done | rfl | (simp only [List.length_drop, List.length_take]; rfl)) ?_; (with_reducible refine (zmH.calls t176 (⟨#[43, 45]⟩ : ByteArray) t180 _ ?side1 A4.out).mono ?_); (case side1 => exact LaidV.below hG bb_); rintro e w7 ⟨rfl, hb⟩; refine ⟨_, rfl, ?_⟩; have n0_ := (ns_ hb); clear HB; have HB := n0_; clear n0_; (try clear hb); (try clear hb2)) | ((with_reducible refine zgK (f := 23) rfl ?_); refine zqQ (some 34) rfl rfl Tryd.func23 (by kernel_rfl) rfl #[.string t176] rfl (by (try simp only [List.map_toArray, List.map_cons, List.map_nil]); first | done | rfl | (simp only [List.length_drop, List.length_take]; rfl)) ?_; (with_reducible refine (zkI.calls t176 t181 t182 _ ?side1 A6.out).mono ?_); (case side1 => exact LaidV.below hG bb_); rintro e w8 ⟨rfl, hb⟩; refine ⟨_, rfl, ?_⟩; have n0_ := (ns_ hb); clear HB; have HB := n0_; clear n0_; (try clear hb); (try clear hb2)))
   go_ret2
   exact ⟨by first | rfl | (simp [ziS, znJ] <;> rfl) | (simp [*, ziS, znJ] <;> rfl), bb_⟩
  ·rw [if_neg c5] at H
   have c5b0 : decide (t180 ≤ 0) = false := decide_eq_false c5
   clear c5
   by_cases c9 : 0 ≤ t180
   ·rw [if_pos c9] at H
    have c9b0 := eq_true c9
    have c9b1 : decide (0 ≤ t180) = true := decide_eq_true c9
    clear c9
    by_cases c10 : t180 ≤ (t176.size : Int)
    ·rw [if_pos c10] at H
     have c10b0 := eq_true c10
     have c10b1 : decide (t180 ≤ (t176.size : Int)) = true := decide_eq_true c10
     clear c10
     replace H := Option.bind_eq_some_iff.mp H
     obtain ⟨⟨t183, t184⟩, A110, H⟩ := H
     replace H : ((zjE.f (t176.extract (t180 : Int).toNat t176.size) (⟨#[43]⟩ : ByteArray)).bind fun t185 => ((zkI.f t185).bind fun bt186 => (some (t183, bt186.1)))) = some (r1, r2) := H
     have A11 := zpS A110
     clear A110
     have c12b0 := eq_true (dt_ : 0 ≤ t180)
     have c13b0 := eq_true (dt_ : t180 ≤ (t176.size : Int))
     replace H := Option.bind_eq_some_iff.mp H
     obtain ⟨t185, A140, H⟩ := H
     replace H : ((zkI.f t185).bind fun bt186 => (some (t183, bt186.1))) = some (r1, r2) := H
     have A14 := zpS A140
     clear A140
     replace H := Option.bind_eq_some_iff.mp H
     obtain ⟨⟨t186, t187⟩, A150, H⟩ := H
     replace H : (some (t183, t186)) = some (r1, r2) := H
     have A15 := zpS A150
     clear A150
     simp only [Option.some.injEq, Prod.mk.injEq] at H
     obtain ⟨rfl, rfl⟩ := H
     go_enter Tryd.func25, Tryd.ntmps25
     go_wp2_with (first | ((with_reducible refine zgK (f := 34) rfl ?_); refine zqQ (some 17) rfl rfl Tryd.func34 (by kernel_rfl) rfl #[.string a0, .string (⟨#[114]⟩ : ByteArray)] rfl (by (try simp only [List.map_toArray, List.map_cons, List.map_nil]); first | done | rfl | (simp only [List.length_drop, List.length_take]; rfl)) ?_; (with_reducible refine (zlW.calls a0 (⟨#[114]⟩ : ByteArray) t176 true _ A2.out).mono ?_); rintro e w' ⟨rfl, ⟨nd, rfl⟩⟩; refine ⟨_, rfl, ?_⟩) | ((with_reducible refine zgK (f := 43) rfl ?_); refine zqQ (some 29) rfl rfl Tryd.func43 (by kernel_rfl) rfl #[.string t176, .string (⟨#[43, 45]⟩ : ByteArray)] rfl (by (try simp only [List.map_toArray, List.map_cons, List.map_nil]); first | done | rfl | (simp only [List.length_drop, List.length_take]; rfl)) ?_; (with_reducible refine (zmH.calls t176 (⟨#[43, 45]⟩ : ByteArray) t180 _ ?side1 A4.out).mono ?_); (case side1 => exact LaidV.below hG bb_); rintro e w16 ⟨rfl, hb⟩; refine ⟨_, rfl, ?_⟩; have n0_ := (ns_ hb); clear HB; have HB := n0_; clear n0_; (try clear hb); (try clear hb2)) | ((with_reducible refine zgK (f := 23) rfl ?_); refine zqQ (some 42) rfl rfl Tryd.func23 (by kernel_rfl) rfl #[.string (t176.extract 0 (t180 : Int).toNat)] rfl (by (try simp only [List.map_toArray, List.map_cons, List.map_nil]); first | done | rfl | (simp only [List.length_drop, List.length_take]; rfl)) ?_; (with_reducible refine (zkI.calls (t176.extract 0 (t180 : Int).toNat) t183 t184 _ ?side1 A11.out).mono ?_); (case side1 => exact LaidV.below hG bb_); rintro e w17 ⟨rfl, hb⟩; refine ⟨_, rfl, ?_⟩; have n0_ := (ns_ hb); clear HB; have HB := n0_; clear n0_; (try clear hb); (try clear hb2)) | ((with_reducible refine zgK (f := 27) rfl ?_); refine zqQ (some 49) rfl rfl Tryd.func27 (by kernel_rfl) rfl #[.string (t176.extract (t180 : Int).toNat t176.size), .string (⟨#[43]⟩ : ByteArray)] rfl (by (try simp only [List.map_toArray, List.map_cons, List.map_nil]); first | done | rfl | (simp only [List.length_drop, List.length_take]; rfl)) ?_; (with_reducible refine (zjE.calls (t176.extract (t180 : Int).toNat t176.size) (⟨#[43]⟩ : ByteArray) t185 _ A14.out).mono ?_); rintro e w' ⟨rfl, ⟨nd, rfl⟩⟩; refine ⟨_, rfl, ?_⟩) | ((with_reducible refine zgK (f := 23) rfl ?_); refine zqQ (some 50) rfl rfl Tryd.func23 (by kernel_rfl) rfl #[.string t185] rfl (by (try simp only [List.map_toArray, List.map_cons, List.map_nil]); first | done | rfl | (simp only [List.length_drop, List.length_take]; rfl)) ?_; (with_reducible refine (zkI.calls t185 t186 t187 _ ?side1 A15.out).mono ?_); (case side1 => exact LaidV.below hG bb_); rintro e w18 ⟨rfl, hb⟩; refine ⟨_, rfl, ?_⟩; have n0_ := (ns_ hb); clear HB; have HB := n0_; clear n0_; (try clear hb); (try clear hb2)))
     go_ret2
     exact ⟨by first | rfl | (simp [ziS, znJ] <;> rfl) | (simp [*, ziS, znJ] <;> rfl), bb_⟩
    ·rw [if_neg c10] at H
     exact absurd H (by simp)
   ·rw [if_neg c9] at H
    exact absurd H (by simp)
 ·replace c3 := Bool.eq_false_iff.mpr c3
  subst c3
  have H1 : ((zkI.f a0).bind fun bt178 => (some (bt178.1, 0))) = some (r1, r2) := by rw [if_neg (show ¬ (false = true) by decide)] at H; exact H
  clear H
  have H := H1
  clear H1
  replace H := Option.bind_eq_some_iff.mp H
  obtain ⟨⟨t178, t179⟩, A190, H⟩ := H
  replace H : (some (t178, 0)) = some (r1, r2) := H
  have A19 := zpS A190
  clear A190
  simp only [Option.some.injEq, Prod.mk.injEq] at H
  obtain ⟨rfl, rfl⟩ := H
  go_enter Tryd.func25, Tryd.ntmps25
  go_wp2_with (first | ((with_reducible refine zgK (f := 34) rfl ?_); refine zqQ (some 17) rfl rfl Tryd.func34 (by kernel_rfl) rfl #[.string a0, .string (⟨#[114]⟩ : ByteArray)] rfl (by (try simp only [List.map_toArray, List.map_cons, List.map_nil]); first | done | rfl | (simp only [List.length_drop, List.length_take]; rfl)) ?_; (with_reducible refine (zlW.calls a0 (⟨#[114]⟩ : ByteArray) t176 false _ A2.out).mono ?_); rintro e w' ⟨rfl, ⟨nd, rfl⟩⟩; refine ⟨_, rfl, ?_⟩) | ((with_reducible refine zgK (f := 23) rfl ?_); refine zqQ (some 24) rfl rfl Tryd.func23 (by kernel_rfl) rfl #[.string a0] rfl (by (try simp only [List.map_toArray, List.map_cons, List.map_nil]); first | done | rfl | (simp only [List.length_drop, List.length_take]; rfl)) ?_; (with_reducible refine (zkI.calls a0 t178 t179 _ ?side1 A19.out).mono ?_); (case side1 => exact LaidV.below hG bb_); rintro e w20 ⟨rfl, hb⟩; refine ⟨_, rfl, ?_⟩; have n0_ := (ns_ hb); clear HB; have HB := n0_; clear n0_; (try clear hb); (try clear hb2)))
  go_ret2
  exact ⟨by first | rfl | (simp [ziS, znJ] <;> rfl) | (simp [*, ziS, znJ] <;> rfl), bb_⟩

def stringslite_TrimSuffix.f (a0 : ByteArray) (a1 : ByteArray) : Option (ByteArray) := (stringslite_HasSuffix.f a0 a1).bind fun t188 => (if t188 = true then (if 0 ≤ (wrap64 ((a0.size : Int) - (a1.size : Int))) then (if (wrap64 ((a0.size : Int) - (a1.size : Int))) ≤ (a0.size : Int) then (some (a0.extract 0 ((wrap64 ((a0.size : Int) - (a1.size : Int))) : Int).toNat)) else (none)) else (none)) else (some a0))
theorem stringslite_TrimSuffix.calls (a0 : ByteArray) (a1 : ByteArray) (r : ByteArray) (w : World) (h : stringslite_TrimSuffix.f a0 a1 = some r) :
  Calls Tryd.prog 44 #[.string a0, .string a1] w fun e w' => e = .returned (.string r) ∧ Drawn0 w w' := by
 have H : ((stringslite_HasSuffix.f a0 a1).bind fun t188 => (if t188 = true then (if 0 ≤ (wrap64 ((a0.size : Int) - (a1.size : Int))) then (if (wrap64 ((a0.size : Int) - (a1.size : Int))) ≤ (a0.size : Int) then (some (a0.extract 0 ((wrap64 ((a0.size : Int) - (a1.size : Int))) : Int).toNat)) else (none)) else (none)) else (some a0))) = some r := h
 clear h
 replace H := Option.bind_eq_some_iff.mp H
 obtain ⟨t188, A30, H⟩ := H
 replace H : (if t188 = true then (if 0 ≤ (wrap64 ((a0.size : Int) - (a1.size : Int))) then (if (wrap64 ((a0.size : Int) - (a1.size : Int))) ≤ (a0.size : Int) then (some (a0.extract 0 ((wrap64 ((a0.size : Int) - (a1.size : Int))) : Int).toNat)) else (none)) else (none)) else (some a0)) = some r := H
 have A3 := zpS A30
 clear A30
 by_cases c4 : t188 = true
 ·subst c4
  have H1 : (if 0 ≤ (wrap64 ((a0.size : Int) - (a1.size : Int))) then (if (wrap64 ((a0.size : Int) - (a1.size : Int))) ≤ (a0.size : Int) then (some (a0.extract 0 ((wrap64 ((a0.size : Int) - (a1.size : Int))) : Int).toNat)) else (none)) else (none)) = some r := by rw [if_pos rfl] at H; exact H
  clear H
  have H := H1
  clear H1
  obtain ⟨ji5, hji5⟩ : ∃ j_ : Int, (wrap64 ((a0.size : Int) - (a1.size : Int))) = j_ := ⟨_, rfl⟩
  replace H : (if 0 ≤ (ji5) then (if (ji5) ≤ (a0.size : Int) then (some (a0.extract 0 ((ji5) : Int).toNat)) else (none)) else (none)) = some r := by first | (rw [hji5] at H; exact H) | (simp only [hji5] at H ⊢; exact H)
  (try rw [hji5] at A3)
  have hji5w : (IntKind.i64.wrap ((a0.size : Int) - (a1.size : Int))) = ji5 := (zcN _).trans hji5
  by_cases c6 : 0 ≤ (ji5)
  ·rw [if_pos c6] at H
   have c6b0 := eq_true c6
   have c6b1 : decide (0 ≤ (ji5)) = true := decide_eq_true c6
   clear c6
   by_cases c7 : (ji5) ≤ (a0.size : Int)
   ·rw [if_pos c7] at H
    have c7b0 := eq_true c7
    have c7b1 : decide ((ji5) ≤ (a0.size : Int)) = true := decide_eq_true c7
    clear c7
    obtain rfl := Option.some.inj H
    go_enter Tryd.func44, Tryd.ntmps44
    go_wp2_with (first | ((with_reducible refine zgK (f := 62) rfl ?_); refine zqQ (some 7) rfl rfl Tryd.func62 (by kernel_rfl) rfl #[.string a0, .string a1] rfl (by (try simp only [List.map_toArray, List.map_cons, List.map_nil]); first | done | rfl | (simp only [List.length_drop, List.length_take]; rfl)) ?_; (with_reducible refine (stringslite_HasSuffix.calls a0 a1 true _ A3.out).mono ?_); rintro e w' ⟨rfl, ⟨nd, rfl⟩⟩; refine ⟨_, rfl, ?_⟩))
    go_ret
    exact ⟨by first | rfl | (simp; done) | (simp only [← hji5] <;> (first | rfl | simp)) | (simp [*]; done), by repeat (first | exact Drawn0.refl _ | apply Drawn0.step)⟩
   ·rw [if_neg c7] at H
    exact absurd H (by simp)
  ·rw [if_neg c6] at H
   exact absurd H (by simp)
 ·replace c4 := Bool.eq_false_iff.mpr c4
  subst c4
  have H1 : (some a0) = some r := by rw [if_neg (show ¬ (false = true) by decide)] at H; exact H
  clear H
  have H := H1
  clear H1
  obtain rfl := Option.some.inj H
  go_enter Tryd.func44, Tryd.ntmps44
  go_wp2_with (first | ((with_reducible refine zgK (f := 62) rfl ?_); refine zqQ (some 7) rfl rfl Tryd.func62 (by kernel_rfl) rfl #[.string a0, .string a1] rfl (by (try simp only [List.map_toArray, List.map_cons, List.map_nil]); first | done | rfl | (simp only [List.length_drop, List.length_take]; rfl)) ?_; (with_reducible refine (stringslite_HasSuffix.calls a0 a1 false _ A3.out).mono ?_); rintro e w' ⟨rfl, ⟨nd, rfl⟩⟩; refine ⟨_, rfl, ?_⟩))
  go_ret
  exact ⟨by first | rfl | (simp; done) | (simp [*]; done), by repeat (first | exact Drawn0.refl _ | apply Drawn0.step)⟩

end Go.Proofs.YtbkcmdccomngnaaDoor.PFnExactReadPoint
