-- Printed for this claim by this session's program pp.py, which drives the kit's print with additions. Not trusted: Lean checks it.
import Derived.Test.YtehghobmmpihfaaGreatDoorV1PFnExactReadPolygonx13
namespace Go.Proofs.YtehghobmmpihfaaGreatDoor.PFnExactReadPolygon
open Go.RowKit Go.Proofs.YtehghobmmpihfaaGreatDoorW.PrintWords Go.Proofs.YtehghobmmpihfaaGreatDoorW.PrintLast Go.Proofs.YtehghobmmpihfaaGreatDoorW.PrintMore
attribute [local go_sem] zbB ziB zrC zhD znE zuB znH zkT   -- for this text's walks alone
set_option linter.unusedVariables false
set_option maxHeartbeats 8000000
set_option maxRecDepth 100000
set_option linter.unusedSimpArgs false

def zwV (b : UInt8) : Bool := b == 43 || b == 45
def zhK (l : List UInt8) : Nat → Int
 | 0 => -1
 | i + 1 => if zwV (l.getD i 0) = true then (i : Int) else zhK l i
def zrT (l : List UInt8) : Nat → Nat → Int
 | 0, _ => -1
 | f + 1, i => if i = 0 then -1 else if (Lib.decodeLastL (l.take i)).1 = 43 ∨ (Lib.decodeLastL (l.take i)).1 = 45 then ((i - (Lib.decodeLastL (l.take i)).2 : Nat) : Int) else zrT l f (i - (Lib.decodeLastL (l.take i)).2)
def zmH.f (a0 a1 : ByteArray) : Option Int := if a1 = ⟨#[43, 45]⟩ ∧ a0.size ≤ 1048576 then some (if a0.size = 1 then (if zwV (a0.data.toList.getD 0 0) = true then 0 else -1) else if 8 < a0.size then zhK a0.data.toList a0.size else zrT a0.data.toList (a0.size + 1) a0.size) else none
theorem strings_LastIndexAny_enc (r : Int) (h0 : 128 ≤ r) : ∃ l : List UInt8, ∃ x : UInt8, Utf8.encode r = ⟨(l ++ [x]).toArray⟩ ∧ 1 ≤ l.length ∧ l.length ≤ 3 ∧ 128 ≤ x.toNat := by
 obtain ⟨c, hc⟩ : ∃ c : Nat, c = if Utf8.valid r = true then r.toNat else Utf8.runeError := ⟨_, rfl⟩
 have h1 : 128 ≤ c := by
  rw [hc]; split
  ·omega
  ·decide
 have hx : 128 ≤ (UInt8.ofNat (128 + c % 64)).toNat := by
  have : (UInt8.ofNat (128 + c % 64)).toNat = 128 + c % 64 := by simp; omega
  omega
 unfold Utf8.encode; dsimp only; rw [← hc, if_neg (by omega)]
 split
 ·exact ⟨[UInt8.ofNat (192 + c / 64)], _, rfl, by simp, by simp, hx⟩
 ·split
  ·exact ⟨[UInt8.ofNat (224 + c / 4096), UInt8.ofNat (128 + c / 64 % 64)], _, rfl, by simp, by simp, hx⟩
  ·exact ⟨[UInt8.ofNat (240 + c / 262144), UInt8.ofNat (128 + c / 4096 % 64), UInt8.ofNat (128 + c / 64 % 64)], _, rfl, by simp, by simp, hx⟩
theorem znY (w W : World) (hB : Below w.heap.size w W) :
  Calls Tryz.prog 101 #[.string ⟨#[43, 45]⟩, .int .i32 65533] W fun e w' => e = .returned (.int .i64 (-1)) ∧ Below w.heap.size w w' := by
 have HB := zpS hB; clear hB; go_enter Tryz.func101, Tryz.ntmps101
 go_wp2
 go_loopg [5, 6] 2 (fun g _ _ wx => ∃ i : Nat, Aside0 (i + g = 2) ∧ wx = W.iter ⟨#[43, 45]⟩ i)
 case atStart => exact ⟨0, ⟨rfl⟩, rfl⟩
 case round =>
  obtain ⟨i, HI, rfl⟩ := hrel; have hi2 : i + gk = 2 := HI.out; clear HI
  obtain rfl | rfl | rfl : i = 0 ∨ i = 1 ∨ i = 2 := by omega
  ·have hnx := fun ty => run_next_ascii (P := Tryz.prog) W ⟨#[43, 45]⟩ 0 ty (by decide) (by decide)
   go_wp2
   go_roundg 1
   case measure => omega
   case rel => exact ⟨1, ⟨rfl⟩, rfl⟩
  ·have hnx := fun ty => run_next_ascii (P := Tryz.prog) W ⟨#[43, 45]⟩ 1 ty (by decide) (by decide)
   go_wp2
   go_roundg 0
   case measure => omega
   case rel => exact ⟨2, ⟨rfl⟩, rfl⟩
  ·have hnx := run_next_end (P := Tryz.prog) W ⟨#[43, 45]⟩ 2
   go_wp2
   go_ret
   exact ⟨rfl, HB.out.alloc HB.out.size _⟩
theorem strings_LastIndexAny_ib (c : Int) (W : World) :
  Calls Tryz.prog 122 #[.string ByteArray.empty, .int .u8 c] W fun e w' => e = .returned (.int .i64 (-1)) ∧ ∃ m, w' = W.drewN m := by
 refine (Tryz.strings_IndexByte _ _ _).mono ?_; rintro e w' ⟨rfl, rfl⟩
 exact ⟨by rfl, 0, by rfl⟩
theorem strings_LastIndexAny_high (r : Int) (h0 : 128 ≤ r) (h1 : r ≠ 65533) (w W : World) (hB : Below w.heap.size w W) :
  Calls Tryz.prog 101 #[.string ⟨#[43, 45]⟩, .int .i32 r] W fun e w' => e = .returned (.int .i64 (-1)) ∧ Below w.heap.size w w' := by
 obtain ⟨l, x, he, hl1, hl3, hx⟩ := strings_LastIndexAny_enc r h0; have HB := zpS hB; clear hB; have c0 : decide (r < 128) = false := decide_eq_false (by omega); have c1 : decide (0 ≤ r) = true := decide_eq_true (by omega); have c2 : (r == 65533) = false := beq_eq_false_iff_ne.2 h1
 cases hv : Lib.validRune r with
 | false =>
  go_enter Tryz.func101, Tryz.ntmps101
  go_wp2_with (first | (go_at_call 123; (refine (Tryz.utf8_ValidRune r _).mono ?_); rintro e w' ⟨rfl, rfl⟩; rw [hv]))
  go_ret
  exact ⟨rfl, HB.out⟩
 | true =>
  obtain ⟨rs, hrs⟩ : ∃ rs : ByteArray, rs = Utf8.encode r := ⟨_, rfl⟩
  have hcv : ∀ w, (convert 21 9 (.int .i32 r)).run Tryz.prog w = .ok (.string rs) w := fun w => by rw [hrs]; exact run_convert_int_string w 21 9 .i32 r (by rw [Tryz.underlying21]; rfl) Tryz.underlying9
  rw [he] at hrs
  have hsz : rs.size = l.length + 1 := by rw [hrs]; show (l ++ [x]).toArray.size = _; simp
  have hlast : ∀ h : l.length < rs.size, rs[l.length]'h = x := by subst hrs; intro h; show (l ++ [x]).toArray[l.length] = x; simp
  clear hrs he c0
  by_cases e1 : l.length = 1
  ·rw [e1] at hsz hlast
   have hl1' := hlast (by omega); have hm : ((45 : Int) != (x.toNat : Int)) = true := bne_iff_ne.2 (by omega); have hm2 : (((((ByteArray.mk #[43, 45])[1]'(by decide)).toNat : Nat) : Int) != (x.toNat : Int)) = true := hm
   have c3 : decide ((1 : Int) < 2) = true := by decide
   go_enter Tryz.func101, Tryz.ntmps101
   go_wp2_with (first | (go_at_call 123; (refine (Tryz.utf8_ValidRune r _).mono ?_); rintro e w' ⟨rfl, rfl⟩; rw [hv]))
   refine wp_scope_straight ?_
   go_wp2
   go_loopg [9, 10, 11, 12] 0 (fun g v9 _ _ _ wx => v9 = .int .i64 1 ∧ wx = w')
   case atStart => exact ⟨rfl, rfl⟩
   case round =>
    obtain ⟨rfl, rfl⟩ := hrel
    have hw2 : IntKind.i64.wrap 2 = 2 := by decide
    have hs2 : (ByteArray.size ⟨#[43, 45]⟩ : Int) = 2 := by decide
    go_wp2
    refine wp_scope_straight ?_
    go_wp2
    go_quiet (fail)
    have n0_ := zpS (show Below w.heap.size w (wr.drewN nq) from by first | exact zkZ HB.out _ | exact zkZ HB.out)
    clear HB; generalize wr.drewN nq = w2 at n0_ ⊢; have HB := n0_; clear n0_
    go_wp2
    go_quiet (first | (go_at_call 122; refine Calls.quiet_of (strings_LastIndexAny_ib _ _)))
    go_wp2
    rw [Exit.noGoto_ret]
    go_simp
    go_ret
    exact ⟨rfl, by repeat (first | exact HB.out | apply zkZ)⟩
  ·go_enter Tryz.func101, Tryz.ntmps101
   have c3 : decide ((l.length : Int) < 2) = false := decide_eq_false (by omega)
   go_wp2_with (first | (go_at_call 123; (refine (Tryz.utf8_ValidRune r _).mono ?_); rintro e w' ⟨rfl, rfl⟩; rw [hv]))
   refine wp_scope_straight ?_
   go_wp2
   go_loopg [9, 10, 11, 12] 0 (fun g v9 _ _ _ wx => v9 = .int .i64 l.length ∧ wx = w')
   case atStart => exact ⟨rfl, rfl⟩
   case round =>
    obtain ⟨rfl, rfl⟩ := hrel
    go_wp2
    rw [Exit.noGoto_ret]; go_ret
    exact ⟨rfl, HB.out⟩
theorem strings_LastIndexAny_lowN : ∀ r : Nat, r < 128 → ¬ (r = 43 ∨ r = 45) → Lib.indexByte [43, 45] (UInt8.ofNat r) = -1 := by decide
theorem zmJ (r : Int) (h0 : 0 ≤ r) (h : ¬ (r = 43 ∨ r = 45)) (w W : World) (hB : Below w.heap.size w W) :
  Calls Tryz.prog 101 #[.string ⟨#[43, 45]⟩, .int .i32 r] W fun e w' => e = .returned (.int .i64 (-1)) ∧ Below w.heap.size w w' := by
 by_cases h1 : r < 128
 ·refine (Tryz.strings_IndexRune_ascii _ r W h0 h1).mono ?_
  rintro e w' ⟨rfl, rfl⟩; refine ⟨?_, hB⟩; have := strings_LastIndexAny_lowN r.toNat (by omega) (by omega); rw [show Lib.indexByte (ByteArray.mk #[43, 45]).data.toList r.toNat.toUInt8 = -1 from this]
 ·by_cases h2 : r = 65533
  ·subst h2; exact znY w W hB
  ·exact strings_LastIndexAny_high r (by omega) h2 w W hB
theorem zdV (r : Int) (h : r = 43 ∨ r = 45) (w W : World) (hB : Below w.heap.size w W) :
  Calls Tryz.prog 101 #[.string ⟨#[43, 45]⟩, .int .i32 r] W fun e w' => ∃ x : Nat, e = .returned (.int .i64 (x : Int)) ∧ Below w.heap.size w w' := by
 refine (Tryz.strings_IndexRune_ascii _ r W (by omega) (by omega)).mono ?_; rintro e w' ⟨rfl, rfl⟩
 rcases h with rfl | rfl
 ·exact ⟨0, rfl, hB⟩
 ·exact ⟨1, rfl, hB⟩
theorem strings_LastIndexAny_dl (l : List UInt8) (h : l ≠ []) : 1 ≤ (Lib.decodeLastL l).2 ∧ (Lib.decodeLastL l).2 ≤ l.length := by
 have hp : 1 ≤ l.length := by cases l with | nil => exact absurd rfl h | cons _ _ => simp
 have hs := Lib.lastStart_lt l h; unfold Lib.decodeLastL; rw [if_neg h]
 split
 ·exact ⟨Nat.le_refl _, hp⟩
 ·dsimp only
  split
  ·omega
  ·exact ⟨Nat.le_refl _, hp⟩
theorem strings_LastIndexAny_ascii : ∀ (j : Nat) (b : UInt8), ([43, 45] : List UInt8)[j]? = some b → b.toNat < 128 := by
 intro j b h; have := List.mem_of_getElem? h; simp only [List.mem_cons, List.not_mem_nil, or_false] at this
 rcases this with rfl | rfl <;> decide
theorem strings_LastIndexAny_sgc (x : UInt8) : ([43, 45] : List UInt8).contains x = zwV x := by
 unfold zwV; simp only [List.contains_cons, List.contains_nil, Bool.or_false]
theorem zwH (x : UInt8) : (zwV x = true) ↔ (x.toNat = 43 ∨ x.toNat = 45) := by
 unfold zwV; simp only [Bool.or_eq_true, beq_iff_eq, ← UInt8.toNat_inj]; rfl
theorem strings_LastIndexAny_ext (s : ByteArray) (i : Nat) : (s.extract 0 i).data.toList = s.data.toList.take i := by
 rw [ByteArray.data_extract, Array.toList_extract]; simp
set_option maxRecDepth 1000000 in
theorem strings_LastIndexAny_long (s : ByteArray) (w : World) (h8 : 8 < s.size) (hs : s.size ≤ 1048576) :
  Calls Tryz.prog 76 #[.string s, .string ⟨#[43, 45]⟩] w fun e w' => e = .returned (.int .i64 (zhK s.data.toList s.size)) ∧ Below w.heap.size w w' := by
 have h116 : (Tryz.prog.info? 112).map (fun i => (i.zero, i.size)) = some (some (.agg (Array.replicate 256 (.bool false))), 256) := by kernel_rfl
 have hM := Tryz.strings_makeASCIISet (zero_of_info h116).1 ⟨#[43, 45]⟩ w (by decide) strings_LastIndexAny_ascii; have hn1 : (s.size == 1) = false := beq_eq_false_iff_ne.2 (by omega); have hn2 : ((s.size : Int) == 1) = false := beq_eq_false_iff_ne.2 (by omega); have h8z : decide ((8 : Int) < (s.size : Int)) = true := decide_eq_true (by omega); obtain ⟨cs, hcs⟩ : ∃ cs, cs = Lib.setCells [43, 45] := ⟨_, rfl⟩
 have hM' : Calls Tryz.prog 103 #[.string ⟨#[43, 45]⟩] w fun e w' => e = .returned (.tuple #[.agg cs, .bool true]) ∧ w' = w.alloc (.cells cs 112) := by rw [hcs]; exact hM
 have hsc : (storeCells ⟨w.heap.size + 1, 0, none⟩ cs.toList 0).run Tryz.prog ((w.alloc (.cells cs 112)).alloc (.cells (Array.replicate 256 (.bool false)) 112)) = .ok () ((w.alloc (.cells cs 112)).alloc (.cells cs 112)) := by
  have := run_storeCells_new (P := Tryz.prog) (w.alloc (.cells cs 112)) 112 (Array.replicate 256 (.bool false)) cs (by rw [hcs, Lib.setCells_size]; exact (zero_of_info h116).2) (by rw [hcs, Lib.setCells_size, Array.size_replicate]) (by rw [hcs]; exact Lib.setCells_one _)
  simpa using this
 have hcellAt : ∀ x : UInt8, ((w.alloc (.cells cs 112)).alloc (.cells cs 112)).cell? ⟨w.heap.size + 1, x.toNat, none⟩ = some (.bool (zwV x)) := fun x => by
  rw [World.cell?_alloc_at _ _ _ _ (by simp), hcs, Lib.setCells_at, strings_LastIndexAny_sgc]
 have HC : Aside (∀ x : UInt8, ((w.alloc (.cells cs 112)).alloc (.cells cs 112)).cell? ⟨w.heap.size + 1, x.toNat, none⟩ = some (.bool (zwV x))) := hcellAt
 have hz : Tryz.zeroCells112 = Array.replicate 256 (.bool false) := by kernel_rfl
 have hcsz : cs.size = 256 := by rw [hcs]; exact Lib.setCells_size _
 clear hcellAt hcs hM; go_enter Tryz.func76, Tryz.ntmps76
 go_wp2_with (first
  | (go_at_call 102; refine (Tryz.strings_shouldUseASCIISet _ _).mono ?_; rintro e w' ⟨rfl, hw⟩; rw [hw, h8z])
  | (go_at_call 103; refine hM'.mono ?_; rintro e w' ⟨rfl, hw⟩; rw [hw]))
 clear hM' hsc
 go_loopg [8] s.size (fun g s8 wx => s8 = .int .i64 ((g : Int) - 1) ∧ wx = ((w.alloc (.cells cs 112)).alloc (.cells cs 112)) ∧ Aside0 (g ≤ s.size ∧ zhK s.data.toList s.size = zhK s.data.toList g))
 case atStart => exact ⟨rfl, rfl, ⟨Nat.le_refl _, rfl⟩⟩
 case round =>
  obtain ⟨rfl, rfl, HS⟩ := hrel
  cases gk with
  | zero =>
   have e1 : (((0 : Nat) : Int) - 1) = -1 := rfl; rw [e1]
   go_wp2
   go_ret; have hS := HS.out.2; refine ⟨by rw [hS]; rfl, znU (znU (Below.refl _ _) _) _⟩
  | succ g =>
   have e1 : (((g + 1 : Nat) : Int) - 1) = (g : Int) := by omega
   rw [e1]; have hi : g < s.size := HS.out.1; have hS := HS.out.2; have hge : decide ((g : Int) ≥ 0) = true := decide_eq_true (by omega); have hge2 : decide (0 ≤ (g : Int)) = true := decide_eq_true (by omega); obtain ⟨x, hx⟩ : ∃ x : UInt8, s[g]'hi = x := ⟨_, rfl⟩
   have hxl : s.data.toList.getD g 0 = x := by rw [List.getD_eq_getElem?_getD, Lib.data_getElem? s g hi, hx]; rfl
   have Hx := zpS hxl; have HI := zpS hS; clear hxl hS e1; have hcx := HC.out x; cases hin : zwV x <;> rw [hin] at hcx
   ·go_wp2_with (go_at_call 104; refine (Tryz.asciiSet_contains _ x _ _ hcx).mono ?_; rintro e w' ⟨rfl, hw⟩; rw [hw])
    go_roundg g
    case measure => omega
    case rel => exact ⟨by first | rfl | simp, rfl, ⟨by omega, by rw [HI.out]; show (if zwV (s.data.toList.getD g 0) = true then (g : Int) else _) = _; rw [Hx.out, hin]; rfl⟩⟩
   ·go_wp2_with (go_at_call 104; refine (Tryz.asciiSet_contains _ x _ _ hcx).mono ?_; rintro e w' ⟨rfl, hw⟩; rw [hw])
    go_ret; refine ⟨?_, znU (znU (Below.refl _ _) _) _⟩; rw [HI.out]; show Ending.returned (.int .i64 _) = .returned (.int .i64 (if zwV (s.data.toList.getD g 0) = true then (g : Int) else _)); rw [Hx.out, hin]; rfl
set_option maxRecDepth 1000000 in
theorem strings_LastIndexAny_one (s : ByteArray) (x : UInt8) (v : Int) (w : World) (h1 : s.size = 1) (hx : ∀ h, s[0]'h = x) (hv : (zwV x = true ∧ v = 0) ∨ (zwV x = false ∧ v = -1)) :
  Calls Tryz.prog 76 #[.string s, .string ⟨#[43, 45]⟩] w fun e w' => e = .returned (.int .i64 v) ∧ Below w.heap.size w w' := by
 have hx := hx (by omega); have hn2 : ((s.size : Int) == 1) = true := beq_iff_eq.2 (by omega)
 have hz1 : (s.size : Int) = 1 := by omega
 rcases hv with ⟨hs, rfl⟩ | ⟨hs, rfl⟩
 ·have hs' := (zwH x).1 hs
  have HS := zpS hs'
  have c3 : ¬ (128 ≤ (x.toNat : Int)) := by omega
  have c1 : decide ((x.toNat : Int) ≥ 128) = false := decide_eq_false c3; clear hs hs'; go_enter Tryz.func76, Tryz.ntmps76
  go_wp2_with (first | (go_at_call 101; refine (zdV (x.toNat : Int) (by have := HS.out; omega) w _ (Below.refl _ _)).mono ?_; rintro e w' ⟨y, rfl, hb⟩; have HB := zpS hb; clear hb))
  go_ret
  exact ⟨rfl, HB.out⟩
 ·have hs' : ¬ (x.toNat = 43 ∨ x.toNat = 45) := fun h => by rw [(zwH x).2 h] at hs; cases hs
  have HS := zpS hs'; clear hs hs'; have hx256 : x.toNat < 256 := UInt8.toNat_lt x
  have hw : wrap32 (x.toNat : Int) = (x.toNat : Int) := by unfold wrap32; omega
  by_cases c3 : 128 ≤ (x.toNat : Int)
  ·have c1 : decide ((x.toNat : Int) ≥ 128) = true := decide_eq_true c3
   go_enter Tryz.func76, Tryz.ntmps76
   go_wp2_with (first | (go_at_call 101; refine (znY w _ (Below.refl _ _)).mono ?_; rintro e w' ⟨rfl, hb⟩; have HB := zpS hb; clear hb))
   go_ret
   exact ⟨rfl, HB.out⟩
  ·have c1 : decide ((x.toNat : Int) ≥ 128) = false := decide_eq_false c3
   go_enter Tryz.func76, Tryz.ntmps76
   go_wp2_with (first | (go_at_call 101; refine (zmJ (x.toNat : Int) (by omega) (by have := HS.out; omega) w _ (Below.refl _ _)).mono ?_; rintro e w' ⟨rfl, hb⟩; have HB := zpS hb; clear hb))
   go_ret
   exact ⟨rfl, HB.out⟩
set_option maxRecDepth 1000000 in
theorem strings_LastIndexAny_short (s : ByteArray) (v : Int) (w : World) (hG : LaidV w) (h1 : s.size ≠ 1) (h8 : s.size ≤ 8) (hv : v = zrT s.data.toList (s.size + 1) s.size) :
  Calls Tryz.prog 76 #[.string s, .string ⟨#[43, 45]⟩] w fun e w' => e = .returned (.int .i64 v) ∧ Below w.heap.size w w' := by
 have hn2 : ((s.size : Int) == 1) = false := beq_eq_false_iff_ne.2 (by omega); have h8z : decide ((8 : Int) < (s.size : Int)) = false := decide_eq_false (by omega); have HV := zpS hv; have HT := zpS hG; clear hv hG; go_enter Tryz.func76, Tryz.ntmps76
 go_wp2_with (first
  | (go_at_call 102; refine (Tryz.strings_shouldUseASCIISet _ _).mono ?_; rintro e w' ⟨rfl, hw⟩; rw [hw, h8z]))
 go_loopg [13, 14, 15] s.size (fun g s13 _ _ wx => ∃ i : Nat, s13 = .int .i64 (i : Int) ∧ Aside0 (i ≤ g ∧ i ≤ s.size ∧ v = zrT s.data.toList (g + 1) i) ∧ Aside0 (Below w.heap.size w wx))
 case atStart => exact ⟨_, rfl, ⟨Nat.le_refl _, Nat.le_refl _, HV.out⟩, ⟨Below.refl _ _⟩⟩
 case round =>
  obtain ⟨i, rfl, HI, HB⟩ := hrel
  by_cases hi : i = 0
  ·subst hi
   have c1 : decide (((0 : Nat) : Int) > 0) = false := by decide
   go_wp2
   go_ret; have := HI.out.2.2
   exact ⟨by rw [this]; rfl, HB.out⟩
  ·have c1 : decide ((i : Int) > 0) = true := decide_eq_true (by omega)
   have c0 : (0 : Int) < (i : Int) := by omega
   have c2 : (i : Int) ≤ (s.size : Int) := by have := HI.out.2.1; omega
   have hne : s.data.toList.take i ≠ [] := fun h => by
    have h2 := congrArg List.length h; have h3 := Lib.size_eq s; have h4 := HI.out.2.1; rw [List.length_take] at h2; simp only [List.length_nil] at h2
    omega
   obtain ⟨d1, d2⟩ := strings_LastIndexAny_dl _ hne; rw [List.length_take] at d2; obtain ⟨d, hd⟩ : ∃ d, d = Lib.decodeLastL (s.data.toList.take i) := ⟨_, rfl⟩; rw [← hd] at d1 d2; have d3 : d.2 ≤ i := Nat.le_trans d2 (Nat.min_le_left _ _); have HD := zpS hd
   have hdec : ∀ W, Below w.heap.size w W → Calls Tryz.prog 105 #[.string (s.extract 0 i)] W fun e w' => e = .returned (.tuple #[.int .i32 (d.1 : Int), .int .i64 (d.2 : Int)]) ∧ Below w.heap.size w w' := fun W hb => by
    refine (Tryz.utf8_DecodeLastRuneInString _ W (by rw [ByteArray.size_extract]; omega) (LaidV.below HT.out hb).v2).mono ?_; rintro e w' ⟨rfl, hb2⟩; rw [strings_LastIndexAny_ext, ← hd]
    exact ⟨rfl, hb.trans (hb2.mono hb.size)⟩
   have HDC := zpS hdec
   have i8 : i ≤ 8 := by have := HI.out.2.1; omega
   have hsub : ((i : Int) - (d.2 : Int)) = ((i - d.2 : Nat) : Int) := by omega
   have hback : zrT s.data.toList (gk + 1) i = if d.1 = 43 ∨ d.1 = 45 then ((i - d.2 : Nat) : Int) else zrT s.data.toList gk (i - d.2) := by
    rw [zrT, if_neg hi, ← hd]
   have HBK := zpS hback; have h1 := d1; have h2 := d3; clear hdec hd HD hback d2 hne; obtain ⟨r, z⟩ := d; dsimp only at *
   by_cases hr : r = 43 ∨ r = 45
   ·have HR := zpS hr
    clear hr
    go_wp2_with (first
     | (go_at_call 105; refine (HDC.out _ HB.out).mono ?_; rintro e w' ⟨rfl, hb⟩; have n0_ := zpS hb; clear hb HB; have HB := n0_; clear n0_)
     | (go_at_call 101; refine (zdV (r : Int) (by have := HR.out; omega) w _ HB.out).mono ?_; rintro e w' ⟨y, rfl, hb⟩; have n0_ := zpS hb; clear hb HB; have HB := n0_; clear n0_))
    go_ret; refine ⟨?_, HB.out⟩; have hv := HI.out.2.2; rw [HBK.out, if_pos HR.out] at hv; rw [hv]; rfl
   ·have HR := zpS hr
    clear hr
    go_wp2_with (first
     | (go_at_call 105; refine (HDC.out _ HB.out).mono ?_; rintro e w' ⟨rfl, hb⟩; have n0_ := zpS hb; clear hb HB; have HB := n0_; clear n0_)
     | (go_at_call 101; refine (zmJ (r : Int) (by omega) (by have := HR.out; omega) w _ HB.out).mono ?_; rintro e w' ⟨rfl, hb⟩; have n0_ := zpS hb; clear hb HB; have HB := n0_; clear n0_))
    go_roundg (gk - 1)
    case measure => have := HI.out.1; omega
    case rel =>
     have hv := HI.out.2.2; rw [HBK.out, if_neg HR.out] at hv
     exact ⟨i - z, rfl, ⟨by have := HI.out.1; omega, by have := HI.out.2.1; omega, by rw [hv, show gk - 1 + 1 = gk by have := HI.out.1; omega]⟩, HB⟩
theorem zmH.calls (a0 a1 : ByteArray) (r : Int) (w : World) (hG : LaidV w) (h : zmH.f a0 a1 = some r) :
  Calls Tryz.prog 76 #[.string a0, .string a1] w fun e w' => e = .returned (.int .i64 r) ∧ Below w.heap.size w w' := by
 unfold zmH.f at h
 by_cases hc : a1 = ⟨#[43, 45]⟩ ∧ a0.size ≤ 1048576
 ·rw [if_pos hc] at h
  obtain ⟨rfl, hsz⟩ := hc; have h := Option.some.inj h
  by_cases h1 : a0.size = 1
  ·rw [if_pos h1] at h
   have hx : ∀ hh, a0[0]'hh = a0.data.toList.getD 0 0 := fun hh => by rw [List.getD_eq_getElem?_getD, Lib.data_getElem? a0 0 hh]; rfl
   refine strings_LastIndexAny_one a0 _ r w h1 hx ?_; cases hs : zwV (a0.data.toList.getD 0 0) <;> rw [hs] at h
   ·exact Or.inr ⟨rfl, by simpa using h.symm⟩
   ·exact Or.inl ⟨rfl, by simpa using h.symm⟩
  ·rw [if_neg h1] at h
   by_cases h8 : 8 < a0.size
   ·rw [if_pos h8] at h
    subst h
    exact strings_LastIndexAny_long a0 w h8 hsz
   ·rw [if_neg h8] at h
    exact strings_LastIndexAny_short a0 r w hG h1 (by omega) h.symm
 ·rw [if_neg hc] at h; cases h

def zsS.f (a0 : ByteArray) : Option (Int × Int) := (zlW.f a0 (⟨#[114]⟩ : ByteArray)).bind fun bt345 => (if bt345.2 = true then ((zmH.f bt345.1 (⟨#[43, 45]⟩ : ByteArray)).bind fun t349 => (if t349 ≤ 0 then ((zkI.f bt345.1).bind fun bt350 => (some (0, bt350.1))) else (if 0 ≤ t349 then (if t349 ≤ (bt345.1.size : Int) then ((zkI.f (bt345.1.extract 0 (t349 : Int).toNat)).bind fun bt352 => ((zjE.f (bt345.1.extract (t349 : Int).toNat bt345.1.size) (⟨#[43]⟩ : ByteArray)).bind fun t354 => ((zkI.f t354).bind fun bt355 => (some (bt352.1, bt355.1))))) else (none)) else (none)))) else ((zkI.f a0).bind fun bt347 => (some (bt347.1, 0))))
theorem zsS.calls (a0 : ByteArray) (r1 : Int) (r2 : Int) (w : World) (hG : LaidV w) (h : zsS.f a0 = some (r1, r2)) :
  Calls Tryz.prog 50 #[.string a0] w fun e w' => e = .returned (.tuple #[.int .i64 r1, .int .i64 r2]) ∧ Below w.heap.size w w' := by
 have HB := zpS (Below.refl w.heap.size w); have H := h; unfold zsS.f at H; clear h; replace H := be_ H; obtain ⟨⟨t345, t346⟩, A2, H⟩ := H; dsimp only at H; replace H := ib_ H
 rcases H with ⟨rfl, H⟩ | ⟨rfl, H⟩
 ·replace H := be_ H
  obtain ⟨t349, A4, H⟩ := H; replace H := iq_ H
  rcases H with ⟨c5b0, H⟩ | ⟨c5b0, H⟩
  ·replace H := be_ H
   obtain ⟨⟨t350, t351⟩, A6, H⟩ := H; dsimp only at H; simp only [Option.some.injEq, Prod.mk.injEq] at H; obtain ⟨rfl, rfl⟩ := H; go_enter Tryz.func50, Tryz.ntmps50
   go_wp2_with (first | ((with_reducible refine zgK (f := 25) rfl ?_); refine gl_ (some 17) Tryz.func25 #[.string a0, .string (⟨#[114]⟩ : ByteArray)] ?_; (with_reducible refine (zlW.calls a0 (⟨#[114]⟩ : ByteArray) t345 true _ A2.out).mono ?_); rintro e w' ⟨rfl, ⟨nd, rfl⟩⟩; refine ⟨_, rfl, ?_⟩) | ((with_reducible refine zgK (f := 76) rfl ?_); refine gl_ (some 29) Tryz.func76 #[.string t345, .string (⟨#[43, 45]⟩ : ByteArray)] ?_; (with_reducible refine (zmH.calls t345 (⟨#[43, 45]⟩ : ByteArray) t349 _ ?side1 A4.out).mono ?_); (case side1 => exact LaidV.below hG bb_); rintro e w7 ⟨rfl, hb⟩; refine ⟨_, rfl, ?_⟩; replace HB := ns_ hb; (try clear hb); (try clear hb2)) | ((with_reducible refine zgK (f := 48) rfl ?_); refine gl_ (some 34) Tryz.func48 #[.string t345] ?_; (with_reducible refine (zkI.calls t345 t350 t351 _ ?side1 A6.out).mono ?_); (case side1 => exact LaidV.below hG bb_); rintro e w8 ⟨rfl, hb⟩; refine ⟨_, rfl, ?_⟩; replace HB := ns_ hb; (try clear hb); (try clear hb2)))
   go_ret2
   exact ⟨ex_, bb_⟩
  ·replace H := in_ H
   obtain ⟨c9, H⟩ := H; have c9b0 := eq_true c9; have c9b1 := decide_eq_true c9; clear c9; replace H := in_ H; obtain ⟨c10, H⟩ := H; have c10b0 := eq_true c10; have c10b1 := decide_eq_true c10; clear c10; replace H := be_ H; obtain ⟨⟨t352, t353⟩, A11, H⟩ := H; dsimp only at H; have c12b0 := eq_true (dt_ : 0 ≤ t349); have c13b0 := eq_true (dt_ : t349 ≤ (t345.size : Int)); replace H := be_ H; obtain ⟨t354, A14, H⟩ := H; replace H := be_ H; obtain ⟨⟨t355, t356⟩, A15, H⟩ := H; dsimp only at H; simp only [Option.some.injEq, Prod.mk.injEq] at H; obtain ⟨rfl, rfl⟩ := H; go_enter Tryz.func50, Tryz.ntmps50
   go_wp2_with (first | ((with_reducible refine zgK (f := 25) rfl ?_); refine gl_ (some 17) Tryz.func25 #[.string a0, .string (⟨#[114]⟩ : ByteArray)] ?_; (with_reducible refine (zlW.calls a0 (⟨#[114]⟩ : ByteArray) t345 true _ A2.out).mono ?_); rintro e w' ⟨rfl, ⟨nd, rfl⟩⟩; refine ⟨_, rfl, ?_⟩) | ((with_reducible refine zgK (f := 76) rfl ?_); refine gl_ (some 29) Tryz.func76 #[.string t345, .string (⟨#[43, 45]⟩ : ByteArray)] ?_; (with_reducible refine (zmH.calls t345 (⟨#[43, 45]⟩ : ByteArray) t349 _ ?side1 A4.out).mono ?_); (case side1 => exact LaidV.below hG bb_); rintro e w16 ⟨rfl, hb⟩; refine ⟨_, rfl, ?_⟩; replace HB := ns_ hb; (try clear hb); (try clear hb2)) | ((with_reducible refine zgK (f := 48) rfl ?_); refine gl_ (some 42) Tryz.func48 #[.string (t345.extract 0 (t349 : Int).toNat)] ?_; (with_reducible refine (zkI.calls (t345.extract 0 (t349 : Int).toNat) t352 t353 _ ?side1 A11.out).mono ?_); (case side1 => exact LaidV.below hG bb_); rintro e w17 ⟨rfl, hb⟩; refine ⟨_, rfl, ?_⟩; replace HB := ns_ hb; (try clear hb); (try clear hb2)) | ((with_reducible refine zgK (f := 52) rfl ?_); refine gl_ (some 49) Tryz.func52 #[.string (t345.extract (t349 : Int).toNat t345.size), .string (⟨#[43]⟩ : ByteArray)] ?_; (with_reducible refine (zjE.calls (t345.extract (t349 : Int).toNat t345.size) (⟨#[43]⟩ : ByteArray) t354 _ A14.out).mono ?_); rintro e w' ⟨rfl, ⟨nd, rfl⟩⟩; refine ⟨_, rfl, ?_⟩) | ((with_reducible refine zgK (f := 48) rfl ?_); refine gl_ (some 50) Tryz.func48 #[.string t354] ?_; (with_reducible refine (zkI.calls t354 t355 t356 _ ?side1 A15.out).mono ?_); (case side1 => exact LaidV.below hG bb_); rintro e w18 ⟨rfl, hb⟩; refine ⟨_, rfl, ?_⟩; replace HB := ns_ hb; (try clear hb); (try clear hb2)))
   go_ret2
   exact ⟨ex_, bb_⟩
 ·replace H := be_ H
  obtain ⟨⟨t347, t348⟩, A19, H⟩ := H; dsimp only at H; simp only [Option.some.injEq, Prod.mk.injEq] at H; obtain ⟨rfl, rfl⟩ := H; go_enter Tryz.func50, Tryz.ntmps50
  go_wp2_with (first | ((with_reducible refine zgK (f := 25) rfl ?_); refine gl_ (some 17) Tryz.func25 #[.string a0, .string (⟨#[114]⟩ : ByteArray)] ?_; (with_reducible refine (zlW.calls a0 (⟨#[114]⟩ : ByteArray) t345 false _ A2.out).mono ?_); rintro e w' ⟨rfl, ⟨nd, rfl⟩⟩; refine ⟨_, rfl, ?_⟩) | ((with_reducible refine zgK (f := 48) rfl ?_); refine gl_ (some 24) Tryz.func48 #[.string a0] ?_; (with_reducible refine (zkI.calls a0 t347 t348 _ ?side1 A19.out).mono ?_); (case side1 => exact LaidV.below hG bb_); rintro e w20 ⟨rfl, hb⟩; refine ⟨_, rfl, ?_⟩; replace HB := ns_ hb; (try clear hb); (try clear hb2)))
  go_ret2
  exact ⟨ex_, bb_⟩

def stringslite_TrimSuffix.f (a0 : ByteArray) (a1 : ByteArray) : Option (ByteArray) := (stringslite_HasSuffix.f a0 a1).bind fun t357 => (if t357 = true then (if 0 ≤ (wrap64 ((a0.size : Int) - (a1.size : Int))) then (if (wrap64 ((a0.size : Int) - (a1.size : Int))) ≤ (a0.size : Int) then (some (a0.extract 0 ((wrap64 ((a0.size : Int) - (a1.size : Int))) : Int).toNat)) else (none)) else (none)) else (some a0))
theorem stringslite_TrimSuffix.calls (a0 : ByteArray) (a1 : ByteArray) (r : ByteArray) (w : World) (h : stringslite_TrimSuffix.f a0 a1 = some r) :
  Calls Tryz.prog 77 #[.string a0, .string a1] w fun e w' => e = .returned (.string r) ∧ Drawn0 w w' := by
 have H := h; unfold stringslite_TrimSuffix.f at H; clear h; replace H := be_ H; obtain ⟨t357, A3, H⟩ := H; replace H := ib_ H
 rcases H with ⟨rfl, H⟩ | ⟨rfl, H⟩
 ·obtain ⟨ji5, hji5⟩ : ∃ j_ : Int, (wrap64 ((a0.size : Int) - (a1.size : Int))) = j_ := ⟨_, rfl⟩
  replace H : (if 0 ≤ (ji5) then (if (ji5) ≤ (a0.size : Int) then (some (a0.extract 0 ((ji5) : Int).toNat)) else (none)) else (none)) = some r := by first | (rw [hji5] at H; exact H) | (simp only [hji5] at H ⊢; exact H)
  (try rw [hji5] at A3)
  have hji5w : (IntKind.i64.wrap ((a0.size : Int) - (a1.size : Int))) = ji5 := (zcN _).trans hji5; replace H := in_ H; obtain ⟨c6, H⟩ := H; have c6b0 := eq_true c6; have c6b1 := decide_eq_true c6; clear c6; replace H := in_ H; obtain ⟨c7, H⟩ := H; have c7b0 := eq_true c7; have c7b1 := decide_eq_true c7; clear c7; obtain rfl := Option.some.inj H; go_enter Tryz.func77, Tryz.ntmps77
  go_wp2_with (first | ((with_reducible refine zgK (f := 73) rfl ?_); refine gl_ (some 7) Tryz.func73 #[.string a0, .string a1] ?_; (with_reducible refine (stringslite_HasSuffix.calls a0 a1 true _ A3.out).mono ?_); rintro e w' ⟨rfl, ⟨nd, rfl⟩⟩; refine ⟨_, rfl, ?_⟩))
  go_ret
  exact ⟨by first | rfl | (simp; done) | (simp only [← hji5] <;> (first | rfl | simp)) | (simp [*]; done), dn_⟩
 ·obtain rfl := Option.some.inj H
  go_enter Tryz.func77, Tryz.ntmps77
  go_wp2_with (first | ((with_reducible refine zgK (f := 73) rfl ?_); refine gl_ (some 7) Tryz.func73 #[.string a0, .string a1] ?_; (with_reducible refine (stringslite_HasSuffix.calls a0 a1 false _ A3.out).mono ?_); rintro e w' ⟨rfl, ⟨nd, rfl⟩⟩; refine ⟨_, rfl, ?_⟩))
  go_ret
  exact ⟨ey_, dn_⟩

def ziM.f (a0 : ByteArray) (a1 : ByteArray) : Option (ByteArray) := (stringslite_TrimSuffix.f a0 a1).bind fun t358 => (some t358)
theorem ziM.calls (a0 : ByteArray) (a1 : ByteArray) (r : ByteArray) (w : World) (h : ziM.f a0 a1 = some r) :
  Calls Tryz.prog 51 #[.string a0, .string a1] w fun e w' => e = .returned (.string r) ∧ Drawn0 w w' := by
 have H := h; unfold ziM.f at H; clear h; replace H := be_ H; obtain ⟨t358, A3, H⟩ := H; obtain rfl := Option.some.inj H; go_enter Tryz.func51, Tryz.ntmps51
 go_wp2_with (first | ((with_reducible refine zgK (f := 77) rfl ?_); refine gl_ (some 7) Tryz.func77 #[.string a0, .string a1] ?_; (with_reducible refine (stringslite_TrimSuffix.calls a0 a1 t358 _ A3.out).mono ?_); rintro e w' ⟨rfl, ⟨nd, rfl⟩⟩; refine ⟨_, rfl, ?_⟩))
 go_ret
 exact ⟨ey_, dn_⟩

def zrP.f (a0 : Int) (a1 : Int) (a2 : Int) : Option (Bool) := if a0 ≥ a1 then (some (decide (a0 ≤ a2))) else (some false)
theorem zrP.calls (a0 : Int) (a1 : Int) (a2 : Int) (r : Bool) (w : World) (h : zrP.f a0 a1 a2 = some r) :
  Calls Tryz.prog 28 #[.int .i64 a0, .int .i64 a1, .int .i64 a2] w fun e w' => e = .returned (.bool r) ∧ Drawn0 w w' := by
 have H := h; unfold zrP.f at H; clear h; replace H := ip_ H
 rcases H with ⟨c4, H⟩ | ⟨c4, H⟩
 ·have c4b0 : decide (a1 ≤ a0) = true := decide_eq_true c4
  clear c4; obtain rfl := Option.some.inj H; go_enter Tryz.func28, Tryz.ntmps28
  go_wp2
  go_ret
  exact ⟨ey_, dn_⟩
 ·have c4b0 : decide (a1 ≤ a0) = false := decide_eq_false c4
  clear c4; obtain rfl := Option.some.inj H; go_enter Tryz.func28, Tryz.ntmps28
  go_wp2
  go_ret
  exact ⟨ey_, dn_⟩

def zdR.f (a0_0 : Int) (a0_1 : Int) (a0_2 : Int) : Option (Bool) := (zrP.f a0_0 (-131072) 131072).bind fun t360 => (if t360 = true then ((zrP.f a0_1 (-131072) 131072).bind fun t361 => (if t361 = true then ((zrP.f a0_2 0 10).bind fun t362 => (if t362 = true then (if a0_2 = 0 then (some true) else (if (Go.bits .and .i64 a0_0 1) = 1 then (some true) else (some ((Go.bits .and .i64 a0_1 1) == 1)))) else (some false))) else (some false))) else (some false))
theorem zdR.calls (a0_0 : Int) (a0_1 : Int) (a0_2 : Int) (r : Bool) (w : World) (h : zdR.f a0_0 a0_1 a0_2 = some r) :
  Calls Tryz.prog 53 #[.agg #[.int .i64 a0_0, .int .i64 a0_1, .int .i64 a0_2]] w fun e w' => e = .returned (.bool r) ∧ Below w.heap.size w w' := by
 have hu31 := Tryz.underlying31; have HB := zpS (Below.refl w.heap.size w); have H := h; unfold zdR.f at H; clear h; replace H := be_ H; obtain ⟨t360, A2, H⟩ := H; replace H := ib_ H
 rcases H with ⟨rfl, H⟩ | ⟨rfl, H⟩
 ·replace H := be_ H
  obtain ⟨t361, A4, H⟩ := H; replace H := ib_ H
  rcases H with ⟨rfl, H⟩ | ⟨rfl, H⟩
  ·replace H := be_ H
   obtain ⟨t362, A6, H⟩ := H; replace H := ib_ H
   rcases H with ⟨rfl, H⟩ | ⟨rfl, H⟩
   ·replace H := ip_ H
    rcases H with ⟨c8, H⟩ | ⟨c8, H⟩
    ·have c8b0 := bqt_ c8
     have c8b1 := bnf_ c8; clear c8; obtain rfl := Option.some.inj H; go_enter Tryz.func53, Tryz.ntmps53
     go_wp2_with (first | ((with_reducible refine zpZ (N := 1) rfl ?_); refine bx_ 1 #[.int .i64 a0_0, .int .i64 a0_1, .int .i64 a0_2] 31 ?_; intro gb359 hg w9 hbox hb; have BK359 := zpS (hbox); have GW359 := ng_ hg; replace HB := ns_ hb; have GE359 := GW359; clear hb hbox hg; obtain ⟨hcz10_0, hcz10_1, hcz10_2⟩ := zdT BK359.out; obtain ⟨hfz10_0, hfz10_1, hfz10_2⟩ := zqD BK359.out) | ((with_reducible refine zgK (f := 28) rfl ?_); refine gl_ (some 5) Tryz.func28 #[.int .i64 a0_0, .int .i64 (-131072), .int .i64 131072] ?_; (with_reducible refine (zrP.calls a0_0 (-131072) 131072 true _ A2.out).mono ?_); rintro e w' ⟨rfl, ⟨nd, rfl⟩⟩; refine ⟨_, rfl, ?_⟩) | (go_at_call 28; (with_reducible refine (zrP.calls a0_1 (-131072) 131072 true _ A4.out).mono ?_); rintro e w' ⟨rfl, ⟨nd, rfl⟩⟩) | (go_at_call 28; (with_reducible refine (zrP.calls a0_2 0 10 true _ A6.out).mono ?_); rintro e w' ⟨rfl, ⟨nd, rfl⟩⟩))
     go_ret
     exact ⟨ex_, bb_⟩
    ·have c8b0 := bqf_ c8
     have c8b1 := bnt_ c8; replace H := ip_ H
     rcases H with ⟨c11, H⟩ | ⟨c11, H⟩
     ·have c11b0 := bqt_ c11
      have c11b1 := bnf_ c11; clear c11; obtain rfl := Option.some.inj H; go_enter Tryz.func53, Tryz.ntmps53
      go_wp2_with (first | ((with_reducible refine zpZ (N := 1) rfl ?_); refine bx_ 1 #[.int .i64 a0_0, .int .i64 a0_1, .int .i64 a0_2] 31 ?_; intro gb359 hg w12 hbox hb; have BK359 := zpS (hbox); have GW359 := ng_ hg; replace HB := ns_ hb; have GE359 := GW359; clear hb hbox hg; obtain ⟨hcz13_0, hcz13_1, hcz13_2⟩ := zdT BK359.out; obtain ⟨hfz13_0, hfz13_1, hfz13_2⟩ := zqD BK359.out) | ((with_reducible refine zgK (f := 28) rfl ?_); refine gl_ (some 5) Tryz.func28 #[.int .i64 a0_0, .int .i64 (-131072), .int .i64 131072] ?_; (with_reducible refine (zrP.calls a0_0 (-131072) 131072 true _ A2.out).mono ?_); rintro e w' ⟨rfl, ⟨nd, rfl⟩⟩; refine ⟨_, rfl, ?_⟩) | (go_at_call 28; (with_reducible refine (zrP.calls a0_1 (-131072) 131072 true _ A4.out).mono ?_); rintro e w' ⟨rfl, ⟨nd, rfl⟩⟩) | (go_at_call 28; (with_reducible refine (zrP.calls a0_2 0 10 true _ A6.out).mono ?_); rintro e w' ⟨rfl, ⟨nd, rfl⟩⟩))
      go_ret
      exact ⟨ex_, bb_⟩
     ·have c11b0 := bqf_ c11
      have c11b1 := bnt_ c11; obtain rfl := Option.some.inj H; go_enter Tryz.func53, Tryz.ntmps53
      go_wp2_with (first | ((with_reducible refine zpZ (N := 1) rfl ?_); refine bx_ 1 #[.int .i64 a0_0, .int .i64 a0_1, .int .i64 a0_2] 31 ?_; intro gb359 hg w14 hbox hb; have BK359 := zpS (hbox); have GW359 := ng_ hg; replace HB := ns_ hb; have GE359 := GW359; clear hb hbox hg; obtain ⟨hcz15_0, hcz15_1, hcz15_2⟩ := zdT BK359.out; obtain ⟨hfz15_0, hfz15_1, hfz15_2⟩ := zqD BK359.out) | ((with_reducible refine zgK (f := 28) rfl ?_); refine gl_ (some 5) Tryz.func28 #[.int .i64 a0_0, .int .i64 (-131072), .int .i64 131072] ?_; (with_reducible refine (zrP.calls a0_0 (-131072) 131072 true _ A2.out).mono ?_); rintro e w' ⟨rfl, ⟨nd, rfl⟩⟩; refine ⟨_, rfl, ?_⟩) | (go_at_call 28; (with_reducible refine (zrP.calls a0_1 (-131072) 131072 true _ A4.out).mono ?_); rintro e w' ⟨rfl, ⟨nd, rfl⟩⟩) | (go_at_call 28; (with_reducible refine (zrP.calls a0_2 0 10 true _ A6.out).mono ?_); rintro e w' ⟨rfl, ⟨nd, rfl⟩⟩))
      go_ret
      exact ⟨ex_, bb_⟩
   ·obtain rfl := Option.some.inj H
    go_enter Tryz.func53, Tryz.ntmps53
    go_wp2_with (first | ((with_reducible refine zpZ (N := 1) rfl ?_); refine bx_ 1 #[.int .i64 a0_0, .int .i64 a0_1, .int .i64 a0_2] 31 ?_; intro gb359 hg w16 hbox hb; have BK359 := zpS (hbox); have GW359 := ng_ hg; replace HB := ns_ hb; have GE359 := GW359; clear hb hbox hg; obtain ⟨hcz17_0, hcz17_1, hcz17_2⟩ := zdT BK359.out; obtain ⟨hfz17_0, hfz17_1, hfz17_2⟩ := zqD BK359.out) | ((with_reducible refine zgK (f := 28) rfl ?_); refine gl_ (some 5) Tryz.func28 #[.int .i64 a0_0, .int .i64 (-131072), .int .i64 131072] ?_; (with_reducible refine (zrP.calls a0_0 (-131072) 131072 true _ A2.out).mono ?_); rintro e w' ⟨rfl, ⟨nd, rfl⟩⟩; refine ⟨_, rfl, ?_⟩) | (go_at_call 28; (with_reducible refine (zrP.calls a0_1 (-131072) 131072 true _ A4.out).mono ?_); rintro e w' ⟨rfl, ⟨nd, rfl⟩⟩) | (go_at_call 28; (with_reducible refine (zrP.calls a0_2 0 10 false _ A6.out).mono ?_); rintro e w' ⟨rfl, ⟨nd, rfl⟩⟩))
    go_ret
    exact ⟨ex_, bb_⟩
  ·obtain rfl := Option.some.inj H
   go_enter Tryz.func53, Tryz.ntmps53
   go_wp2_with (first | ((with_reducible refine zpZ (N := 1) rfl ?_); refine bx_ 1 #[.int .i64 a0_0, .int .i64 a0_1, .int .i64 a0_2] 31 ?_; intro gb359 hg w18 hbox hb; have BK359 := zpS (hbox); have GW359 := ng_ hg; replace HB := ns_ hb; have GE359 := GW359; clear hb hbox hg; obtain ⟨hcz19_0, hcz19_1, hcz19_2⟩ := zdT BK359.out; obtain ⟨hfz19_0, hfz19_1, hfz19_2⟩ := zqD BK359.out) | ((with_reducible refine zgK (f := 28) rfl ?_); refine gl_ (some 5) Tryz.func28 #[.int .i64 a0_0, .int .i64 (-131072), .int .i64 131072] ?_; (with_reducible refine (zrP.calls a0_0 (-131072) 131072 true _ A2.out).mono ?_); rintro e w' ⟨rfl, ⟨nd, rfl⟩⟩; refine ⟨_, rfl, ?_⟩) | (go_at_call 28; (with_reducible refine (zrP.calls a0_1 (-131072) 131072 false _ A4.out).mono ?_); rintro e w' ⟨rfl, ⟨nd, rfl⟩⟩))
   go_ret
   exact ⟨ex_, bb_⟩
 ·obtain rfl := Option.some.inj H
  go_enter Tryz.func53, Tryz.ntmps53
  go_wp2_with (first | ((with_reducible refine zpZ (N := 1) rfl ?_); refine bx_ 1 #[.int .i64 a0_0, .int .i64 a0_1, .int .i64 a0_2] 31 ?_; intro gb359 hg w20 hbox hb; have BK359 := zpS (hbox); have GW359 := ng_ hg; replace HB := ns_ hb; have GE359 := GW359; clear hb hbox hg; obtain ⟨hcz21_0, hcz21_1, hcz21_2⟩ := zdT BK359.out; obtain ⟨hfz21_0, hfz21_1, hfz21_2⟩ := zqD BK359.out) | ((with_reducible refine zgK (f := 28) rfl ?_); refine gl_ (some 5) Tryz.func28 #[.int .i64 a0_0, .int .i64 (-131072), .int .i64 131072] ?_; (with_reducible refine (zrP.calls a0_0 (-131072) 131072 false _ A2.out).mono ?_); rintro e w' ⟨rfl, ⟨nd, rfl⟩⟩; refine ⟨_, rfl, ?_⟩))
  go_ret
  exact ⟨ex_, bb_⟩

def strconv_FormatInt.f (a0 a1 : Int) : Option ByteArray := if a1 = 10 then (if -9223372036854775808 ≤ a0 ∧ a0 ≤ 9223372036854775807 then some ⟨(Lib.itoa a0).toArray⟩ else none) else none
theorem strconv_FormatInt.calls (a0 a1 : Int) (r : ByteArray) (w : World) (hG : LaidV w) (h : strconv_FormatInt.f a0 a1 = some r) :
  Calls Tryz.prog 100 #[.int .i64 a0, .int .i64 a1] w fun e w' => e = .returned (.string r) ∧ Below w.heap.size w w' := by
 unfold strconv_FormatInt.f at h
 by_cases h1 : a1 = 10
 ·rw [if_pos h1] at h
  subst h1
  by_cases h2 : -9223372036854775808 ≤ a0 ∧ a0 ≤ 9223372036854775807
  ·rw [if_pos h2] at h
   obtain rfl := Option.some.inj h; refine (Tryz.strconv_FormatInt_10 a0 h2.1 h2.2 w hG.v6).mono ?_; rintro e w' ⟨rfl, k, os, rfl⟩
   exact ⟨rfl, rfl, rfl, rfl, by show w.heap.size ≤ (w.heap ++ os).size; rw [Array.size_append]; omega, fun i hi => Array.getElem?_append_left hi⟩
  ·rw [if_neg h2] at h; cases h
 ·rw [if_neg h1] at h; cases h

def zcM.f (a0 : Int) : Option (ByteArray) := (strconv_FormatInt.f a0 10).bind fun t363 => (some t363)
theorem zcM.calls (a0 : Int) (r : ByteArray) (w : World) (hG : LaidV w) (h : zcM.f a0 = some r) :
  Calls Tryz.prog 75 #[.int .i64 a0] w fun e w' => e = .returned (.string r) ∧ Below w.heap.size w w' := by
 have HB := zpS (Below.refl w.heap.size w); have H := h; unfold zcM.f at H; clear h; replace H := be_ H; obtain ⟨t363, A2, H⟩ := H; obtain rfl := Option.some.inj H; go_enter Tryz.func75, Tryz.ntmps75
 go_wp2_with (first | ((with_reducible refine zgK (f := 100) rfl ?_); refine gl_ (some 4) Tryz.func100 #[.int .i64 a0, .int .i64 10] ?_; (with_reducible refine (strconv_FormatInt.calls a0 10 t363 _ ?side1 A2.out).mono ?_); (case side1 => exact LaidV.below hG bb_); rintro e w3 ⟨rfl, hb⟩; refine ⟨_, rfl, ?_⟩; replace HB := ns_ hb; (try clear hb); (try clear hb2)))
 go_ret
 exact ⟨ex_, bb_⟩

def zgD.f (a0 : Int) : Option (Int) := some (mx a0 (wrap64 (-a0)))
theorem zgD.calls (a0 : Int) (r : Int) (w : World) (h : zgD.f a0 = some r) :
  Calls Tryz.prog 79 #[.int .i64 a0] w fun e w' => e = .returned (.int .i64 r) ∧ Below w.heap.size w w' := by
 have HB := zpS (Below.refl w.heap.size w); have H := h; unfold zgD.f at H; clear h; obtain ⟨ji2, hji2⟩ : ∃ j_ : Int, (mx a0 (wrap64 (-a0))) = j_ := ⟨_, rfl⟩
 replace H : (some ji2) = some r := by first | (rw [hji2] at H; exact H) | (simp only [hji2] at H ⊢; exact H)
 have hji2_ : (if a0 < (wrap64 (-a0)) then (wrap64 (-a0)) else a0) = ji2 := hji2; obtain rfl := Option.some.inj H; go_enter Tryz.func79, Tryz.ntmps79
 go_wp2
 go_ret
 exact ⟨by first | rfl | (simp [ziS, znJ] <;> rfl) | (simp only [← hji2]; first | rfl | (simp [ziS, znJ] <;> rfl)) | (simp [*, ziS, znJ] <;> rfl), bb_⟩

end Go.Proofs.YtehghobmmpihfaaGreatDoor.PFnExactReadPolygon
