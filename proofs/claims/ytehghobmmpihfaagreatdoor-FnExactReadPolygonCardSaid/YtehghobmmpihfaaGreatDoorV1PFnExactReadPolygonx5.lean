-- Printed for this claim by this session's program pp.py, which drives the kit's print with additions. Not trusted: Lean checks it.
import Derived.Test.YtehghobmmpihfaaGreatDoorV1PFnExactReadPolygonx3
import Derived.Test.YtehghobmmpihfaaGreatDoorV1PFnExactReadPolygonx4
namespace Go.Proofs.YtehghobmmpihfaaGreatDoor.PFnExactReadPolygon
open Go.RowKit Go.Proofs.YtehghobmmpihfaaGreatDoorW.PrintWords Go.Proofs.YtehghobmmpihfaaGreatDoorW.PrintLast Go.Proofs.YtehghobmmpihfaaGreatDoorW.PrintMore
attribute [local go_sem] zbB ziB zrC zhD znE zuB znH zkT   -- for this text's walks alone
set_option linter.unusedVariables false
set_option maxHeartbeats 8000000
set_option maxRecDepth 100000
set_option linter.unusedSimpArgs false

def zwU.j0 : Nat → ByteArray → Int → Int → Int → Option (ByteArray)
 | 0, _, _, _, _ => none
 | k + 1, x3, x134000, x134001, x134002 => if x134002 = 0 then (some x3) else (if x134000 = 0 then (if x3.size + 1 ≤ 9223372036854775807 then (if 0 ≤ (IntKind.u64.wrap (x134002)) then ((zlV.f k (shl .i64 1 (IntKind.u64.wrap (x134002)))).bind fun t140 => (if (x3 ++ (⟨#[47]⟩ : ByteArray)).size + t140.size ≤ 9223372036854775807 then (some ((x3 ++ (⟨#[47]⟩ : ByteArray)) ++ t140)) else (none))) else (none)) else (none)) else (if x134001 = 0 then (if x3.size + 1 ≤ 9223372036854775807 then (if 0 ≤ (IntKind.u64.wrap (x134002)) then ((zlV.f k (shl .i64 1 (IntKind.u64.wrap (x134002)))).bind fun t141 => (if (x3 ++ (⟨#[47]⟩ : ByteArray)).size + t141.size ≤ 9223372036854775807 then (some ((x3 ++ (⟨#[47]⟩ : ByteArray)) ++ t141)) else (none))) else (none)) else (none)) else (if 1 + x3.size ≤ 9223372036854775807 then (if ((⟨#[40]⟩ : ByteArray) ++ x3).size + 1 ≤ 9223372036854775807 then (if (((⟨#[40]⟩ : ByteArray) ++ x3) ++ (⟨#[41]⟩ : ByteArray)).size + 1 ≤ 9223372036854775807 then (if 0 ≤ (IntKind.u64.wrap (x134002)) then ((zlV.f k (shl .i64 1 (IntKind.u64.wrap (x134002)))).bind fun t142 => (if ((((⟨#[40]⟩ : ByteArray) ++ x3) ++ (⟨#[41]⟩ : ByteArray)) ++ (⟨#[47]⟩ : ByteArray)).size + t142.size ≤ 9223372036854775807 then (some (((((⟨#[40]⟩ : ByteArray) ++ x3) ++ (⟨#[41]⟩ : ByteArray)) ++ (⟨#[47]⟩ : ByteArray)) ++ t142)) else (none))) else (none)) else (none)) else (none)) else (none))))
def zwU.f (k : Nat) (a0_0 : Int) (a0_1 : Int) (a0_2 : Int) : Option (ByteArray) := if a0_1 = 0 then ((zlV.f k a0_0).bind fun t134 => (zwU.j0 k t134 a0_0 a0_1 a0_2)) else (if a0_0 = 0 then ((zlV.f k a0_1).bind fun t135 => (if t135.size + 1 ≤ 9223372036854775807 then (zwU.j0 k (t135 ++ (⟨#[114]⟩ : ByteArray)) a0_0 a0_1 a0_2) else (none))) else (if a0_1 > 0 then ((zlV.f k a0_0).bind fun t136 => (if t136.size + 1 ≤ 9223372036854775807 then ((zlV.f k a0_1).bind fun t137 => (if (t136 ++ (⟨#[43]⟩ : ByteArray)).size + t137.size ≤ 9223372036854775807 then (if ((t136 ++ (⟨#[43]⟩ : ByteArray)) ++ t137).size + 1 ≤ 9223372036854775807 then (zwU.j0 k (((t136 ++ (⟨#[43]⟩ : ByteArray)) ++ t137) ++ (⟨#[114]⟩ : ByteArray)) a0_0 a0_1 a0_2) else (none)) else (none))) else (none))) else ((zlV.f k a0_0).bind fun t138 => ((zlV.f k a0_1).bind fun t139 => (if t138.size + t139.size ≤ 9223372036854775807 then (if (t138 ++ t139).size + 1 ≤ 9223372036854775807 then (zwU.j0 k ((t138 ++ t139) ++ (⟨#[114]⟩ : ByteArray)) a0_0 a0_1 a0_2) else (none)) else (none))))))
theorem zwU.mono_l : ∀ k, (∀ y0 y1 y2 y3, LeO (zwU.j0 k y0 y1 y2 y3) (zwU.j0 (k + 1) y0 y1 y2 y3))
 | 0 => fun _ _ _ _ r h => by simp [zwU.j0] at h
 | k + 1 => by
  have ih0 := zwU.mono_l k
  ·intro y0 y1 y2 y3
   unfold zwU.j0
   repeat' (with_reducible first | exact ih0 _ _ _ _ | exact zlV.mono _ _ | exact LeO.refl _ | exact LeO.none _ | refine LeO.ite ?_ ?_ | refine LeO.bind ?_ (fun _ => ?_))
theorem zwU.mono : ∀ a0 a1 a2 k, LeO (zwU.f k a0 a1 a2) (zwU.f (k + 1) a0 a1 a2) := by
 intro a0 a1 a2 k; have ih0 := zwU.mono_l k; unfold zwU.f
 repeat' (with_reducible first | exact ih0 _ _ _ _ | exact zlV.mono _ _ | exact LeO.refl _ | exact LeO.none _ | refine LeO.ite ?_ ?_ | refine LeO.bind ?_ (fun _ => ?_))
def zwU.T2 : Bool × List (List Nat × List Nat) := (true, [([], []), ([0], [0]), ([1], [1]), ([], []), ([3], [3]), ([4, 2], [4]), ([2, 5], [2, 5]), ([6], [6]), ([7, 5, 0, 1, 2, 3, 4, 5, 6, 7], [7])])
def zwU.B2 : List Nat := [0, 1, 3, 0, 8, 31, 63, 127, 255]
theorem zwU.tab2 : rtab .any (opsOf Tryz.f62 2) = zwU.T2 := by kernel_rfl
theorem zwU.bits2 : ztE zwU.T2.2 zwU.B2 = true := by kernel_rfl
def zwU.T8 : Bool × List (List Nat × List Nat) := (true, [([], []), ([0], [0]), ([1], [1]), ([2], [2]), ([], []), ([4], [4]), ([5, 2], [5]), ([3, 6], [3, 6]), ([7], [7]), ([8, 6, 0, 1, 2, 3, 4, 5, 6, 7, 8], [8])])
def zwU.B8 : List Nat := [0, 1, 3, 7, 0, 16, 55, 127, 255, 511]
theorem zwU.tab8 : rtab .any (opsOf Tryz.f62 8) = zwU.T8 := by kernel_rfl
theorem zwU.bits8 : ztE zwU.T8.2 zwU.B8 = true := by kernel_rfl
theorem zwU.calls (k : Nat) (a0_0 : Int) (a0_1 : Int) (a0_2 : Int) (r : ByteArray) (w : World) (h : zwU.f k a0_0 a0_1 a0_2 = some r) :
  Calls Tryz.prog 62 #[.agg #[.int .i64 a0_0, .int .i64 a0_1, .int .i64 a0_2]] w fun e w' => e = .returned (.string r) ∧ Below w.heap.size w w' := by
 have hu31 := Tryz.underlying31; have HB := zpS (Below.refl w.heap.size w); have H := h; unfold zwU.f at H; clear h; have HC2 := zpS H; clear H; go_enter Tryz.func62, Tryz.ntmps62
 go_upto_block 0 with (first | ((with_reducible refine zpZ (N := 1) rfl ?_); refine bx_ 1 #[.int .i64 a0_0, .int .i64 a0_1, .int .i64 a0_2] 31 ?_; intro gb133 hg w3 hbox hb; have BK133 := zpS (hbox); have GW133 := ng_ hg; replace HB := ns_ hb; have GE133 := GW133; clear hb hbox hg))
 (try simp only [Act.put, set_a_, set_b_, set_c_])
 go_cut [3] (fun v3 wc => ∃ (kq : Nat) (x3_1 : ByteArray), v3 = .string x3_1 ∧ Aside0 (zwU.j0 kq x3_1 a0_0 a0_1 a0_2 = some r) ∧ Aside0 (kq ≤ k) ∧ Aside0 (wc.heap[gb133]? = some (.cells #[.int .i64 a0_0, .int .i64 a0_1, .int .i64 a0_2] 31 (0, 0))) ∧ Aside0 (Below w.heap.size w wc))
 case first =>
  have H := HC2.out; clear HC2; replace H := ip_ H
  rcases H with ⟨c4, H⟩ | ⟨c4, H⟩
  ·have c4b0 := bqt_ c4
   have c4b1 := bnf_ c4; clear c4
   (first | rw [c4b0] | (simp only [zcN, ziJ]; rw [c4b0]) | skip)
   replace H := be_ H; obtain ⟨t134, A5, H⟩ := H; have H' := zpS H; clear H; obtain ⟨hcz6_0, hcz6_1, hcz6_2⟩ := zdT BK133.out; obtain ⟨hfz6_0, hfz6_1, hfz6_2⟩ := zqD BK133.out
   go_wp2_with (first | ((with_reducible refine zgK (f := 87) rfl ?_); refine gl_ (some 18) Tryz.func87 #[.int .i64 a0_0] ?_; (with_reducible refine (zlV.calls k a0_0 t134 _ A5.out).mono ?_); rintro e w7 ⟨rfl, hb⟩; refine ⟨_, rfl, ?_⟩; replace BK133 := kb_ BK133 hb; replace HB := ns_ hb; (try clear hb); (try clear hb2)))
   go_meet
   case rel => exact ⟨_, (t134), (ey_), H', ⟨by first | omega | exact Nat.le_refl _⟩, ⟨bk_⟩, ⟨bb_⟩⟩
  ·have c4b0 := bqf_ c4
   have c4b1 := bnt_ c4
   (first | rw [c4b0] | (simp only [zcN, ziJ]; rw [c4b0]) | skip)
   replace H := ip_ H
   rcases H with ⟨c8, H⟩ | ⟨c8, H⟩
   ·have c8b0 := bqt_ c8
    have c8b1 := bnf_ c8; clear c8; replace H := be_ H; obtain ⟨t135, A9, H⟩ := H; replace H := in_ H; obtain ⟨c10, H⟩ := H; have c10b0 := eq_true c10; have c10b1 := decide_eq_true c10
    try have c10b2 : (9223372036854775807 < t135.size + 1) = False := eq_false (Nat.not_lt.2 c10)
    have H' := zpS H; clear H; obtain ⟨hcz11_0, hcz11_1, hcz11_2⟩ := zdT BK133.out; obtain ⟨hfz11_0, hfz11_1, hfz11_2⟩ := zqD BK133.out
    go_wp2_with (first | ((with_reducible refine zgK (f := 87) rfl ?_); refine gl_ (some 25) Tryz.func87 #[.int .i64 a0_1] ?_; (with_reducible refine (zlV.calls k a0_1 t135 _ A9.out).mono ?_); rintro e w12 ⟨rfl, hb⟩; refine ⟨_, rfl, ?_⟩; replace BK133 := kb_ BK133 hb; replace HB := ns_ hb; (try clear hb); (try clear hb2)))
    go_meet
    case rel => exact ⟨_, (t135 ++ (⟨#[114]⟩ : ByteArray)), (ey_), H', ⟨by first | omega | exact Nat.le_refl _⟩, ⟨bk_⟩, ⟨bb_⟩⟩
   ·have c8b0 := bqf_ c8
    have c8b1 := bnt_ c8; replace H := ip_ H
    rcases H with ⟨c13, H⟩ | ⟨c13, H⟩
    ·have c13b0 : decide (0 < a0_1) = true := decide_eq_true c13
     clear c13; replace H := be_ H; obtain ⟨t136, A14, H⟩ := H; replace H := in_ H; obtain ⟨c15, H⟩ := H; have c15b0 := eq_true c15; have c15b1 := decide_eq_true c15
     try have c15b2 : (9223372036854775807 < t136.size + 1) = False := eq_false (Nat.not_lt.2 c15)
     replace H := be_ H; obtain ⟨t137, A16, H⟩ := H; replace H := in_ H; obtain ⟨c17, H⟩ := H; have c17b0 := eq_true c17; have c17b1 := decide_eq_true c17
     try have c17b2 : (9223372036854775807 < (t136 ++ (⟨#[43]⟩ : ByteArray)).size + t137.size) = False := eq_false (Nat.not_lt.2 c17)
     (try (have c17b3 : (9223372036854775807 < t136.size + 1 + t137.size) = False := eq_false (Nat.not_lt.2 (by have h_ := c17; simp only [ByteArray.size_append] at h_; exact h_))))
     replace H := in_ H; obtain ⟨c18, H⟩ := H; have c18b0 := eq_true c18; have c18b1 := decide_eq_true c18
     try have c18b2 : (9223372036854775807 < ((t136 ++ (⟨#[43]⟩ : ByteArray)) ++ t137).size + 1) = False := eq_false (Nat.not_lt.2 c18)
     (try (have c18b3 : (9223372036854775807 < t136.size + 1 + t137.size + 1) = False := eq_false (Nat.not_lt.2 (by have h_ := c18; simp only [ByteArray.size_append] at h_; exact h_))))
     have H' := zpS H; clear H; obtain ⟨hcz19_0, hcz19_1, hcz19_2⟩ := zdT BK133.out; obtain ⟨hfz19_0, hfz19_1, hfz19_2⟩ := zqD BK133.out
     try go_wp2
     replace BK133 := kd_ BK133; replace HB := bd_ HB
     refine zpB (n := 10) (S := fun w' => w'.cell? ⟨gb133, 0, none⟩ = some (.int .i64 a0_0) ∧ w'.cell? ⟨gb133, 1, none⟩ = some (.int .i64 a0_1) ∧ w'.cell? ⟨gb133, 2, none⟩ = some (.int .i64 a0_2)) (ds := []) #[false, false, false, false, false, false, false, false, false, false] (by kernel_rfl) rfl rfl (bc3_ BK133) (fun hHeld => ?_); refine zwI zwU.tab8 zwU.bits8 (fun HT_ HW_ => ?_)
     generalize w3.drew = w20 at BK133 HB hHeld ⊢; refine pu_ 0 (some 31) (bl_ 10 1) ?_; refine pu_ 4 (some 35) (bl_ 10 17) ?_; refine tk3_ 1 (some 32) (bl_ 10 19) hHeld ?_; refine tk3_ 5 (some 36) (bl_ 10 51) hHeld ?_; refine zdC (i := 2) (N := some 33) (bl_ 10 55) rfl rfl (zeO HT_.out (by kernel_rfl)) (by decide) (fun K hK => ?_); refine gs_ Tryz.func87 #[.int .i64 a0_0] ?_
     with_reducible refine (zlV.calls k a0_0 t136 _ A14.out).mono ?_
     rintro e w21 ⟨rfl, hb⟩; refine ⟨_, rfl, ?_⟩; replace BK133 := kb_ BK133 hb; replace HB := ns_ hb; (try clear hb); (try clear hb2); (try clear hk); (try clear hi); refine hK.out _ _ (bc3_ BK133) (fun hHeld => ?_); clear hK K; refine nm_ 33 ?_; refine pu_ 3 (some 34) (bl_ 10 63) ?_; refine zdC (i := 6) (N := some 37) (bl_ 10 127) rfl rfl (zeO HT_.out (by kernel_rfl)) (by decide) (fun K hK => ?_); refine gs_ Tryz.func87 #[.int .i64 a0_1] ?_
     with_reducible refine (zlV.calls k a0_1 t137 _ A16.out).mono ?_
     rintro e w22 ⟨rfl, hb⟩; refine ⟨_, rfl, ?_⟩; replace BK133 := kb_ BK133 hb; replace HB := ns_ hb; (try clear hb); (try clear hb2); (try clear hk); (try clear hi); refine hK.out _ _ (bc3_ BK133) (fun hHeld => ?_); clear hK K; refine nm_ 37 ?_; refine pu_ 7 (some 38) (bl_ 10 255) ?_; refine pu_ 8 (some 39) (bl_ 10 511) ?_; refine pu_ 9 (some 3) (bl_ 10 1023) ?_; refine znK (zzP HT_.out (by kernel_rfl)) ?_
     try go_wp2
     go_meet
     case rel => exact ⟨_, (((t136 ++ (⟨#[43]⟩ : ByteArray)) ++ t137) ++ (⟨#[114]⟩ : ByteArray)), (ey_), H', ⟨by first | omega | exact Nat.le_refl _⟩, ⟨bk_⟩, ⟨bb_⟩⟩
    ·have c13b0 : decide (0 < a0_1) = false := decide_eq_false c13
     clear c13; replace H := be_ H; obtain ⟨t138, A23, H⟩ := H; replace H := be_ H; obtain ⟨t139, A24, H⟩ := H; replace H := in_ H; obtain ⟨c25, H⟩ := H; have c25b0 := eq_true c25; have c25b1 := decide_eq_true c25
     try have c25b2 : (9223372036854775807 < t138.size + t139.size) = False := eq_false (Nat.not_lt.2 c25)
     replace H := in_ H; obtain ⟨c26, H⟩ := H; have c26b0 := eq_true c26; have c26b1 := decide_eq_true c26
     try have c26b2 : (9223372036854775807 < (t138 ++ t139).size + 1) = False := eq_false (Nat.not_lt.2 c26)
     (try (have c26b3 : (9223372036854775807 < t138.size + t139.size + 1) = False := eq_false (Nat.not_lt.2 (by have h_ := c26; simp only [ByteArray.size_append] at h_; exact h_))))
     have H' := zpS H; clear H; obtain ⟨hcz27_0, hcz27_1, hcz27_2⟩ := zdT BK133.out; obtain ⟨hfz27_0, hfz27_1, hfz27_2⟩ := zqD BK133.out
     try go_wp2
     replace BK133 := kd_ BK133; replace HB := bd_ HB
     refine zpB (n := 9) (S := fun w' => w'.cell? ⟨gb133, 0, none⟩ = some (.int .i64 a0_0) ∧ w'.cell? ⟨gb133, 1, none⟩ = some (.int .i64 a0_1) ∧ w'.cell? ⟨gb133, 2, none⟩ = some (.int .i64 a0_2)) (ds := []) #[false, false, false, false, false, false, false, false, false] (by kernel_rfl) rfl rfl (bc3_ BK133) (fun hHeld => ?_); refine zwI zwU.tab2 zwU.bits2 (fun HT_ HW_ => ?_)
     generalize w3.drew = w28 at BK133 HB hHeld ⊢; refine pu_ 0 (some 4) (bl_ 9 1) ?_; refine pu_ 3 (some 7) (bl_ 9 9) ?_; refine tk3_ 1 (some 5) (bl_ 9 11) hHeld ?_; refine tk3_ 4 (some 8) (bl_ 9 27) hHeld ?_; refine zdC (i := 2) (N := some 6) (bl_ 9 31) rfl rfl (zeO HT_.out (by kernel_rfl)) (by decide) (fun K hK => ?_); refine gs_ Tryz.func87 #[.int .i64 a0_0] ?_
     with_reducible refine (zlV.calls k a0_0 t138 _ A23.out).mono ?_
     rintro e w29 ⟨rfl, hb⟩; refine ⟨_, rfl, ?_⟩; replace BK133 := kb_ BK133 hb; replace HB := ns_ hb; (try clear hb); (try clear hb2); (try clear hk); (try clear hi); refine hK.out _ _ (bc3_ BK133) (fun hHeld => ?_); clear hK K; refine nm_ 6 ?_; refine zdC (i := 5) (N := some 9) (bl_ 9 63) rfl rfl (zeO HT_.out (by kernel_rfl)) (by decide) (fun K hK => ?_); refine gs_ Tryz.func87 #[.int .i64 a0_1] ?_
     with_reducible refine (zlV.calls k a0_1 t139 _ A24.out).mono ?_
     rintro e w30 ⟨rfl, hb⟩; refine ⟨_, rfl, ?_⟩; replace BK133 := kb_ BK133 hb; replace HB := ns_ hb; (try clear hb); (try clear hb2); (try clear hk); (try clear hi); refine hK.out _ _ (bc3_ BK133) (fun hHeld => ?_); clear hK K; refine nm_ 9 ?_; refine pu_ 6 (some 10) (bl_ 9 127) ?_; refine pu_ 7 (some 11) (bl_ 9 255) ?_; refine pu_ 8 (some 3) (bl_ 9 511) ?_; refine znK (zzP HT_.out (by kernel_rfl)) ?_
     try go_wp2
     go_meet
     case rel => exact ⟨_, ((t138 ++ t139) ++ (⟨#[114]⟩ : ByteArray)), (ey_), H', ⟨by first | omega | exact Nat.le_refl _⟩, ⟨bk_⟩, ⟨bb_⟩⟩
 case rest =>
  clear HC2; (try clear c1); (try clear c2); (try clear p2); (try clear c4); (try clear c4b0); (try clear c4b1); (try clear c6); (try clear c8); (try clear c8b0); (try clear c8b1); (try clear c10); (try clear c10b0); (try clear c10b1); (try clear c10b2); (try clear c13); (try clear c13b0); (try clear c15); (try clear c15b0); (try clear c15b1); (try clear c15b2); (try clear c17); (try clear c17b0); (try clear c17b1); (try clear c17b2); (try clear c18); (try clear c18b0); (try clear c18b1); (try clear c18b2); (try clear c25); (try clear c25b0); (try clear c25b1); (try clear c25b2); (try clear c26); (try clear c26b0); (try clear c26b1); (try clear c26b2); (try clear hcz11_0); (try clear hcz11_1); (try clear hcz11_2); (try clear hcz19_0); (try clear hcz19_1); (try clear hcz19_2); (try clear hcz27_0); (try clear hcz27_1); (try clear hcz27_2); (try clear hcz6_0); (try clear hcz6_1); (try clear hcz6_2)
  (try clear hfz11_0); (try clear hfz11_1); (try clear hfz11_2); (try clear hfz19_0); (try clear hfz19_1); (try clear hfz19_2); (try clear hfz27_0); (try clear hfz27_1); (try clear hfz27_2); (try clear hfz6_0); (try clear hfz6_1); (try clear hfz6_2); obtain ⟨kq, x3_1, rfl, HA, HJ1, BK133, HB⟩ := hcut
  cases kq with
  | zero => exact absurd HA.out (by simp [zwU.j0])
  | succ kj1 =>
   have H := HA.out; clear HA; simp only [zwU.j0] at H; replace H := ip_ H
   rcases H with ⟨c31, H⟩ | ⟨c31, H⟩
   ·have c31b0 := bqt_ c31
    have c31b1 := bnf_ c31; clear c31; obtain rfl := Option.some.inj H; obtain ⟨hcz32_0, hcz32_1, hcz32_2⟩ := zdT BK133.out; obtain ⟨hfz32_0, hfz32_1, hfz32_2⟩ := zqD BK133.out
    go_wp2
    go_ret
    exact ⟨ex_, bb_⟩
   ·have c31b0 := bqf_ c31
    have c31b1 := bnt_ c31; replace H := ip_ H
    rcases H with ⟨c33, H⟩ | ⟨c33, H⟩
    ·have c33b0 := bqt_ c33
     have c33b1 := bnf_ c33; clear c33; replace H := in_ H; obtain ⟨c34, H⟩ := H; have c34b0 := eq_true c34; have c34b1 := decide_eq_true c34
     try have c34b2 : (9223372036854775807 < x3_1.size + 1) = False := eq_false (Nat.not_lt.2 c34)
     obtain ⟨ji35, hji35⟩ : ∃ j_ : Int, (IntKind.u64.wrap (a0_2)) = j_ := ⟨_, rfl⟩
     replace H : (if 0 ≤ (ji35) then ((zlV.f kj1 (shl .i64 1 (ji35))).bind fun t140 => (if (x3_1 ++ (⟨#[47]⟩ : ByteArray)).size + t140.size ≤ 9223372036854775807 then (some ((x3_1 ++ (⟨#[47]⟩ : ByteArray)) ++ t140)) else (none))) else (none)) = some r := by first | (rw [hji35] at H; exact H) | (simp only [hji35] at H ⊢; exact H)
     replace H := in_ H; obtain ⟨c36, H⟩ := H; have c36b0 := eq_true c36; have c36b1 := decide_eq_true c36; clear c36; obtain ⟨ji37, hji37⟩ : ∃ j_ : Int, (shl .i64 1 (ji35)) = j_ := ⟨_, rfl⟩
     replace H : ((zlV.f kj1 (ji37)).bind fun t140 => (if (x3_1 ++ (⟨#[47]⟩ : ByteArray)).size + t140.size ≤ 9223372036854775807 then (some ((x3_1 ++ (⟨#[47]⟩ : ByteArray)) ++ t140)) else (none))) = some r := by first | (rw [hji37] at H; exact H) | (simp only [hji37] at H ⊢; exact H)
     have hji37_ : (IntKind.i64.wrap (1 * 2 ^ min (ji35).toNat 64)) = ji37 := hji37; have hji37z : (ji35) ≤ 64 → (IntKind.i64.wrap (1 * 2 ^ (ji35).toNat)) = ji37 := zsQ hji37
     have hji37u : (IntKind.i64.wrap (2 ^ min (ji35).toNat 64)) = ji37 := by have h_ := hji37_; rw [Int.one_mul] at h_; exact h_
     have hji37v : (ji35) ≤ 64 → (IntKind.i64.wrap (2 ^ (ji35).toNat)) = ji37 := fun hle_ => by have h_ := hji37z hle_; rw [Int.one_mul] at h_; exact h_
     have hji37y : (wrap64 (1 * 2 ^ min (ji35).toNat 64)) = ji37 := (zcN _).symm.trans hji37_
     have hji37x : (ji35) ≤ 64 → (wrap64 (1 * 2 ^ (ji35).toNat)) = ji37 := fun h_ => (zcN _).symm.trans (hji37z h_)
     replace H := be_ H; obtain ⟨t140, A38, H⟩ := H; replace H := in_ H; obtain ⟨c39, H⟩ := H; have c39b0 := eq_true c39; have c39b1 := decide_eq_true c39
     try have c39b2 : (9223372036854775807 < (x3_1 ++ (⟨#[47]⟩ : ByteArray)).size + t140.size) = False := eq_false (Nat.not_lt.2 c39)
     (try (have c39b3 : (9223372036854775807 < x3_1.size + 1 + t140.size) = False := eq_false (Nat.not_lt.2 (by have h_ := c39; simp only [ByteArray.size_append] at h_; exact h_))))
     obtain rfl := Option.some.inj H; obtain ⟨hcz40_0, hcz40_1, hcz40_2⟩ := zdT BK133.out; obtain ⟨hfz40_0, hfz40_1, hfz40_2⟩ := zqD BK133.out
     go_wp2_with (first | ((with_reducible refine zgK (f := 87) rfl ?_); refine goesL_ (some 61) rfl rfl Tryz.func87 (by kernel_rfl) rfl #[.int .i64 ji37] rfl (by (try simp only [List.map_toArray, List.map_cons, List.map_nil]); first | done | (simp only [hji37]; rfl) | rfl | (simp only [List.length_drop, List.length_take]; rfl)) ?_; (with_reducible refine (zlV.calls kj1 ji37 t140 _ A38.out).mono ?_); rintro e w41 ⟨rfl, hb⟩; refine ⟨_, rfl, ?_⟩; replace BK133 := kb_ BK133 hb; replace HB := ns_ hb; (try clear hb); (try clear hb2)))
     go_ret
     exact ⟨by first | rfl | (simp [ziS, znJ] <;> rfl) | (simp only [← hji35, ← hji37]; first | rfl | (simp [ziS, znJ] <;> rfl)) | (simp [*, ziS, znJ] <;> rfl), bb_⟩
    ·have c33b0 := bqf_ c33
     have c33b1 := bnt_ c33; replace H := ip_ H
     rcases H with ⟨c42, H⟩ | ⟨c42, H⟩
     ·have c42b0 := bqt_ c42
      have c42b1 := bnf_ c42; clear c42; replace H := in_ H; obtain ⟨c43, H⟩ := H; have c43b0 := eq_true c43; have c43b1 := decide_eq_true c43
      try have c43b2 : (9223372036854775807 < x3_1.size + 1) = False := eq_false (Nat.not_lt.2 c43)
      obtain ⟨ji44, hji44⟩ : ∃ j_ : Int, (IntKind.u64.wrap (a0_2)) = j_ := ⟨_, rfl⟩
      replace H : (if 0 ≤ (ji44) then ((zlV.f kj1 (shl .i64 1 (ji44))).bind fun t141 => (if (x3_1 ++ (⟨#[47]⟩ : ByteArray)).size + t141.size ≤ 9223372036854775807 then (some ((x3_1 ++ (⟨#[47]⟩ : ByteArray)) ++ t141)) else (none))) else (none)) = some r := by first | (rw [hji44] at H; exact H) | (simp only [hji44] at H ⊢; exact H)
      replace H := in_ H; obtain ⟨c45, H⟩ := H; have c45b0 := eq_true c45; have c45b1 := decide_eq_true c45; clear c45; obtain ⟨ji46, hji46⟩ : ∃ j_ : Int, (shl .i64 1 (ji44)) = j_ := ⟨_, rfl⟩
      replace H : ((zlV.f kj1 (ji46)).bind fun t141 => (if (x3_1 ++ (⟨#[47]⟩ : ByteArray)).size + t141.size ≤ 9223372036854775807 then (some ((x3_1 ++ (⟨#[47]⟩ : ByteArray)) ++ t141)) else (none))) = some r := by first | (rw [hji46] at H; exact H) | (simp only [hji46] at H ⊢; exact H)
      have hji46_ : (IntKind.i64.wrap (1 * 2 ^ min (ji44).toNat 64)) = ji46 := hji46; have hji46z : (ji44) ≤ 64 → (IntKind.i64.wrap (1 * 2 ^ (ji44).toNat)) = ji46 := zsQ hji46
      have hji46u : (IntKind.i64.wrap (2 ^ min (ji44).toNat 64)) = ji46 := by have h_ := hji46_; rw [Int.one_mul] at h_; exact h_
      have hji46v : (ji44) ≤ 64 → (IntKind.i64.wrap (2 ^ (ji44).toNat)) = ji46 := fun hle_ => by have h_ := hji46z hle_; rw [Int.one_mul] at h_; exact h_
      have hji46y : (wrap64 (1 * 2 ^ min (ji44).toNat 64)) = ji46 := (zcN _).symm.trans hji46_
      have hji46x : (ji44) ≤ 64 → (wrap64 (1 * 2 ^ (ji44).toNat)) = ji46 := fun h_ => (zcN _).symm.trans (hji46z h_)
      replace H := be_ H; obtain ⟨t141, A47, H⟩ := H; replace H := in_ H; obtain ⟨c48, H⟩ := H; have c48b0 := eq_true c48; have c48b1 := decide_eq_true c48
      try have c48b2 : (9223372036854775807 < (x3_1 ++ (⟨#[47]⟩ : ByteArray)).size + t141.size) = False := eq_false (Nat.not_lt.2 c48)
      (try (have c48b3 : (9223372036854775807 < x3_1.size + 1 + t141.size) = False := eq_false (Nat.not_lt.2 (by have h_ := c48; simp only [ByteArray.size_append] at h_; exact h_))))
      obtain rfl := Option.some.inj H; obtain ⟨hcz49_0, hcz49_1, hcz49_2⟩ := zdT BK133.out; obtain ⟨hfz49_0, hfz49_1, hfz49_2⟩ := zqD BK133.out
      go_wp2_with (first | ((with_reducible refine zgK (f := 87) rfl ?_); refine goesL_ (some 61) rfl rfl Tryz.func87 (by kernel_rfl) rfl #[.int .i64 ji46] rfl (by (try simp only [List.map_toArray, List.map_cons, List.map_nil]); first | done | (simp only [hji46]; rfl) | rfl | (simp only [List.length_drop, List.length_take]; rfl)) ?_; (with_reducible refine (zlV.calls kj1 ji46 t141 _ A47.out).mono ?_); rintro e w50 ⟨rfl, hb⟩; refine ⟨_, rfl, ?_⟩; replace BK133 := kb_ BK133 hb; replace HB := ns_ hb; (try clear hb); (try clear hb2)))
      go_ret
      exact ⟨by first | rfl | (simp [ziS, znJ] <;> rfl) | (simp only [← hji44, ← hji46]; first | rfl | (simp [ziS, znJ] <;> rfl)) | (simp [*, ziS, znJ] <;> rfl), bb_⟩
     ·have c42b0 := bqf_ c42
      have c42b1 := bnt_ c42; replace H := in_ H; obtain ⟨c51, H⟩ := H; have c51b0 := eq_true c51; have c51b1 := decide_eq_true c51
      try have c51b2 : (9223372036854775807 < 1 + x3_1.size) = False := eq_false (Nat.not_lt.2 c51)
      replace H := in_ H; obtain ⟨c52, H⟩ := H; have c52b0 := eq_true c52; have c52b1 := decide_eq_true c52
      try have c52b2 : (9223372036854775807 < ((⟨#[40]⟩ : ByteArray) ++ x3_1).size + 1) = False := eq_false (Nat.not_lt.2 c52)
      (try (have c52b3 : (9223372036854775807 < 1 + x3_1.size + 1) = False := eq_false (Nat.not_lt.2 (by have h_ := c52; simp only [ByteArray.size_append] at h_; exact h_))))
      replace H := in_ H; obtain ⟨c53, H⟩ := H; have c53b0 := eq_true c53; have c53b1 := decide_eq_true c53
      try have c53b2 : (9223372036854775807 < (((⟨#[40]⟩ : ByteArray) ++ x3_1) ++ (⟨#[41]⟩ : ByteArray)).size + 1) = False := eq_false (Nat.not_lt.2 c53)
      (try (have c53b3 : (9223372036854775807 < 1 + x3_1.size + 1 + 1) = False := eq_false (Nat.not_lt.2 (by have h_ := c53; simp only [ByteArray.size_append] at h_; exact h_))))
      obtain ⟨ji54, hji54⟩ : ∃ j_ : Int, (IntKind.u64.wrap (a0_2)) = j_ := ⟨_, rfl⟩
      replace H : (if 0 ≤ (ji54) then ((zlV.f kj1 (shl .i64 1 (ji54))).bind fun t142 => (if ((((⟨#[40]⟩ : ByteArray) ++ x3_1) ++ (⟨#[41]⟩ : ByteArray)) ++ (⟨#[47]⟩ : ByteArray)).size + t142.size ≤ 9223372036854775807 then (some (((((⟨#[40]⟩ : ByteArray) ++ x3_1) ++ (⟨#[41]⟩ : ByteArray)) ++ (⟨#[47]⟩ : ByteArray)) ++ t142)) else (none))) else (none)) = some r := by first | (rw [hji54] at H; exact H) | (simp only [hji54] at H ⊢; exact H)
      replace H := in_ H; obtain ⟨c55, H⟩ := H; have c55b0 := eq_true c55; have c55b1 := decide_eq_true c55; clear c55; obtain ⟨ji56, hji56⟩ : ∃ j_ : Int, (shl .i64 1 (ji54)) = j_ := ⟨_, rfl⟩
      replace H : ((zlV.f kj1 (ji56)).bind fun t142 => (if ((((⟨#[40]⟩ : ByteArray) ++ x3_1) ++ (⟨#[41]⟩ : ByteArray)) ++ (⟨#[47]⟩ : ByteArray)).size + t142.size ≤ 9223372036854775807 then (some (((((⟨#[40]⟩ : ByteArray) ++ x3_1) ++ (⟨#[41]⟩ : ByteArray)) ++ (⟨#[47]⟩ : ByteArray)) ++ t142)) else (none))) = some r := by first | (rw [hji56] at H; exact H) | (simp only [hji56] at H ⊢; exact H)
      have hji56_ : (IntKind.i64.wrap (1 * 2 ^ min (ji54).toNat 64)) = ji56 := hji56; have hji56z : (ji54) ≤ 64 → (IntKind.i64.wrap (1 * 2 ^ (ji54).toNat)) = ji56 := zsQ hji56
      have hji56u : (IntKind.i64.wrap (2 ^ min (ji54).toNat 64)) = ji56 := by have h_ := hji56_; rw [Int.one_mul] at h_; exact h_
      have hji56v : (ji54) ≤ 64 → (IntKind.i64.wrap (2 ^ (ji54).toNat)) = ji56 := fun hle_ => by have h_ := hji56z hle_; rw [Int.one_mul] at h_; exact h_
      have hji56y : (wrap64 (1 * 2 ^ min (ji54).toNat 64)) = ji56 := (zcN _).symm.trans hji56_
      have hji56x : (ji54) ≤ 64 → (wrap64 (1 * 2 ^ (ji54).toNat)) = ji56 := fun h_ => (zcN _).symm.trans (hji56z h_)
      replace H := be_ H; obtain ⟨t142, A57, H⟩ := H; replace H := in_ H; obtain ⟨c58, H⟩ := H; have c58b0 := eq_true c58; have c58b1 := decide_eq_true c58
      try have c58b2 : (9223372036854775807 < ((((⟨#[40]⟩ : ByteArray) ++ x3_1) ++ (⟨#[41]⟩ : ByteArray)) ++ (⟨#[47]⟩ : ByteArray)).size + t142.size) = False := eq_false (Nat.not_lt.2 c58)
      (try (have c58b3 : (9223372036854775807 < 1 + x3_1.size + 1 + 1 + t142.size) = False := eq_false (Nat.not_lt.2 (by have h_ := c58; simp only [ByteArray.size_append] at h_; exact h_))))
      obtain rfl := Option.some.inj H; obtain ⟨hcz59_0, hcz59_1, hcz59_2⟩ := zdT BK133.out; obtain ⟨hfz59_0, hfz59_1, hfz59_2⟩ := zqD BK133.out
      go_wp2_with (first | ((with_reducible refine zgK (f := 87) rfl ?_); refine goesL_ (some 61) rfl rfl Tryz.func87 (by kernel_rfl) rfl #[.int .i64 ji56] rfl (by (try simp only [List.map_toArray, List.map_cons, List.map_nil]); first | done | (simp only [hji56]; rfl) | rfl | (simp only [List.length_drop, List.length_take]; rfl)) ?_; (with_reducible refine (zlV.calls kj1 ji56 t142 _ A57.out).mono ?_); rintro e w60 ⟨rfl, hb⟩; refine ⟨_, rfl, ?_⟩; replace BK133 := kb_ BK133 hb; replace HB := ns_ hb; (try clear hb); (try clear hb2)))
      go_ret
      exact ⟨by first | rfl | (simp [ziS, znJ] <;> rfl) | (simp only [← hji54, ← hji56]; first | rfl | (simp [ziS, znJ] <;> rfl)) | (simp [*, ziS, znJ] <;> rfl), bb_⟩

def znQ.f (k : Nat) (a0_0 : Int) (a0_1 : Int) (a0_2 : Int) : Option (ByteArray) := (zeG.f a0_0 a0_1 a0_2).bind fun t144 => (if t144 = true then ((zwU.f k a0_0 a0_1 a0_2).bind fun t145 => (some t145)) else (some (⟨#[]⟩ : ByteArray)))
theorem znQ.mono : ∀ a0 a1 a2 k, LeO (znQ.f k a0 a1 a2) (znQ.f (k + 1) a0 a1 a2) := by
 intro a0 a1 a2 k; unfold znQ.f
 repeat' (with_reducible first | exact zwU.mono _ _ _ _ | exact LeO.refl _ | exact LeO.none _ | refine LeO.ite ?_ ?_ | refine LeO.bind ?_ (fun _ => ?_))
theorem znQ.calls (k : Nat) (a0_0 : Int) (a0_1 : Int) (a0_2 : Int) (r : ByteArray) (w : World) (h : znQ.f k a0_0 a0_1 a0_2 = some r) :
  Calls Tryz.prog 36 #[.agg #[.int .i64 a0_0, .int .i64 a0_1, .int .i64 a0_2]] w fun e w' => e = .returned (.string r) ∧ Below w.heap.size w w' := by
 have hu31 := Tryz.underlying31; have HB := zpS (Below.refl w.heap.size w); have H := h; unfold znQ.f at H; clear h; replace H := be_ H; obtain ⟨t144, A2, H⟩ := H; replace H := ib_ H
 rcases H with ⟨rfl, H⟩ | ⟨rfl, H⟩
 ·replace H := be_ H
  obtain ⟨t145, A4, H⟩ := H; obtain rfl := Option.some.inj H; go_enter Tryz.func36, Tryz.ntmps36
  go_wp2_with (first | ((with_reducible refine zpZ (N := 1) rfl ?_); refine bx_ 1 #[.int .i64 a0_0, .int .i64 a0_1, .int .i64 a0_2] 31 ?_; intro gb143 hg w5 hbox hb; have BK143 := zpS (hbox); have GW143 := ng_ hg; replace HB := ns_ hb; have GE143 := GW143; clear hb hbox hg; obtain ⟨hcz6_0, hcz6_1, hcz6_2⟩ := zdT BK143.out; obtain ⟨hfz6_0, hfz6_1, hfz6_2⟩ := zqD BK143.out) | ((with_reducible refine zgK (f := 37) rfl ?_); refine gl_ (some 4) Tryz.func37 #[.agg #[.int .i64 a0_0, .int .i64 a0_1, .int .i64 a0_2]] ?_; (with_reducible refine (zeG.calls a0_0 a0_1 a0_2 true _ A2.out).mono ?_); rintro e w7 ⟨rfl, hb⟩; refine ⟨_, rfl, ?_⟩; replace BK143 := kb_ BK143 hb; replace HB := ns_ hb; (try clear hb); (try clear hb2); obtain ⟨hcz8_0, hcz8_1, hcz8_2⟩ := zdT BK143.out; obtain ⟨hfz8_0, hfz8_1, hfz8_2⟩ := zqD BK143.out) | ((with_reducible refine zgK (f := 62) rfl ?_); refine gl_ (some 7) Tryz.func62 #[.agg #[.int .i64 a0_0, .int .i64 a0_1, .int .i64 a0_2]] ?_; (with_reducible refine (zwU.calls k a0_0 a0_1 a0_2 t145 _ A4.out).mono ?_); rintro e w9 ⟨rfl, hb⟩; refine ⟨_, rfl, ?_⟩; replace BK143 := kb_ BK143 hb; replace HB := ns_ hb; (try clear hb); (try clear hb2)))
  go_ret
  exact ⟨ex_, bb_⟩
 ·obtain rfl := Option.some.inj H
  go_enter Tryz.func36, Tryz.ntmps36
  go_wp2_with (first | ((with_reducible refine zpZ (N := 1) rfl ?_); refine bx_ 1 #[.int .i64 a0_0, .int .i64 a0_1, .int .i64 a0_2] 31 ?_; intro gb143 hg w10 hbox hb; have BK143 := zpS (hbox); have GW143 := ng_ hg; replace HB := ns_ hb; have GE143 := GW143; clear hb hbox hg; obtain ⟨hcz11_0, hcz11_1, hcz11_2⟩ := zdT BK143.out; obtain ⟨hfz11_0, hfz11_1, hfz11_2⟩ := zqD BK143.out) | ((with_reducible refine zgK (f := 37) rfl ?_); refine gl_ (some 4) Tryz.func37 #[.agg #[.int .i64 a0_0, .int .i64 a0_1, .int .i64 a0_2]] ?_; (with_reducible refine (zeG.calls a0_0 a0_1 a0_2 false _ A2.out).mono ?_); rintro e w12 ⟨rfl, hb⟩; refine ⟨_, rfl, ?_⟩; replace BK143 := kb_ BK143 hb; replace HB := ns_ hb; (try clear hb); (try clear hb2)))
  go_ret
  exact ⟨ex_, bb_⟩

end Go.Proofs.YtehghobmmpihfaaGreatDoor.PFnExactReadPolygon
