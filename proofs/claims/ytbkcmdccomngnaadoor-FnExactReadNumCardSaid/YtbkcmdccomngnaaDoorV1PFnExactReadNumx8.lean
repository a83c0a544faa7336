-- Printed for this claim by this session's program pp.py, which drives the kit's print with additions. Not trusted: Lean checks it.
import Derived.Test.YtbkcmdccomngnaaDoorV1PFnExactReadNumx0
import Derived.Test.YtbkcmdccomngnaaDoorV1PFnExactReadNumx5
import Derived.Test.YtbkcmdccomngnaaDoorV1PFnExactReadNumx6
import Derived.Test.YtbkcmdccomngnaaDoorV1PFnExactReadNumx7
namespace Go.Proofs.YtbkcmdccomngnaaDoor.PFnExactReadNum
open Go.RowKit Go.Proofs.YtbkcmdccomngnaaDoorW.PrintWords Go.Proofs.YtbkcmdccomngnaaDoorW.PrintLast Go.Proofs.YtbkcmdccomngnaaDoorW.PrintMore
attribute [local go_sem] max2_int min2_int max_two min_two znE zuA max_four min_four   -- for this text's walks alone
set_option linter.unusedVariables false
set_option maxHeartbeats 8000000
set_option maxRecDepth 100000
set_option linter.unusedSimpArgs false

def zaB.j0 : Nat → ByteArray → ByteArray → Int → Int → Int → Option (Int × Int × Int × Bool)
 | 0, _, _, _, _, _ => none
 | k + 1, x0, x4, x182000, x182001, x182002 => (zjE.f x4 (⟨#[40]⟩ : ByteArray)).bind fun t185 => ((ziM.f t185 (⟨#[41]⟩ : ByteArray)).bind fun t186 => ((zsR.f t186).bind fun bt187 => ((zdR.f bt187.1 bt187.2 x182002).bind fun t189 => (if t189 = true then ((zjG.f k bt187.1 bt187.2 x182002).bind fun t190 => (if t190.toList = x0.toList then (some (bt187.1, bt187.2, x182002, true)) else (some (0, 0, 0, false)))) else (some (0, 0, 0, false))))))
def zaB.f (k : Nat) (a0 : ByteArray) : Option (Int × Int × Int × Bool) := (strings_Cut.f a0 (⟨#[47]⟩ : ByteArray)).bind fun bt178 => (if bt178.2.2 = true then ((zkI.f bt178.2.1).bind fun bt182 => ((bits_Len64.f (IntKind.u64.wrap (bt182.1))).bind fun t184 => (zaB.j0 k a0 bt178.1 0 0 (wrap64 (t184 - 1))))) else (zaB.j0 k a0 bt178.1 0 0 0))
theorem zaB.mono_l : ∀ k, (∀ y0 y1 y2 y3 y4, LeO (zaB.j0 k y0 y1 y2 y3 y4) (zaB.j0 (k + 1) y0 y1 y2 y3 y4))
 | 0 => fun _ _ _ _ _ r h => by simp [zaB.j0] at h
 | k + 1 => by
  have ih0 := zaB.mono_l k
  ·intro y0 y1 y2 y3 y4
   unfold zaB.j0
   repeat' first
   | (with_reducible exact ih0 _ _ _ _ _)
   | (with_reducible exact zjG.mono _ _ _ _)
   | (with_reducible exact LeO.refl _)
   | (with_reducible exact LeO.none _)
   | (with_reducible refine LeO.ite ?_ ?_)
   | (with_reducible refine LeO.bind ?_ (fun _ => ?_))
   | exact ih0 _ _ _ _ _
   | exact zjG.mono _ _ _ _
   | exact LeO.none _
   | refine LeO.ite ?_ ?_
   | refine LeO.bind ?_ (fun _ => ?_)
theorem zaB.mono : ∀ a0 k, LeO (zaB.f k a0) (zaB.f (k + 1) a0) := by
 intro a0 k
 have ih0 := zaB.mono_l k
 unfold zaB.f
 repeat' first
   | (with_reducible exact ih0 _ _ _ _ _)
   | (with_reducible exact zjG.mono _ _ _ _)
   | (with_reducible exact LeO.refl _)
   | (with_reducible exact LeO.none _)
   | (with_reducible refine LeO.ite ?_ ?_)
   | (with_reducible refine LeO.bind ?_ (fun _ => ?_))
   | exact ih0 _ _ _ _ _
   | exact zjG.mono _ _ _ _
   | exact LeO.none _
   | refine LeO.ite ?_ ?_
   | refine LeO.bind ?_ (fun _ => ?_)
theorem zaB.calls (k : Nat) (a0 : ByteArray) (r1 : Int) (r2 : Int) (r3 : Int) (r4 : Bool) (w : World) (hG : LaidV w) (h : zaB.f k a0 = some (r1, r2, r3, r4)) :
  Calls Tryd.prog 8 #[.string a0] w fun e w' => e = .returned (.tuple #[.agg #[.int .i64 r1, .int .i64 r2, .int .i64 r3], .bool r4]) ∧ Below w.heap.size w w' := by
 have hu23 := Tryd.underlying23
 have HB := zpS (Below.refl w.heap.size w)
 have H : ((strings_Cut.f a0 (⟨#[47]⟩ : ByteArray)).bind fun bt178 => (if bt178.2.2 = true then ((zkI.f bt178.2.1).bind fun bt182 => ((bits_Len64.f (IntKind.u64.wrap (bt182.1))).bind fun t184 => (zaB.j0 k a0 bt178.1 0 0 (wrap64 (t184 - 1))))) else (zaB.j0 k a0 bt178.1 0 0 0))) = some (r1, r2, r3, r4) := h
 clear h
 replace H := Option.bind_eq_some_iff.mp H
 obtain ⟨⟨t178, t179, t180⟩, A20, H⟩ := H
 replace H : (if t180 = true then ((zkI.f t179).bind fun bt182 => ((bits_Len64.f (IntKind.u64.wrap (bt182.1))).bind fun t184 => (zaB.j0 k a0 t178 0 0 (wrap64 (t184 - 1))))) else (zaB.j0 k a0 t178 0 0 0)) = some (r1, r2, r3, r4) := H
 have A2 := zpS A20
 clear A20
 have HC3 := zpS H
 clear H
 go_enter Tryd.func8, Tryd.ntmps8
 go_upto_if 16 with (first | ((with_reducible refine zpZ (N := 2) rfl ?_); refine bx_ 2 #[.int .i64 0, .int .i64 0, .int .i64 0] 23 ?_; intro gb177 hg w4 hbox hb; have n0_ := (ns_ hb); have n1_ := zpS (hbox); have n2_ := (ng_ hg); have n3_ := n2_; clear HB; have HB := n0_; have BK177 := n1_; have GW177 := n2_; have GE177 := n3_; clear n0_ n1_ n2_ n3_; clear hb hbox hg) | ((with_reducible refine zgK (f := 22) rfl ?_); refine zqQ (some 12) rfl rfl Tryd.func22 (by kernel_rfl) rfl #[.string a0, .string (⟨#[47]⟩ : ByteArray)] rfl (by (try simp only [List.map_toArray, List.map_cons, List.map_nil]); first | done | rfl | (simp only [List.length_drop, List.length_take]; rfl)) ?_; (with_reducible refine (strings_Cut.calls a0 (⟨#[47]⟩ : ByteArray) t178 t179 t180 _ ?side1 A2.out).mono ?_); (case side1 => exact LaidV.below hG bb_); rintro e w' ⟨rfl, ⟨nd, rfl⟩⟩; refine ⟨_, rfl, ?_⟩) | ((with_reducible refine zpZ (N := 7) rfl ?_); refine bx_ 7 #[.int .i64 0, .int .i64 0, .int .i64 0] 23 ?_; intro gb181 hg w5 hbox hb; have n0_ := zpS (zgM (g := gb177) (o := .cells #[.int .i64 0, .int .i64 0, .int .i64 0] 23 (0, 0)) bk_ hb); have n1_ := (ns_ hb); have n2_ := zpS (hbox); have n3_ := (ng_ hg); have n4_ := n3_; have n5_ := zpS ((by rw [hg]; exact Nat.ne_of_lt (blk_lt (g := gb177) (o := .cells #[.int .i64 0, .int .i64 0, .int .i64 0] 23 (0, 0)) bk_) : gb177 ≠ gb181)); have n6_ := zpS ((by rw [hg]; exact Nat.ne_of_gt (blk_lt (g := gb177) (o := .cells #[.int .i64 0, .int .i64 0, .int .i64 0] 23 (0, 0)) bk_) : gb181 ≠ gb177)); clear BK177; clear HB; have BK177 := n0_; have HB := n1_; have BK181 := n2_; have GW181 := n3_; have GE181 := n4_; have NB177_181 := n5_; have NB181_177 := n6_; clear n0_ n1_ n2_ n3_ n4_ n5_ n6_; clear hb hbox hg))
 (try simp only [Act.put, set_a_, set_b_, set_c_])
 go_cut [] (fun wc => ∃ (kq : Nat) (x182002_2 : Int), Aside0 (zaB.j0 kq a0 t178 0 0 x182002_2 = some (r1, r2, r3, r4)) ∧ Aside0 (kq ≤ k) ∧ Aside0 (wc.heap[gb177]? = some (.cells #[.int .i64 0, .int .i64 0, .int .i64 0] 23 (0, 0))) ∧ Aside0 (wc.heap[gb181]? = some (.cells #[.int .i64 0, .int .i64 0, .int .i64 x182002_2] 23 (0, 0))) ∧ Aside0 (Below w.heap.size w wc))
 case first =>
  have H := HC3.out
  clear HC3
  by_cases c6 : t180 = true
  ·subst c6
   have H1 : ((zkI.f t179).bind fun bt182 => ((bits_Len64.f (IntKind.u64.wrap (bt182.1))).bind fun t184 => (zaB.j0 k a0 t178 0 0 (wrap64 (t184 - 1))))) = some (r1, r2, r3, r4) := by rw [if_pos rfl] at H; exact H
   clear H
   have H := H1
   clear H1
   replace H := Option.bind_eq_some_iff.mp H
   obtain ⟨⟨t182, t183⟩, A70, H⟩ := H
   replace H : ((bits_Len64.f (IntKind.u64.wrap (t182))).bind fun t184 => (zaB.j0 k a0 t178 0 0 (wrap64 (t184 - 1)))) = some (r1, r2, r3, r4) := H
   have A7 := zpS A70
   clear A70
   replace H := Option.bind_eq_some_iff.mp H
   obtain ⟨t184, A80, H⟩ := H
   replace H : (zaB.j0 k a0 t178 0 0 (wrap64 (t184 - 1))) = some (r1, r2, r3, r4) := H
   have A8 := zpS A80
   clear A80
   have H' := zpS H
   clear H
   go_wp2_with (first | ((with_reducible refine zgK (f := 23) rfl ?_); refine zqQ (some 19) rfl rfl Tryd.func23 (by kernel_rfl) rfl #[.string t179] rfl (by (try simp only [List.map_toArray, List.map_cons, List.map_nil]); first | done | rfl | (simp only [List.length_drop, List.length_take]; rfl)) ?_; (with_reducible refine (zkI.calls t179 t182 t183 _ ?side1 A7.out).mono ?_); (case side1 => exact LaidV.below hG bb_); rintro e w9 ⟨rfl, hb⟩; refine ⟨_, rfl, ?_⟩; have n0_ := zpS (zgM (g := gb177) (o := .cells #[.int .i64 0, .int .i64 0, .int .i64 0] 23 (0, 0)) bk_ hb); have n1_ := zpS (zgM (g := gb181) (o := .cells #[.int .i64 0, .int .i64 0, .int .i64 0] 23 (0, 0)) bk_ hb); have n2_ := (ns_ hb); clear BK177; clear BK181; clear HB; have BK177 := n0_; have BK181 := n1_; have HB := n2_; clear n0_ n1_ n2_; (try clear hb); (try clear hb2)) | ((with_reducible refine zgK (f := 24) rfl ?_); refine zqQ (some 24) rfl rfl Tryd.func24 (by kernel_rfl) rfl #[.int .u64 (IntKind.u64.wrap (t182))] rfl (by (try simp only [List.map_toArray, List.map_cons, List.map_nil]); first | done | rfl | (simp only [List.length_drop, List.length_take]; rfl)) ?_; (with_reducible refine (bits_Len64.calls (IntKind.u64.wrap (t182)) t184 _ A8.out).mono ?_); rintro e w' ⟨rfl, ⟨nd, rfl⟩⟩; refine ⟨_, rfl, ?_⟩; (try (rw [zxE w9]; generalize hq_ : World.drewN w9 _ = w9; have n0_ : Aside0 (w9.heap[gb177]? = some (.cells #[.int .i64 0, .int .i64 0, .int .i64 0] 23 (0, 0))) := ⟨by rw [← hq_]; exact bk_⟩; have n1_ : Aside0 (w9.heap[gb181]? = some (.cells #[.int .i64 0, .int .i64 0, .int .i64 0] 23 (0, 0))) := ⟨by rw [← hq_]; exact bk_⟩; have n2_ : Aside0 (Below w.heap.size w w9) := ⟨by rw [← hq_]; exact bb_⟩; clear BK177 BK181 HB hq_; have BK177 := n0_; have BK181 := n1_; have HB := n2_; clear n0_ n1_ n2_)); have hnb10 := NB181_177.out; have hnc10 := NB177_181.out; obtain ⟨hcz11_0, hcz11_1, hcz11_2⟩ := zdT BK181.out; obtain ⟨hfz11_0, hfz11_1, hfz11_2⟩ := zqD BK181.out))
   go_meet
   case rel => exact ⟨_, (wrap64 (t184 - 1)), H', ⟨by first | omega | exact Nat.le_refl _⟩, ⟨by (with_reducible repeat (first | apply zuW | apply ztN | apply zqY)); refine znI ?_ NB177_181.out _; (with_reducible repeat (first | apply zuW | apply ztN | apply zqY)); exact BK177.out⟩, ⟨by (with_reducible repeat (first | apply zuW | apply ztN | apply zqY)); refine zlL (cs := #[.int .i64 0, .int .i64 0, .int .i64 0]) ?_ 2 _ rfl; (with_reducible repeat (first | apply zuW | apply ztN | apply zqY)); exact BK181.out⟩, ⟨bb_⟩⟩
  ·replace c6 := Bool.eq_false_iff.mpr c6
   subst c6
   have H1 : (zaB.j0 k a0 t178 0 0 0) = some (r1, r2, r3, r4) := by rw [if_neg (show ¬ (false = true) by decide)] at H; exact H
   clear H
   have H := H1
   clear H1
   have H' := zpS H
   clear H
   go_wp2
   go_meet
   case rel => exact ⟨_, (0), H', ⟨by first | omega | exact Nat.le_refl _⟩, ⟨bk_⟩, ⟨bk_⟩, ⟨bb_⟩⟩
 case rest =>
  clear HC3
  try clear c1
  try clear c2
  try clear p2
  try clear c6
  try clear p6
  try clear c8
  try clear c10
  try clear hcz11_0
  try clear hcz11_1
  try clear hcz11_2
  try clear hfz11_0
  try clear hfz11_1
  try clear hfz11_2
  obtain ⟨kq, x182002_2, HA, HJ2, BK177, BK181, HB⟩ := hcut
  cases kq with
  | zero => exact absurd HA.out (by simp [zaB.j0])
  | succ kj2 =>
   have H := HA.out
   clear HA
   simp only [zaB.j0] at H
   replace H := Option.bind_eq_some_iff.mp H
   obtain ⟨t185, A120, H⟩ := H
   replace H : ((ziM.f t185 (⟨#[41]⟩ : ByteArray)).bind fun t186 => ((zsR.f t186).bind fun bt187 => ((zdR.f bt187.1 bt187.2 x182002_2).bind fun t189 => (if t189 = true then ((zjG.f kj2 bt187.1 bt187.2 x182002_2).bind fun t190 => (if t190.toList = a0.toList then (some (bt187.1, bt187.2, x182002_2, true)) else (some (0, 0, 0, false)))) else (some (0, 0, 0, false)))))) = some (r1, r2, r3, r4) := H
   have A12 := zpS A120
   clear A120
   replace H := Option.bind_eq_some_iff.mp H
   obtain ⟨t186, A130, H⟩ := H
   replace H : ((zsR.f t186).bind fun bt187 => ((zdR.f bt187.1 bt187.2 x182002_2).bind fun t189 => (if t189 = true then ((zjG.f kj2 bt187.1 bt187.2 x182002_2).bind fun t190 => (if t190.toList = a0.toList then (some (bt187.1, bt187.2, x182002_2, true)) else (some (0, 0, 0, false)))) else (some (0, 0, 0, false))))) = some (r1, r2, r3, r4) := H
   have A13 := zpS A130
   clear A130
   replace H := Option.bind_eq_some_iff.mp H
   obtain ⟨⟨t187, t188⟩, A140, H⟩ := H
   replace H : ((zdR.f t187 t188 x182002_2).bind fun t189 => (if t189 = true then ((zjG.f kj2 t187 t188 x182002_2).bind fun t190 => (if t190.toList = a0.toList then (some (t187, t188, x182002_2, true)) else (some (0, 0, 0, false)))) else (some (0, 0, 0, false)))) = some (r1, r2, r3, r4) := H
   have A14 := zpS A140
   clear A140
   replace H := Option.bind_eq_some_iff.mp H
   obtain ⟨t189, A150, H⟩ := H
   replace H : (if t189 = true then ((zjG.f kj2 t187 t188 x182002_2).bind fun t190 => (if t190.toList = a0.toList then (some (t187, t188, x182002_2, true)) else (some (0, 0, 0, false)))) else (some (0, 0, 0, false))) = some (r1, r2, r3, r4) := H
   have A15 := zpS A150
   clear A150
   by_cases c16 : t189 = true
   ·subst c16
    have H1 : ((zjG.f kj2 t187 t188 x182002_2).bind fun t190 => (if t190.toList = a0.toList then (some (t187, t188, x182002_2, true)) else (some (0, 0, 0, false)))) = some (r1, r2, r3, r4) := by rw [if_pos rfl] at H; exact H
    clear H
    have H := H1
    clear H1
    replace H := Option.bind_eq_some_iff.mp H
    obtain ⟨t190, A170, H⟩ := H
    replace H : (if t190.toList = a0.toList then (some (t187, t188, x182002_2, true)) else (some (0, 0, 0, false))) = some (r1, r2, r3, r4) := H
    have A17 := zpS A170
    clear A170
    by_cases c18 : t190.toList = a0.toList
    ·rw [if_pos c18] at H
     have c18b0 : (t190.toList == a0.toList) = true := beq_iff_eq.mpr c18
     have c18b1 : (t190.toList != a0.toList) = false := bne_eq_false_iff_eq.mpr c18
     clear c18
     simp only [Option.some.injEq, Prod.mk.injEq] at H
     obtain ⟨rfl, rfl, rfl, rfl⟩ := H
     go_wp2_with (first | ((with_reducible refine zgK (f := 27) rfl ?_); refine zqQ (some 29) rfl rfl Tryd.func27 (by kernel_rfl) rfl #[.string t178, .string (⟨#[40]⟩ : ByteArray)] rfl (by (try simp only [List.map_toArray, List.map_cons, List.map_nil]); first | done | rfl | (simp only [List.length_drop, List.length_take]; rfl)) ?_; (with_reducible refine (zjE.calls t178 (⟨#[40]⟩ : ByteArray) t185 _ A12.out).mono ?_); rintro e w' ⟨rfl, ⟨nd, rfl⟩⟩; refine ⟨_, rfl, ?_⟩; (try (rw [zxE wc]; generalize hq_ : World.drewN wc _ = wc; have n0_ : Aside0 (wc.heap[gb177]? = some (.cells #[.int .i64 0, .int .i64 0, .int .i64 0] 23 (0, 0))) := ⟨by rw [← hq_]; exact bk_⟩; have n1_ : Aside0 (wc.heap[gb181]? = some (.cells #[.int .i64 0, .int .i64 0, .int .i64 x182002_2] 23 (0, 0))) := ⟨by rw [← hq_]; exact bk_⟩; have n2_ : Aside0 (Below w.heap.size w wc) := ⟨by rw [← hq_]; exact bb_⟩; clear BK177 BK181 HB hq_; have BK177 := n0_; have BK181 := n1_; have HB := n2_; clear n0_ n1_ n2_))) | ((with_reducible refine zgK (f := 26) rfl ?_); refine zqQ (some 30) rfl rfl Tryd.func26 (by kernel_rfl) rfl #[.string t185, .string (⟨#[41]⟩ : ByteArray)] rfl (by (try simp only [List.map_toArray, List.map_cons, List.map_nil]); first | done | rfl | (simp only [List.length_drop, List.length_take]; rfl)) ?_; (with_reducible refine (ziM.calls t185 (⟨#[41]⟩ : ByteArray) t186 _ A13.out).mono ?_); rintro e w' ⟨rfl, ⟨nd, rfl⟩⟩; refine ⟨_, rfl, ?_⟩; (try (rw [zxE wc]; generalize hq_ : World.drewN wc _ = wc; have n0_ : Aside0 (wc.heap[gb177]? = some (.cells #[.int .i64 0, .int .i64 0, .int .i64 0] 23 (0, 0))) := ⟨by rw [← hq_]; exact bk_⟩; have n1_ : Aside0 (wc.heap[gb181]? = some (.cells #[.int .i64 0, .int .i64 0, .int .i64 x182002_2] 23 (0, 0))) := ⟨by rw [← hq_]; exact bk_⟩; have n2_ : Aside0 (Below w.heap.size w wc) := ⟨by rw [← hq_]; exact bb_⟩; clear BK177 BK181 HB hq_; have BK177 := n0_; have BK181 := n1_; have HB := n2_; clear n0_ n1_ n2_))) | ((with_reducible refine zgK (f := 25) rfl ?_); refine zqQ (some 31) rfl rfl Tryd.func25 (by kernel_rfl) rfl #[.string t186] rfl (by (try simp only [List.map_toArray, List.map_cons, List.map_nil]); first | done | rfl | (simp only [List.length_drop, List.length_take]; rfl)) ?_; (with_reducible refine (zsR.calls t186 t187 t188 _ ?side1 A14.out).mono ?_); (case side1 => exact LaidV.below hG bb_); rintro e w19 ⟨rfl, hb⟩; refine ⟨_, rfl, ?_⟩; have n0_ := zpS (zgM (g := gb177) (o := .cells #[.int .i64 0, .int .i64 0, .int .i64 0] 23 (0, 0)) bk_ hb); have n1_ := zpS (zgM (g := gb181) (o := .cells #[.int .i64 0, .int .i64 0, .int .i64 x182002_2] 23 (0, 0)) bk_ hb); have n2_ := (ns_ hb); clear BK177; clear BK181; clear HB; have BK177 := n0_; have BK181 := n1_; have HB := n2_; clear n0_ n1_ n2_; (try clear hb); (try clear hb2); have hnb20 := NB181_177.out; have hnc20 := NB177_181.out; obtain ⟨hcz21_0, hcz21_1, hcz21_2⟩ := zdT BK181.out; obtain ⟨hfz21_0, hfz21_1, hfz21_2⟩ := zqD BK181.out) | ((with_reducible refine zgK (f := 28) rfl ?_); refine zqQ (some 37) rfl rfl Tryd.func28 (by kernel_rfl) rfl #[.agg #[.int .i64 t187, .int .i64 t188, .int .i64 x182002_2]] rfl (by (try simp only [List.map_toArray, List.map_cons, List.map_nil]); first | done | rfl | (simp only [List.length_drop, List.length_take]; rfl)) ?_; (with_reducible refine (zdR.calls t187 t188 x182002_2 true _ A15.out).mono ?_); rintro e w22 ⟨rfl, hb⟩; refine ⟨_, rfl, ?_⟩; have n0_ := zpS (zgM (g := gb177) (o := .cells #[.int .i64 0, .int .i64 0, .int .i64 0] 23 (0, 0)) (by (with_reducible repeat (first | apply zuW | apply ztN | apply zqY)); refine znI ?_ NB177_181.out _; (with_reducible repeat (first | apply zuW | apply ztN | apply zqY)); refine znI ?_ NB177_181.out _; (with_reducible repeat (first | apply zuW | apply ztN | apply zqY)); exact BK177.out) hb); have n1_ := zpS (zgM (g := gb181) (o := .cells #[.int .i64 t187, .int .i64 t188, .int .i64 x182002_2] 23 (0, 0)) (by (with_reducible repeat (first | apply zuW | apply ztN | apply zqY)); refine zlL (cs := #[.int .i64 t187, .int .i64 0, .int .i64 x182002_2]) ?_ 1 _ rfl; (with_reducible repeat (first | apply zuW | apply ztN | apply zqY)); refine zlL (cs := #[.int .i64 0, .int .i64 0, .int .i64 x182002_2]) ?_ 0 _ rfl; (with_reducible repeat (first | apply zuW | apply ztN | apply zqY)); exact BK181.out) hb); have n2_ := (ns_ hb); clear BK177; clear BK181; clear HB; have BK177 := n0_; have BK181 := n1_; have HB := n2_; clear n0_ n1_ n2_; (try clear hb); (try clear hb2); obtain ⟨hcz23_0, hcz23_1, hcz23_2⟩ := zdT BK181.out; obtain ⟨hfz23_0, hfz23_1, hfz23_2⟩ := zqD BK181.out) | (go_at_call 29; (with_reducible refine (zjG.calls kj2 t187 t188 x182002_2 t190 _ ?side1 A17.out).mono ?_); (case side1 => exact LaidV.below hG bb_); rintro e w24 ⟨rfl, hb⟩; have n0_ := zpS (zgM (g := gb177) (o := .cells #[.int .i64 0, .int .i64 0, .int .i64 0] 23 (0, 0)) bk_ hb); have n1_ := zpS (zgM (g := gb181) (o := .cells #[.int .i64 t187, .int .i64 t188, .int .i64 x182002_2] 23 (0, 0)) bk_ hb); have n2_ := (ns_ hb); clear BK177; clear BK181; clear HB; have BK177 := n0_; have BK181 := n1_; have HB := n2_; clear n0_ n1_ n2_; (try clear hb); (try clear hb2); obtain ⟨hcz25_0, hcz25_1, hcz25_2⟩ := zdT BK181.out; obtain ⟨hfz25_0, hfz25_1, hfz25_2⟩ := zqD BK181.out; obtain ⟨hcz26_0, hcz26_1, hcz26_2⟩ := zdT BK177.out; obtain ⟨hfz26_0, hfz26_1, hfz26_2⟩ := zqD BK177.out))
     refine bodyPost_ret (results_ct rfl _ _ gb177 23 #[.int .i64 t187, .int .i64 t188, .int .i64 x182002_2] (0, 0) _ rfl (by (with_reducible repeat (first | apply zuW | apply ztN | apply zqY)); refine zlL (cs := #[.int .i64 t187, .int .i64 t188, .int .i64 0]) ?_ 2 _ rfl; (with_reducible repeat (first | apply zuW | apply ztN | apply zqY)); refine zlL (cs := #[.int .i64 t187, .int .i64 0, .int .i64 0]) ?_ 1 _ rfl; (with_reducible repeat (first | apply zuW | apply ztN | apply zqY)); refine zlL (cs := #[.int .i64 0, .int .i64 0, .int .i64 0]) ?_ 0 _ rfl; (with_reducible repeat (first | apply zuW | apply ztN | apply zqY)); exact BK177.out) Tryd.underlying23 rfl (by kernel_rfl)) rfl ?_
     exact ⟨by first | rfl | (simp [ziS, znJ] <;> rfl) | (simp [*, ziS, znJ] <;> rfl), bb_⟩
    ·rw [if_neg c18] at H
     have c18b0 : (t190.toList == a0.toList) = false := beq_eq_false_iff_ne.mpr c18
     have c18b1 : (t190.toList != a0.toList) = true := bne_iff_ne.mpr c18
     simp only [Option.some.injEq, Prod.mk.injEq] at H
     obtain ⟨rfl, rfl, rfl, rfl⟩ := H
     go_wp2_with (first | ((with_reducible refine zgK (f := 27) rfl ?_); refine zqQ (some 29) rfl rfl Tryd.func27 (by kernel_rfl) rfl #[.string t178, .string (⟨#[40]⟩ : ByteArray)] rfl (by (try simp only [List.map_toArray, List.map_cons, List.map_nil]); first | done | rfl | (simp only [List.length_drop, List.length_take]; rfl)) ?_; (with_reducible refine (zjE.calls t178 (⟨#[40]⟩ : ByteArray) t185 _ A12.out).mono ?_); rintro e w' ⟨rfl, ⟨nd, rfl⟩⟩; refine ⟨_, rfl, ?_⟩; (try (rw [zxE wc]; generalize hq_ : World.drewN wc _ = wc; have n0_ : Aside0 (wc.heap[gb177]? = some (.cells #[.int .i64 0, .int .i64 0, .int .i64 0] 23 (0, 0))) := ⟨by rw [← hq_]; exact bk_⟩; have n1_ : Aside0 (wc.heap[gb181]? = some (.cells #[.int .i64 0, .int .i64 0, .int .i64 x182002_2] 23 (0, 0))) := ⟨by rw [← hq_]; exact bk_⟩; have n2_ : Aside0 (Below w.heap.size w wc) := ⟨by rw [← hq_]; exact bb_⟩; clear BK177 BK181 HB hq_; have BK177 := n0_; have BK181 := n1_; have HB := n2_; clear n0_ n1_ n2_))) | ((with_reducible refine zgK (f := 26) rfl ?_); refine zqQ (some 30) rfl rfl Tryd.func26 (by kernel_rfl) rfl #[.string t185, .string (⟨#[41]⟩ : ByteArray)] rfl (by (try simp only [List.map_toArray, List.map_cons, List.map_nil]); first | done | rfl | (simp only [List.length_drop, List.length_take]; rfl)) ?_; (with_reducible refine (ziM.calls t185 (⟨#[41]⟩ : ByteArray) t186 _ A13.out).mono ?_); rintro e w' ⟨rfl, ⟨nd, rfl⟩⟩; refine ⟨_, rfl, ?_⟩; (try (rw [zxE wc]; generalize hq_ : World.drewN wc _ = wc; have n0_ : Aside0 (wc.heap[gb177]? = some (.cells #[.int .i64 0, .int .i64 0, .int .i64 0] 23 (0, 0))) := ⟨by rw [← hq_]; exact bk_⟩; have n1_ : Aside0 (wc.heap[gb181]? = some (.cells #[.int .i64 0, .int .i64 0, .int .i64 x182002_2] 23 (0, 0))) := ⟨by rw [← hq_]; exact bk_⟩; have n2_ : Aside0 (Below w.heap.size w wc) := ⟨by rw [← hq_]; exact bb_⟩; clear BK177 BK181 HB hq_; have BK177 := n0_; have BK181 := n1_; have HB := n2_; clear n0_ n1_ n2_))) | ((with_reducible refine zgK (f := 25) rfl ?_); refine zqQ (some 31) rfl rfl Tryd.func25 (by kernel_rfl) rfl #[.string t186] rfl (by (try simp only [List.map_toArray, List.map_cons, List.map_nil]); first | done | rfl | (simp only [List.length_drop, List.length_take]; rfl)) ?_; (with_reducible refine (zsR.calls t186 t187 t188 _ ?side1 A14.out).mono ?_); (case side1 => exact LaidV.below hG bb_); rintro e w27 ⟨rfl, hb⟩; refine ⟨_, rfl, ?_⟩; have n0_ := zpS (zgM (g := gb177) (o := .cells #[.int .i64 0, .int .i64 0, .int .i64 0] 23 (0, 0)) bk_ hb); have n1_ := zpS (zgM (g := gb181) (o := .cells #[.int .i64 0, .int .i64 0, .int .i64 x182002_2] 23 (0, 0)) bk_ hb); have n2_ := (ns_ hb); clear BK177; clear BK181; clear HB; have BK177 := n0_; have BK181 := n1_; have HB := n2_; clear n0_ n1_ n2_; (try clear hb); (try clear hb2); have hnb28 := NB181_177.out; have hnc28 := NB177_181.out; obtain ⟨hcz29_0, hcz29_1, hcz29_2⟩ := zdT BK181.out; obtain ⟨hfz29_0, hfz29_1, hfz29_2⟩ := zqD BK181.out) | ((with_reducible refine zgK (f := 28) rfl ?_); refine zqQ (some 37) rfl rfl Tryd.func28 (by kernel_rfl) rfl #[.agg #[.int .i64 t187, .int .i64 t188, .int .i64 x182002_2]] rfl (by (try simp only [List.map_toArray, List.map_cons, List.map_nil]); first | done | rfl | (simp only [List.length_drop, List.length_take]; rfl)) ?_; (with_reducible refine (zdR.calls t187 t188 x182002_2 true _ A15.out).mono ?_); rintro e w30 ⟨rfl, hb⟩; refine ⟨_, rfl, ?_⟩; have n0_ := zpS (zgM (g := gb177) (o := .cells #[.int .i64 0, .int .i64 0, .int .i64 0] 23 (0, 0)) (by (with_reducible repeat (first | apply zuW | apply ztN | apply zqY)); refine znI ?_ NB177_181.out _; (with_reducible repeat (first | apply zuW | apply ztN | apply zqY)); refine znI ?_ NB177_181.out _; (with_reducible repeat (first | apply zuW | apply ztN | apply zqY)); exact BK177.out) hb); have n1_ := zpS (zgM (g := gb181) (o := .cells #[.int .i64 t187, .int .i64 t188, .int .i64 x182002_2] 23 (0, 0)) (by (with_reducible repeat (first | apply zuW | apply ztN | apply zqY)); refine zlL (cs := #[.int .i64 t187, .int .i64 0, .int .i64 x182002_2]) ?_ 1 _ rfl; (with_reducible repeat (first | apply zuW | apply ztN | apply zqY)); refine zlL (cs := #[.int .i64 0, .int .i64 0, .int .i64 x182002_2]) ?_ 0 _ rfl; (with_reducible repeat (first | apply zuW | apply ztN | apply zqY)); exact BK181.out) hb); have n2_ := (ns_ hb); clear BK177; clear BK181; clear HB; have BK177 := n0_; have BK181 := n1_; have HB := n2_; clear n0_ n1_ n2_; (try clear hb); (try clear hb2); obtain ⟨hcz31_0, hcz31_1, hcz31_2⟩ := zdT BK181.out; obtain ⟨hfz31_0, hfz31_1, hfz31_2⟩ := zqD BK181.out) | (go_at_call 29; (with_reducible refine (zjG.calls kj2 t187 t188 x182002_2 t190 _ ?side1 A17.out).mono ?_); (case side1 => exact LaidV.below hG bb_); rintro e w32 ⟨rfl, hb⟩; have n0_ := zpS (zgM (g := gb177) (o := .cells #[.int .i64 0, .int .i64 0, .int .i64 0] 23 (0, 0)) bk_ hb); have n1_ := zpS (zgM (g := gb181) (o := .cells #[.int .i64 t187, .int .i64 t188, .int .i64 x182002_2] 23 (0, 0)) bk_ hb); have n2_ := (ns_ hb); clear BK177; clear BK181; clear HB; have BK177 := n0_; have BK181 := n1_; have HB := n2_; clear n0_ n1_ n2_; (try clear hb); (try clear hb2); obtain ⟨hcz33_0, hcz33_1, hcz33_2⟩ := zdT BK177.out; obtain ⟨hfz33_0, hfz33_1, hfz33_2⟩ := zqD BK177.out))
     refine bodyPost_ret (results_ct rfl _ _ gb177 23 #[.int .i64 0, .int .i64 0, .int .i64 0] (0, 0) _ rfl (by (with_reducible repeat (first | apply zuW | apply ztN | apply zqY)); refine zlL (cs := #[.int .i64 0, .int .i64 0, .int .i64 0]) ?_ 2 _ rfl; (with_reducible repeat (first | apply zuW | apply ztN | apply zqY)); refine zlL (cs := #[.int .i64 0, .int .i64 0, .int .i64 0]) ?_ 1 _ rfl; (with_reducible repeat (first | apply zuW | apply ztN | apply zqY)); refine zlL (cs := #[.int .i64 0, .int .i64 0, .int .i64 0]) ?_ 0 _ rfl; (with_reducible repeat (first | apply zuW | apply ztN | apply zqY)); exact BK177.out) Tryd.underlying23 rfl (by kernel_rfl)) rfl ?_
     exact ⟨by first | rfl | (simp [ziS, znJ] <;> rfl) | (simp [*, ziS, znJ] <;> rfl), bb_⟩
   ·replace c16 := Bool.eq_false_iff.mpr c16
    subst c16
    have H1 : (some (0, 0, 0, false)) = some (r1, r2, r3, r4) := by rw [if_neg (show ¬ (false = true) by decide)] at H; exact H
    clear H
    have H := H1
    clear H1
    simp only [Option.some.injEq, Prod.mk.injEq] at H
    obtain ⟨rfl, rfl, rfl, rfl⟩ := H
    go_wp2_with (first | ((with_reducible refine zgK (f := 27) rfl ?_); refine zqQ (some 29) rfl rfl Tryd.func27 (by kernel_rfl) rfl #[.string t178, .string (⟨#[40]⟩ : ByteArray)] rfl (by (try simp only [List.map_toArray, List.map_cons, List.map_nil]); first | done | rfl | (simp only [List.length_drop, List.length_take]; rfl)) ?_; (with_reducible refine (zjE.calls t178 (⟨#[40]⟩ : ByteArray) t185 _ A12.out).mono ?_); rintro e w' ⟨rfl, ⟨nd, rfl⟩⟩; refine ⟨_, rfl, ?_⟩; (try (rw [zxE wc]; generalize hq_ : World.drewN wc _ = wc; have n0_ : Aside0 (wc.heap[gb177]? = some (.cells #[.int .i64 0, .int .i64 0, .int .i64 0] 23 (0, 0))) := ⟨by rw [← hq_]; exact bk_⟩; have n1_ : Aside0 (wc.heap[gb181]? = some (.cells #[.int .i64 0, .int .i64 0, .int .i64 x182002_2] 23 (0, 0))) := ⟨by rw [← hq_]; exact bk_⟩; have n2_ : Aside0 (Below w.heap.size w wc) := ⟨by rw [← hq_]; exact bb_⟩; clear BK177 BK181 HB hq_; have BK177 := n0_; have BK181 := n1_; have HB := n2_; clear n0_ n1_ n2_))) | ((with_reducible refine zgK (f := 26) rfl ?_); refine zqQ (some 30) rfl rfl Tryd.func26 (by kernel_rfl) rfl #[.string t185, .string (⟨#[41]⟩ : ByteArray)] rfl (by (try simp only [List.map_toArray, List.map_cons, List.map_nil]); first | done | rfl | (simp only [List.length_drop, List.length_take]; rfl)) ?_; (with_reducible refine (ziM.calls t185 (⟨#[41]⟩ : ByteArray) t186 _ A13.out).mono ?_); rintro e w' ⟨rfl, ⟨nd, rfl⟩⟩; refine ⟨_, rfl, ?_⟩; (try (rw [zxE wc]; generalize hq_ : World.drewN wc _ = wc; have n0_ : Aside0 (wc.heap[gb177]? = some (.cells #[.int .i64 0, .int .i64 0, .int .i64 0] 23 (0, 0))) := ⟨by rw [← hq_]; exact bk_⟩; have n1_ : Aside0 (wc.heap[gb181]? = some (.cells #[.int .i64 0, .int .i64 0, .int .i64 x182002_2] 23 (0, 0))) := ⟨by rw [← hq_]; exact bk_⟩; have n2_ : Aside0 (Below w.heap.size w wc) := ⟨by rw [← hq_]; exact bb_⟩; clear BK177 BK181 HB hq_; have BK177 := n0_; have BK181 := n1_; have HB := n2_; clear n0_ n1_ n2_))) | ((with_reducible refine zgK (f := 25) rfl ?_); refine zqQ (some 31) rfl rfl Tryd.func25 (by kernel_rfl) rfl #[.string t186] rfl (by (try simp only [List.map_toArray, List.map_cons, List.map_nil]); first | done | rfl | (simp only [List.length_drop, List.length_take]; rfl)) ?_; (with_reducible refine (zsR.calls t186 t187 t188 _ ?side1 A14.out).mono ?_); (case side1 => exact LaidV.below hG bb_); rintro e w34 ⟨rfl, hb⟩; refine ⟨_, rfl, ?_⟩; have n0_ := zpS (zgM (g := gb177) (o := .cells #[.int .i64 0, .int .i64 0, .int .i64 0] 23 (0, 0)) bk_ hb); have n1_ := zpS (zgM (g := gb181) (o := .cells #[.int .i64 0, .int .i64 0, .int .i64 x182002_2] 23 (0, 0)) bk_ hb); have n2_ := (ns_ hb); clear BK177; clear BK181; clear HB; have BK177 := n0_; have BK181 := n1_; have HB := n2_; clear n0_ n1_ n2_; (try clear hb); (try clear hb2); have hnb35 := NB181_177.out; have hnc35 := NB177_181.out; obtain ⟨hcz36_0, hcz36_1, hcz36_2⟩ := zdT BK181.out; obtain ⟨hfz36_0, hfz36_1, hfz36_2⟩ := zqD BK181.out) | ((with_reducible refine zgK (f := 28) rfl ?_); refine zqQ (some 37) rfl rfl Tryd.func28 (by kernel_rfl) rfl #[.agg #[.int .i64 t187, .int .i64 t188, .int .i64 x182002_2]] rfl (by (try simp only [List.map_toArray, List.map_cons, List.map_nil]); first | done | rfl | (simp only [List.length_drop, List.length_take]; rfl)) ?_; (with_reducible refine (zdR.calls t187 t188 x182002_2 false _ A15.out).mono ?_); rintro e w37 ⟨rfl, hb⟩; refine ⟨_, rfl, ?_⟩; have n0_ := zpS (zgM (g := gb177) (o := .cells #[.int .i64 0, .int .i64 0, .int .i64 0] 23 (0, 0)) (by (with_reducible repeat (first | apply zuW | apply ztN | apply zqY)); refine znI ?_ NB177_181.out _; (with_reducible repeat (first | apply zuW | apply ztN | apply zqY)); refine znI ?_ NB177_181.out _; (with_reducible repeat (first | apply zuW | apply ztN | apply zqY)); exact BK177.out) hb); have n1_ := zpS (zgM (g := gb181) (o := .cells #[.int .i64 t187, .int .i64 t188, .int .i64 x182002_2] 23 (0, 0)) (by (with_reducible repeat (first | apply zuW | apply ztN | apply zqY)); refine zlL (cs := #[.int .i64 t187, .int .i64 0, .int .i64 x182002_2]) ?_ 1 _ rfl; (with_reducible repeat (first | apply zuW | apply ztN | apply zqY)); refine zlL (cs := #[.int .i64 0, .int .i64 0, .int .i64 x182002_2]) ?_ 0 _ rfl; (with_reducible repeat (first | apply zuW | apply ztN | apply zqY)); exact BK181.out) hb); have n2_ := (ns_ hb); clear BK177; clear BK181; clear HB; have BK177 := n0_; have BK181 := n1_; have HB := n2_; clear n0_ n1_ n2_; (try clear hb); (try clear hb2); obtain ⟨hcz38_0, hcz38_1, hcz38_2⟩ := zdT BK177.out; obtain ⟨hfz38_0, hfz38_1, hfz38_2⟩ := zqD BK177.out))
    refine bodyPost_ret (results_ct rfl _ _ gb177 23 #[.int .i64 0, .int .i64 0, .int .i64 0] (0, 0) _ rfl (by (with_reducible repeat (first | apply zuW | apply ztN | apply zqY)); refine zlL (cs := #[.int .i64 0, .int .i64 0, .int .i64 0]) ?_ 2 _ rfl; (with_reducible repeat (first | apply zuW | apply ztN | apply zqY)); refine zlL (cs := #[.int .i64 0, .int .i64 0, .int .i64 0]) ?_ 1 _ rfl; (with_reducible repeat (first | apply zuW | apply ztN | apply zqY)); refine zlL (cs := #[.int .i64 0, .int .i64 0, .int .i64 0]) ?_ 0 _ rfl; (with_reducible repeat (first | apply zuW | apply ztN | apply zqY)); exact BK177.out) Tryd.underlying23 rfl (by kernel_rfl)) rfl ?_
    exact ⟨by first | rfl | (simp [ziS, znJ] <;> rfl) | (simp [*, ziS, znJ] <;> rfl), bb_⟩

def zaT.f (a0_0 : Int) (a0_1 : Int) (a0_2 : Int) (a1_0 : Int) (a1_1 : Int) (a1_2 : Int) : Option (Bool) := if a0_0 = a1_0 then (if a0_1 = a1_1 then (if a0_2 = a1_2 then (some true) else (some false)) else (some false)) else (some false)
theorem zaT.calls (a0_0 : Int) (a0_1 : Int) (a0_2 : Int) (a1_0 : Int) (a1_1 : Int) (a1_2 : Int) (r : Bool) (w : World) (h : zaT.f a0_0 a0_1 a0_2 a1_0 a1_1 a1_2 = some r) :
  Calls Tryd.prog 9 #[.agg #[.int .i64 a0_0, .int .i64 a0_1, .int .i64 a0_2], .agg #[.int .i64 a1_0, .int .i64 a1_1, .int .i64 a1_2]] w fun e w' => e = .returned (.bool r) ∧ Below w.heap.size w w' := by
 have hu23 := Tryd.underlying23
 have HB := zpS (Below.refl w.heap.size w)
 have H : (if a0_0 = a1_0 then (if a0_1 = a1_1 then (if a0_2 = a1_2 then (some true) else (some false)) else (some false)) else (some false)) = some r := h
 clear h
 by_cases c3 : a0_0 = a1_0
 ·rw [if_pos c3] at H
  have c3b0 : (a0_0 == a1_0) = true := beq_iff_eq.mpr c3
  have c3b1 : (a0_0 != a1_0) = false := bne_eq_false_iff_eq.mpr c3
  clear c3
  by_cases c4 : a0_1 = a1_1
  ·rw [if_pos c4] at H
   have c4b0 : (a0_1 == a1_1) = true := beq_iff_eq.mpr c4
   have c4b1 : (a0_1 != a1_1) = false := bne_eq_false_iff_eq.mpr c4
   clear c4
   by_cases c5 : a0_2 = a1_2
   ·rw [if_pos c5] at H
    have c5b0 : (a0_2 == a1_2) = true := beq_iff_eq.mpr c5
    have c5b1 : (a0_2 != a1_2) = false := bne_eq_false_iff_eq.mpr c5
    clear c5
    obtain rfl := Option.some.inj H
    go_enter Tryd.func9, Tryd.ntmps9
    go_wp2_with (first | ((with_reducible refine zpZ (N := 2) rfl ?_); refine bx_ 2 #[.int .i64 a0_0, .int .i64 a0_1, .int .i64 a0_2] 23 ?_; intro gb191 hg w6 hbox hb; have n0_ := (ns_ hb); have n1_ := zpS (hbox); have n2_ := (ng_ hg); have n3_ := n2_; clear HB; have HB := n0_; have BK191 := n1_; have GW191 := n2_; have GE191 := n3_; clear n0_ n1_ n2_ n3_; clear hb hbox hg) | ((with_reducible refine zpZ (N := 3) rfl ?_); refine bx_ 3 #[.int .i64 a1_0, .int .i64 a1_1, .int .i64 a1_2] 23 ?_; intro gb192 hg w7 hbox hb; have n0_ := zpS (zgM (g := gb191) (o := .cells #[.int .i64 a0_0, .int .i64 a0_1, .int .i64 a0_2] 23 (0, 0)) bk_ hb); have n1_ := (ns_ hb); have n2_ := zpS (hbox); have n3_ := (ng_ hg); have n4_ := n3_; have n5_ := zpS ((by rw [hg]; exact Nat.ne_of_lt (blk_lt (g := gb191) (o := .cells #[.int .i64 a0_0, .int .i64 a0_1, .int .i64 a0_2] 23 (0, 0)) bk_) : gb191 ≠ gb192)); have n6_ := zpS ((by rw [hg]; exact Nat.ne_of_gt (blk_lt (g := gb191) (o := .cells #[.int .i64 a0_0, .int .i64 a0_1, .int .i64 a0_2] 23 (0, 0)) bk_) : gb192 ≠ gb191)); clear BK191; clear HB; have BK191 := n0_; have HB := n1_; have BK192 := n2_; have GW192 := n3_; have GE192 := n4_; have NB191_192 := n5_; have NB192_191 := n6_; clear n0_ n1_ n2_ n3_ n4_ n5_ n6_; clear hb hbox hg; have hnb8 := NB191_192.out; have hnc8 := NB192_191.out; obtain ⟨hcz9_0, hcz9_1, hcz9_2⟩ := zdT BK191.out; obtain ⟨hfz9_0, hfz9_1, hfz9_2⟩ := zqD BK191.out; obtain ⟨hcz10_0, hcz10_1, hcz10_2⟩ := zdT BK192.out; obtain ⟨hfz10_0, hfz10_1, hfz10_2⟩ := zqD BK192.out))
    go_ret
    exact ⟨by first | rfl | (simp [ziS, znJ] <;> rfl) | (simp [*, ziS, znJ] <;> rfl), bb_⟩
   ·rw [if_neg c5] at H
    have c5b0 : (a0_2 == a1_2) = false := beq_eq_false_iff_ne.mpr c5
    have c5b1 : (a0_2 != a1_2) = true := bne_iff_ne.mpr c5
    obtain rfl := Option.some.inj H
    go_enter Tryd.func9, Tryd.ntmps9
    go_wp2_with (first | ((with_reducible refine zpZ (N := 2) rfl ?_); refine bx_ 2 #[.int .i64 a0_0, .int .i64 a0_1, .int .i64 a0_2] 23 ?_; intro gb191 hg w11 hbox hb; have n0_ := (ns_ hb); have n1_ := zpS (hbox); have n2_ := (ng_ hg); have n3_ := n2_; clear HB; have HB := n0_; have BK191 := n1_; have GW191 := n2_; have GE191 := n3_; clear n0_ n1_ n2_ n3_; clear hb hbox hg) | ((with_reducible refine zpZ (N := 3) rfl ?_); refine bx_ 3 #[.int .i64 a1_0, .int .i64 a1_1, .int .i64 a1_2] 23 ?_; intro gb192 hg w12 hbox hb; have n0_ := zpS (zgM (g := gb191) (o := .cells #[.int .i64 a0_0, .int .i64 a0_1, .int .i64 a0_2] 23 (0, 0)) bk_ hb); have n1_ := (ns_ hb); have n2_ := zpS (hbox); have n3_ := (ng_ hg); have n4_ := n3_; have n5_ := zpS ((by rw [hg]; exact Nat.ne_of_lt (blk_lt (g := gb191) (o := .cells #[.int .i64 a0_0, .int .i64 a0_1, .int .i64 a0_2] 23 (0, 0)) bk_) : gb191 ≠ gb192)); have n6_ := zpS ((by rw [hg]; exact Nat.ne_of_gt (blk_lt (g := gb191) (o := .cells #[.int .i64 a0_0, .int .i64 a0_1, .int .i64 a0_2] 23 (0, 0)) bk_) : gb192 ≠ gb191)); clear BK191; clear HB; have BK191 := n0_; have HB := n1_; have BK192 := n2_; have GW192 := n3_; have GE192 := n4_; have NB191_192 := n5_; have NB192_191 := n6_; clear n0_ n1_ n2_ n3_ n4_ n5_ n6_; clear hb hbox hg; have hnb13 := NB191_192.out; have hnc13 := NB192_191.out; obtain ⟨hcz14_0, hcz14_1, hcz14_2⟩ := zdT BK191.out; obtain ⟨hfz14_0, hfz14_1, hfz14_2⟩ := zqD BK191.out; obtain ⟨hcz15_0, hcz15_1, hcz15_2⟩ := zdT BK192.out; obtain ⟨hfz15_0, hfz15_1, hfz15_2⟩ := zqD BK192.out))
    go_ret
    exact ⟨by first | rfl | (simp [ziS, znJ] <;> rfl) | (simp [*, ziS, znJ] <;> rfl), bb_⟩
  ·rw [if_neg c4] at H
   have c4b0 : (a0_1 == a1_1) = false := beq_eq_false_iff_ne.mpr c4
   have c4b1 : (a0_1 != a1_1) = true := bne_iff_ne.mpr c4
   obtain rfl := Option.some.inj H
   go_enter Tryd.func9, Tryd.ntmps9
   go_wp2_with (first | ((with_reducible refine zpZ (N := 2) rfl ?_); refine bx_ 2 #[.int .i64 a0_0, .int .i64 a0_1, .int .i64 a0_2] 23 ?_; intro gb191 hg w16 hbox hb; have n0_ := (ns_ hb); have n1_ := zpS (hbox); have n2_ := (ng_ hg); have n3_ := n2_; clear HB; have HB := n0_; have BK191 := n1_; have GW191 := n2_; have GE191 := n3_; clear n0_ n1_ n2_ n3_; clear hb hbox hg) | ((with_reducible refine zpZ (N := 3) rfl ?_); refine bx_ 3 #[.int .i64 a1_0, .int .i64 a1_1, .int .i64 a1_2] 23 ?_; intro gb192 hg w17 hbox hb; have n0_ := zpS (zgM (g := gb191) (o := .cells #[.int .i64 a0_0, .int .i64 a0_1, .int .i64 a0_2] 23 (0, 0)) bk_ hb); have n1_ := (ns_ hb); have n2_ := zpS (hbox); have n3_ := (ng_ hg); have n4_ := n3_; have n5_ := zpS ((by rw [hg]; exact Nat.ne_of_lt (blk_lt (g := gb191) (o := .cells #[.int .i64 a0_0, .int .i64 a0_1, .int .i64 a0_2] 23 (0, 0)) bk_) : gb191 ≠ gb192)); have n6_ := zpS ((by rw [hg]; exact Nat.ne_of_gt (blk_lt (g := gb191) (o := .cells #[.int .i64 a0_0, .int .i64 a0_1, .int .i64 a0_2] 23 (0, 0)) bk_) : gb192 ≠ gb191)); clear BK191; clear HB; have BK191 := n0_; have HB := n1_; have BK192 := n2_; have GW192 := n3_; have GE192 := n4_; have NB191_192 := n5_; have NB192_191 := n6_; clear n0_ n1_ n2_ n3_ n4_ n5_ n6_; clear hb hbox hg; have hnb18 := NB191_192.out; have hnc18 := NB192_191.out; obtain ⟨hcz19_0, hcz19_1, hcz19_2⟩ := zdT BK191.out; obtain ⟨hfz19_0, hfz19_1, hfz19_2⟩ := zqD BK191.out; obtain ⟨hcz20_0, hcz20_1, hcz20_2⟩ := zdT BK192.out; obtain ⟨hfz20_0, hfz20_1, hfz20_2⟩ := zqD BK192.out))
   go_ret
   exact ⟨by first | rfl | (simp [ziS, znJ] <;> rfl) | (simp [*, ziS, znJ] <;> rfl), bb_⟩
 ·rw [if_neg c3] at H
  have c3b0 : (a0_0 == a1_0) = false := beq_eq_false_iff_ne.mpr c3
  have c3b1 : (a0_0 != a1_0) = true := bne_iff_ne.mpr c3
  obtain rfl := Option.some.inj H
  go_enter Tryd.func9, Tryd.ntmps9
  go_wp2_with (first | ((with_reducible refine zpZ (N := 2) rfl ?_); refine bx_ 2 #[.int .i64 a0_0, .int .i64 a0_1, .int .i64 a0_2] 23 ?_; intro gb191 hg w21 hbox hb; have n0_ := (ns_ hb); have n1_ := zpS (hbox); have n2_ := (ng_ hg); have n3_ := n2_; clear HB; have HB := n0_; have BK191 := n1_; have GW191 := n2_; have GE191 := n3_; clear n0_ n1_ n2_ n3_; clear hb hbox hg) | ((with_reducible refine zpZ (N := 3) rfl ?_); refine bx_ 3 #[.int .i64 a1_0, .int .i64 a1_1, .int .i64 a1_2] 23 ?_; intro gb192 hg w22 hbox hb; have n0_ := zpS (zgM (g := gb191) (o := .cells #[.int .i64 a0_0, .int .i64 a0_1, .int .i64 a0_2] 23 (0, 0)) bk_ hb); have n1_ := (ns_ hb); have n2_ := zpS (hbox); have n3_ := (ng_ hg); have n4_ := n3_; have n5_ := zpS ((by rw [hg]; exact Nat.ne_of_lt (blk_lt (g := gb191) (o := .cells #[.int .i64 a0_0, .int .i64 a0_1, .int .i64 a0_2] 23 (0, 0)) bk_) : gb191 ≠ gb192)); have n6_ := zpS ((by rw [hg]; exact Nat.ne_of_gt (blk_lt (g := gb191) (o := .cells #[.int .i64 a0_0, .int .i64 a0_1, .int .i64 a0_2] 23 (0, 0)) bk_) : gb192 ≠ gb191)); clear BK191; clear HB; have BK191 := n0_; have HB := n1_; have BK192 := n2_; have GW192 := n3_; have GE192 := n4_; have NB191_192 := n5_; have NB192_191 := n6_; clear n0_ n1_ n2_ n3_ n4_ n5_ n6_; clear hb hbox hg; have hnb23 := NB191_192.out; have hnc23 := NB192_191.out; obtain ⟨hcz24_0, hcz24_1, hcz24_2⟩ := zdT BK191.out; obtain ⟨hfz24_0, hfz24_1, hfz24_2⟩ := zqD BK191.out; obtain ⟨hcz25_0, hcz25_1, hcz25_2⟩ := zdT BK192.out; obtain ⟨hfz25_0, hfz25_1, hfz25_2⟩ := zqD BK192.out))
  go_ret
  exact ⟨by first | rfl | (simp [ziS, znJ] <;> rfl) | (simp [*, ziS, znJ] <;> rfl), bb_⟩

def laws_FnExactReadNum.f (k : Nat) (a0 : ByteArray) : Option (Bool) := if (a0.size : Int) > 1048576 then (some true) else ((zhO.f k a0).bind fun bt193 => ((zaB.f k a0).bind fun bt198 => ((zaT.f bt198.1 bt198.2.1 bt198.2.2.1 bt193.1 bt193.2.1 bt193.2.2.1).bind fun t203 => (if t203 = true then (if (bt198.2.2.2 != bt193.2.2.2) = true then (none) else (some true)) else (none)))))
theorem laws_FnExactReadNum.mono : ∀ a0 k, LeO (laws_FnExactReadNum.f k a0) (laws_FnExactReadNum.f (k + 1) a0) := by
 intro a0 k
 unfold laws_FnExactReadNum.f
 repeat' first
   | (with_reducible exact zaB.mono _ _)
   | (with_reducible exact zhO.mono _ _)
   | (with_reducible exact LeO.refl _)
   | (with_reducible exact LeO.none _)
   | (with_reducible refine LeO.ite ?_ ?_)
   | (with_reducible refine LeO.bind ?_ (fun _ => ?_))
   | exact zaB.mono _ _
   | exact zhO.mono _ _
   | exact LeO.none _
   | refine LeO.ite ?_ ?_
   | refine LeO.bind ?_ (fun _ => ?_)
theorem laws_FnExactReadNum.calls (k : Nat) (a0 : ByteArray) (r : Bool) (w : World) (hG : LaidV w) (h : laws_FnExactReadNum.f k a0 = some r) :
  Calls Tryd.prog 3 #[.string a0] w fun e w' => e = .returned (.bool r) ∧ Below w.heap.size w w' := by
 have hu23 := Tryd.underlying23
 have HB := zpS (Below.refl w.heap.size w)
 have H : (if (a0.size : Int) > 1048576 then (some true) else ((zhO.f k a0).bind fun bt193 => ((zaB.f k a0).bind fun bt198 => ((zaT.f bt198.1 bt198.2.1 bt198.2.2.1 bt193.1 bt193.2.1 bt193.2.2.1).bind fun t203 => (if t203 = true then (if (bt198.2.2.2 != bt193.2.2.2) = true then (none) else (some true)) else (none)))))) = some r := h
 clear h
 by_cases c2 : (a0.size : Int) > 1048576
 ·rw [if_pos c2] at H
  have c2b0 : decide (1048576 < (a0.size : Int)) = true := decide_eq_true c2
  have c2b1 : decide (1048576 < a0.size) = true := decide_eq_true (by omega)
  clear c2
  obtain rfl := Option.some.inj H
  go_enter Tryd.func3, Tryd.ntmps3
  go_wp2
  go_ret
  exact ⟨by first | rfl | (simp [ziS, znJ] <;> rfl) | (simp [*, ziS, znJ] <;> rfl), bb_⟩
 ·rw [if_neg c2] at H
  have c2b0 : decide (1048576 < (a0.size : Int)) = false := decide_eq_false c2
  have c2b1 : decide (1048576 < a0.size) = false := decide_eq_false (by omega)
  clear c2
  replace H := Option.bind_eq_some_iff.mp H
  obtain ⟨⟨t193, t194, t195, t196⟩, A30, H⟩ := H
  replace H : ((zaB.f k a0).bind fun bt198 => ((zaT.f bt198.1 bt198.2.1 bt198.2.2.1 t193 t194 t195).bind fun t203 => (if t203 = true then (if (bt198.2.2.2 != t196) = true then (none) else (some true)) else (none)))) = some r := H
  have A3 := zpS A30
  clear A30
  replace H := Option.bind_eq_some_iff.mp H
  obtain ⟨⟨t198, t199, t200, t201⟩, A40, H⟩ := H
  replace H : ((zaT.f t198 t199 t200 t193 t194 t195).bind fun t203 => (if t203 = true then (if (t201 != t196) = true then (none) else (some true)) else (none))) = some r := H
  have A4 := zpS A40
  clear A40
  replace H := Option.bind_eq_some_iff.mp H
  obtain ⟨t203, A50, H⟩ := H
  replace H : (if t203 = true then (if (t201 != t196) = true then (none) else (some true)) else (none)) = some r := H
  have A5 := zpS A50
  clear A50
  by_cases c6 : t203 = true
  ·subst c6
   have H1 : (if (t201 != t196) = true then (none) else (some true)) = some r := by rw [if_pos rfl] at H; exact H
   clear H
   have H := H1
   clear H1
   by_cases c7 : (t201 != t196) = true
   ·rw [if_pos c7] at H
    exact absurd H (by simp)
   ·rw [if_neg c7] at H
    have c7b0 : (t201 != t196) = false := by simpa using c7
    (try (have c7b1 : decide (t201 = t196) = true := by simpa using c7))
    (try (have c7b2 : (t201 == t196) = true := by simpa using c7))
    clear c7
    obtain rfl := Option.some.inj H
    go_enter Tryd.func3, Tryd.ntmps3
    go_wp2_with (first | ((with_reducible refine zgK (f := 7) rfl ?_); refine zqQ (some 12) rfl rfl Tryd.func7 (by kernel_rfl) rfl #[.string a0] rfl (by (try simp only [List.map_toArray, List.map_cons, List.map_nil]); first | done | rfl | (simp only [List.length_drop, List.length_take]; rfl)) ?_; (with_reducible refine (zhO.calls k a0 t193 t194 t195 t196 _ A3.out).mono ?_); rintro e w8 ⟨rfl, hb⟩; refine ⟨_, rfl, ?_⟩; have n0_ := (ns_ hb); clear HB; have HB := n0_; clear n0_; (try clear hb); (try clear hb2)) | ((with_reducible refine zpZ (N := 3) rfl ?_); refine bx_ 3 #[.int .i64 0, .int .i64 0, .int .i64 0] 23 ?_; intro gb197 hg w9 hbox hb; have n0_ := (ns_ hb); have n1_ := zpS (hbox); have n2_ := (ng_ hg); have n3_ := n2_; clear HB; have HB := n0_; have BK197 := n1_; have GW197 := n2_; have GE197 := n3_; clear n0_ n1_ n2_ n3_; clear hb hbox hg; obtain ⟨hcz10_0, hcz10_1, hcz10_2⟩ := zdT BK197.out; obtain ⟨hfz10_0, hfz10_1, hfz10_2⟩ := zqD BK197.out) | ((with_reducible refine zgK (f := 8) rfl ?_); refine zqQ (some 17) rfl rfl Tryd.func8 (by kernel_rfl) rfl #[.string a0] rfl (by (try simp only [List.map_toArray, List.map_cons, List.map_nil]); first | done | rfl | (simp only [List.length_drop, List.length_take]; rfl)) ?_; (with_reducible refine (zaB.calls k a0 t198 t199 t200 t201 _ ?side1 A4.out).mono ?_); (case side1 => exact LaidV.below hG bb_); rintro e w11 ⟨rfl, hb⟩; refine ⟨_, rfl, ?_⟩; have n0_ := zpS (zgM (g := gb197) (o := .cells #[.int .i64 t193, .int .i64 t194, .int .i64 t195] 23 (0, 0)) (by (with_reducible repeat (first | apply zuW | apply ztN | apply zqY)); refine zlL (cs := #[.int .i64 t193, .int .i64 t194, .int .i64 0]) ?_ 2 _ rfl; (with_reducible repeat (first | apply zuW | apply ztN | apply zqY)); refine zlL (cs := #[.int .i64 t193, .int .i64 0, .int .i64 0]) ?_ 1 _ rfl; (with_reducible repeat (first | apply zuW | apply ztN | apply zqY)); refine zlL (cs := #[.int .i64 0, .int .i64 0, .int .i64 0]) ?_ 0 _ rfl; (with_reducible repeat (first | apply zuW | apply ztN | apply zqY)); exact BK197.out) hb); have n1_ := (ns_ hb); clear BK197; clear HB; have BK197 := n0_; have HB := n1_; clear n0_ n1_; (try clear hb); (try clear hb2)) | ((with_reducible refine zpZ (N := 5) rfl ?_); refine bx_ 5 #[.int .i64 0, .int .i64 0, .int .i64 0] 23 ?_; intro gb202 hg w12 hbox hb; have n0_ := zpS (zgM (g := gb197) (o := .cells #[.int .i64 t193, .int .i64 t194, .int .i64 t195] 23 (0, 0)) bk_ hb); have n1_ := (ns_ hb); have n2_ := zpS (hbox); have n3_ := (ng_ hg); have n4_ := n3_; have n5_ := zpS ((by rw [hg]; exact Nat.ne_of_lt (blk_lt (g := gb197) (o := .cells #[.int .i64 t193, .int .i64 t194, .int .i64 t195] 23 (0, 0)) bk_) : gb197 ≠ gb202)); have n6_ := zpS ((by rw [hg]; exact Nat.ne_of_gt (blk_lt (g := gb197) (o := .cells #[.int .i64 t193, .int .i64 t194, .int .i64 t195] 23 (0, 0)) bk_) : gb202 ≠ gb197)); clear BK197; clear HB; have BK197 := n0_; have HB := n1_; have BK202 := n2_; have GW202 := n3_; have GE202 := n4_; have NB197_202 := n5_; have NB202_197 := n6_; clear n0_ n1_ n2_ n3_ n4_ n5_ n6_; clear hb hbox hg; have hnb13 := NB202_197.out; have hnc13 := NB197_202.out; obtain ⟨hcz14_0, hcz14_1, hcz14_2⟩ := zdT BK202.out; obtain ⟨hfz14_0, hfz14_1, hfz14_2⟩ := zqD BK202.out; obtain ⟨hcz15_0, hcz15_1, hcz15_2⟩ := zdT BK197.out; obtain ⟨hfz15_0, hfz15_1, hfz15_2⟩ := zqD BK197.out) | ((with_reducible refine zgK (f := 9) rfl ?_); refine zqQ (some 22) rfl rfl Tryd.func9 (by kernel_rfl) rfl #[.agg #[.int .i64 t198, .int .i64 t199, .int .i64 t200], .agg #[.int .i64 t193, .int .i64 t194, .int .i64 t195]] rfl (by (try simp only [List.map_toArray, List.map_cons, List.map_nil]); first | done | rfl | (simp only [List.length_drop, List.length_take]; rfl)) ?_; (with_reducible refine (zaT.calls t198 t199 t200 t193 t194 t195 true _ A5.out).mono ?_); rintro e w16 ⟨rfl, hb⟩; refine ⟨_, rfl, ?_⟩; have n0_ := zpS (zgM (g := gb197) (o := .cells #[.int .i64 t193, .int .i64 t194, .int .i64 t195] 23 (0, 0)) (by (with_reducible repeat (first | apply zuW | apply ztN | apply zqY)); refine znI ?_ NB197_202.out _; (with_reducible repeat (first | apply zuW | apply ztN | apply zqY)); refine znI ?_ NB197_202.out _; (with_reducible repeat (first | apply zuW | apply ztN | apply zqY)); refine znI ?_ NB197_202.out _; (with_reducible repeat (first | apply zuW | apply ztN | apply zqY)); exact BK197.out) hb); have n1_ := zpS (zgM (g := gb202) (o := .cells #[.int .i64 t198, .int .i64 t199, .int .i64 t200] 23 (0, 0)) (by (with_reducible repeat (first | apply zuW | apply ztN | apply zqY)); refine zlL (cs := #[.int .i64 t198, .int .i64 t199, .int .i64 0]) ?_ 2 _ rfl; (with_reducible repeat (first | apply zuW | apply ztN | apply zqY)); refine zlL (cs := #[.int .i64 t198, .int .i64 0, .int .i64 0]) ?_ 1 _ rfl; (with_reducible repeat (first | apply zuW | apply ztN | apply zqY)); refine zlL (cs := #[.int .i64 0, .int .i64 0, .int .i64 0]) ?_ 0 _ rfl; (with_reducible repeat (first | apply zuW | apply ztN | apply zqY)); exact BK202.out) hb); have n2_ := (ns_ hb); clear BK197; clear BK202; clear HB; have BK197 := n0_; have BK202 := n1_; have HB := n2_; clear n0_ n1_ n2_; (try clear hb); (try clear hb2)))
    go_ret
    exact ⟨by first | rfl | (simp [ziS, znJ] <;> rfl) | (simp [*, ziS, znJ] <;> rfl), bb_⟩
  ·replace c6 := Bool.eq_false_iff.mpr c6
   subst c6
   have H1 : (none) = some r := by rw [if_neg (show ¬ (false = true) by decide)] at H; exact H
   clear H
   have H := H1
   clear H1
   exact absurd H (by simp)

def laws_FnExactReadNum.Pure : Prop := ∀ (a0 : ByteArray), a0.size ≤ maxLen → ∃ k, laws_FnExactReadNum.f k a0 = some true

end Go.Proofs.YtbkcmdccomngnaaDoor.PFnExactReadNum
