-- Printed for this claim by this session's program pp.py, which drives the kit's print with additions. Not trusted: Lean checks it.
import Derived.Test.YtaickhdobnbnoaaDoorV1PFnExactLibraryNamesx0
namespace Go.Proofs.YtaickhdobnbnoaaDoor.PFnExactLibraryNames
open Go.RowKit Go.Proofs.YtaickhdobnbnoaaDoorW.PrintWords Go.Proofs.YtaickhdobnbnoaaDoorW.PrintLast Go.Proofs.YtaickhdobnbnoaaDoorW.PrintMore
attribute [local go_sem] max2_int min2_int max_two min_two max_three min_three max_four min_four   -- for this text's walks alone
set_option linter.unusedVariables false
set_option maxHeartbeats 8000000
set_option maxRecDepth 100000
set_option linter.unusedSimpArgs false

def zpW.f  : Option (List ByteArray) := some (([(⟨#[98, 108, 105, 110, 116, 122]⟩ : ByteArray), (⟨#[98, 111, 111, 107]⟩ : ByteArray), (⟨#[99, 117, 112, 98, 111, 97, 114, 100]⟩ : ByteArray), (⟨#[100, 105, 97, 103, 111, 110, 97, 108]⟩ : ByteArray), (⟨#[101, 97, 114]⟩ : ByteArray), (⟨#[102, 105, 115, 104]⟩ : ByteArray), (⟨#[107, 105, 116, 101]⟩ : ByteArray), (⟨#[109, 105, 117, 114, 97]⟩ : ByteArray), (⟨#[112, 108, 101, 97, 116]⟩ : ByteArray), (⟨#[112, 114, 101, 108, 105, 109, 105, 110, 97, 114, 121]⟩ : ByteArray), (⟨#[116, 119, 105, 115, 116]⟩ : ByteArray), (⟨#[119, 97, 116, 101, 114, 98, 111, 109, 98]⟩ : ByteArray)] : List ByteArray))
theorem zpW.calls  (r : List ByteArray) (w : World) (h : zpW.f  = some r) :
  Calls Tryd.prog 4 #[] w fun e w' => ∃ v0_ : Value, e = .returned (v0_) ∧ Kd.R Kd.string 9 w' w.heap.size (fun _ => True) v0_ r ∧ Below w.heap.size w w' := by
 have HB := zpS (Below.refl w.heap.size w)
 have H : (some (([(⟨#[98, 108, 105, 110, 116, 122]⟩ : ByteArray), (⟨#[98, 111, 111, 107]⟩ : ByteArray), (⟨#[99, 117, 112, 98, 111, 97, 114, 100]⟩ : ByteArray), (⟨#[100, 105, 97, 103, 111, 110, 97, 108]⟩ : ByteArray), (⟨#[101, 97, 114]⟩ : ByteArray), (⟨#[102, 105, 115, 104]⟩ : ByteArray), (⟨#[107, 105, 116, 101]⟩ : ByteArray), (⟨#[109, 105, 117, 114, 97]⟩ : ByteArray), (⟨#[112, 108, 101, 97, 116]⟩ : ByteArray), (⟨#[112, 114, 101, 108, 105, 109, 105, 110, 97, 114, 121]⟩ : ByteArray), (⟨#[116, 119, 105, 115, 116]⟩ : ByteArray), (⟨#[119, 97, 116, 101, 114, 98, 111, 109, 98]⟩ : ByteArray)] : List ByteArray))) = some r := h
 clear h
 obtain ⟨y101, hy101⟩ : ∃ y_ : List ByteArray, y_ = (([(⟨#[98, 108, 105, 110, 116, 122]⟩ : ByteArray), (⟨#[98, 111, 111, 107]⟩ : ByteArray), (⟨#[99, 117, 112, 98, 111, 97, 114, 100]⟩ : ByteArray), (⟨#[100, 105, 97, 103, 111, 110, 97, 108]⟩ : ByteArray), (⟨#[101, 97, 114]⟩ : ByteArray), (⟨#[102, 105, 115, 104]⟩ : ByteArray), (⟨#[107, 105, 116, 101]⟩ : ByteArray), (⟨#[109, 105, 117, 114, 97]⟩ : ByteArray), (⟨#[112, 108, 101, 97, 116]⟩ : ByteArray), (⟨#[112, 114, 101, 108, 105, 109, 105, 110, 97, 114, 121]⟩ : ByteArray), (⟨#[116, 119, 105, 115, 116]⟩ : ByteArray), (⟨#[119, 97, 116, 101, 114, 98, 111, 109, 98]⟩ : ByteArray)] : List ByteArray)) := ⟨_, rfl⟩
 replace H : (some y101) = some r := by first | (rw [hy101]; with_reducible exact H) | (have H2_ := (Option.bind_some _ _).symm.trans H; rw [hy101]; with_reducible exact H2_) | (have H2_ := (Option.bind_some _ _).symm.trans H; with_reducible exact H2_) | with_reducible exact H | (rw [hy101]; exact H) | exact H
 have Ny101 := zpS hy101
 clear hy101
 obtain rfl := Option.some.inj H
 go_enter Tryd.func4, Tryd.ntmps4
 go_wp2_with (first | ((with_reducible refine gate_dst (N := 1) rfl ?_); refine Kd.R_lit Kd.string _ 9 ?hg (N := 1) ?hd (xs := ([(⟨#[98, 108, 105, 110, 116, 122]⟩ : ByteArray), (⟨#[98, 111, 111, 107]⟩ : ByteArray), (⟨#[99, 117, 112, 98, 111, 97, 114, 100]⟩ : ByteArray), (⟨#[100, 105, 97, 103, 111, 110, 97, 108]⟩ : ByteArray), (⟨#[101, 97, 114]⟩ : ByteArray), (⟨#[102, 105, 115, 104]⟩ : ByteArray), (⟨#[107, 105, 116, 101]⟩ : ByteArray), (⟨#[109, 105, 117, 114, 97]⟩ : ByteArray), (⟨#[112, 108, 101, 97, 116]⟩ : ByteArray), (⟨#[112, 114, 101, 108, 105, 109, 105, 110, 97, 114, 121]⟩ : ByteArray), (⟨#[116, 119, 105, 115, 116]⟩ : ByteArray), (⟨#[119, 97, 116, 101, 114, 98, 111, 109, 98]⟩ : ByteArray)] : List ByteArray)) (inner := [.string (⟨#[98, 108, 105, 110, 116, 122]⟩ : ByteArray), .string (⟨#[98, 111, 111, 107]⟩ : ByteArray), .string (⟨#[99, 117, 112, 98, 111, 97, 114, 100]⟩ : ByteArray), .string (⟨#[100, 105, 97, 103, 111, 110, 97, 108]⟩ : ByteArray), .string (⟨#[101, 97, 114]⟩ : ByteArray), .string (⟨#[102, 105, 115, 104]⟩ : ByteArray), .string (⟨#[107, 105, 116, 101]⟩ : ByteArray), .string (⟨#[109, 105, 117, 114, 97]⟩ : ByteArray), .string (⟨#[112, 108, 101, 97, 116]⟩ : ByteArray), .string (⟨#[112, 114, 101, 108, 105, 109, 105, 110, 97, 114, 121]⟩ : ByteArray), .string (⟨#[116, 119, 105, 115, 116]⟩ : ByteArray), .string (⟨#[119, 97, 116, 101, 114, 98, 111, 109, 98]⟩ : ByteArray)]) (ok := fun _ => True) (okp := fun _ => True) ?hr ?hp (fun _ hk => hk) trivial (Below.refl _ _) (Nat.le_refl _) (by simp) ?_; (case hd => rfl); (case hg => rfl); (case hr => first | (go_simp; done) | (go_simp; rfl)); (case hp => exact (zfH.one (show Kd.M Kd.string _ _ _ (⟨#[98, 108, 105, 110, 116, 122]⟩ : ByteArray) [.string (⟨#[98, 108, 105, 110, 116, 122]⟩ : ByteArray)] from rfl) (zfH.one (show Kd.M Kd.string _ _ _ (⟨#[98, 111, 111, 107]⟩ : ByteArray) [.string (⟨#[98, 111, 111, 107]⟩ : ByteArray)] from rfl) (zfH.one (show Kd.M Kd.string _ _ _ (⟨#[99, 117, 112, 98, 111, 97, 114, 100]⟩ : ByteArray) [.string (⟨#[99, 117, 112, 98, 111, 97, 114, 100]⟩ : ByteArray)] from rfl) (zfH.one (show Kd.M Kd.string _ _ _ (⟨#[100, 105, 97, 103, 111, 110, 97, 108]⟩ : ByteArray) [.string (⟨#[100, 105, 97, 103, 111, 110, 97, 108]⟩ : ByteArray)] from rfl) (zfH.one (show Kd.M Kd.string _ _ _ (⟨#[101, 97, 114]⟩ : ByteArray) [.string (⟨#[101, 97, 114]⟩ : ByteArray)] from rfl) (zfH.one (show Kd.M Kd.string _ _ _ (⟨#[102, 105, 115, 104]⟩ : ByteArray) [.string (⟨#[102, 105, 115, 104]⟩ : ByteArray)] from rfl) (zfH.one (show Kd.M Kd.string _ _ _ (⟨#[107, 105, 116, 101]⟩ : ByteArray) [.string (⟨#[107, 105, 116, 101]⟩ : ByteArray)] from rfl) (zfH.one (show Kd.M Kd.string _ _ _ (⟨#[109, 105, 117, 114, 97]⟩ : ByteArray) [.string (⟨#[109, 105, 117, 114, 97]⟩ : ByteArray)] from rfl) (zfH.one (show Kd.M Kd.string _ _ _ (⟨#[112, 108, 101, 97, 116]⟩ : ByteArray) [.string (⟨#[112, 108, 101, 97, 116]⟩ : ByteArray)] from rfl) (zfH.one (show Kd.M Kd.string _ _ _ (⟨#[112, 114, 101, 108, 105, 109, 105, 110, 97, 114, 121]⟩ : ByteArray) [.string (⟨#[112, 114, 101, 108, 105, 109, 105, 110, 97, 114, 121]⟩ : ByteArray)] from rfl) (zfH.one (show Kd.M Kd.string _ _ _ (⟨#[116, 119, 105, 115, 116]⟩ : ByteArray) [.string (⟨#[116, 119, 105, 115, 116]⟩ : ByteArray)] from rfl) (zfH.one (show Kd.M Kd.string _ _ _ (⟨#[119, 97, 116, 101, 114, 98, 111, 109, 98]⟩ : ByteArray) [.string (⟨#[119, 97, 116, 101, 114, 98, 111, 109, 98]⟩ : ByteArray)] from rfl) (zfH.none _ _)))))))))))))); intro v102 w1 ho2 hb hg_ hnew_; clear hg_ hnew_; (first | rw [← Ny101.out] at ho2 | (simp only [Int.reduceToNat] at ho2; rw [← Ny101.out] at ho2)); have n0_ := zpS (Kd.R_lower ho2 (below_size bb_)); have n1_ := (ns_ hb); clear HB; have HO103 := n0_; have HB := n1_; clear n0_ n1_; clear hb ho2))
 go_ret
 exact ⟨_, by first | rfl | (simp [ziS, znJ] <;> rfl) | (simp [*, ziS, znJ] <;> rfl), by (with_reducible repeat (first | apply Kd.R_alloc | apply Kd.R_drewN | apply Kd.R_drew)); exact HO103.out, bb_⟩

def LaidV0 (w : World) : Prop := ∃ m : Int, w.cell? ⟨0, 0, none⟩ = some (.int .i64 m)
theorem LaidV0.below {w w' : World} (h : LaidV0 w) (hB : Below w.heap.size w w') : LaidV0 w' := by
 obtain ⟨m, hm⟩ := h
 exact ⟨m, (hB.cell (World.block_lt_of_cell? w _ hm)).trans hm⟩
structure LaidV (w : World) : Prop where
 v0 : LaidV0 w
theorem LaidV.below {w w' : World} (h : LaidV w) (hB : Below w.heap.size w w') : LaidV w' := ⟨LaidV0.below h.v0 hB⟩

def zlN : List ByteArray := [⟨#[98, 108, 105, 110, 116, 122]⟩, ⟨#[98, 111, 111, 107]⟩, ⟨#[99, 117, 112, 98, 111, 97, 114, 100]⟩, ⟨#[100, 105, 97, 103, 111, 110, 97, 108]⟩, ⟨#[101, 97, 114]⟩, ⟨#[102, 105, 115, 104]⟩, ⟨#[107, 105, 116, 101]⟩, ⟨#[109, 105, 117, 114, 97]⟩, ⟨#[112, 108, 101, 97, 116]⟩, ⟨#[112, 114, 101, 108, 105, 109, 105, 110, 97, 114, 121]⟩, ⟨#[116, 119, 105, 115, 116]⟩, ⟨#[119, 97, 116, 101, 114, 98, 111, 109, 98]⟩]
theorem impl_LibraryNames_split (s : ByteArray) (w W : World) (hs : s.size < 4294967281) (hG : LaidV w) (hB : Below w.heap.size w W) : Calls Tryd.prog 11 #[.string s] W fun e w' => ∃ A n c, e = .returned (.slice A n c) ∧ Below w.heap.size w w' := by
 obtain ⟨m, hm⟩ := (LaidV.below hG hB).v0
 have HB := zpS hB
 have HM := zpS hm
 clear hB hm hG
 go_enter Tryd.func11, Tryd.ntmps11
 go_wp2_with (go_at_call 12; (refine (Tryd.strings_Split s ⟨#[59]⟩ m W hs HM.out (by decide)).mono ?_); rintro e w' ⟨rfl, hw⟩; have n0_ := zpS (show Below w.heap.size w w' from by rw [hw]; exact znU HB.out _); clear hw HB; have HB := n0_; clear n0_; generalize Lib.countB s ⟨#[59]⟩ + 1 = q)
 go_ret
 exact ⟨_, _, _, rfl, HB.out⟩
def impl_LibraryNames_Cells (cs : Array Value) : Prop := ∀ i, i < 12 → ∃ x A n c, cs[3 * i]? = some (.string (zlN.getD i ByteArray.empty)) ∧ cs[3 * i + 1]? = some (.int .i64 x) ∧ cs[3 * i + 2]? = some (.slice A n c)
set_option maxHeartbeats 16000000 in
theorem impl_LibraryNames_library (w W : World) (hG : LaidV w) (hB : Below w.heap.size w W) : Calls Tryd.prog 9 #[] W fun e w' => ∃ b cs, e = .returned (.slice (some ⟨b, 0, none⟩) 12 12) ∧ w'.heap[b]? = some (.cells cs 30 (0, 0)) ∧ impl_LibraryNames_Cells cs ∧ Below w.heap.size w w' := by
 have HB := zpS hB
 clear hB
 go_enter Tryd.func9, Tryd.ntmps9
 go_wp2_with (first | (go_at_call 11; (with_reducible refine (impl_LibraryNames_split _ w _ (of_decide_eq_true (by kernel_rfl)) hG HB.out).mono ?_); rintro e w' ⟨A, n, c, rfl, hb⟩; have n0_ := zpS hb; clear HB hb; have HB := n0_; clear n0_))
 go_ret
 refine ⟨_, _, rfl, Array.getElem?_push_size, ?_, znU HB.out _⟩
 intro i hi
 have : i = 0 ∨ i = 1 ∨ i = 2 ∨ i = 3 ∨ i = 4 ∨ i = 5 ∨ i = 6 ∨ i = 7 ∨ i = 8 ∨ i = 9 ∨ i = 10 ∨ i = 11 := by omega
 rcases this with rfl | rfl | rfl | rfl | rfl | rfl | rfl | rfl | rfl | rfl | rfl | rfl <;> exact ⟨_, _, _, _, rfl, rfl, rfl⟩
theorem impl_LibraryNames_take (i : Nat) (h : i < 12) : zlN.take (i + 1) = zlN.take i ++ [zlN.getD i ByteArray.empty] := by
 have : i = 0 ∨ i = 1 ∨ i = 2 ∨ i = 3 ∨ i = 4 ∨ i = 5 ∨ i = 6 ∨ i = 7 ∨ i = 8 ∨ i = 9 ∨ i = 10 ∨ i = 11 := by omega
 rcases this with rfl | rfl | rfl | rfl | rfl | rfl | rfl | rfl | rfl | rfl | rfl | rfl <;> rfl
def zuD.f : Option (List ByteArray) := some zlN
theorem zuD.calls (r : List ByteArray) (w : World) (hG : LaidV w) (h : zuD.f = some r) :
  Calls Tryd.prog 5 #[] w fun e w' => ∃ v0_ : Value, e = .returned v0_ ∧ Kd.R Kd.string 9 w' w.heap.size (fun _ => True) v0_ r ∧ Below w.heap.size w w' := by
 obtain rfl := Option.some.inj h
 clear h
 go_enter Tryd.func5, Tryd.ntmps5
 go_wp2_with (first | (go_at_call 9; (with_reducible refine (impl_LibraryNames_library w _ hG (Below.refl _ _)).mono ?_); rintro e w1 ⟨b, cs, rfl, hb, hcs, hB⟩; have HB1 := zpS hB; have BK1 := zpS hb; have CS := zpS hcs; clear hB hb hcs))
 go_loopg [1, 6] 12 (fun kq v1 v6 w' => ∃ i : Nat, v6 = .int .i64 i ∧ Aside0 (kq + i = 12) ∧ Aside0 (Kd.R Kd.string 9 w' w1.heap.size (fun _ => True) v1 (zlN.take i)) ∧ Aside0 (Below w1.heap.size w1 w'))
 case atStart => exact ⟨0, rfl, ⟨rfl⟩, ⟨Kd.R_nil _ _ _ _ _⟩, ⟨Below.refl _ _⟩⟩
 case round =>
  obtain ⟨i, rfl, HK, HO, HB⟩ := hrel
  have BK := zpS ((HB.out.block b (blk_lt BK1.out)).trans BK1.out)
  have hk0 := HK.out
  by_cases hi : i < 12
  ·obtain ⟨x, A, n, c, e0, e1, e2⟩ := CS.out i hi
   have hx0 : wr.cell? ⟨b, i * 3, none⟩ = some (.string (zlN.getD i ByteArray.empty)) := (blk_cell BK.out (i * 3)).trans (by rw [Nat.mul_comm]; exact e0)
   have hx1 : wr.cell? ⟨b, i * 3 + 1, none⟩ = some (.int .i64 x) := (blk_cell BK.out (i * 3 + 1)).trans (by rw [Nat.mul_comm]; exact e1)
   have hx2 : wr.cell? ⟨b, i * 3 + 2, none⟩ = some (.slice A n c) := (blk_cell BK.out (i * 3 + 2)).trans (by rw [Nat.mul_comm]; exact e2)
   have HT := zpS (impl_LibraryNames_take i hi)
   have hlen : (zlN.take i).length ≤ 12 := by rw [List.length_take]; exact Nat.min_le_right _ _
   have HLN := zpS hlen
   obtain ⟨nm, hnm⟩ : ∃ nm, nm = zlN.getD i ByteArray.empty := ⟨_, rfl⟩
   obtain ⟨pre, hpre⟩ : ∃ pre, pre = zlN.take i := ⟨_, rfl⟩
   rw [← hnm, ← hpre] at HT
   rw [← hnm] at hx0
   rw [← hpre] at HO HLN
   clear e0 e1 e2 hnm hpre hlen BK
   obtain ⟨Av, cv, rfl⟩ := Kd.R_slice HO.out
   have c1 : decide ((i : Int) < 12) = true := decide_eq_true (by omega)
   have c2 : decide (0 ≤ (i : Int)) = true := decide_eq_true (by omega)
   go_wp2_with (first | ((with_reducible refine gate_builtin (b := .append) (xs := #[.tmp 10, .tmp 13]) rfl ?_); at_builtin; refine Kd.R_append Kd.string (w0 := w1) w1.heap.size rfl (.tmp 10) (.tmp 13) 22 9 (.string ByteArray.empty) 16 rfl Tryd.underlying22 info9 rfl (by decide) (by omega) (.slice Av pre.length cv) pre nm [.string nm] (fun _ => True) (fun _ => False) rfl (congrArg (fun q => Value.slice (some ⟨q, 0, none⟩) 1 1) (Array.size_push ..).symm) ?aP (fun _ hk => hk.elim) ?aF ?aO ?aB ?aS ?aL ?_; (case aP => exact rfl); (case aF => exact (fun _ _ => trivial)); (case aO => exact (by (with_reducible repeat (first | apply Kd.R_alloc | apply Kd.R_drewN | apply Kd.R_drew)); exact HO.out)); (case aB => exact bb_); (case aS => exact (below_size bb_)); (case aL => have := HLN.out; omega); intro v2 w2 ho hb2 hgr hat; rw [← HT.out] at ho; have n0_ := zpS ho; have n1_ := zpS hb2; clear HO HB ho hb2 hgr hat; have HO := n0_; have HB := n1_; clear n0_ n1_))
   go_roundg (12 - (i + 1))
   case measure => have := HK.out; omega
   case rel => exact ⟨i + 1, congrArg (Value.int .i64) (Int.natCast_succ i).symm, ⟨by have := HK.out; omega⟩, HO, HB⟩
  ·obtain rfl : i = 12 := by omega
   have c1 : decide ((12 : Int) < 12) = false := rfl
   go_wp2
   go_ret
   exact ⟨_, rfl, Kd.R_lower HO.out HB1.out.size, below_step HB1.out HB.out⟩

def zaI.l0 : Nat → List ByteArray → List ByteArray → Int → Option (Bool)
 | 0, _, _, _ => none
 | k + 1, x0, x1, x5 => if x5 < (x0.length : Int) then (if 0 ≤ x5 then (if x5 < (x1.length : Int) then (if (rdOf ByteArray.empty x0 x5).toList = (rdOf ByteArray.empty x1 x5).toList then (zaI.l0 k x0 x1 (wrap64 (x5 + 1))) else (some false)) else (none)) else (none)) else (some true)
def zaI.f (k : Nat) (l0 : List ByteArray) (l1 : List ByteArray) : Option (Bool) := if (l0.length : Int) = (l1.length : Int) then (zaI.l0 k l0 l1 0) else (some false)
theorem zaI.mono_l : ∀ k, (∀ y0 y1 y2, LeO (zaI.l0 k y0 y1 y2) (zaI.l0 (k + 1) y0 y1 y2))
 | 0 => fun _ _ _ r h => by simp [zaI.l0] at h
 | k + 1 => by
  have ih0 := zaI.mono_l k
  ·intro y0 y1 y2
   unfold zaI.l0
   repeat' first
   | (with_reducible exact ih0 _ _ _)
   | (with_reducible exact LeO.refl _)
   | (with_reducible exact LeO.none _)
   | (with_reducible refine LeO.ite ?_ ?_)
   | (with_reducible refine LeO.bind ?_ (fun _ => ?_))
   | exact ih0 _ _ _
   | exact LeO.none _
   | refine LeO.ite ?_ ?_
   | refine LeO.bind ?_ (fun _ => ?_)
theorem zaI.mono : ∀ a0 a1 k, LeO (zaI.f k a0 a1) (zaI.f (k + 1) a0 a1) := by
 intro a0 a1 k
 have ih0 := zaI.mono_l k
 unfold zaI.f
 repeat' first
   | (with_reducible exact ih0 _ _ _)
   | (with_reducible exact LeO.refl _)
   | (with_reducible exact LeO.none _)
   | (with_reducible refine LeO.ite ?_ ?_)
   | (with_reducible refine LeO.bind ?_ (fun _ => ?_))
   | exact ih0 _ _ _
   | exact LeO.none _
   | refine LeO.ite ?_ ?_
   | refine LeO.bind ?_ (fun _ => ?_)
theorem zaI.calls (k : Nat) (A0 : Option Addr) (c0 : Nat) (l0 : List ByteArray) (A1 : Option Addr) (c1 : Nat) (l1 : List ByteArray) (r : Bool) (w : World) (hr0 : Kd.C Kd.string w A0 l0.length l0) (hc0 : l0.length ≤ c0) (hr1 : Kd.C Kd.string w A1 l1.length l1) (hc1 : l1.length ≤ c1) (h : zaI.f k l0 l1 = some r) :
  Calls Tryd.prog 6 #[.slice A0 l0.length c0, .slice A1 l1.length c1] w fun e w' => e = .returned (.bool r) ∧ Drawn0 w w' := by
 have HR0 := zpS hr0
 have HC0 := zpS hc0
 clear hr0 hc0
 have HR1 := zpS hr1
 have HC1 := zpS hc1
 clear hr1 hc1
 have H : (if (l0.length : Int) = (l1.length : Int) then (zaI.l0 k l0 l1 0) else (some false)) = some r := h
 clear h
 by_cases c3 : (l0.length : Int) = (l1.length : Int)
 ·rw [if_pos c3] at H
  have c3b0 : ((l0.length : Int) == (l1.length : Int)) = true := beq_iff_eq.mpr c3
  have c3b1 : ((l0.length : Int) != (l1.length : Int)) = false := bne_eq_false_iff_eq.mpr c3
  have c3b2 : (l0.length == l1.length) = true := by first | simpa using c3 | (simp at c3 ⊢; omega)
  clear c3
  have H' := zpS H
  clear H
  go_enter Tryd.func6, Tryd.ntmps6
  go_wp2
  repeat (go_quiet (fail); try go_wp2)
  (try go_simp)
  go_loopg [5] k (fun kq v5 w' => ∃ (x5_1 : Int), v5 = .int .i64 x5_1 ∧ Aside0 (zaI.l0 kq l0 l1 x5_1 = some r) ∧ Aside0 (kq ≤ k) ∧ Drawn0 w w')
  case atStart => exact ⟨(0), (by first | rfl | (simp; done) | (simp [*]; done)), H', ⟨Nat.le_refl _⟩, by repeat (first | exact Drawn0.refl _ | apply Drawn0.step)⟩
  case round =>
   clear H'
   try clear c1
   try clear p2
   try clear c3
   try clear c3b0
   try clear c3b1
   try clear c3b2
   obtain ⟨x5_1, rfl, HA, HK1, ⟨m1, rfl⟩⟩ := hrel
   cases gk with
   | zero => exact absurd HA.out (by simp [zaI.l0])
   | succ k1 =>
    have H := HA.out
    clear HA
    simp only [zaI.l0] at H
    by_cases c4 : x5_1 < (l0.length : Int)
    ·rw [if_pos c4] at H
     have c4b0 : decide (x5_1 < (l0.length : Int)) = true := decide_eq_true c4
     clear c4
     by_cases c5 : 0 ≤ x5_1
     ·rw [if_pos c5] at H
      have c5b0 : decide (0 ≤ x5_1) = true := decide_eq_true c5
      clear c5
      by_cases c6 : x5_1 < (l1.length : Int)
      ·rw [if_pos c6] at H
       have c6b0 : decide (x5_1 < (l1.length : Int)) = true := decide_eq_true c6
       clear c6
       by_cases c7 : (rdOf ByteArray.empty l0 x5_1).toList = (rdOf ByteArray.empty l1 x5_1).toList
       ·rw [if_pos c7] at H
        have c7b0 : ((rdOf ByteArray.empty l0 x5_1).toList == (rdOf ByteArray.empty l1 x5_1).toList) = true := beq_iff_eq.mpr c7
        have c7b1 : ((rdOf ByteArray.empty l0 x5_1).toList != (rdOf ByteArray.empty l1 x5_1).toList) = false := bne_eq_false_iff_eq.mpr c7
        clear c7
        have H' := zpS H
        clear H
        have p104 : 0 ≤ (x5_1 : Int) := dt_
        have q104 : x5_1 < (l0.length : Int) := dt_
        obtain ⟨ad104, e104, hx104_0⟩ := Kd.at_string HR0.out x5_1 p104 q104
        cases e104
        replace p104 := eq_true p104
        replace q104 := eq_true q104
        have p105 : 0 ≤ (x5_1 : Int) := dt_
        have q105 : x5_1 < (l1.length : Int) := dt_
        obtain ⟨ad105, e105, hx105_0⟩ := Kd.at_string HR1.out x5_1 p105 q105
        cases e105
        replace p105 := eq_true p105
        replace q105 := eq_true q105
        go_wp2
        repeat (go_quiet (fail); try go_wp2)
        go_roundg k1
        case measure => have := HK1.out; omega
        case rel => exact ⟨(wrap64 (x5_1 + 1)), (by first | rfl | (simp; done) | (simp [*]; done)), H', ⟨by have := HK1.out; omega⟩, by repeat (first | exact Drawn0.refl _ | apply Drawn0.step)⟩
       ·rw [if_neg c7] at H
        have c7b0 : ((rdOf ByteArray.empty l0 x5_1).toList == (rdOf ByteArray.empty l1 x5_1).toList) = false := beq_eq_false_iff_ne.mpr c7
        have c7b1 : ((rdOf ByteArray.empty l0 x5_1).toList != (rdOf ByteArray.empty l1 x5_1).toList) = true := bne_iff_ne.mpr c7
        obtain rfl := Option.some.inj H
        have p104 : 0 ≤ (x5_1 : Int) := dt_
        have q104 : x5_1 < (l0.length : Int) := dt_
        obtain ⟨ad104, e104, hx104_0⟩ := Kd.at_string HR0.out x5_1 p104 q104
        cases e104
        replace p104 := eq_true p104
        replace q104 := eq_true q104
        have p105 : 0 ≤ (x5_1 : Int) := dt_
        have q105 : x5_1 < (l1.length : Int) := dt_
        obtain ⟨ad105, e105, hx105_0⟩ := Kd.at_string HR1.out x5_1 p105 q105
        cases e105
        replace p105 := eq_true p105
        replace q105 := eq_true q105
        go_wp2
        repeat (go_quiet (fail); try go_wp2)
        go_ret
        exact ⟨by first | rfl | (simp; done) | (simp [*]; done), by repeat (first | exact Drawn0.refl _ | apply Drawn0.step)⟩
      ·rw [if_neg c6] at H
       exact absurd H (by simp)
     ·rw [if_neg c5] at H
      exact absurd H (by simp)
    ·rw [if_neg c4] at H
     have c4b0 : decide (x5_1 < (l0.length : Int)) = false := decide_eq_false c4
     clear c4
     obtain rfl := Option.some.inj H
     go_wp2
     repeat (go_quiet (fail); try go_wp2)
     go_ret
     exact ⟨by first | rfl | (simp; done) | (simp [*]; done), by repeat (first | exact Drawn0.refl _ | apply Drawn0.step)⟩
 ·rw [if_neg c3] at H
  have c3b0 : ((l0.length : Int) == (l1.length : Int)) = false := beq_eq_false_iff_ne.mpr c3
  have c3b1 : ((l0.length : Int) != (l1.length : Int)) = true := bne_iff_ne.mpr c3
  have c3b2 : (l0.length == l1.length) = false := by first | simpa using c3 | (simp at c3 ⊢; omega)
  obtain rfl := Option.some.inj H
  go_enter Tryd.func6, Tryd.ntmps6
  go_wp2
  repeat (go_quiet (fail); try go_wp2)
  go_ret
  exact ⟨by first | rfl | (simp; done) | (simp [*]; done), by repeat (first | exact Drawn0.refl _ | apply Drawn0.step)⟩

def zwO.l0 : Nat → Int → ByteArray → Option (ByteArray)
 | 0, _, _ => none
 | k + 1, x0, x3 => if x0 > 0 then ((some (([(wrap64 (48 + (Int.tmod x0 10))) % 256] : List Int) : List Int)).bind fun y106 => (if (strOfNums y106).size + x3.size ≤ 9223372036854775807 then (zwO.l0 k (wrap64 (Int.tdiv x0 10)) ((strOfNums y106) ++ x3)) else (none))) else (if 1 + x3.size ≤ 9223372036854775807 then (some ((⟨#[109]⟩ : ByteArray) ++ x3)) else (none))
def zwO.f (k : Nat) (a0 : Int) : Option (ByteArray) := if a0 ≤ 0 then (some (⟨#[109, 48]⟩ : ByteArray)) else (zwO.l0 k a0 (⟨#[]⟩ : ByteArray))
theorem zwO.mono_l : ∀ k, (∀ y0 y1, LeO (zwO.l0 k y0 y1) (zwO.l0 (k + 1) y0 y1))
 | 0 => fun _ _ r h => by simp [zwO.l0] at h
 | k + 1 => by
  have ih0 := zwO.mono_l k
  ·intro y0 y1
   unfold zwO.l0
   repeat' first
   | (with_reducible exact ih0 _ _)
   | (with_reducible exact LeO.refl _)
   | (with_reducible exact LeO.none _)
   | (with_reducible refine LeO.ite ?_ ?_)
   | (with_reducible refine LeO.bind ?_ (fun _ => ?_))
   | exact ih0 _ _
   | exact LeO.none _
   | refine LeO.ite ?_ ?_
   | refine LeO.bind ?_ (fun _ => ?_)
theorem zwO.mono : ∀ a0 k, LeO (zwO.f k a0) (zwO.f (k + 1) a0) := by
 intro a0 k
 have ih0 := zwO.mono_l k
 unfold zwO.f
 repeat' first
   | (with_reducible exact ih0 _ _)
   | (with_reducible exact LeO.refl _)
   | (with_reducible exact LeO.none _)
   | (with_reducible refine LeO.ite ?_ ?_)
   | (with_reducible refine LeO.bind ?_ (fun _ => ?_))
   | exact ih0 _ _
   | exact LeO.none _
   | refine LeO.ite ?_ ?_
   | refine LeO.bind ?_ (fun _ => ?_)
theorem zwO.calls (k : Nat) (a0 : Int) (r : ByteArray) (w : World) (h : zwO.f k a0 = some r) :
  Calls Tryd.prog 10 #[.int .i64 a0] w fun e w' => e = .returned (.string r) ∧ Below w.heap.size w w' := by
 have HB := zpS (Below.refl w.heap.size w)
 have H : (if a0 ≤ 0 then (some (⟨#[109, 48]⟩ : ByteArray)) else (zwO.l0 k a0 (⟨#[]⟩ : ByteArray))) = some r := h
 clear h
 by_cases c2 : a0 ≤ 0
 ·rw [if_pos c2] at H
  have c2b0 : decide (a0 ≤ 0) = true := decide_eq_true c2
  clear c2
  obtain rfl := Option.some.inj H
  go_enter Tryd.func10, Tryd.ntmps10
  go_wp2
  go_ret
  exact ⟨by first | rfl | (simp [ziS, znJ] <;> rfl) | (simp [*, ziS, znJ] <;> rfl), bb_⟩
 ·rw [if_neg c2] at H
  have c2b0 : decide (a0 ≤ 0) = false := decide_eq_false c2
  clear c2
  have H' := zpS H
  clear H
  go_enter Tryd.func10, Tryd.ntmps10
  go_wp2
  (try go_simp)
  go_loopg [0, 3] k (fun kq v0 v3 w' => ∃ (x0_1 : Int) (x3_1 : ByteArray), v0 = .int .i64 x0_1 ∧ v3 = .string x3_1 ∧ Aside0 (zwO.l0 kq x0_1 x3_1 = some r) ∧ Aside0 (kq ≤ k) ∧ Aside0 (Below w.heap.size w w'))
  case atStart => exact ⟨(a0), ((⟨#[]⟩ : ByteArray)), (by first | rfl | (simp; done) | (simp [*]; done)), (by first | rfl | (simp; done) | (simp [*]; done)), H', ⟨Nat.le_refl _⟩, ⟨bb_⟩⟩
  case round =>
   clear H'
   try clear c1
   try clear c2
   try clear c2b0
   try clear p2
   obtain ⟨x0_1, x3_1, rfl, rfl, HA, HK1, HB⟩ := hrel
   cases gk with
   | zero => exact absurd HA.out (by simp [zwO.l0])
   | succ k1 =>
    have H := HA.out
    clear HA
    simp only [zwO.l0] at H
    by_cases c3 : x0_1 > 0
    ·rw [if_pos c3] at H
     have c3b0 : decide (0 < x0_1) = true := decide_eq_true c3
     clear c3
     obtain ⟨y106, hy106⟩ : ∃ y_ : List Int, y_ = (([(wrap64 (48 + (Int.tmod x0_1 10))) % 256] : List Int)) := ⟨_, rfl⟩
     replace H : (if (strOfNums y106).size + x3_1.size ≤ 9223372036854775807 then (zwO.l0 k1 (wrap64 (Int.tdiv x0_1 10)) ((strOfNums y106) ++ x3_1)) else (none)) = some r := by first | (rw [hy106]; with_reducible exact H) | (have H2_ := (Option.bind_some _ _).symm.trans H; rw [hy106]; with_reducible exact H2_) | (have H2_ := (Option.bind_some _ _).symm.trans H; with_reducible exact H2_) | with_reducible exact H | (rw [hy106]; exact H) | exact H
     have Ny106 := zpS hy106
     clear hy106
     by_cases c4 : (strOfNums y106).size + x3_1.size ≤ 9223372036854775807
     ·rw [if_pos c4] at H
      have c4b0 := eq_true c4
      have c4b1 : decide ((strOfNums y106).size + x3_1.size ≤ 9223372036854775807) = true := decide_eq_true c4
      try have c4b2 : (9223372036854775807 < (strOfNums y106).size + x3_1.size) = False := eq_false (Nat.not_lt.2 c4)
      have H' := zpS H
      clear H
      go_wp2_with (first | ((with_reducible refine gate_dst (N := 12) rfl ?_); refine Kd.R_lit (Kd.int .u8) _ 5 ?hg (N := 12) ?hd (xs := ([(wrap64 (48 + (Int.tmod x0_1 10))) % 256] : List Int)) (inner := [.int .u8 ((wrap64 (48 + (Int.tmod x0_1 10))) % 256)]) (ok := fun _ => True) (okp := fun _ => True) ?hr ?hp (fun _ hk => hk) trivial (Below.refl _ _) (Nat.le_refl _) (by simp) ?_; (case hd => rfl); (case hg => rfl); (case hr => first | (go_simp; done) | (go_simp; rfl)); (case hp => exact (zfH.one (show Kd.M (Kd.int .u8) _ _ _ ((wrap64 (48 + (Int.tmod x0_1 10))) % 256) [.int .u8 ((wrap64 (48 + (Int.tmod x0_1 10))) % 256)] from rfl) (zfH.none _ _))); intro v107 w5 ho6 hb hg_ hnew_; clear hg_ hnew_; (first | rw [← Ny106.out] at ho6 | (simp only [Int.reduceToNat] at ho6; rw [← Ny106.out] at ho6)); have n0_ := zpS (Kd.R_lower ho6 (below_size bb_)); have n1_ := (ns_ hb); clear HB; have HO108 := n0_; have HB := n1_; clear n0_ n1_; clear hb ho6; have hcv7 := own_string (P := Tryd.prog) Tryd.underlying34 Tryd.underlying5 Tryd.underlying9 (Kd.own_of_R HO108.out)))
      go_roundg k1
      case measure => have := HK1.out; omega
      case rel => exact ⟨(wrap64 (Int.tdiv x0_1 10)), ((strOfNums y106) ++ x3_1), (by first | rfl | (simp; done) | (simp [*]; done)), (by first | rfl | (simp; done) | (simp [*]; done)), H', ⟨by have := HK1.out; omega⟩, ⟨bb_⟩⟩
     ·rw [if_neg c4] at H
      exact absurd H (by simp)
    ·rw [if_neg c3] at H
     have c3b0 : decide (0 < x0_1) = false := decide_eq_false c3
     clear c3
     by_cases c8 : 1 + x3_1.size ≤ 9223372036854775807
     ·rw [if_pos c8] at H
      have c8b0 := eq_true c8
      have c8b1 : decide (1 + x3_1.size ≤ 9223372036854775807) = true := decide_eq_true c8
      try have c8b2 : (9223372036854775807 < 1 + x3_1.size) = False := eq_false (Nat.not_lt.2 c8)
      obtain rfl := Option.some.inj H
      go_wp2
      go_ret
      exact ⟨by first | rfl | (simp [ziS, znJ] <;> rfl) | (simp [*, ziS, znJ] <;> rfl), bb_⟩
     ·rw [if_neg c8] at H
      exact absurd H (by simp)

def zgO.l0 : Nat → List ByteArray → Int → Int → Option (Int × List ByteArray)
 | 0, _, _, _ => none
 | k + 1, x0, x1, x5 => if x5 < (x0.length : Int) then ((zwO.f k x1).bind fun t109 => (if 0 ≤ x5 then (zgO.l0 k (x0.set (x5 : Int).toNat t109) (wrap64 (x1 + 1)) (wrap64 (x5 + 1))) else (none))) else (some (x1, x0))
def zgO.f (k : Nat) (l0 : List ByteArray) (a1 : Int) : Option (Int × List ByteArray) := zgO.l0 k l0 a1 0
theorem zgO.mono_l : ∀ k, (∀ y0 y1 y2, LeO (zgO.l0 k y0 y1 y2) (zgO.l0 (k + 1) y0 y1 y2))
 | 0 => fun _ _ _ r h => by simp [zgO.l0] at h
 | k + 1 => by
  have ih0 := zgO.mono_l k
  ·intro y0 y1 y2
   unfold zgO.l0
   repeat' first
   | (with_reducible exact ih0 _ _ _)
   | (with_reducible exact zwO.mono _ _)
   | (with_reducible exact LeO.refl _)
   | (with_reducible exact LeO.none _)
   | (with_reducible refine LeO.ite ?_ ?_)
   | (with_reducible refine LeO.bind ?_ (fun _ => ?_))
   | exact ih0 _ _ _
   | exact zwO.mono _ _
   | exact LeO.none _
   | refine LeO.ite ?_ ?_
   | refine LeO.bind ?_ (fun _ => ?_)
theorem zgO.mono : ∀ a0 a1 k, LeO (zgO.f k a0 a1) (zgO.f (k + 1) a0 a1) := by
 intro a0 a1 k
 have ih0 := zgO.mono_l k
 unfold zgO.f
 repeat' first
   | (with_reducible exact ih0 _ _ _)
   | (with_reducible exact zwO.mono _ _)
   | (with_reducible exact LeO.refl _)
   | (with_reducible exact LeO.none _)
   | (with_reducible refine LeO.ite ?_ ?_)
   | (with_reducible refine LeO.bind ?_ (fun _ => ?_))
   | exact ih0 _ _ _
   | exact zwO.mono _ _
   | exact LeO.none _
   | refine LeO.ite ?_ ?_
   | refine LeO.bind ?_ (fun _ => ?_)
theorem zgO.calls (k : Nat) (P0_ : Nat → Prop) (u9000_ : Value) (l0 : List ByteArray) (a1 : Int) (r1 : Int) (r2 : List ByteArray) (w0 w : World) (hB : Below w0.heap.size w0 w) (ho0 : Kd.R Kd.string 9 w w0.heap.size P0_ u9000_ l0) (h : zgO.f k l0 a1 = some (r1, r2)) :
  Calls Tryd.prog 7 #[u9000_, .int .i64 a1] w fun e w' => e = .returned (.int .i64 r1) ∧ Kd.R Kd.string 9 w' w0.heap.size (fun k_ => (P0_ k_ ∨ w.heap.size ≤ k_)) u9000_ r2 ∧ Below w0.heap.size w0 w' ∧ Kept w w' (fun k_ => P0_ k_) := by
 have HO0 := zpS (show Kd.R Kd.string 9 w w0.heap.size (fun k_ => (P0_ k_ ∨ w.heap.size ≤ k_)) u9000_ l0 from Kd.R_mono ho0 (fun k_ hk => (.inl hk)))
 have HK := zpS (Kept.refl w (fun k_ => P0_ k_))
 have HW0 := zpS hB.size
 have HB := zpS hB
 clear hB
 have H : (zgO.l0 k l0 a1 0) = some (r1, r2) := h
 clear h
 have H' := zpS H
 clear H
 go_enter Tryd.func7, Tryd.ntmps7
 go_wp2
 (try go_simp)
 go_loopg [1, 5] k (fun kq v1 v5 w' => ∃ (x0_1 : List ByteArray) (x1_1 : Int) (x5_1 : Int), v1 = .int .i64 x1_1 ∧ v5 = .int .i64 x5_1 ∧ Aside0 (zgO.l0 kq x0_1 x1_1 x5_1 = some (r1, r2)) ∧ Aside0 (kq ≤ k) ∧ Aside0 (Kd.R Kd.string 9 w' w0.heap.size (fun k_ => (P0_ k_ ∨ w.heap.size ≤ k_)) u9000_ x0_1) ∧ Aside0 (Kept w w' (fun k_ => P0_ k_)) ∧ Aside0 (Below w0.heap.size w0 w'))
 case atStart => exact ⟨(l0), (a1), (0), (by first | rfl | (simp; done) | (simp [*]; done)), (by first | rfl | (simp; done) | (simp [*]; done)), H', ⟨Nat.le_refl _⟩, ⟨by (with_reducible repeat (first | apply Kd.R_alloc | apply Kd.R_drewN | apply Kd.R_drew)); exact HO0.out⟩, ⟨by repeat (first | (with_reducible first | exact HK.out | apply Kept.alloc | apply Kept.drewN | apply Kept.drew) | exact HK.out)⟩, ⟨bb_⟩⟩
 case round =>
  clear H'
  try clear p2
  obtain ⟨x0_1, x1_1, x5_1, rfl, rfl, HA, HK1, HO_0, HK, HB⟩ := hrel
  cases gk with
  | zero => exact absurd HA.out (by simp [zgO.l0])
  | succ k1 =>
   have H := HA.out
   clear HA
   simp only [zgO.l0] at H
   by_cases c3 : x5_1 < (x0_1.length : Int)
   ·rw [if_pos c3] at H
    have c3b0 : decide (x5_1 < (x0_1.length : Int)) = true := decide_eq_true c3
    clear c3
    replace H := Option.bind_eq_some_iff.mp H
    obtain ⟨t109, A40, H⟩ := H
    replace H : (if 0 ≤ x5_1 then (zgO.l0 k1 (x0_1.set (x5_1 : Int).toNat t109) (wrap64 (x1_1 + 1)) (wrap64 (x5_1 + 1))) else (none)) = some (r1, r2) := H
    have A4 := zpS A40
    clear A40
    by_cases c5 : 0 ≤ x5_1
    ·rw [if_pos c5] at H
     have c5b0 : decide (0 ≤ x5_1) = true := decide_eq_true c5
     clear c5
     obtain ⟨y110, hy110⟩ : ∃ y_ : List ByteArray, y_ = (x0_1.set (x5_1 : Int).toNat t109) := ⟨_, rfl⟩
     replace H : (zgO.l0 k1 y110 (wrap64 (x1_1 + 1)) (wrap64 (x5_1 + 1))) = some (r1, r2) := by first | (rw [hy110]; with_reducible exact H) | (have H2_ := (Option.bind_some _ _).symm.trans H; rw [hy110]; with_reducible exact H2_) | (have H2_ := (Option.bind_some _ _).symm.trans H; with_reducible exact H2_) | with_reducible exact H | (rw [hy110]; exact H) | exact H
     have Ny110 := zpS hy110
     clear hy110
     have H' := zpS H
     clear H
     obtain ⟨Ao7, co7, eo7⟩ := Kd.R_slice HO_0.out
     subst eo7
     go_wp2_with (first | ((with_reducible refine zgK (f := 10) rfl ?_); refine goesL_ (some 15) rfl rfl Tryd.func10 (by kernel_rfl) rfl #[.int .i64 x1_1] rfl (by (try simp only [List.map_toArray, List.map_cons, List.map_nil]); first | done | rfl | (simp only [List.length_drop, List.length_take]; rfl)) ?_; (with_reducible refine (zwO.calls k1 x1_1 t109 _ A4.out).mono ?_); rintro e w8 ⟨rfl, hb⟩; refine ⟨_, rfl, ?_⟩; have n0_ := zpS (Kd.R_below (by (with_reducible repeat (first | apply Kd.R_alloc | apply Kd.R_drewN | apply Kd.R_drew)); exact HO_0.out) hb); have n1_ := zpS (Kept.below (S := (fun k_ => P0_ k_)) (by repeat (first | (with_reducible first | exact HK.out | apply Kept.alloc | apply Kept.drewN | apply Kept.drew) | exact HK.out)) hb); have n2_ := (ns_ hb); clear HO_0; clear HK; clear HB; have HO_0 := n0_; have HK := n1_; have HB := n2_; clear n0_ n1_ n2_; (try clear hb); (try clear hb2); have p6 : 0 ≤ (x5_1 : Int) := dt_; have q6 : (x5_1 : Int) < ((x0_1.length : Int) : Int) := dt_; obtain ⟨go6, co6, eo6, gb6, gl6, cl6, HG6⟩ := Kd.R_form HO_0.out (by omega); (first | cases eo6 | (injection eo6 with ea_ en_ ec_; (first | subst ea_ | (injection ea_ with ea_; subst ea_)); subst ec_; clear en_)); have GB6 := zpS gb6; have GG6 := zpS HG6; clear gb6 gl6 HG6; have HMgo6 := zpS (show (P0_ go6 ∨ w.heap.size ≤ go6) from (HO_0.out.1 _ rfl)); obtain ⟨hx6_0, hf6_0⟩ := Kd.R_celln (⟨#[]⟩ : ByteArray) HO_0.out (x5_1 : Int) p6 q6; replace p6 := eq_true p6; replace q6 := eq_true q6; obtain ⟨hy9_, hz9_⟩ := Kd.R_celln (⟨#[]⟩ : ByteArray) HO_0.out (x5_1 : Int) dt_ dt_; have HP9 := Kd.R_putg HO_0.out (x5_1 : Int) t109) | ((with_reducible refine gate_store (t := 9) (p := 16) rfl ?_); refine store_event (t := 9) (p := 16) (v := ?vo_w10) (w1 := (w8.setCell ⟨go6, (x5_1 : Int).toNat, none⟩ (.string t109))) ?hg ?ho ?hn ?hr ?_; (case ho => rfl); (case hg => rfl); (case hn => rfl); (case hr => first | (go_simp; done) | (go_simp; rfl)); intro w10 hw; have hg : w8.grownBy w10 (some go6) := (by rw [hw]; exact HP9.2); have hp_ : Kd.R Kd.string 9 w10 w0.heap.size (fun k_ => (P0_ k_ ∨ w.heap.size ≤ k_)) (.slice (some ⟨go6, 0, none⟩) x0_1.length co7) y110 := (by rw [hw, Ny110.out]; exact HP9.1); clear HP9; have n0_ := zpS (hp_); have n1_ := zpS ((by rw [hw]; exact below_set (HB.out) GB6.out : Below w0.heap.size w0 w10)); have n2_ := zpS (Kept.of_grown (S := (fun k_ => P0_ k_)) hg (by repeat (first | (with_reducible first | exact HK.out | apply Kept.alloc | apply Kept.drewN | apply Kept.drew) | exact HK.out)) (fun k_ e_ => (HO_0.out.1 k_ e_))); clear HO_0; clear HB; clear HK; have HO_0 := n0_; have HB := n1_; have HK := n2_; clear n0_ n1_ n2_; clear hg hw hp_))
     go_roundg k1
     case measure => have := HK1.out; omega
     case rel => exact ⟨(y110), (wrap64 (x1_1 + 1)), (wrap64 (x5_1 + 1)), (by first | rfl | (simp; done) | (simp [*]; done)), (by first | rfl | (simp; done) | (simp [*]; done)), H', ⟨by have := HK1.out; omega⟩, ⟨by (with_reducible repeat (first | apply Kd.R_alloc | apply Kd.R_drewN | apply Kd.R_drew)); exact HO_0.out⟩, ⟨by repeat (first | (with_reducible first | exact HK.out | apply Kept.alloc | apply Kept.drewN | apply Kept.drew) | exact HK.out)⟩, ⟨bb_⟩⟩
    ·rw [if_neg c5] at H
     exact absurd H (by simp)
   ·rw [if_neg c3] at H
    have c3b0 : decide (x5_1 < (x0_1.length : Int)) = false := decide_eq_false c3
    clear c3
    simp only [Option.some.injEq, Prod.mk.injEq] at H
    obtain ⟨rfl, rfl⟩ := H
    obtain ⟨Ao11, co11, eo11⟩ := Kd.R_slice HO_0.out
    subst eo11
    go_wp2
    go_ret
    exact ⟨by first | rfl | (simp [ziS, znJ] <;> rfl) | (simp [*, ziS, znJ] <;> rfl), by (with_reducible repeat (first | apply Kd.R_alloc | apply Kd.R_drewN | apply Kd.R_drew)); exact HO_0.out, bb_, by repeat (first | (with_reducible first | exact HK.out | apply Kept.alloc | apply Kept.drewN | apply Kept.drew) | exact HK.out)⟩

def zvR.l0 : Nat → List ByteArray → Int → Int → Option (Int)
 | 0, _, _, _ => none
 | k + 1, x0, x1, x5 => if x5 < (x0.length : Int) then (if 0 ≤ x5 then ((zwO.f k x1).bind fun t112 => (if (rdOf ByteArray.empty x0 x5).toList = t112.toList then (zvR.l0 k x0 (wrap64 (x1 + 1)) (wrap64 (x5 + 1))) else (some (-1)))) else (none)) else (some x1)
def zvR.f (k : Nat) (l0 : List ByteArray) (a1 : Int) : Option (Int) := zvR.l0 k l0 a1 0
theorem zvR.mono_l : ∀ k, (∀ y0 y1 y2, LeO (zvR.l0 k y0 y1 y2) (zvR.l0 (k + 1) y0 y1 y2))
 | 0 => fun _ _ _ r h => by simp [zvR.l0] at h
 | k + 1 => by
  have ih0 := zvR.mono_l k
  ·intro y0 y1 y2
   unfold zvR.l0
   repeat' first
   | (with_reducible exact ih0 _ _ _)
   | (with_reducible exact zwO.mono _ _)
   | (with_reducible exact LeO.refl _)
   | (with_reducible exact LeO.none _)
   | (with_reducible refine LeO.ite ?_ ?_)
   | (with_reducible refine LeO.bind ?_ (fun _ => ?_))
   | exact ih0 _ _ _
   | exact zwO.mono _ _
   | exact LeO.none _
   | refine LeO.ite ?_ ?_
   | refine LeO.bind ?_ (fun _ => ?_)
theorem zvR.mono : ∀ a0 a1 k, LeO (zvR.f k a0 a1) (zvR.f (k + 1) a0 a1) := by
 intro a0 a1 k
 have ih0 := zvR.mono_l k
 unfold zvR.f
 repeat' first
   | (with_reducible exact ih0 _ _ _)
   | (with_reducible exact zwO.mono _ _)
   | (with_reducible exact LeO.refl _)
   | (with_reducible exact LeO.none _)
   | (with_reducible refine LeO.ite ?_ ?_)
   | (with_reducible refine LeO.bind ?_ (fun _ => ?_))
   | exact ih0 _ _ _
   | exact zwO.mono _ _
   | exact LeO.none _
   | refine LeO.ite ?_ ?_
   | refine LeO.bind ?_ (fun _ => ?_)
theorem zvR.calls (k : Nat) (A0 : Option Addr) (c0 : Nat) (l0 : List ByteArray) (a1 : Int) (r : Int) (w : World) (hr0 : Kd.C Kd.string w A0 l0.length l0) (hc0 : l0.length ≤ c0) (h : zvR.f k l0 a1 = some r) :
  Calls Tryd.prog 8 #[.slice A0 l0.length c0, .int .i64 a1] w fun e w' => e = .returned (.int .i64 r) ∧ Below w.heap.size w w' := by
 have HR0 := zpS hr0
 have HC0 := zpS hc0
 clear hr0 hc0
 have HB := zpS (Below.refl w.heap.size w)
 have H : (zvR.l0 k l0 a1 0) = some r := h
 clear h
 have H' := zpS H
 clear H
 go_enter Tryd.func8, Tryd.ntmps8
 go_wp2
 (try go_simp)
 go_loopg [1, 5] k (fun kq v1 v5 w' => ∃ (x1_1 : Int) (x5_1 : Int), v1 = .int .i64 x1_1 ∧ v5 = .int .i64 x5_1 ∧ Aside0 (zvR.l0 kq l0 x1_1 x5_1 = some r) ∧ Aside0 (kq ≤ k) ∧ Aside0 (Below w.heap.size w w'))
 case atStart => exact ⟨(a1), (0), (by first | rfl | (simp; done) | (simp [*]; done)), (by first | rfl | (simp; done) | (simp [*]; done)), H', ⟨Nat.le_refl _⟩, ⟨bb_⟩⟩
 case round =>
  clear H'
  try clear p2
  obtain ⟨x1_1, x5_1, rfl, rfl, HA, HK1, HB⟩ := hrel
  cases gk with
  | zero => exact absurd HA.out (by simp [zvR.l0])
  | succ k1 =>
   have H := HA.out
   clear HA
   simp only [zvR.l0] at H
   by_cases c3 : x5_1 < (l0.length : Int)
   ·rw [if_pos c3] at H
    have c3b0 : decide (x5_1 < (l0.length : Int)) = true := decide_eq_true c3
    clear c3
    by_cases c4 : 0 ≤ x5_1
    ·rw [if_pos c4] at H
     have c4b0 : decide (0 ≤ x5_1) = true := decide_eq_true c4
     clear c4
     replace H := Option.bind_eq_some_iff.mp H
     obtain ⟨t112, A50, H⟩ := H
     replace H : (if (rdOf ByteArray.empty l0 x5_1).toList = t112.toList then (zvR.l0 k1 l0 (wrap64 (x1_1 + 1)) (wrap64 (x5_1 + 1))) else (some (-1))) = some r := H
     have A5 := zpS A50
     clear A50
     by_cases c6 : (rdOf ByteArray.empty l0 x5_1).toList = t112.toList
     ·rw [if_pos c6] at H
      have c6b0 : ((rdOf ByteArray.empty l0 x5_1).toList == t112.toList) = true := beq_iff_eq.mpr c6
      have c6b1 : ((rdOf ByteArray.empty l0 x5_1).toList != t112.toList) = false := bne_eq_false_iff_eq.mpr c6
      clear c6
      have H' := zpS H
      clear H
      try go_wp2
      have n0_ := zpS (below_drew1 HB.out)
      clear HB
      have HB := n0_
      clear n0_
      have p111 : 0 ≤ (x5_1 : Int) := dt_
      have q111 : x5_1 < (l0.length : Int) := dt_
      obtain ⟨ad111, e111, hx111_0⟩ := Kd.at_string HR0.out x5_1 p111 q111
      have hw111_0 := hx111_0
      cases e111
      replace hx111_0 := cel_ HB.out hx111_0
      replace p111 := eq_true p111
      replace q111 := eq_true q111
      refine start_ (n := 7) (S := fun w' => w'.cell? (ad111.add (x5_1).toNat) = some (.string (rdOf ByteArray.empty l0 x5_1))) (ds := []) #[false, false, false, false, false, false, false] (by kernel_rfl) rfl rfl ((cel_ HB.out hw111_0)) (fun hHeld => ?_)
      generalize wr.drew = w7 at HB hx111_0 hHeld ⊢
      refine pure_ (i := 0) (N := some 12) (v := ?_) (a' := ?_) (bl_ 7 1) rfl rfl (by kernel_rfl) (fun _ _ _ h => h) (Or.inl ⟨by rfl, ?_⟩) ?_ ?_
      rotate_left
      ·intro w'
       go_simp
       with_reducible rfl
      rotate_left
      ·simp only [Act.put, List.setIfInBounds_toArray, List.set_cons_zero, List.set_cons_succ, i64_w, i32_w]
       rfl
      refine pure_ (i := 1) (N := some 13) (v := ?_) (a' := ?_) (bl_ 7 3) rfl rfl (by kernel_rfl) (fun _ _ _ h => h) (Or.inl ⟨by rfl, ?_⟩) ?_ ?_
      rotate_left
      ·intro w'
       go_simp
       with_reducible rfl
      rotate_left
      ·simp only [Act.put, List.setIfInBounds_toArray, List.set_cons_zero, List.set_cons_succ, i64_w, i32_w]
       rfl
      refine pure_ (i := 2) (N := some 14) (v := ?_) (a' := ?_) (bl_ 7 7) rfl rfl (by kernel_rfl) (fun _ _ _ h => h) (Or.inl ⟨by rfl, ?_⟩) ?_ ?_
      rotate_left
      ·intro w'
       go_simp
       with_reducible rfl
      rotate_left
      ·simp only [Act.put, List.setIfInBounds_toArray, List.set_cons_zero, List.set_cons_succ, i64_w, i32_w]
       rfl
      refine pure_ (i := 4) (N := some 16) (v := ?_) (a' := ?_) (bl_ 7 23) rfl rfl (by kernel_rfl) (fun _ _ _ h => h) (Or.inl ⟨by rfl, ?_⟩) ?_ ?_
      rotate_left
      ·intro w'
       go_simp
       with_reducible rfl
      rotate_left
      ·simp only [Act.put, List.setIfInBounds_toArray, List.set_cons_zero, List.set_cons_succ, i64_w, i32_w]
       rfl
      refine take_ (i := 3) (N := some 15) (v := ?_) (a' := ?_) (bl_ 7 31) rfl rfl (by kernel_rfl) (fun _ _ _ h => h) (Or.inl ⟨by rfl, ?_⟩) hHeld ?_ ?_
      rotate_left
      ·intro w' s0
       go_simp
       with_reducible rfl
      rotate_left
      ·simp only [Act.put, List.setIfInBounds_toArray, List.set_cons_zero, List.set_cons_succ, i64_w, i32_w]
       rfl
      refine one_ (i := 5) (N := some 17) (bl_ 7 63) rfl rfl (by kernel_rfl) (by decide) (fun K hK => ?_)
      refine goes_ Tryd.func10 (by kernel_rfl) rfl #[.int .i64 x1_1] (by rfl) rfl rfl (by (try simp only [List.map_toArray, List.map_cons, List.map_nil]); first | done | rfl | (simp only [List.length_drop, List.length_take]; rfl)) ?_
      with_reducible refine (zwO.calls k1 x1_1 t112 _ A5.out).mono ?_
      rintro e w8 ⟨rfl, hb⟩
      refine ⟨_, rfl, ?_⟩
      have n0_ := (ns_ hb)
      clear HB
      have HB := n0_
      clear n0_
      (try clear hb)
      (try clear hb2)
      (try clear hk)
      (try clear hi)
      refine hK.out _ _ ((cel_ HB.out hw111_0)) (fun hHeld => ?_)
      clear hK K
      refine norm_ (a' := ?_) ?_ ?_
      rotate_left
      ·show Act.put _ (some 17) _ = _
       simp only [Act.put, List.setIfInBounds_toArray, List.set_cons_zero, List.set_cons_succ, i64_w, i32_w]
       rfl
      refine pure_ (i := 6) (N := some 18) (v := ?_) (a' := ?_) (bl_ 7 127) rfl rfl (by kernel_rfl) (fun _ _ _ h => h) (Or.inl ⟨by rfl, ?_⟩) ?_ ?_
      rotate_left
      ·intro w'
       go_simp
       with_reducible rfl
      rotate_left
      ·simp only [Act.put, List.setIfInBounds_toArray, List.set_cons_zero, List.set_cons_succ, i64_w, i32_w]
       rfl
      refine done_ (by kernel_rfl) ?_
      try go_wp2
      go_roundg k1
      case measure => have := HK1.out; omega
      case rel => exact ⟨(wrap64 (x1_1 + 1)), (wrap64 (x5_1 + 1)), (by first | rfl | (simp; done) | (simp [*]; done)), (by first | rfl | (simp; done) | (simp [*]; done)), H', ⟨by have := HK1.out; omega⟩, ⟨bb_⟩⟩
     ·rw [if_neg c6] at H
      have c6b0 : ((rdOf ByteArray.empty l0 x5_1).toList == t112.toList) = false := beq_eq_false_iff_ne.mpr c6
      have c6b1 : ((rdOf ByteArray.empty l0 x5_1).toList != t112.toList) = true := bne_iff_ne.mpr c6
      obtain rfl := Option.some.inj H
      try go_wp2
      have n0_ := zpS (below_drew1 HB.out)
      clear HB
      have HB := n0_
      clear n0_
      have p111 : 0 ≤ (x5_1 : Int) := dt_
      have q111 : x5_1 < (l0.length : Int) := dt_
      obtain ⟨ad111, e111, hx111_0⟩ := Kd.at_string HR0.out x5_1 p111 q111
      have hw111_0 := hx111_0
      cases e111
      replace hx111_0 := cel_ HB.out hx111_0
      replace p111 := eq_true p111
      replace q111 := eq_true q111
      refine start_ (n := 7) (S := fun w' => w'.cell? (ad111.add (x5_1).toNat) = some (.string (rdOf ByteArray.empty l0 x5_1))) (ds := []) #[false, false, false, false, false, false, false] (by kernel_rfl) rfl rfl ((cel_ HB.out hw111_0)) (fun hHeld => ?_)
      generalize wr.drew = w9 at HB hx111_0 hHeld ⊢
      refine pure_ (i := 0) (N := some 12) (v := ?_) (a' := ?_) (bl_ 7 1) rfl rfl (by kernel_rfl) (fun _ _ _ h => h) (Or.inl ⟨by rfl, ?_⟩) ?_ ?_
      rotate_left
      ·intro w'
       go_simp
       with_reducible rfl
      rotate_left
      ·simp only [Act.put, List.setIfInBounds_toArray, List.set_cons_zero, List.set_cons_succ, i64_w, i32_w]
       rfl
      refine pure_ (i := 1) (N := some 13) (v := ?_) (a' := ?_) (bl_ 7 3) rfl rfl (by kernel_rfl) (fun _ _ _ h => h) (Or.inl ⟨by rfl, ?_⟩) ?_ ?_
      rotate_left
      ·intro w'
       go_simp
       with_reducible rfl
      rotate_left
      ·simp only [Act.put, List.setIfInBounds_toArray, List.set_cons_zero, List.set_cons_succ, i64_w, i32_w]
       rfl
      refine pure_ (i := 2) (N := some 14) (v := ?_) (a' := ?_) (bl_ 7 7) rfl rfl (by kernel_rfl) (fun _ _ _ h => h) (Or.inl ⟨by rfl, ?_⟩) ?_ ?_
      rotate_left
      ·intro w'
       go_simp
       with_reducible rfl
      rotate_left
      ·simp only [Act.put, List.setIfInBounds_toArray, List.set_cons_zero, List.set_cons_succ, i64_w, i32_w]
       rfl
      refine pure_ (i := 4) (N := some 16) (v := ?_) (a' := ?_) (bl_ 7 23) rfl rfl (by kernel_rfl) (fun _ _ _ h => h) (Or.inl ⟨by rfl, ?_⟩) ?_ ?_
      rotate_left
      ·intro w'
       go_simp
       with_reducible rfl
      rotate_left
      ·simp only [Act.put, List.setIfInBounds_toArray, List.set_cons_zero, List.set_cons_succ, i64_w, i32_w]
       rfl
      refine take_ (i := 3) (N := some 15) (v := ?_) (a' := ?_) (bl_ 7 31) rfl rfl (by kernel_rfl) (fun _ _ _ h => h) (Or.inl ⟨by rfl, ?_⟩) hHeld ?_ ?_
      rotate_left
      ·intro w' s0
       go_simp
       with_reducible rfl
      rotate_left
      ·simp only [Act.put, List.setIfInBounds_toArray, List.set_cons_zero, List.set_cons_succ, i64_w, i32_w]
       rfl
      refine one_ (i := 5) (N := some 17) (bl_ 7 63) rfl rfl (by kernel_rfl) (by decide) (fun K hK => ?_)
      refine goes_ Tryd.func10 (by kernel_rfl) rfl #[.int .i64 x1_1] (by rfl) rfl rfl (by (try simp only [List.map_toArray, List.map_cons, List.map_nil]); first | done | rfl | (simp only [List.length_drop, List.length_take]; rfl)) ?_
      with_reducible refine (zwO.calls k1 x1_1 t112 _ A5.out).mono ?_
      rintro e w10 ⟨rfl, hb⟩
      refine ⟨_, rfl, ?_⟩
      have n0_ := (ns_ hb)
      clear HB
      have HB := n0_
      clear n0_
      (try clear hb)
      (try clear hb2)
      (try clear hk)
      (try clear hi)
      refine hK.out _ _ ((cel_ HB.out hw111_0)) (fun hHeld => ?_)
      clear hK K
      refine norm_ (a' := ?_) ?_ ?_
      rotate_left
      ·show Act.put _ (some 17) _ = _
       simp only [Act.put, List.setIfInBounds_toArray, List.set_cons_zero, List.set_cons_succ, i64_w, i32_w]
       rfl
      refine pure_ (i := 6) (N := some 18) (v := ?_) (a' := ?_) (bl_ 7 127) rfl rfl (by kernel_rfl) (fun _ _ _ h => h) (Or.inl ⟨by rfl, ?_⟩) ?_ ?_
      rotate_left
      ·intro w'
       go_simp
       with_reducible rfl
      rotate_left
      ·simp only [Act.put, List.setIfInBounds_toArray, List.set_cons_zero, List.set_cons_succ, i64_w, i32_w]
       rfl
      refine done_ (by kernel_rfl) ?_
      try go_wp2
      go_ret
      exact ⟨by first | rfl | (simp [ziS, znJ] <;> rfl) | (simp [*, ziS, znJ] <;> rfl), bb_⟩
    ·rw [if_neg c4] at H
     exact absurd H (by simp)
   ·rw [if_neg c3] at H
    have c3b0 : decide (x5_1 < (l0.length : Int)) = false := decide_eq_false c3
    clear c3
    obtain rfl := Option.some.inj H
    go_wp2
    go_ret
    exact ⟨by first | rfl | (simp [ziS, znJ] <;> rfl) | (simp [*, ziS, znJ] <;> rfl), bb_⟩

def laws_FnExactLibraryNames.f (k : Nat)  : Option (Bool) := (zpW.f).bind fun t113 => ((zuD.f).bind fun t116 => ((zaI.f k t116 t113).bind fun t119 => (if t119 = true then ((zgO.f k t116 1).bind fun bt120 => ((zvR.f k bt120.2 1).bind fun t122 => (if t122 < 0 then (none) else (if t122 = bt120.1 then ((zuD.f).bind fun t123 => ((zaI.f k t123 t113).bind fun t126 => (if t126 = true then ((zvR.f k bt120.2 1).bind fun t127 => (if t127 < 0 then (none) else (if t127 = bt120.1 then (some true) else (none)))) else (none)))) else (none))))) else (none))))
theorem laws_FnExactLibraryNames.mono : ∀ k, LeO (laws_FnExactLibraryNames.f k ) (laws_FnExactLibraryNames.f (k + 1) ) := by
 intro  k
 unfold laws_FnExactLibraryNames.f
 repeat' first
   | (with_reducible exact zaI.mono _ _ _)
   | (with_reducible exact zvR.mono _ _ _)
   | (with_reducible exact zgO.mono _ _ _)
   | (with_reducible exact LeO.refl _)
   | (with_reducible exact LeO.none _)
   | (with_reducible refine LeO.ite ?_ ?_)
   | (with_reducible refine LeO.bind ?_ (fun _ => ?_))
   | exact zaI.mono _ _ _
   | exact zvR.mono _ _ _
   | exact zgO.mono _ _ _
   | exact LeO.none _
   | refine LeO.ite ?_ ?_
   | refine LeO.bind ?_ (fun _ => ?_)
theorem laws_FnExactLibraryNames.calls (k : Nat)  (r : Bool) (w : World) (hG : LaidV w) (h : laws_FnExactLibraryNames.f k  = some r) :
  Calls Tryd.prog 3 #[] w fun e w' => e = .returned (.bool r) ∧ Below w.heap.size w w' := by
 have HB := zpS (Below.refl w.heap.size w)
 have H : ((zpW.f).bind fun t113 => ((zuD.f).bind fun t116 => ((zaI.f k t116 t113).bind fun t119 => (if t119 = true then ((zgO.f k t116 1).bind fun bt120 => ((zvR.f k bt120.2 1).bind fun t122 => (if t122 < 0 then (none) else (if t122 = bt120.1 then ((zuD.f).bind fun t123 => ((zaI.f k t123 t113).bind fun t126 => (if t126 = true then ((zvR.f k bt120.2 1).bind fun t127 => (if t127 < 0 then (none) else (if t127 = bt120.1 then (some true) else (none)))) else (none)))) else (none))))) else (none))))) = some r := h
 clear h
 replace H := Option.bind_eq_some_iff.mp H
 obtain ⟨t113, A10, H⟩ := H
 replace H : ((zuD.f).bind fun t116 => ((zaI.f k t116 t113).bind fun t119 => (if t119 = true then ((zgO.f k t116 1).bind fun bt120 => ((zvR.f k bt120.2 1).bind fun t122 => (if t122 < 0 then (none) else (if t122 = bt120.1 then ((zuD.f).bind fun t123 => ((zaI.f k t123 t113).bind fun t126 => (if t126 = true then ((zvR.f k bt120.2 1).bind fun t127 => (if t127 < 0 then (none) else (if t127 = bt120.1 then (some true) else (none)))) else (none)))) else (none))))) else (none)))) = some r := H
 have A1 := zpS A10
 clear A10
 replace H := Option.bind_eq_some_iff.mp H
 obtain ⟨t116, A20, H⟩ := H
 replace H : ((zaI.f k t116 t113).bind fun t119 => (if t119 = true then ((zgO.f k t116 1).bind fun bt120 => ((zvR.f k bt120.2 1).bind fun t122 => (if t122 < 0 then (none) else (if t122 = bt120.1 then ((zuD.f).bind fun t123 => ((zaI.f k t123 t113).bind fun t126 => (if t126 = true then ((zvR.f k bt120.2 1).bind fun t127 => (if t127 < 0 then (none) else (if t127 = bt120.1 then (some true) else (none)))) else (none)))) else (none))))) else (none))) = some r := H
 have A2 := zpS A20
 clear A20
 replace H := Option.bind_eq_some_iff.mp H
 obtain ⟨t119, A30, H⟩ := H
 replace H : (if t119 = true then ((zgO.f k t116 1).bind fun bt120 => ((zvR.f k bt120.2 1).bind fun t122 => (if t122 < 0 then (none) else (if t122 = bt120.1 then ((zuD.f).bind fun t123 => ((zaI.f k t123 t113).bind fun t126 => (if t126 = true then ((zvR.f k bt120.2 1).bind fun t127 => (if t127 < 0 then (none) else (if t127 = bt120.1 then (some true) else (none)))) else (none)))) else (none))))) else (none)) = some r := H
 have A3 := zpS A30
 clear A30
 by_cases c4 : t119 = true
 ·subst c4
  have H1 : ((zgO.f k t116 1).bind fun bt120 => ((zvR.f k bt120.2 1).bind fun t122 => (if t122 < 0 then (none) else (if t122 = bt120.1 then ((zuD.f).bind fun t123 => ((zaI.f k t123 t113).bind fun t126 => (if t126 = true then ((zvR.f k bt120.2 1).bind fun t127 => (if t127 < 0 then (none) else (if t127 = bt120.1 then (some true) else (none)))) else (none)))) else (none))))) = some r := by rw [if_pos rfl] at H; exact H
  clear H
  have H := H1
  clear H1
  replace H := Option.bind_eq_some_iff.mp H
  obtain ⟨⟨t120, t121⟩, A50, H⟩ := H
  replace H : ((zvR.f k t121 1).bind fun t122 => (if t122 < 0 then (none) else (if t122 = t120 then ((zuD.f).bind fun t123 => ((zaI.f k t123 t113).bind fun t126 => (if t126 = true then ((zvR.f k t121 1).bind fun t127 => (if t127 < 0 then (none) else (if t127 = t120 then (some true) else (none)))) else (none)))) else (none)))) = some r := H
  have A5 := zpS A50
  clear A50
  replace H := Option.bind_eq_some_iff.mp H
  obtain ⟨t122, A60, H⟩ := H
  replace H : (if t122 < 0 then (none) else (if t122 = t120 then ((zuD.f).bind fun t123 => ((zaI.f k t123 t113).bind fun t126 => (if t126 = true then ((zvR.f k t121 1).bind fun t127 => (if t127 < 0 then (none) else (if t127 = t120 then (some true) else (none)))) else (none)))) else (none))) = some r := H
  have A6 := zpS A60
  clear A60
  by_cases c7 : t122 < 0
  ·rw [if_pos c7] at H
   exact absurd H (by simp)
  ·rw [if_neg c7] at H
   have c7b0 : decide (t122 < 0) = false := decide_eq_false c7
   clear c7
   by_cases c8 : t122 = t120
   ·rw [if_pos c8] at H
    have c8b0 : (t122 == t120) = true := beq_iff_eq.mpr c8
    have c8b1 : (t122 != t120) = false := bne_eq_false_iff_eq.mpr c8
    clear c8
    replace H := Option.bind_eq_some_iff.mp H
    obtain ⟨t123, A90, H⟩ := H
    replace H : ((zaI.f k t123 t113).bind fun t126 => (if t126 = true then ((zvR.f k t121 1).bind fun t127 => (if t127 < 0 then (none) else (if t127 = t120 then (some true) else (none)))) else (none))) = some r := H
    have A9 := zpS A90
    clear A90
    replace H := Option.bind_eq_some_iff.mp H
    obtain ⟨t126, A100, H⟩ := H
    replace H : (if t126 = true then ((zvR.f k t121 1).bind fun t127 => (if t127 < 0 then (none) else (if t127 = t120 then (some true) else (none)))) else (none)) = some r := H
    have A10 := zpS A100
    clear A100
    by_cases c11 : t126 = true
    ·subst c11
     have H1 : ((zvR.f k t121 1).bind fun t127 => (if t127 < 0 then (none) else (if t127 = t120 then (some true) else (none)))) = some r := by rw [if_pos rfl] at H; exact H
     clear H
     have H := H1
     clear H1
     replace H := Option.bind_eq_some_iff.mp H
     obtain ⟨t127, A120, H⟩ := H
     replace H : (if t127 < 0 then (none) else (if t127 = t120 then (some true) else (none))) = some r := H
     have A12 := zpS A120
     clear A120
     by_cases c13 : t127 < 0
     ·rw [if_pos c13] at H
      exact absurd H (by simp)
     ·rw [if_neg c13] at H
      have c13b0 : decide (t127 < 0) = false := decide_eq_false c13
      clear c13
      by_cases c14 : t127 = t120
      ·rw [if_pos c14] at H
       have c14b0 : (t127 == t120) = true := beq_iff_eq.mpr c14
       have c14b1 : (t127 != t120) = false := bne_eq_false_iff_eq.mpr c14
       clear c14
       obtain rfl := Option.some.inj H
       go_enter Tryd.func3, Tryd.ntmps3
       go_wp2_with (first | ((with_reducible refine zgK (f := 4) rfl ?_); refine goesL_ (some 6) rfl rfl Tryd.func4 (by kernel_rfl) rfl #[] rfl (by (try simp only [List.map_toArray, List.map_cons, List.map_nil]); first | done | rfl | (simp only [List.length_drop, List.length_take]; rfl)) ?_; (with_reducible refine (zpW.calls  t113 _ A1.out).mono ?_); rintro e w15 ⟨v114, rfl, ho0, hb⟩; refine ⟨_, rfl, ?_⟩; have n0_ := zpS (Kd.R_lower ho0 (below_size bb_)); have n1_ := (ns_ hb); clear HB; have HO115 := n0_; have HB := n1_; clear n0_ n1_; (try clear hb); (try clear hb2); (try clear ho0)) | ((with_reducible refine zgK (f := 5) rfl ?_); refine goesL_ (some 7) rfl rfl Tryd.func5 (by kernel_rfl) rfl #[] rfl (by (try simp only [List.map_toArray, List.map_cons, List.map_nil]); first | done | rfl | (simp only [List.length_drop, List.length_take]; rfl)) ?_; (with_reducible refine (zuD.calls  t116 _ ?side1 A2.out).mono ?_); (case side1 => exact LaidV.below hG bb_); rintro e w16 ⟨v117, rfl, ho0, hb⟩; refine ⟨_, rfl, ?_⟩; have n0_ := zpS (Kd.R_elder' (by (with_reducible repeat (first | apply Kd.R_alloc | apply Kd.R_drewN | apply Kd.R_drew)); exact HO115.out) (Kd.R_base ho0) hb); have n1_ := zpS (Kd.R_lower (Kd.R_new' ho0 (Kd.R_lt (by (with_reducible repeat (first | apply Kd.R_alloc | apply Kd.R_drewN | apply Kd.R_drew)); exact HO115.out))) (below_size bb_)); have n2_ := (ns_ hb); clear HO115; clear HB; have HO115 := n0_; have HO118 := n1_; have HB := n2_; clear n0_ n1_ n2_; (try clear hb); (try clear hb2); (try clear ho0); obtain ⟨Ao17, co17, eo17⟩ := Kd.R_slice HO118.out; subst eo17; obtain ⟨Ao18, co18, eo18⟩ := Kd.R_slice HO115.out; subst eo18) | ((with_reducible refine zgK (f := 6) rfl ?_); refine goesL_ (some 10) rfl rfl Tryd.func6 (by kernel_rfl) rfl #[.slice Ao17 t116.length co17, .slice Ao18 t113.length co18] rfl (by (try simp only [List.map_toArray, List.map_cons, List.map_nil]); first | done | rfl | (simp only [List.length_drop, List.length_take]; rfl)) ?_; (with_reducible refine (zaI.calls k _ _ t116 _ _ t113 true _ ?side1 ?side2 ?side3 ?side4 A3.out).mono ?_); (case side1 => repeat (first | exact (Kd.R_reads' HO118.out).2.2 | (with_reducible refine Kd.C_alloc ?_ _) | (with_reducible refine Kd.C_drewN ?_ _) | (with_reducible refine Kd.C_drew ?_))); (case side2 => exact (Kd.R_reads' HO118.out).2.1); (case side3 => repeat (first | exact (Kd.R_reads' HO115.out).2.2 | (with_reducible refine Kd.C_alloc ?_ _) | (with_reducible refine Kd.C_drewN ?_ _) | (with_reducible refine Kd.C_drew ?_))); (case side4 => exact (Kd.R_reads' HO115.out).2.1); rintro e w' ⟨rfl, ⟨nd, rfl⟩⟩; refine ⟨_, rfl, ?_⟩) | ((with_reducible refine zgK (f := 7) rfl ?_); refine goesL_ (some 14) rfl rfl Tryd.func7 (by kernel_rfl) rfl #[.slice Ao17 t116.length co17, .int .i64 1] rfl (by (try simp only [List.map_toArray, List.map_cons, List.map_nil]); first | done | rfl | (simp only [List.length_drop, List.length_take]; rfl)) ?_; (with_reducible refine (zgO.calls k (fun k_ => some k_ = (.slice Ao17 t116.length co17 : Value).ownBlock) (.slice Ao17 t116.length co17) t116 1 t120 t121 w _ ?side1 ?side2 A5.out).mono ?_); (case side1 => repeat (first | (with_reducible first | exact HB.out | apply znU | apply pw_below_drewN | apply below_drew1) | exact HB.out)); (case side2 => exact Kd.R_tight rfl HO118.out); rintro e w19 ⟨rfl, hy0, hb, hkp⟩; refine ⟨_, rfl, ?_⟩; have n0_ := zpS (Kd.R_mono (ok' := fun k_ => some k_ ≠ (.slice Ao17 t116.length co17 : Value).ownBlock) (Kd.R_keptB (HO115.out) hkp (fun k_ hk_ hs_ => (hk_.2) hs_)) (fun k_ hk_ => hk_.1.2)); have n1_ := zpS (Kd.R_reok rfl hy0 (fun k_ e_ => HO118.out.1 k_ e_)); have n2_ := zpS (hb); clear HO115; clear HO118; clear HB; have HO115 := n0_; have HO118 := n1_; have HB := n2_; clear n0_ n1_ n2_; (try clear hb); (try clear hkp); (try clear hy0)) | ((with_reducible refine zgK (f := 8) rfl ?_); refine goesL_ (some 17) rfl rfl Tryd.func8 (by kernel_rfl) rfl #[.slice Ao17 t121.length co17, .int .i64 1] rfl (by (try simp only [List.map_toArray, List.map_cons, List.map_nil]); first | done | (rw [show t121.length = t116.length from (Kd.R_reads' HO118.out).1.symm] <;> rfl) | rfl | (simp only [List.length_drop, List.length_take]; rfl)) ?_; (with_reducible refine (zvR.calls k _ _ t121 1 t122 _ ?side1 ?side2 A6.out).mono ?_); (case side1 => repeat (first | exact (Kd.R_reads' HO118.out).2.2 | (with_reducible refine Kd.C_alloc ?_ _) | (with_reducible refine Kd.C_drewN ?_ _) | (with_reducible refine Kd.C_drew ?_))); (case side2 => rw [show t121.length = t116.length from (Kd.R_reads' HO118.out).1.symm]; exact (Kd.R_reads' HO118.out).2.1); rintro e w20 ⟨rfl, hb⟩; refine ⟨_, rfl, ?_⟩; have n0_ := zpS (Kd.R_below (by (with_reducible repeat (first | apply Kd.R_alloc | apply Kd.R_drewN | apply Kd.R_drew)); exact HO115.out) hb); have n1_ := zpS (Kd.R_below (by (with_reducible repeat (first | apply Kd.R_alloc | apply Kd.R_drewN | apply Kd.R_drew)); exact HO118.out) hb); have n2_ := (ns_ hb); clear HO115; clear HO118; clear HB; have HO115 := n0_; have HO118 := n1_; have HB := n2_; clear n0_ n1_ n2_; (try clear hb); (try clear hb2)) | ((with_reducible refine zgK (f := 5) rfl ?_); refine goesL_ (some 23) rfl rfl Tryd.func5 (by kernel_rfl) rfl #[] rfl (by (try simp only [List.map_toArray, List.map_cons, List.map_nil]); first | done | rfl | (simp only [List.length_drop, List.length_take]; rfl)) ?_; (with_reducible refine (zuD.calls  t123 _ ?side1 A9.out).mono ?_); (case side1 => exact LaidV.below hG bb_); rintro e w21 ⟨v124, rfl, ho0, hb⟩; refine ⟨_, rfl, ?_⟩; have n0_ := zpS (Kd.R_elder' (by (with_reducible repeat (first | apply Kd.R_alloc | apply Kd.R_drewN | apply Kd.R_drew)); exact HO115.out) (Kd.R_base ho0) hb); have n1_ := zpS (Kd.R_elder' (by (with_reducible repeat (first | apply Kd.R_alloc | apply Kd.R_drewN | apply Kd.R_drew)); exact HO118.out) (Kd.R_base ho0) hb); have n2_ := zpS (Kd.R_lower (Kd.R_new' (Kd.R_new' ho0 (Kd.R_lt (by (with_reducible repeat (first | apply Kd.R_alloc | apply Kd.R_drewN | apply Kd.R_drew)); exact HO115.out))) (Kd.R_lt (by (with_reducible repeat (first | apply Kd.R_alloc | apply Kd.R_drewN | apply Kd.R_drew)); exact HO118.out))) (below_size bb_)); have n3_ := (ns_ hb); clear HO115; clear HO118; clear HB; have HO115 := n0_; have HO118 := n1_; have HO125 := n2_; have HB := n3_; clear n0_ n1_ n2_ n3_; (try clear hb); (try clear hb2); (try clear ho0); obtain ⟨Ao22, co22, eo22⟩ := Kd.R_slice HO125.out; subst eo22) | ((with_reducible refine zgK (f := 6) rfl ?_); refine goesL_ (some 26) rfl rfl Tryd.func6 (by kernel_rfl) rfl #[.slice Ao22 t123.length co22, .slice Ao18 t113.length co18] rfl (by (try simp only [List.map_toArray, List.map_cons, List.map_nil]); first | done | rfl | (simp only [List.length_drop, List.length_take]; rfl)) ?_; (with_reducible refine (zaI.calls k _ _ t123 _ _ t113 true _ ?side1 ?side2 ?side3 ?side4 A10.out).mono ?_); (case side1 => repeat (first | exact (Kd.R_reads' HO125.out).2.2 | (with_reducible refine Kd.C_alloc ?_ _) | (with_reducible refine Kd.C_drewN ?_ _) | (with_reducible refine Kd.C_drew ?_))); (case side2 => exact (Kd.R_reads' HO125.out).2.1); (case side3 => repeat (first | exact (Kd.R_reads' HO115.out).2.2 | (with_reducible refine Kd.C_alloc ?_ _) | (with_reducible refine Kd.C_drewN ?_ _) | (with_reducible refine Kd.C_drew ?_))); (case side4 => exact (Kd.R_reads' HO115.out).2.1); rintro e w' ⟨rfl, ⟨nd, rfl⟩⟩; refine ⟨_, rfl, ?_⟩) | ((with_reducible refine zgK (f := 8) rfl ?_); refine goesL_ (some 30) rfl rfl Tryd.func8 (by kernel_rfl) rfl #[.slice Ao17 t121.length co17, .int .i64 1] rfl (by (try simp only [List.map_toArray, List.map_cons, List.map_nil]); first | done | (rw [show t121.length = t116.length from (Kd.R_reads' HO118.out).1.symm] <;> rfl) | rfl | (simp only [List.length_drop, List.length_take]; rfl)) ?_; (with_reducible refine (zvR.calls k _ _ t121 1 t127 _ ?side1 ?side2 A12.out).mono ?_); (case side1 => repeat (first | exact (Kd.R_reads' HO118.out).2.2 | (with_reducible refine Kd.C_alloc ?_ _) | (with_reducible refine Kd.C_drewN ?_ _) | (with_reducible refine Kd.C_drew ?_))); (case side2 => rw [show t121.length = t116.length from (Kd.R_reads' HO118.out).1.symm]; exact (Kd.R_reads' HO118.out).2.1); rintro e w23 ⟨rfl, hb⟩; refine ⟨_, rfl, ?_⟩; have n0_ := zpS (Kd.R_below (by (with_reducible repeat (first | apply Kd.R_alloc | apply Kd.R_drewN | apply Kd.R_drew)); exact HO115.out) hb); have n1_ := zpS (Kd.R_below (by (with_reducible repeat (first | apply Kd.R_alloc | apply Kd.R_drewN | apply Kd.R_drew)); exact HO118.out) hb); have n2_ := zpS (Kd.R_below (by (with_reducible repeat (first | apply Kd.R_alloc | apply Kd.R_drewN | apply Kd.R_drew)); exact HO125.out) hb); have n3_ := (ns_ hb); clear HO115; clear HO118; clear HO125; clear HB; have HO115 := n0_; have HO118 := n1_; have HO125 := n2_; have HB := n3_; clear n0_ n1_ n2_ n3_; (try clear hb); (try clear hb2)))
       go_ret
       exact ⟨by first | rfl | (simp [ziS, znJ] <;> rfl) | (simp [*, ziS, znJ] <;> rfl), bb_⟩
      ·rw [if_neg c14] at H
       exact absurd H (by simp)
    ·replace c11 := Bool.eq_false_iff.mpr c11
     subst c11
     have H1 : (none) = some r := by rw [if_neg (show ¬ (false = true) by decide)] at H; exact H
     clear H
     have H := H1
     clear H1
     exact absurd H (by simp)
   ·rw [if_neg c8] at H
    exact absurd H (by simp)
 ·replace c4 := Bool.eq_false_iff.mpr c4
  subst c4
  have H1 : (none) = some r := by rw [if_neg (show ¬ (false = true) by decide)] at H; exact H
  clear H
  have H := H1
  clear H1
  exact absurd H (by simp)

def laws_FnExactLibraryNames.Pure : Prop := ∃ k, laws_FnExactLibraryNames.f k  = some true

end Go.Proofs.YtaickhdobnbnoaaDoor.PFnExactLibraryNames
