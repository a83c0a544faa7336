-- Printed for this claim by this session's program pp.py, which drives the kit's print with additions. Not trusted: Lean checks it.
import Derived.Test.YtbpkbllokmplnaaS1PFnSequencesx0
import Derived.Test.YtbpkbllokmplnaaS1PFnSequencesx1
import Derived.Test.YtbpkbllokmplnaaS1PFnSequencesx2
import Derived.Test.YtbpkbllokmplnaaS1PFnSequencesx3
import Derived.Test.YtbpkbllokmplnaaS1PFnSequencesx4
namespace Go.Proofs.Ytbpkbllokmplnaa.PFnSequences
open Go.RowKit Go.Proofs.YtbpkbllokmplnaaW.PrintWords Go.Proofs.YtbpkbllokmplnaaW.PrintLast Go.Proofs.YtbpkbllokmplnaaW.PrintMore
attribute [local go_sem] max2_int min2_int max_two min_two max_three min_three max_four min_four   -- for this text's walks alone
set_option linter.unusedVariables false
set_option maxHeartbeats 8000000
set_option maxRecDepth 100000
set_option linter.unusedSimpArgs false

def ztK (k : Nat) (row : List Int) (rows : List (List Int)) : Option (List (List Int)) :=
 (zaW.f k row).bind fun s => if s = 0 then (zzN.f k row).bind fun c => (zdL.f k c row).bind fun b => if b = true then (if rows.length ≤ 1048576 then some (rows ++ [row]) else none) else some rows else some rows
theorem zgX (k : Nat) (s : Nat) (A : Option Addr) (c n : Nat) (ks : List Int) (r : Int) (W W1 : World) (hkn : ks.length = n) (hR : Kd.R (Kd.int .i64) 2 W s (fun _ => True) (.slice A n c) ks) (hQ : Below W.heap.size W W1) (h : zaW.f k ks = some r) :
  Calls Try.prog 65 #[.slice A n c] W1 fun e w' => e = .returned (.int .i64 r) ∧ Below W.heap.size W w' := by
 subst hkn
 have hC := (Kd.R_reads' (Kd.R_below hR hQ)).2
 refine (zaW.calls k A c ks r W1 hC.2 hC.1 h).mono ?_
 rintro e w' ⟨rfl, nd, rfl⟩
 exact ⟨rfl, zkZ hQ _⟩
theorem zpZ (k : Nat) (s : Nat) (A : Option Addr) (c n : Nat) (ks : List Int) (r : List Int) (W W1 : World) (hkn : ks.length = n) (hR : Kd.R (Kd.int .i64) 2 W s (fun _ => True) (.slice A n c) ks) (hQ : Below W.heap.size W W1) (h : zzN.f k ks = some r) :
  Calls Try.prog 72 #[.slice A n c] W1 fun e w' => ∃ A2 c2, e = .returned (.slice A2 r.length c2) ∧ r.length ≤ c2 ∧ Kd.C (Kd.int .i64) w' A2 r.length r ∧ Below W.heap.size W w' := by
 subst hkn
 have hC := (Kd.R_reads' (Kd.R_below hR hQ)).2
 refine (zzN.calls k (fun k_ => k_ < W1.heap.size) A c ks r W1 (Kd.V_mk hC.1 (Kd.C_F (Kd.heap_int .i64) hC.2)) h).mono ?_
 rintro e w' ⟨v, rfl, ho, hb⟩
 obtain ⟨A2, c2, rfl⟩ := Kd.R_slice ho
 exact ⟨A2, c2, rfl, (Kd.R_reads' ho).2.1, (Kd.R_reads' ho).2.2, zkR hQ hb⟩
theorem zxN (k : Nat) (s : Nat) (A A2 : Option Addr) (c n c2 n2 : Nat) (ks r : List Int) (b : Bool) (W W1 : World) (hkn : ks.length = n) (hrn : r.length = n2) (hR : Kd.R (Kd.int .i64) 2 W s (fun _ => True) (.slice A n c) ks) (hc2 : r.length ≤ c2) (hC2 : Kd.C (Kd.int .i64) W1 A2 r.length r) (hQ : Below W.heap.size W W1) (h : zdL.f k r ks = some b) :
  Calls Try.prog 77 #[.slice A2 n2 c2, .slice A n c] W1 fun e w' => e = .returned (.bool b) ∧ Below W.heap.size W w' := by
 subst hkn hrn
 have hC := (Kd.R_reads' (Kd.R_below hR hQ)).2
 refine (zdL.calls k A2 c2 r A c ks b W1 hC2 hc2 hC.2 hC.1 h).mono ?_
 rintro e w' ⟨rfl, nd, rfl⟩
 exact ⟨rfl, zkZ hQ _⟩
theorem impl_KawasakiSequences_skip (k s : Nat) (g : Addr) (A : Option Addr) (c n : Nat) (ks : List Int) (x : Int) (W : World) (hkn : ks.length = n) (hR : Kd.R (Kd.int .i64) 2 W s (fun _ => True) (.slice A n c) ks)
  (h : zaW.f k ks = some x) (hx : x ≠ 0 ∨ (x = 0 ∧ ∃ r, zzN.f k ks = some r ∧ zdL.f k r ks = some false)) :
  Calls Try.prog 81 #[.slice A n c, .pointer (some g)] W fun e w' => (∃ v0, e = .returned v0) ∧ Below W.heap.size W w' := by
 have HR := zpS hR
 have HQ := zpS (Below.refl W.heap.size W)
 have H1 := zpS h
 clear hR h
 rcases hx with hx | ⟨rfl, r, h2, h3⟩
 ·have c1 : (x == 0) = false := beq_eq_false_iff_ne.2 hx
  go_enter Try.func81, Try.ntmps81
  go_wp2_with (first
   | (go_at_call 65; refine (zgX k s A c n ks x W _ hkn HR.out HQ.out H1.out).mono ?_; rintro e w' ⟨rfl, hb⟩; clear HQ; have HQ := zpS hb; clear hb))
  exact bodyPost_end (v := .tuple #[]) (by simp [results, Try.results81, go_sem]) rfl ⟨⟨_, rfl⟩, HQ.out⟩
 ·have H2 := zpS h2
  have H3 := zpS h3
  clear h2 h3
  go_enter Try.func81, Try.ntmps81
  go_wp2_with (first
   | (go_at_call 65; refine (zgX k s A c n ks 0 W _ hkn HR.out HQ.out H1.out).mono ?_; rintro e w' ⟨rfl, hb⟩; clear HQ; have HQ := zpS hb; clear hb)
   | (go_at_call 72; refine (zpZ k s A c n ks r W _ hkn HR.out HQ.out H2.out).mono ?_; rintro e w' ⟨A2, c2, rfl, hc2, hC2, hb⟩; clear HQ; have HQ := zpS hb; have HC := zpS hC2; have HN := zpS hc2; clear hb hC2 hc2)
   | (go_at_call 77; refine (zxN k s A _ c n _ _ ks r false W _ hkn rfl HR.out HN.out HC.out HQ.out H3.out).mono ?_; rintro e w' ⟨rfl, hb⟩; clear HQ; have HQ := zpS hb; clear hb))
  exact bodyPost_end (v := .tuple #[]) (by simp [results, Try.results81, go_sem]) rfl ⟨⟨_, rfl⟩, HQ.out⟩
theorem impl_KawasakiSequences_take (k : Nat) (w W : World) (stay : Nat → Prop) (g s : Nat) (v : Value) (rows : List (List Int)) (A : Option Addr) (c n : Nat) (ks : List Int) (hkn : ks.length = n) (hB : Below w.heap.size w W) (hst : ∀ j, stay j → j < s) (hsg : stay g) (hg : w.heap.size ≤ g) (hs : s ≤ W.heap.size)
  (hb : W.heap[g]? = some (.cells #[v] 23 (0, 0))) (hS : Kd.S (Kd.slice 2 (Kd.int .i64)) 22 W w.heap.size (fun j => ¬ stay j ∧ j < s) v rows) (hR : Kd.R (Kd.int .i64) 2 W s (fun _ => True) (.slice A n c) ks) (hl : rows.length ≤ 1048576)
  (h1 : zaW.f k ks = some 0) (r : List Int) (h2 : zzN.f k ks = some r) (h3 : zdL.f k r ks = some true) :
  Calls Try.prog 81 #[.slice A n c, .pointer (some ⟨g, 0, none⟩)] W fun e w' => (∃ v0, e = .returned v0) ∧ ∃ v', Below w.heap.size w w' ∧ w'.heap[g]? = some (.cells #[v'] 23 (0, 0)) ∧ Kd.S (Kd.slice 2 (Kd.int .i64)) 22 w' w.heap.size (fun j => ¬ stay j) v' (rows ++ [ks]) ∧ (∀ j, stay j → j ≠ g → w'.heap[j]? = W.heap[j]?) ∧ W.heap.size ≤ w'.heap.size := by
 subst hkn
 obtain ⟨Av, cv, rfl⟩ := Kd.S_slice hS
 have HB := zpS hB
 have BK := zpS hb
 have HS := zpS hS
 have HR := zpS hR
 have HG := zpS hg
 have HST := zpS hst
 have HSG := zpS hsg
 have HSZ := zpS hs
 have HL := zpS hl
 have HQ := zpS (Below.refl W.heap.size W)
 have H1 := zpS h1
 have H2 := zpS h2
 have H3 := zpS h3
 clear hB hb hS hR hg hst hsg hs hl h1 h2 h3
 go_enter Try.func81, Try.ntmps81
 go_wp2_with (first
   | (go_at_call 65; refine (zgX k s A c _ ks 0 W _ rfl HR.out HQ.out H1.out).mono ?_; rintro e w' ⟨rfl, hb⟩; clear HQ; have HQ := zpS hb; clear hb)
   | (go_at_call 72; refine (zpZ k s A c _ ks r W _ rfl HR.out HQ.out H2.out).mono ?_; rintro e w' ⟨A2, c2, rfl, hc2, hC2, hb⟩; clear HQ; have HQ := zpS hb; have HC := zpS hC2; have HN := zpS hc2; clear hb hC2 hc2)
   | (go_at_call 77; refine (zxN k s A _ c _ _ _ ks r true W _ rfl rfl HR.out HN.out HC.out HQ.out H3.out).mono ?_; rintro e w2 ⟨rfl, hb⟩; clear HQ HC HN; have HQ := zpS hb; clear hb; have BK2 := zpS (zgM BK.out HQ.out); have HS2 := zpS (Kd.S_below HS.out HQ.out); have HR2 := zpS (Kd.R_below HR.out HQ.out); have HB2 := zpS (zkR HB.out HQ.out); have HQZ := zpS (zuA HQ.out); have HOWN := zpS (Kd.S_R HS2.out).1; have hc : w2.cell? ⟨g, 0, none⟩ = some (.slice Av rows.length cv) := (zzS BK2.out 0).trans rfl; have hf := zjG BK2.out 0; have HGS := zpS (HST.out g HSG.out))
   | ((with_reducible refine zcL (b := .append) (xs := #[.tmp 12, .tmp 14]) rfl ?_); at_builtin; refine Kd.S_append (Kd.slice 2 (Kd.int .i64)) (w0 := w) w.heap.size rfl (.tmp 12) (.tmp 14) 23 22 (.slice none 0 0) 24 rfl Try.underlying23 info22 rfl (by decide) (by omega) (.slice Av rows.length cv) rows ks [.slice A ks.length c] (fun j => ¬ stay j) (fun j => s ≤ j) rfl rfl ?aP ?aK ?aF ?aO ?aB ?aS ?aL ?_; (case aP => exact Kd.M_row (Kd.R_mono (Kd.R_lower (Kd.R_bound HR2.out) (Nat.le_of_lt (Nat.lt_of_le_of_lt HG.out HGS.out))) (fun _ hk => hk.2.1))); (case aK => exact fun j hj => ⟨fun e => by have := HST.out j e; omega, fun e => by have := (HOWN.out j e.symm).2; omega⟩); (case aF => exact fun j hj e => by have := HST.out j e; have := HSZ.out; have := HQZ.out; omega); (case aO => exact Kd.S_mono HS2.out (fun j hj => ⟨hj.1, by have := hj.2; omega⟩)); (case aB => exact HB2.out); (case aS => exact zuA HB2.out); (case aL => have := HL.out; omega); intro v1 w1 ho hb1 hgr hat; obtain ⟨A1, c1, rfl⟩ := Kd.S_slice ho; have n0_ := zpS (blk_grown BK2.out hgr (fun e => (HOWN.out g e.symm).1 HSG.out)); have n1_ := zpS hb1; have n2_ := zpS ho; have KP := zpS (show ∀ j, stay j → w1.heap[j]? = W.heap[j]? from fun j hj => by
  have hjW : j < W.heap.size := Nat.lt_of_lt_of_le (HST.out j hj) HSZ.out
  have hj2 : j < w2.heap.size := Nat.lt_of_lt_of_le hjW HQZ.out
  exact (hgr.block j hj2 (fun e => (HOWN.out j e.symm).1 hj)).trans (HQ.out.block j hjW)); have SZ1 := zpS (show W.heap.size ≤ w1.heap.size from Nat.le_trans HQZ.out hgr.size); clear HB2 BK2 HS2 HR2 HQ ho hb1 hgr hat; have HB2 := n1_; have BK2 := n0_; have HS2 := n2_; clear n0_ n1_ n2_; have hc1 : w1.cell? ⟨g, 0, none⟩ = some (.slice Av rows.length cv) := (zzS BK2.out 0).trans rfl; have hf1 := zjG BK2.out 0))
 have HSGG := HSG.out
 refine bodyPost_end (v := .tuple #[]) (by simp [results, Try.results81, go_sem]) rfl ?_
 refine ⟨⟨_, rfl⟩, .slice A1 (rows.length + 1) c1, zjF HB2.out HG.out, blk_put BK2.out 0 _ rfl, ?_, fun j hj hjg => (Below.heap_setCell _ _ _ j hjg).trans (KP.out j hj), by simpa [World.setCell] using SZ1.out⟩
 have h_ := Kd.S_far HS2.out (p := ⟨g, 0, none⟩) (fun j hj e => hj (by have e : j = g := e; rw [e]; exact HSGG)) (.slice A1 (rows.length + 1) c1)
 have hl_ : (rows ++ [ks]).length = rows.length + 1 := by simp
 rw [hl_] at h_
 exact h_
theorem zpC (k : Nat) (w W : World) (stay : Nat → Prop) (g s : Nat) (v : Value) (rows rows' : List (List Int)) (A : Option Addr) (c n : Nat) (ks : List Int) (hkn : ks.length = n) (hB : Below w.heap.size w W) (hst : ∀ j, stay j → j < s) (hsg : stay g) (hg : w.heap.size ≤ g) (hs : s ≤ W.heap.size)
  (hb : W.heap[g]? = some (.cells #[v] 23 (0, 0))) (hS : Kd.S (Kd.slice 2 (Kd.int .i64)) 22 W w.heap.size (fun j => ¬ stay j ∧ j < s) v rows) (hR : Kd.R (Kd.int .i64) 2 W s (fun _ => True) (.slice A n c) ks) (h : ztK k ks rows = some rows') :
  Calls Try.prog 81 #[.slice A n c, .pointer (some ⟨g, 0, none⟩)] W fun e w' => (∃ v0, e = .returned v0) ∧ ∃ v', Below w.heap.size w w' ∧ w'.heap[g]? = some (.cells #[v'] 23 (0, 0)) ∧ Kd.S (Kd.slice 2 (Kd.int .i64)) 22 w' w.heap.size (fun j => ¬ stay j) v' rows' ∧ (∀ j, stay j → j ≠ g → w'.heap[j]? = W.heap[j]?) ∧ W.heap.size ≤ w'.heap.size := by
 unfold ztK at h
 obtain ⟨x, h1, h⟩ := Option.bind_eq_some_iff.mp h
 have skip : (x ≠ 0 ∨ (x = 0 ∧ ∃ r, zzN.f k ks = some r ∧ zdL.f k r ks = some false)) → rows = rows' → Calls Try.prog 81 #[.slice A n c, .pointer (some ⟨g, 0, none⟩)] W fun e w' => (∃ v0, e = .returned v0) ∧ ∃ v', Below w.heap.size w w' ∧ w'.heap[g]? = some (.cells #[v'] 23 (0, 0)) ∧ Kd.S (Kd.slice 2 (Kd.int .i64)) 22 w' w.heap.size (fun j => ¬ stay j) v' rows' ∧ (∀ j, stay j → j ≠ g → w'.heap[j]? = W.heap[j]?) ∧ W.heap.size ≤ w'.heap.size := fun hx hr => by
  subst hr
  refine (impl_KawasakiSequences_skip k s ⟨g, 0, none⟩ A c n ks x W hkn hR h1 hx).mono ?_
  rintro e w' ⟨hv, hb2⟩
  exact ⟨hv, v, zkR hB hb2, zgM hb hb2, Kd.S_mono (Kd.S_below hS hb2) (fun j hj => hj.1), fun j hj _ => hb2.block j (Nat.lt_of_lt_of_le (hst j hj) hs), hb2.size⟩
 by_cases hx : x = 0
 ·rw [if_pos hx] at h
  subst hx
  obtain ⟨r, h2, h⟩ := Option.bind_eq_some_iff.mp h
  obtain ⟨b, h3, h⟩ := Option.bind_eq_some_iff.mp h
  cases b with
  | true =>
   rw [if_pos rfl] at h
   by_cases hl : rows.length ≤ 1048576
   ·rw [if_pos hl] at h
    obtain rfl := Option.some.inj h
    exact impl_KawasakiSequences_take k w W stay g s v rows A c n ks hkn hB hst hsg hg hs hb hS hR hl h1 r h2 h3
   ·rw [if_neg hl] at h; cases h
  | false =>
   rw [if_neg (by simp)] at h
   exact skip (Or.inr ⟨rfl, r, h2, h3⟩) (Option.some.inj h)
 ·rw [if_neg hx] at h
  exact skip (Or.inl hx) (Option.some.inj h)
def zsB (f : Int → List (List Int) → Option (List (List Int))) : Nat → Int → List (List Int) → Option (List (List Int))
 | 0, _, rows => some rows
 | d + 1, x, rows => (f x rows).bind fun rows => zsB f d (x + 1) rows
def zqL (k : Nat) (n : Int) : Nat → List Int → Int → List (List Int) → Option (List (List Int))
 | 0, _, _, _ => none
 | f + 1, pre, left, rows => if (pre.length : Int) = n - 1 then ztK k (pre ++ [left]) rows else zsB (fun x rows => zqL k n f (pre ++ [x]) (left - x) rows) (left - (n - 1 - (pre.length : Int))).toNat 1 rows
theorem zvT (s : Nat) (A : Option Addr) (c : Nat) (ks : List Int) (W W1 : World) (hR : Kd.R (Kd.int .i64) 2 W s (fun _ => True) (.slice A ks.length c) ks) (hl : ks.length ≤ 100) (hQ : Below W.heap.size W W1) :
  Calls Try.prog 98 #[.slice A ks.length c] W1 fun e w' => ∃ A2 c2, e = .returned (.slice A2 ks.length c2) ∧ Kd.R (Kd.int .i64) 2 w' W.heap.size (fun _ => True) (.slice A2 ks.length c2) ks ∧ Below W.heap.size W w' ∧ Below W1.heap.size W1 w' := by
 have hC := (Kd.R_reads' (Kd.R_below hR hQ)).2
 refine (zzO.calls A c ks ks W1 hC.2 hC.1 (by unfold zzO.f; rw [if_pos (by omega)])).mono ?_
 rintro e w' ⟨v, rfl, ho, hb⟩
 obtain ⟨A2, c2, rfl⟩ := Kd.R_slice ho
 exact ⟨A2, c2, rfl, Kd.R_lower ho hQ.size, zkR hQ hb, hb⟩
theorem zxZ (A : Option Addr) (c : Nat) (ks : List Int) (w : World) (hC : Kd.C (Kd.int .i64) w A ks.length ks) (hc : ks.length ≤ c) :
  Calls Try.prog 61 #[.slice A ks.length c] w fun e w' => e = .returned (.int .i64 (ks.length : Int)) ∧ ∃ m, w' = w.drewN m :=
 (impl_length_int64.calls A c ks _ w hC hc rfl).mono (by rintro e w' ⟨rfl, nd, rfl⟩; exact ⟨rfl, nd, rfl⟩)
theorem impl_KawasakiSequences_leaf (k : Nat) (n left : Int) (w W : World) (stay : Nat → Prop) (g bn bd bw s : Nat) (v : Value) (rows rows' : List (List Int)) (A : Option Addr) (c : Nat) (pre : List Int) (hn0 : 2 ≤ n) (hn1 : n ≤ 16) (hpl : (pre.length : Int) = n - 1) (hB : Below w.heap.size w W) (hst : ∀ j, stay j → j < s) (hsg : stay g) (hsd : stay bd) (hne : bd ≠ g) (hg : w.heap.size ≤ g) (hs : s ≤ W.heap.size)
  (hb : W.heap[g]? = some (.cells #[v] 23 (0, 0))) (hbn : W.heap[bn]? = some (.cells #[.int .i64 n] 2 (0, 0))) (hbd : W.heap[bd]? = some (.cells #[.func (.func 81) #[] #[.pointer (some ⟨g, 0, none⟩)]] 61 (0, 0)))
  (hS : Kd.S (Kd.slice 2 (Kd.int .i64)) 22 W w.heap.size (fun j => ¬ stay j ∧ j < s) v rows) (hR : Kd.R (Kd.int .i64) 2 W s (fun _ => True) (.slice A pre.length c) pre) (h : ztK k (pre ++ [left]) rows = some rows') :
  Calls Try.prog 106 #[.slice A pre.length c, .int .i64 left, .pointer (some ⟨bn, 0, none⟩), .pointer (some ⟨bd, 0, none⟩), .pointer (some ⟨bw, 0, none⟩)] W fun e w' => (∃ v0, e = .returned v0) ∧ ∃ v', Below w.heap.size w w' ∧ w'.heap[g]? = some (.cells #[v'] 23 (0, 0)) ∧ Kd.S (Kd.slice 2 (Kd.int .i64)) 22 w' w.heap.size (fun j => ¬ stay j) v' rows' ∧ (∀ j, stay j → j ≠ g → w'.heap[j]? = W.heap[j]?) ∧ W.heap.size ≤ w'.heap.size := by
 have hcn : W.cell? ⟨bn, 0, none⟩ = some (.int .i64 n) := (zzS hbn 0).trans rfl
 have hw1 : IntKind.i64.wrap (n - 1) = n - 1 := by rw [IntKind.wrap_i64]; omega
 have hC := (Kd.R_reads' hR).2
 have HC := zpS hC
 have ce : (((pre.length : Nat) : Int) == n - 1) = true := beq_iff_eq.2 hpl
 go_enter Try.func106, Try.ntmps106
 go_wp2
 go_quiet (first | (go_at_call 61; refine Calls.quiet_of (zxZ A c pre _ HC.out.2 HC.out.1)))
 go_wp2
 have hcd : (W.drewN nq).cell? ⟨bd, 0, none⟩ = some (.func (.func 81) #[] #[.pointer (some ⟨g, 0, none⟩)]) := (zzS hbd 0).trans rfl
 have HCD := zpS (show W.cell? ⟨bd, 0, none⟩ = some (.func (.func 81) #[] #[.pointer (some ⟨g, 0, none⟩)]) from (zzS hbd 0).trans rfl)
 have HQ1 := zpS (show Below W.heap.size W (W.drewN nq).drew from zvF (zkZ (Below.refl _ _) _))
 generalize W.drewN nq = W1 at HQ1 hcd ⊢
 have HR := zpS hR
 have HPL := zpS (show pre.length ≤ 100 by omega)
 refine start_ (n := 7) (S := fun w' => w'.cell? ⟨bd, 0, none⟩ = some (.func (.func 81) #[] #[.pointer (some ⟨g, 0, none⟩)])) (ds := []) #[false, false, false, false, false, false, false] (by kernel_rfl) rfl rfl hcd (fun hHeld => ?_)
 generalize W1.drew = w2 at HQ1 hHeld ⊢
 have HQ := zpS HQ1.out
 refine pure_ (i := 1) (N := some 14) (v := ?_) (a' := ?_) (bl_ 7 2) rfl rfl (by kernel_rfl) (fun _ _ _ h => h) (Or.inl ⟨by rfl, ?_⟩) ?_ ?_
 rotate_left
 ·intro w'
  go_simp
  with_reducible rfl
 rotate_left
 ·simp only [Act.put, List.setIfInBounds_toArray, List.set_cons_zero, List.set_cons_succ, zcM, ziJ]
  rfl
 refine pure_ (i := 3) (N := some 16) (v := ?_) (a' := ?_) (bl_ 7 10) rfl rfl (by kernel_rfl) (fun _ _ _ h => h) (Or.inl ⟨by rfl, ?_⟩) ?_ ?_
 rotate_left
 ·intro w'
  go_simp
  with_reducible rfl
 rotate_left
 ·simp only [Act.put, List.setIfInBounds_toArray, List.set_cons_zero, List.set_cons_succ, zcM, ziJ]
  rfl
 refine take_ (i := 0) (N := some 13) (v := ?_) (a' := ?_) (bl_ 7 11) rfl rfl (by kernel_rfl) (fun _ _ _ h => h) (Or.inl ⟨by rfl, ?_⟩) hHeld ?_ ?_
 rotate_left
 ·rintro w' s0
  go_simp
  with_reducible rfl
 rotate_left
 ·simp only [Act.put, List.setIfInBounds_toArray, List.set_cons_zero, List.set_cons_succ, zcM, ziJ]
  rfl
 refine two_ (i := 2) (j := 4) (Ni := some 15) (Nj := some 17) (bl_ 7 15) (bl_ 7 27) rfl rfl rfl rfl (by kernel_rfl) (by decide) (by decide) (fun K hK => ?_) (fun K hK => ?_)
 ·refine goes_ Try.func98 (by kernel_rfl) rfl #[.slice A pre.length c] (by rfl) rfl rfl (by (try simp only [List.map_toArray, List.map_cons, List.map_nil]); first | done | rfl) ?_
  refine (zvT s A c pre W _ HR.out HPL.out HQ.out).mono ?_
  rintro e w5 ⟨A5, c5, rfl, ho, hb, hb2⟩
  refine ⟨_, rfl, ?_⟩
  have HO5 := zpS ho
  have SX := zpS (show _ = _ from (hb.cell (World.block_lt_of_cell? _ _ HCD.out)).trans HCD.out)
  skip
  clear HQ
  have HQ := zpS hb
  clear ho hb hb2
  refine hK.out _ _ SX.out (fun hHeld => ?_)
  clear hK K SX
  refine norm_ (a' := ?_) ?_ ?_
  rotate_left
  ·show Act.put _ (some 15) _ = _
   simp only [Act.put, List.setIfInBounds_toArray, List.set_cons_zero, List.set_cons_succ, zcM, ziJ]
   rfl
  refine one_ (i := 4) (N := some 17) (bl_ 7 31) rfl rfl (by kernel_rfl) (by decide) (fun K hK => ?_)
  refine Kd.R_lit_step (Kd.int .i64) W.heap.size 2 (w0 := W) ?hg (N := 17) ?hd (xs := ([left] : List Int)) (zlR := [.int .i64 (left)]) (ok := fun _ => True) (okp := fun _ => True) ?hr ?hp (fun _ hk => hk) trivial HQ.out HQ.out.size (by simp) ?_; (case hd => rfl); (case hg => rfl); (case hr => first | (go_simp; done) | (go_simp; rfl)); (case hp => exact (zfI.one (show Kd.M (Kd.int .i64) _ _ _ (left) [.int .i64 (left)] from rfl) (zfI.none _ _)))
  intro v7 w7 ho hb hgr hat
  obtain ⟨A7, c7, rfl⟩ := Kd.R_slice ho
  have HO7 := zpS ho
  have SX := zpS (show _ = _ from (hb.cell (World.block_lt_of_cell? _ _ HCD.out)).trans HCD.out)
  have n_ := zpS (Kd.R_grown HO5.out hgr (fun _ _ => by simp))
  clear HO5
  have HO5 := n_
  clear n_
  clear HQ
  have HQ := zpS hb
  clear ho hb hgr hat
  refine hK.out _ _ SX.out (fun hHeld => ?_)
  clear hK K SX
  refine norm_ (a' := ?_) ?_ ?_
  rotate_left
  ·show Act.put _ (some 17) _ = _
   simp only [Act.put, List.setIfInBounds_toArray, List.set_cons_zero, List.set_cons_succ, zcM, ziJ]
   rfl
  refine one_ (i := 5) (N := some 18) (bl_ 7 63) rfl rfl (by kernel_rfl) (by decide) (fun K hK => ?_)
  refine Kd.R_append_rows_step (Kd.int .i64) (w0 := W) W.heap.size ?hw (.tmp 15) (.tmp 17) 22 2 (.int .i64 0) 8 ?ho Try.underlying22 info2 rfl (by decide) (by omega) (.slice A5 pre.length c5) pre [left] A7 1 c7 (fun _ => True) (fun _ => False) ?hs ?hx HO5.out ((Kd.R_reads' HO7.out).2.2) (fun _ _ h => h) (fun _ h => h.elim) (fun _ _ => trivial) HQ.out HQ.out.size (by have := HPL.out; omega) ?_; (case hw => rfl); (case ho => rfl); (case hs => rfl); (case hx => rfl)
  intro v8 w8 ho hb hgr hat
  obtain ⟨A8, c8, rfl⟩ := Kd.R_slice ho
  have HO8 := zpS ho
  have SX := zpS (show _ = _ from (hb.cell (World.block_lt_of_cell? _ _ HCD.out)).trans HCD.out)
  clear HQ HO5 HO7
  have HQ := zpS hb
  clear ho hb hgr hat
  refine hK.out _ _ SX.out (fun hHeld => ?_)
  clear hK K SX
  refine norm_ (a' := ?_) ?_ ?_
  rotate_left
  ·show Act.put _ (some 18) _ = _
   simp only [Act.put, List.setIfInBounds_toArray, List.set_cons_zero, List.set_cons_succ, zcM, ziJ]
   rfl
  refine one_ (i := 6) (N := some 19) (bl_ 7 127) rfl rfl (by kernel_rfl) (by decide) (fun K hK => ?_)
  refine call_ 81 #[.slice A8 (pre ++ [left]).length c8, .pointer (some ⟨g, 0, none⟩)] rfl rfl ?hrun ?_
  case hrun =>
   have he := enters_ (P := Try.prog) Try.func81 (by kernel_rfl) rfl #[.slice A8 (pre ++ [left]).length c8, .pointer (some ⟨g, 0, none⟩)] w8
   unfold execOp
   simp [resolve, Deferred.ofValue, invoke, Act.eval, he]
  refine (zpC k w _ stay g s v rows rows' A8 c8 _ (pre ++ [left]) rfl (zkR hB HQ.out) hst hsg hg (Nat.le_trans hs HQ.out.size) (zgM hb HQ.out) (Kd.S_below hS HQ.out) (Kd.R_lower HO8.out hs) h).mono ?_
  rintro e w9 ⟨⟨v0, rfl⟩, v', q1, q2, q3, q4, q5⟩
  refine ⟨_, rfl, ?_⟩
  refine hK.out _ _ ((show _ = _ from (World.cell?_of_block (q4 bd hsd hne)).trans hHeld)) (fun hHeld => ?_)
  clear hK K
  refine done_ (by kernel_rfl) ?_
  go_wp2
  refine bodyPost_ret (v := .tuple #[]) (by simp [results, Try.results106, go_sem]) rfl ?_
  exact ⟨⟨_, rfl⟩, v', q1, q2, q3, fun j hj hjg => (q4 j hj hjg).trans (HQ.out.block j (Nat.lt_of_lt_of_le (hst j hj) hs)), Nat.le_trans HQ.out.size q5⟩
 ·refine Kd.R_lit_step (Kd.int .i64) W.heap.size 2 (w0 := W) ?hg (N := 17) ?hd (xs := ([left] : List Int)) (zlR := [.int .i64 (left)]) (ok := fun _ => True) (okp := fun _ => True) ?hr ?hp (fun _ hk => hk) trivial HQ.out HQ.out.size (by simp) ?_; (case hd => rfl); (case hg => rfl); (case hr => first | (go_simp; done) | (go_simp; rfl)); (case hp => exact (zfI.one (show Kd.M (Kd.int .i64) _ _ _ (left) [.int .i64 (left)] from rfl) (zfI.none _ _)))
  intro v7 w7 ho hb hgr hat
  obtain ⟨A7, c7, rfl⟩ := Kd.R_slice ho
  have HO7 := zpS ho
  have SX := zpS (show _ = _ from (hb.cell (World.block_lt_of_cell? _ _ HCD.out)).trans HCD.out)
  skip
  clear HQ
  have HQ := zpS hb
  clear ho hb hgr hat
  refine hK.out _ _ SX.out (fun hHeld => ?_)
  clear hK K SX
  refine norm_ (a' := ?_) ?_ ?_
  rotate_left
  ·show Act.put _ (some 17) _ = _
   simp only [Act.put, List.setIfInBounds_toArray, List.set_cons_zero, List.set_cons_succ, zcM, ziJ]
   rfl
  refine one_ (i := 2) (N := some 15) (bl_ 7 31) rfl rfl (by kernel_rfl) (by decide) (fun K hK => ?_)
  refine goes_ Try.func98 (by kernel_rfl) rfl #[.slice A pre.length c] (by rfl) rfl rfl (by (try simp only [List.map_toArray, List.map_cons, List.map_nil]); first | done | rfl) ?_
  refine (zvT s A c pre W _ HR.out HPL.out HQ.out).mono ?_
  rintro e w5 ⟨A5, c5, rfl, ho, hb, hb2⟩
  refine ⟨_, rfl, ?_⟩
  have HO5 := zpS ho
  have SX := zpS (show _ = _ from (hb.cell (World.block_lt_of_cell? _ _ HCD.out)).trans HCD.out)
  have n_ := zpS (Kd.R_below HO7.out hb2)
  clear HO7
  have HO7 := n_
  clear n_
  clear HQ
  have HQ := zpS hb
  clear ho hb hb2
  refine hK.out _ _ SX.out (fun hHeld => ?_)
  clear hK K SX
  refine norm_ (a' := ?_) ?_ ?_
  rotate_left
  ·show Act.put _ (some 15) _ = _
   simp only [Act.put, List.setIfInBounds_toArray, List.set_cons_zero, List.set_cons_succ, zcM, ziJ]
   rfl
  refine one_ (i := 5) (N := some 18) (bl_ 7 63) rfl rfl (by kernel_rfl) (by decide) (fun K hK => ?_)
  refine Kd.R_append_rows_step (Kd.int .i64) (w0 := W) W.heap.size ?hw (.tmp 15) (.tmp 17) 22 2 (.int .i64 0) 8 ?ho Try.underlying22 info2 rfl (by decide) (by omega) (.slice A5 pre.length c5) pre [left] A7 1 c7 (fun _ => True) (fun _ => False) ?hs ?hx HO5.out ((Kd.R_reads' HO7.out).2.2) (fun _ _ h => h) (fun _ h => h.elim) (fun _ _ => trivial) HQ.out HQ.out.size (by have := HPL.out; omega) ?_; (case hw => rfl); (case ho => rfl); (case hs => rfl); (case hx => rfl)
  intro v8 w8 ho hb hgr hat
  obtain ⟨A8, c8, rfl⟩ := Kd.R_slice ho
  have HO8 := zpS ho
  have SX := zpS (show _ = _ from (hb.cell (World.block_lt_of_cell? _ _ HCD.out)).trans HCD.out)
  clear HQ HO5 HO7
  have HQ := zpS hb
  clear ho hb hgr hat
  refine hK.out _ _ SX.out (fun hHeld => ?_)
  clear hK K SX
  refine norm_ (a' := ?_) ?_ ?_
  rotate_left
  ·show Act.put _ (some 18) _ = _
   simp only [Act.put, List.setIfInBounds_toArray, List.set_cons_zero, List.set_cons_succ, zcM, ziJ]
   rfl
  refine one_ (i := 6) (N := some 19) (bl_ 7 127) rfl rfl (by kernel_rfl) (by decide) (fun K hK => ?_)
  refine call_ 81 #[.slice A8 (pre ++ [left]).length c8, .pointer (some ⟨g, 0, none⟩)] rfl rfl ?hrun ?_
  case hrun =>
   have he := enters_ (P := Try.prog) Try.func81 (by kernel_rfl) rfl #[.slice A8 (pre ++ [left]).length c8, .pointer (some ⟨g, 0, none⟩)] w8
   unfold execOp
   simp [resolve, Deferred.ofValue, invoke, Act.eval, he]
  refine (zpC k w _ stay g s v rows rows' A8 c8 _ (pre ++ [left]) rfl (zkR hB HQ.out) hst hsg hg (Nat.le_trans hs HQ.out.size) (zgM hb HQ.out) (Kd.S_below hS HQ.out) (Kd.R_lower HO8.out hs) h).mono ?_
  rintro e w9 ⟨⟨v0, rfl⟩, v', q1, q2, q3, q4, q5⟩
  refine ⟨_, rfl, ?_⟩
  refine hK.out _ _ ((show _ = _ from (World.cell?_of_block (q4 bd hsd hne)).trans hHeld)) (fun hHeld => ?_)
  clear hK K
  refine done_ (by kernel_rfl) ?_
  go_wp2
  refine bodyPost_ret (v := .tuple #[]) (by simp [results, Try.results106, go_sem]) rfl ?_
  exact ⟨⟨_, rfl⟩, v', q1, q2, q3, fun j hj hjg => (q4 j hj hjg).trans (HQ.out.block j (Nat.lt_of_lt_of_le (hst j hj) hs)), Nat.le_trans HQ.out.size q5⟩
set_option maxHeartbeats 16000000 in
theorem impl_KawasakiSequences_walk (k : Nat) (n : Int) (hn0 : 2 ≤ n) (hn1 : n ≤ 16) : ∀ (f : Nat) (w W : World) (stay : Nat → Prop) (g bn bd bw s : Nat) (v : Value) (rows rows' : List (List Int)) (A : Option Addr) (c : Nat) (pre : List Int) (left : Int), (pre.length : Int) ≤ n - 1 → 0 ≤ left → left ≤ 16 → Below w.heap.size w W → (∀ j, stay j → j < s) → stay g → stay bn → stay bd → stay bw → bn ≠ g → bd ≠ g → bw ≠ g → w.heap.size ≤ g → s ≤ W.heap.size →
  W.heap[g]? = some (.cells #[v] 23 (0, 0)) → W.heap[bn]? = some (.cells #[.int .i64 n] 2 (0, 0)) → W.heap[bd]? = some (.cells #[.func (.func 81) #[] #[.pointer (some ⟨g, 0, none⟩)]] 61 (0, 0)) →
  W.heap[bw]? = some (.cells #[.func (.func 106) #[] #[.pointer (some ⟨bn, 0, none⟩), .pointer (some ⟨bd, 0, none⟩), .pointer (some ⟨bw, 0, none⟩)]] 95 (0, 0)) →
  Kd.S (Kd.slice 2 (Kd.int .i64)) 22 W w.heap.size (fun j => ¬ stay j ∧ j < s) v rows → Kd.R (Kd.int .i64) 2 W s (fun _ => True) (.slice A pre.length c) pre → zqL k n f pre left rows = some rows' →
  Calls Try.prog 106 #[.slice A pre.length c, .int .i64 left, .pointer (some ⟨bn, 0, none⟩), .pointer (some ⟨bd, 0, none⟩), .pointer (some ⟨bw, 0, none⟩)] W fun e w' => (∃ v0, e = .returned v0) ∧ ∃ v', Below w.heap.size w w' ∧ w'.heap[g]? = some (.cells #[v'] 23 (0, 0)) ∧ Kd.S (Kd.slice 2 (Kd.int .i64)) 22 w' w.heap.size (fun j => ¬ stay j) v' rows' ∧ (∀ j, stay j → j ≠ g → w'.heap[j]? = W.heap[j]?) ∧ W.heap.size ≤ w'.heap.size := by
 intro f
 induction f with
 | zero => intro w W stay g bn bd bw s v rows rows' A c pre left _ _ _ _ _ _ _ _ _ _ _ _ _ _ _ _ _ _ _ _ h; cases h
 | succ f ih =>
 intro w W stay g bn bd bw s v rows rows' A c pre left hpl hl0 hl1 hB hst hsg hsn hsd hsw hng hdg hwg hg hs hb hbn hbd hbw hS hR h
 unfold zqL at h
 by_cases hleaf : (pre.length : Int) = n - 1
 ·rw [if_pos hleaf] at h
  exact impl_KawasakiSequences_leaf k n left w W stay g bn bd bw s v rows rows' A c pre hn0 hn1 hleaf hB hst hsg hsd hdg hg hs hb hbn hbd hS hR h
 rw [if_neg hleaf] at h
 obtain ⟨D, hD⟩ : ∃ D : Nat, D = (left - (n - 1 - (pre.length : Int))).toNat := ⟨_, rfl⟩
 rw [← hD] at h
 have HLF0 := zpS h
 have HD := zpS hD
 have HR := zpS hR
 have HST := zpS hst
 have HSG := zpS hsg
 have HPL := zpS (show pre.length ≤ 100 by omega)
 have LT := zpS (show ∀ j, (stay j ∨ (s ≤ j ∧ j < W.heap.size)) → j < W.heap.size from fun j hj => hj.elim (fun h1 => Nat.lt_of_lt_of_le (hst j h1) hs) (fun h1 => h1.2))
 have hC := (Kd.R_reads' hR).2
 have HC := zpS hC
 have hcn : W.cell? ⟨bn, 0, none⟩ = some (.int .i64 n) := (zzS hbn 0).trans rfl
 have HS0 := zpS (show Kd.S (Kd.slice 2 (Kd.int .i64)) 22 W w.heap.size (fun j => ¬ (stay j ∨ (s ≤ j ∧ j < W.heap.size))) v rows from Kd.S_mono hS (fun j hj hh => hh.elim hj.1 (fun h1 => by have := hj.2; omega)))
 have hw1 : IntKind.i64.wrap (n - 1) = n - 1 := by rw [IntKind.wrap_i64]; omega
 have ce : (((pre.length : Nat) : Int) == n - 1) = false := beq_eq_false_iff_ne.2 hleaf
 clear hst hsg hR hC hS h hD
 go_enter Try.func106, Try.ntmps106
 go_wp2
 go_quiet (first | (go_at_call 61; refine Calls.quiet_of (zxZ A c pre _ HC.out.2 HC.out.1)))
 go_wp2
 have HW0 := zpS (show Below W.heap.size W (W.drewN nq) from zkZ (Below.refl _ _) _)
 generalize W.drewN nq = W0 at HW0 ⊢
 clear hcn HC
 go_loopg [7] D (fun kq v7 wx => ∃ (x : Int) (v2 : Value) (rows2 : List (List Int)), v7 = .int .i64 x ∧ Aside0 (x + kq = D + 1 ∧ 1 ≤ x) ∧ Aside0 (zsB (fun x rows => zqL k n f (pre ++ [x]) (left - x) rows) kq x rows2 = some rows') ∧ Aside0 (Below w.heap.size w wx) ∧ Aside0 (wx.heap[g]? = some (.cells #[v2] 23 (0, 0))) ∧ Aside0 (Kd.S (Kd.slice 2 (Kd.int .i64)) 22 wx w.heap.size (fun j => ¬ (stay j ∨ (s ≤ j ∧ j < W.heap.size))) v2 rows2) ∧ Aside0 (∀ j, (stay j ∨ (s ≤ j ∧ j < W.heap.size)) → j ≠ g → wx.heap[j]? = W.heap[j]?) ∧ Aside0 (W.heap.size ≤ wx.heap.size))
 case atStart => exact ⟨1, v, rows, rfl, ⟨by omega⟩, HLF0, ⟨zkR hB HW0.out⟩, ⟨zgM hb HW0.out⟩, ⟨Kd.S_below HS0.out HW0.out⟩, ⟨fun j hj _ => HW0.out.block j (LT.out j hj)⟩, ⟨HW0.out.size⟩⟩
 case round =>
 obtain ⟨x, v2, rows2, rfl, HXK, HLF, HB, BK, HS, KP, SZ⟩ := hrel
 have hcn : wr.cell? ⟨bn, 0, none⟩ = some (.int .i64 n) := (zzS ((KP.out bn (Or.inl hsn) hng).trans hbn) 0).trans rfl
 have HRW := zpS (show Kd.R (Kd.int .i64) 2 wr s (fun _ => True) (.slice A pre.length c) pre from Kd.R_mono (Kd.R_step (Kd.R_bound HR.out) (fun j hj hlt => KP.out j (Or.inr ⟨hj.2.1, hlt⟩) (fun e => by have := HST.out g HSG.out; have := hj.2.1; omega))) (fun _ _ => trivial))
 have HC := zpS (Kd.R_reads' HRW.out).2
 have hxk := HXK.out
 have hdd := HD.out
 have hw2 : IntKind.i64.wrap (n - 1 - (pre.length : Int)) = n - 1 - (pre.length : Int) := by rw [IntKind.wrap_i64]; omega
 have hw3 : IntKind.i64.wrap (left - (n - 1 - (pre.length : Int))) = left - (n - 1 - (pre.length : Int)) := by rw [IntKind.wrap_i64]; omega
 by_cases hx : x ≤ left - (n - 1 - (pre.length : Int))
 ·have cx : decide (x ≤ left - (n - 1 - (pre.length : Int))) = true := decide_eq_true hx
  obtain ⟨d, rfl⟩ : ∃ d, gk = d + 1 := ⟨gk - 1, by omega⟩
  have H := HLF.out
  simp only [zsB] at H
  obtain ⟨rows3, hx3, H⟩ := Option.bind_eq_some_iff.mp H
  have HX := zpS hx3
  clear HLF
  have HLF := zpS (show zsB (fun x rows => zqL k n f (pre ++ [x]) (left - x) rows) d (x + 1) rows3 = some rows' from H)
  have HXR := zpS (show 1 ≤ x ∧ x ≤ left - (n - 1 - (pre.length : Int)) ∧ x + ((d + 1 : Nat) : Int) = D + 1 ∧ (pre.length : Int) < n - 1 ∧ 0 ≤ left ∧ left ≤ 16 from ⟨hxk.2, hx, hxk.1, by omega, hl0, hl1⟩)
  have hw4 : IntKind.i64.wrap (left - x) = left - x := by rw [IntKind.wrap_i64]; omega
  have hw5 : IntKind.i64.wrap (x + 1) = x + 1 := by rw [IntKind.wrap_i64]; omega
  clear H hx3 hxk hdd HXK
  go_wp2
  go_quiet (first | (go_at_call 61; refine Calls.quiet_of (zxZ A c pre _ HC.out.2 HC.out.1)))
  go_wp2
  have hcd : (wr.drewN nq).cell? ⟨bw, 0, none⟩ = some (.func (.func 106) #[] #[.pointer (some ⟨bn, 0, none⟩), .pointer (some ⟨bd, 0, none⟩), .pointer (some ⟨bw, 0, none⟩)]) := (zzS ((KP.out bw (Or.inl hsw) hwg).trans hbw) 0).trans rfl
  have HW := zpS (show Below wr.heap.size wr (wr.drewN nq).drew from zvF (zkZ (Below.refl _ _) _))
  generalize wr.drewN nq = W1 at HW hcd ⊢
  refine start_ (n := 10) (S := fun w' => w'.cell? ⟨bw, 0, none⟩ = some (.func (.func 106) #[] #[.pointer (some ⟨bn, 0, none⟩), .pointer (some ⟨bd, 0, none⟩), .pointer (some ⟨bw, 0, none⟩)])) (ds := []) #[false, false, false, false, false, false, false, false, false, false] (by kernel_rfl) rfl rfl hcd (fun hHeld => ?_)
  generalize W1.drew = Wi at HW hHeld ⊢
  have HCD := zpS hHeld
  have HBI := zpS (zkR HB.out HW.out)
  have BKI := zpS (zgM BK.out HW.out)
  have HSI := zpS (Kd.S_below HS.out HW.out)
  have SZI := zpS (Nat.le_trans SZ.out HW.out.size)
  have KPI := zpS (show ∀ j, (stay j ∨ (s ≤ j ∧ j < W.heap.size)) → j ≠ g → Wi.heap[j]? = W.heap[j]? from fun j hj hjg => (HW.out.block j (Nat.lt_of_lt_of_le (LT.out j hj) SZ.out)).trans (KP.out j hj hjg))
  have HRI := zpS (show Kd.R (Kd.int .i64) 2 Wi s (fun _ => True) (.slice A pre.length c) pre from Kd.R_mono (Kd.R_step (Kd.R_bound HR.out) (fun j hj hlt => KPI.out j (Or.inr ⟨hj.2.1, hlt⟩) (fun e => by have := HST.out g HSG.out; have := hj.2.1; omega))) (fun _ _ => trivial))
  have HQ := zpS (Below.refl Wi.heap.size Wi)
  refine pure_ (i := 1) (N := some 32) (v := ?_) (a' := ?_) (bl_ 10 2) rfl rfl (by kernel_rfl) (fun _ _ _ h => h) (Or.inl ⟨by rfl, ?_⟩) ?_ ?_
  rotate_left
  ·intro w'
   go_simp
   with_reducible rfl
  rotate_left
  ·simp only [Act.put, List.setIfInBounds_toArray, List.set_cons_zero, List.set_cons_succ, zcM, ziJ]
   rfl
  refine pure_ (i := 3) (N := some 34) (v := ?_) (a' := ?_) (bl_ 10 10) rfl rfl (by kernel_rfl) (fun _ _ _ h => h) (Or.inl ⟨by rfl, ?_⟩) ?_ ?_
  rotate_left
  ·intro w'
   go_simp
   with_reducible rfl
  rotate_left
  ·simp only [Act.put, List.setIfInBounds_toArray, List.set_cons_zero, List.set_cons_succ, zcM, ziJ]
   rfl
  refine pure_ (i := 6) (N := some 37) (v := ?_) (a' := ?_) (bl_ 10 74) rfl rfl (by kernel_rfl) (fun _ _ _ h => h) (Or.inl ⟨by rfl, ?_⟩) ?_ ?_
  rotate_left
  ·intro w'
   go_simp
   with_reducible rfl
  rotate_left
  ·simp only [Act.put, List.setIfInBounds_toArray, List.set_cons_zero, List.set_cons_succ, zcM, ziJ]
   rfl
  refine pure_ (i := 7) (N := some 38) (v := ?_) (a' := ?_) (bl_ 10 202) rfl rfl (by kernel_rfl) (fun _ _ _ h => h) (Or.inl ⟨by rfl, ?_⟩) ?_ ?_
  rotate_left
  ·intro w'
   go_simp
   with_reducible rfl
  rotate_left
  ·simp only [Act.put, List.setIfInBounds_toArray, List.set_cons_zero, List.set_cons_succ, zcM, ziJ]
   rfl
  refine pure_ (i := 8) (N := some 39) (v := ?_) (a' := ?_) (bl_ 10 458) rfl rfl (by kernel_rfl) (fun _ _ _ h => h) (Or.inl ⟨by rfl, ?_⟩) ?_ ?_
  rotate_left
  ·intro w'
   go_simp
   with_reducible rfl
  rotate_left
  ·simp only [Act.put, List.setIfInBounds_toArray, List.set_cons_zero, List.set_cons_succ, zcM, ziJ]
   rfl
  refine take_ (i := 0) (N := some 31) (v := ?_) (a' := ?_) (bl_ 10 459) rfl rfl (by kernel_rfl) (fun _ _ _ h => h) (Or.inl ⟨by rfl, ?_⟩) hHeld ?_ ?_
  rotate_left
  ·rintro w' s0
   go_simp
   with_reducible rfl
  rotate_left
  ·simp only [Act.put, List.setIfInBounds_toArray, List.set_cons_zero, List.set_cons_succ, zcM, ziJ]
   rfl
  refine two_ (i := 2) (j := 4) (Ni := some 33) (Nj := some 35) (bl_ 10 463) (bl_ 10 475) rfl rfl rfl rfl (by kernel_rfl) (by decide) (by decide) (fun K hK => ?_) (fun K hK => ?_)
  ·refine goes_ Try.func98 (by kernel_rfl) rfl #[.slice A pre.length c] (by rfl) rfl rfl (by (try simp only [List.map_toArray, List.map_cons, List.map_nil]); first | done | rfl) ?_
   refine (zvT s A c pre Wi _ HRI.out HPL.out HQ.out).mono ?_
   rintro e w5 ⟨A5, c5, rfl, ho, hb, hb2⟩
   refine ⟨_, rfl, ?_⟩
   have HO5 := zpS ho
   have SX := zpS (show _ = _ from (hb.cell (World.block_lt_of_cell? _ _ HCD.out)).trans HCD.out)
   skip
   clear HQ
   have HQ := zpS hb
   clear ho hb hb2
   refine hK.out _ _ SX.out (fun hHeld => ?_)
   clear hK K SX
   refine norm_ (a' := ?_) ?_ ?_
   rotate_left
   ·show Act.put _ (some 33) _ = _
    simp only [Act.put, List.setIfInBounds_toArray, List.set_cons_zero, List.set_cons_succ, zcM, ziJ]
    rfl
   refine one_ (i := 4) (N := some 35) (bl_ 10 479) rfl rfl (by kernel_rfl) (by decide) (fun K hK => ?_)
   refine Kd.R_lit_step (Kd.int .i64) Wi.heap.size 2 (w0 := Wi) ?hg (N := 35) ?hd (xs := ([x] : List Int)) (zlR := [.int .i64 (x)]) (ok := fun _ => True) (okp := fun _ => True) ?hr ?hp (fun _ hk => hk) trivial HQ.out HQ.out.size (by simp) ?_; (case hd => rfl); (case hg => rfl); (case hr => first | (go_simp; done) | (go_simp; rfl)); (case hp => exact (zfI.one (show Kd.M (Kd.int .i64) _ _ _ (x) [.int .i64 (x)] from rfl) (zfI.none _ _)))
   intro v7 w7 ho hb hgr hat
   obtain ⟨A7, c7, rfl⟩ := Kd.R_slice ho
   have HO7 := zpS ho
   have SX := zpS (show _ = _ from (hb.cell (World.block_lt_of_cell? _ _ HCD.out)).trans HCD.out)
   have n_ := zpS (Kd.R_grown HO5.out hgr (fun _ _ => by simp))
   clear HO5
   have HO5 := n_
   clear n_
   clear HQ
   have HQ := zpS hb
   clear ho hb hgr hat
   refine hK.out _ _ SX.out (fun hHeld => ?_)
   clear hK K SX
   refine norm_ (a' := ?_) ?_ ?_
   rotate_left
   ·show Act.put _ (some 35) _ = _
    simp only [Act.put, List.setIfInBounds_toArray, List.set_cons_zero, List.set_cons_succ, zcM, ziJ]
    rfl
   refine one_ (i := 5) (N := some 36) (bl_ 10 511) rfl rfl (by kernel_rfl) (by decide) (fun K hK => ?_)
   refine Kd.R_append_rows_step (Kd.int .i64) (w0 := Wi) Wi.heap.size ?hw (.tmp 33) (.tmp 35) 22 2 (.int .i64 0) 8 ?ho Try.underlying22 info2 rfl (by decide) (by omega) (.slice A5 pre.length c5) pre [x] A7 1 c7 (fun _ => True) (fun _ => False) ?hs ?hx HO5.out ((Kd.R_reads' HO7.out).2.2) (fun _ _ h => h) (fun _ h => h.elim) (fun _ _ => trivial) HQ.out HQ.out.size (by have := HPL.out; omega) ?_; (case hw => rfl); (case ho => rfl); (case hs => rfl); (case hx => rfl)
   intro v8 w8 ho hb hgr hat
   obtain ⟨A8, c8, rfl⟩ := Kd.R_slice ho
   have HO8 := zpS ho
   have SX := zpS (show _ = _ from (hb.cell (World.block_lt_of_cell? _ _ HCD.out)).trans HCD.out)
   clear HQ HO5 HO7
   have HQ := zpS hb
   clear ho hb hgr hat
   refine hK.out _ _ SX.out (fun hHeld => ?_)
   clear hK K SX
   refine norm_ (a' := ?_) ?_ ?_
   rotate_left
   ·show Act.put _ (some 36) _ = _
    simp only [Act.put, List.setIfInBounds_toArray, List.set_cons_zero, List.set_cons_succ, zcM, ziJ]
    rfl
   refine one_ (i := 9) (N := some 40) (bl_ 10 1023) rfl rfl (by kernel_rfl) (by decide) (fun K hK => ?_)
   refine call_ 106 #[.slice A8 (pre ++ [x]).length c8, .int .i64 (left - x), .pointer (some ⟨bn, 0, none⟩), .pointer (some ⟨bd, 0, none⟩), .pointer (some ⟨bw, 0, none⟩)] rfl rfl ?hrun ?_
   case hrun =>
    have he := enters_ (P := Try.prog) Try.func106 (by kernel_rfl) rfl #[.slice A8 (pre ++ [x]).length c8, .int .i64 (left - x), .pointer (some ⟨bn, 0, none⟩), .pointer (some ⟨bd, 0, none⟩), .pointer (some ⟨bw, 0, none⟩)] w8
    unfold execOp
    simp [resolve, Deferred.ofValue, invoke, Act.eval, he]
   have LT2 := LT.out
   have HST2 := HST.out
   have HSG2 := HSG.out
   have BX := KPI.out
   refine (ih w w8 (fun j => stay j ∨ (s ≤ j ∧ j < W.heap.size)) g bn bd bw Wi.heap.size v2 rows2 rows3 A8 c8 (pre ++ [x]) (left - x) ?a1 ?a2 ?a3 (zkR HBI.out HQ.out) (fun j hj => Nat.lt_of_lt_of_le (LT2 j hj) SZI.out) (Or.inl HSG2) (Or.inl hsn) (Or.inl hsd) (Or.inl hsw) hng hdg hwg hg HQ.out.size (zgM BKI.out HQ.out) (zgM ((BX bn (Or.inl hsn) hng).trans hbn) HQ.out) (zgM ((BX bd (Or.inl hsd) hdg).trans hbd) HQ.out) (zgM ((BX bw (Or.inl hsw) hwg).trans hbw) HQ.out) (Kd.S_old HSI.out HQ.out) HO8.out HX.out).mono ?_
   case a1 => rw [List.length_append, List.length_singleton]; have := HXR.out; omega
   case a2 => have := HXR.out; omega
   case a3 => have := HXR.out; omega
   rintro e w9 ⟨⟨v0, rfl⟩, v', q1, q2, q3, q4, q5⟩
   refine ⟨_, rfl, ?_⟩
   refine hK.out _ _ ((show _ = _ from (World.cell?_of_block (q4 bw (Or.inl hsw) hwg)).trans hHeld)) (fun hHeld => ?_)
   clear hK K
   refine done_ (by kernel_rfl) ?_
   go_wp2
   go_roundg d
   case measure => have := HXR.out; omega
   case rel => exact ⟨x + 1, v', rows3, rfl, ⟨by have := HXR.out; omega⟩, ⟨HLF.out⟩, ⟨q1⟩, ⟨q2⟩, ⟨q3⟩, ⟨fun j hj hjg => (q4 j hj hjg).trans ((HQ.out.block j (Nat.lt_of_lt_of_le (LT2 j hj) SZI.out)).trans (BX j hj hjg))⟩, ⟨Nat.le_trans SZI.out (Nat.le_trans HQ.out.size q5)⟩⟩
  ·refine Kd.R_lit_step (Kd.int .i64) Wi.heap.size 2 (w0 := Wi) ?hg (N := 35) ?hd (xs := ([x] : List Int)) (zlR := [.int .i64 (x)]) (ok := fun _ => True) (okp := fun _ => True) ?hr ?hp (fun _ hk => hk) trivial HQ.out HQ.out.size (by simp) ?_; (case hd => rfl); (case hg => rfl); (case hr => first | (go_simp; done) | (go_simp; rfl)); (case hp => exact (zfI.one (show Kd.M (Kd.int .i64) _ _ _ (x) [.int .i64 (x)] from rfl) (zfI.none _ _)))
   intro v7 w7 ho hb hgr hat
   obtain ⟨A7, c7, rfl⟩ := Kd.R_slice ho
   have HO7 := zpS ho
   have SX := zpS (show _ = _ from (hb.cell (World.block_lt_of_cell? _ _ HCD.out)).trans HCD.out)
   skip
   clear HQ
   have HQ := zpS hb
   clear ho hb hgr hat
   refine hK.out _ _ SX.out (fun hHeld => ?_)
   clear hK K SX
   refine norm_ (a' := ?_) ?_ ?_
   rotate_left
   ·show Act.put _ (some 35) _ = _
    simp only [Act.put, List.setIfInBounds_toArray, List.set_cons_zero, List.set_cons_succ, zcM, ziJ]
    rfl
   refine one_ (i := 2) (N := some 33) (bl_ 10 479) rfl rfl (by kernel_rfl) (by decide) (fun K hK => ?_)
   refine goes_ Try.func98 (by kernel_rfl) rfl #[.slice A pre.length c] (by rfl) rfl rfl (by (try simp only [List.map_toArray, List.map_cons, List.map_nil]); first | done | rfl) ?_
   refine (zvT s A c pre Wi _ HRI.out HPL.out HQ.out).mono ?_
   rintro e w5 ⟨A5, c5, rfl, ho, hb, hb2⟩
   refine ⟨_, rfl, ?_⟩
   have HO5 := zpS ho
   have SX := zpS (show _ = _ from (hb.cell (World.block_lt_of_cell? _ _ HCD.out)).trans HCD.out)
   have n_ := zpS (Kd.R_below HO7.out hb2)
   clear HO7
   have HO7 := n_
   clear n_
   clear HQ
   have HQ := zpS hb
   clear ho hb hb2
   refine hK.out _ _ SX.out (fun hHeld => ?_)
   clear hK K SX
   refine norm_ (a' := ?_) ?_ ?_
   rotate_left
   ·show Act.put _ (some 33) _ = _
    simp only [Act.put, List.setIfInBounds_toArray, List.set_cons_zero, List.set_cons_succ, zcM, ziJ]
    rfl
   refine one_ (i := 5) (N := some 36) (bl_ 10 511) rfl rfl (by kernel_rfl) (by decide) (fun K hK => ?_)
   refine Kd.R_append_rows_step (Kd.int .i64) (w0 := Wi) Wi.heap.size ?hw (.tmp 33) (.tmp 35) 22 2 (.int .i64 0) 8 ?ho Try.underlying22 info2 rfl (by decide) (by omega) (.slice A5 pre.length c5) pre [x] A7 1 c7 (fun _ => True) (fun _ => False) ?hs ?hx HO5.out ((Kd.R_reads' HO7.out).2.2) (fun _ _ h => h) (fun _ h => h.elim) (fun _ _ => trivial) HQ.out HQ.out.size (by have := HPL.out; omega) ?_; (case hw => rfl); (case ho => rfl); (case hs => rfl); (case hx => rfl)
   intro v8 w8 ho hb hgr hat
   obtain ⟨A8, c8, rfl⟩ := Kd.R_slice ho
   have HO8 := zpS ho
   have SX := zpS (show _ = _ from (hb.cell (World.block_lt_of_cell? _ _ HCD.out)).trans HCD.out)
   clear HQ HO5 HO7
   have HQ := zpS hb
   clear ho hb hgr hat
   refine hK.out _ _ SX.out (fun hHeld => ?_)
   clear hK K SX
   refine norm_ (a' := ?_) ?_ ?_
   rotate_left
   ·show Act.put _ (some 36) _ = _
    simp only [Act.put, List.setIfInBounds_toArray, List.set_cons_zero, List.set_cons_succ, zcM, ziJ]
    rfl
   refine one_ (i := 9) (N := some 40) (bl_ 10 1023) rfl rfl (by kernel_rfl) (by decide) (fun K hK => ?_)
   refine call_ 106 #[.slice A8 (pre ++ [x]).length c8, .int .i64 (left - x), .pointer (some ⟨bn, 0, none⟩), .pointer (some ⟨bd, 0, none⟩), .pointer (some ⟨bw, 0, none⟩)] rfl rfl ?hrun ?_
   case hrun =>
    have he := enters_ (P := Try.prog) Try.func106 (by kernel_rfl) rfl #[.slice A8 (pre ++ [x]).length c8, .int .i64 (left - x), .pointer (some ⟨bn, 0, none⟩), .pointer (some ⟨bd, 0, none⟩), .pointer (some ⟨bw, 0, none⟩)] w8
    unfold execOp
    simp [resolve, Deferred.ofValue, invoke, Act.eval, he]
   have LT2 := LT.out
   have HST2 := HST.out
   have HSG2 := HSG.out
   have BX := KPI.out
   refine (ih w w8 (fun j => stay j ∨ (s ≤ j ∧ j < W.heap.size)) g bn bd bw Wi.heap.size v2 rows2 rows3 A8 c8 (pre ++ [x]) (left - x) ?a1 ?a2 ?a3 (zkR HBI.out HQ.out) (fun j hj => Nat.lt_of_lt_of_le (LT2 j hj) SZI.out) (Or.inl HSG2) (Or.inl hsn) (Or.inl hsd) (Or.inl hsw) hng hdg hwg hg HQ.out.size (zgM BKI.out HQ.out) (zgM ((BX bn (Or.inl hsn) hng).trans hbn) HQ.out) (zgM ((BX bd (Or.inl hsd) hdg).trans hbd) HQ.out) (zgM ((BX bw (Or.inl hsw) hwg).trans hbw) HQ.out) (Kd.S_old HSI.out HQ.out) HO8.out HX.out).mono ?_
   case a1 => rw [List.length_append, List.length_singleton]; have := HXR.out; omega
   case a2 => have := HXR.out; omega
   case a3 => have := HXR.out; omega
   rintro e w9 ⟨⟨v0, rfl⟩, v', q1, q2, q3, q4, q5⟩
   refine ⟨_, rfl, ?_⟩
   refine hK.out _ _ ((show _ = _ from (World.cell?_of_block (q4 bw (Or.inl hsw) hwg)).trans hHeld)) (fun hHeld => ?_)
   clear hK K
   refine done_ (by kernel_rfl) ?_
   go_wp2
   go_roundg d
   case measure => have := HXR.out; omega
   case rel => exact ⟨x + 1, v', rows3, rfl, ⟨by have := HXR.out; omega⟩, ⟨HLF.out⟩, ⟨q1⟩, ⟨q2⟩, ⟨q3⟩, ⟨fun j hj hjg => (q4 j hj hjg).trans ((HQ.out.block j (Nat.lt_of_lt_of_le (LT2 j hj) SZI.out)).trans (BX j hj hjg))⟩, ⟨Nat.le_trans SZI.out (Nat.le_trans HQ.out.size q5)⟩⟩
 ·have cx : decide (x ≤ left - (n - 1 - (pre.length : Int))) = false := decide_eq_false hx
  have hgk : gk = 0 := by omega
  subst hgk
  have H := HLF.out
  simp only [zsB] at H
  obtain rfl := Option.some.inj H
  go_wp2
  go_quiet (first | (go_at_call 61; refine Calls.quiet_of (zxZ A c pre _ HC.out.2 HC.out.1)))
  go_wp2
  have HW := zpS (show Below wr.heap.size wr (wr.drewN nq) from zkZ (Below.refl _ _) _)
  generalize wr.drewN nq = W1 at HW ⊢
  go_end0
  exact ⟨⟨_, rfl⟩, v2, zkR HB.out HW.out, zgM BK.out HW.out, Kd.S_mono (Kd.S_below HS.out HW.out) (fun j hj hh => hj (Or.inl hh)), fun j hj hjg => (HW.out.block j (Nat.lt_of_lt_of_le (LT.out j (Or.inl hj)) SZ.out)).trans (KP.out j (Or.inl hj) hjg), Nat.le_trans SZ.out HW.out.size⟩
theorem impl_KawasakiSequences_comps (k f : Nat) (n : Int) (hn0 : 2 ≤ n) (hn1 : n ≤ 16) (w W : World) (g : Nat) (v : Value) (rows rows' : List (List Int)) (hB : Below w.heap.size w W) (hg : w.heap.size ≤ g) (hb : W.heap[g]? = some (.cells #[v] 23 (0, 0)))
  (hS : Kd.S (Kd.slice 2 (Kd.int .i64)) 22 W w.heap.size (fun j => j ≠ g) v rows) (h : zqL k n f [] 16 rows = some rows') :
  Calls Try.prog 80 #[.int .i64 n, .int .i64 16, .func (.func 81) #[] #[.pointer (some ⟨g, 0, none⟩)]] W fun e w' => (∃ v0, e = .returned v0) ∧ ∃ v', Below w.heap.size w w' ∧ w'.heap[g]? = some (.cells #[v'] 23 (0, 0)) ∧ Kd.S (Kd.slice 2 (Kd.int .i64)) 22 w' w.heap.size (fun j => j ≠ g) v' rows' := by
 have HB := zpS hB
 have HG := zpS hg
 have BK := zpS hb
 have HS := zpS hS
 have HF := zpS h
 have GL := zpS (blk_lt hb)
 clear hB hg hb hS h
 go_enter Try.func80, Try.ntmps80
 go_wp2_with (first
  | ((with_reducible refine gate_dst (N := 3) rfl ?_); refine bx_ 3 #[.int .i64 n] 2 ?_; intro bn hgn w3 hbox hb3; have BN := zpS hbox; have HQ3 := zpS hb3; have EN := zpS hgn; clear hbox hb3 hgn)
  | ((with_reducible refine gate_dst (N := 5) rfl ?_); refine box_event ?hg (N := 5) ?hd (cs := #[.func (.func 81) #[] #[.pointer (some ⟨g, 0, none⟩)]]) (t := 61) ?hr ?_; (case hd => rfl); (case hg => rfl); (case hr => first | (go_simp; done) | (go_simp; rfl)); intro bd hgd w5 hbox hb5; have BD := zpS hbox; have BN5 := zpS (zgM BN.out hb5); have HQ5 := zpS (zkR HQ3.out hb5); have ED := zpS hgd; clear hbox hb5 hgd)
  | ((with_reducible refine gate_dst (N := 6) rfl ?_); refine bx_ 6 #[.nilFunc] 95 ?_; intro bw hgw w6 hbox hb6; have BW := zpS hbox; have BN6 := zpS (zgM BN5.out hb6); have BD6 := zpS (zgM BD.out hb6); have HQ6 := zpS (zkR HQ5.out hb6); have EW := zpS hgw; have hcz : w6.cell? ⟨bw, 0, none⟩ = some .nilFunc := (zzS hbox 0).trans rfl; have hfz : w6.frozen? ⟨bw, 0, none⟩ = false := zjG hbox 0; have hoc : Value.oneCell' (.func (.func 106) #[] #[.pointer (some ⟨bn, 0, none⟩), .pointer (some ⟨bd, 0, none⟩), .pointer (some ⟨bw, 0, none⟩)]) = true := rfl;
          have SZ3 := zpS (show W.heap.size < w3.heap.size from by have := blk_lt BN.out; rw [EN.out] at this; exact this);
          have SZ5 := zpS (show w3.heap.size < w5.heap.size from by have := blk_lt BD.out; rw [ED.out] at this; exact this);
          have SZ6 := zpS (show w5.heap.size < w6.heap.size from by have := blk_lt hbox; rw [hgw] at this; exact this); clear hbox hb6 hgw))
 rw [show Sem.run Try.prog (store ⟨bw, 0, none⟩ (.func (.func 106) #[] #[.pointer (some ⟨bn, 0, none⟩), .pointer (some ⟨bd, 0, none⟩), .pointer (some ⟨bw, 0, none⟩)])) w6 = .ok () (w6.setCell ⟨bw, 0, none⟩ (.func (.func 106) #[] #[.pointer (some ⟨bn, 0, none⟩), .pointer (some ⟨bd, 0, none⟩), .pointer (some ⟨bw, 0, none⟩)])) from by rw [run_store _ _ _ _ _ rfl, hcz]; simp [hfz]]
 go_wp2_with (first
  | (go_at_call 106; refine (impl_KawasakiSequences_walk k n hn0 hn1 f w _ (fun j => j = g ∨ j = bn ∨ j = bd ∨ j = bw) g bn bd bw w6.heap.size v rows rows' none 0 [] 16 ?x1 ?x2 ?x3 (zjF (zkR HB.out HQ6.out) ?x4) ?x5 (Or.inl rfl) (Or.inr (Or.inl rfl)) (Or.inr (Or.inr (Or.inl rfl))) (Or.inr (Or.inr (Or.inr rfl))) ?x6 ?x7 ?x8 HG.out ?x9 ((Below.heap_setCell _ _ _ g ?y1).trans (zgM BK.out HQ6.out)) ((Below.heap_setCell _ _ _ bn ?y2).trans BN6.out) ((Below.heap_setCell _ _ _ bd ?y3).trans BD6.out) (blk_put BW.out 0 _ rfl) (Kd.S_far (Kd.S_mono (Kd.S_old HS.out HQ6.out) ?y4) (p := ⟨bw, 0, none⟩) ?y5 _) (Kd.R_nil _ _ _ _ _) HF.out).mono ?_;
          (case x1 => show ((0 : Nat) : Int) ≤ _; omega); (case x2 => decide); (case x3 => decide);
          (case x4 => have := EW.out; have := SZ5.out; have := SZ3.out; have := HB.out.size; omega);
          (case x5 => rintro j (rfl | rfl | rfl | rfl); (have := GL.out; have := SZ3.out; have := SZ5.out; have := SZ6.out; omega); (exact blk_lt BN6.out); (exact blk_lt BD6.out); (exact blk_lt BW.out));
          (case x6 => have := EN.out; have := GL.out; omega); (case x7 => have := ED.out; have := GL.out; have := SZ3.out; omega); (case x8 => have := EW.out; have := GL.out; have := SZ3.out; have := SZ5.out; omega);
          (case x9 => simp [World.setCell]);
          (case y1 => show g ≠ bw; have := EW.out; have := GL.out; have := SZ3.out; have := SZ5.out; omega); (case y2 => show bn ≠ bw; have := EW.out; have := EN.out; have := SZ3.out; have := SZ5.out; omega); (case y3 => show bd ≠ bw; have := EW.out; have := ED.out; have := SZ5.out; omega);
          (case y4 => rintro j ⟨h1, h2⟩; refine ⟨?_, by have := SZ3.out; have := SZ5.out; have := SZ6.out; omega⟩; rintro (h3 | h3 | h3 | h3); (exact h1 h3); (have := EN.out; omega); (have := ED.out; have := SZ3.out; omega); (have := EW.out; have := SZ3.out; have := SZ5.out; omega));
          (case y5 => rintro j ⟨h1, h2⟩ h3; exact h1 (Or.inr (Or.inr (Or.inr h3))));
          rintro e w9 ⟨⟨v0, rfl⟩, v', q1, q2, q3, q4, q5⟩; have Q1 := zpS q1; have Q2 := zpS q2; have Q3 := zpS q3; clear q1 q2 q3 q4 q5))
 go_end0
 exact ⟨⟨_, rfl⟩, v', Q1.out, Q2.out, Kd.S_mono Q3.out (fun j hj e => hj (Or.inl e))⟩
theorem impl_KawasakiSequences_doF_mono (k : Nat) (row : List Int) (rows : List (List Int)) : LeO (ztK k row rows) (ztK (k + 1) row rows) :=
 LeO.bind (zaW.mono row k) (fun s => LeO.ite (LeO.bind (zzN.mono row k) (fun c => LeO.bind (zdL.mono c row k) (fun b => LeO.refl _))) (LeO.refl _))
theorem zpB {F G : Int → List (List Int) → Option (List (List Int))} (h : ∀ x rows, LeO (F x rows) (G x rows)) : ∀ (d : Nat) (x : Int) (rows : List (List Int)), LeO (zsB F d x rows) (zsB G d x rows)
 | 0, _, _ => LeO.refl _
 | d + 1, x, rows => LeO.bind (h x rows) (fun r => zpB h d (x + 1) r)
theorem zvK (k : Nat) (n : Int) : ∀ (f : Nat) (pre : List Int) (left : Int) (rows : List (List Int)), LeO (zqL k n f pre left rows) (zqL (k + 1) n f pre left rows)
 | 0, _, _, _ => LeO.refl _
 | f + 1, pre, left, rows => LeO.ite (impl_KawasakiSequences_doF_mono k _ _) (zpB (fun x r => zvK k n f _ _ r) _ _ _)
def zeK.f (k : Nat) (n : Int) : Option (List (List Int) × Int) := (zrP.f n 2 16).bind fun t => if t = true then (if Int.tmod n 2 = 1 then some ([], 2) else if 2 ≤ n ∧ n ≤ 16 then (zqL k n 20 [] 16 []).bind fun rows => some (rows, 0) else none) else some ([], 2)
theorem zeK.mono : ∀ a0 k, LeO (zeK.f k a0) (zeK.f (k + 1) a0) := fun a0 k => LeO.bind (LeO.refl _) (fun t => LeO.ite (LeO.ite (LeO.refl _) (LeO.ite (LeO.bind (zvK k a0 _ _ _ _) (fun _ => LeO.refl _)) (LeO.refl _))) (LeO.refl _))
theorem zeK.calls (k : Nat) (a0 : Int) (r1 : List (List Int)) (r2 : Int) (w : World) (h : zeK.f k a0 = some (r1, r2)) :
  Calls Try.prog 40 #[.int .i64 a0] w fun e w' => ∃ v0_ : Value, e = .returned (.tuple #[v0_, .int .i64 r2]) ∧ Kd.S (Kd.slice 2 (Kd.int .i64)) 22 w' w.heap.size (fun _ => True) v0_ r1 ∧ Below w.heap.size w w' := by
 have HB := zpS (Below.refl w.heap.size w)
 obtain ⟨t, A10, H⟩ := Option.bind_eq_some_iff.mp h
 have A1 := zpS A10
 clear A10 h
 cases t with
 | false =>
  simp only [Bool.false_eq_true, if_false, Option.some.injEq, Prod.mk.injEq] at H
  obtain ⟨rfl, rfl⟩ := H
  go_enter Try.func40, Try.ntmps40
  go_wp2_with (go_at_call 60; (with_reducible refine (zrP.calls a0 2 16 false _ A1.out).mono ?_); rintro e w' ⟨rfl, ⟨nd, rfl⟩⟩)
  go_ret2
  exact ⟨_, rfl, Kd.S_nil _ _ _ _ _, by repeat (first | exact HB.out | apply znU | apply zkZ | apply zvF)⟩
 | true =>
  simp only [if_true] at H
  by_cases hm : Int.tmod a0 2 = 1
  ·rw [if_pos hm] at H
   simp only [Option.some.injEq, Prod.mk.injEq] at H
   obtain ⟨rfl, rfl⟩ := H
   have c1 : (Int.tmod a0 2 == 1) = true := beq_iff_eq.2 hm
   have C1 := zpS hm
   clear hm
   go_enter Try.func40, Try.ntmps40
   go_wp2_with (go_at_call 60; (with_reducible refine (zrP.calls a0 2 16 true _ A1.out).mono ?_); rintro e w' ⟨rfl, ⟨nd, rfl⟩⟩)
   go_ret2
   exact ⟨_, rfl, Kd.S_nil _ _ _ _ _, by repeat (first | exact HB.out | apply znU | apply zkZ | apply zvF)⟩
  ·rw [if_neg hm] at H
   by_cases hn : 2 ≤ a0 ∧ a0 ≤ 16
   ·rw [if_pos hn] at H
    obtain ⟨rows, A20, H⟩ := Option.bind_eq_some_iff.mp H
    simp only [Option.some.injEq, Prod.mk.injEq] at H
    obtain ⟨rfl, rfl⟩ := H
    have A2 := zpS A20
    have HN := zpS hn
    have c1 : (Int.tmod a0 2 == 1) = false := beq_eq_false_iff_ne.2 hm
    clear A20 hn hm
    go_enter Try.func40, Try.ntmps40
    go_wp2_with (first
     | (go_at_call 60; (with_reducible refine (zrP.calls a0 2 16 true _ A1.out).mono ?_); rintro e w1 ⟨rfl, ⟨nd, rfl⟩⟩; clear HB; have HB := zpS (show Below w.heap.size w (w.drewN nd) from zkZ (Below.refl _ _) _))
     | ((with_reducible refine gate_dst (N := 4) rfl ?_); refine bx_ 4 #[.slice none 0 0] 23 ?_; intro g hgg w4 hbox hb4; have BK := zpS hbox; have HB4 := zpS (zkR HB.out hb4); have GE := zpS (show w.heap.size ≤ g from by rw [hgg]; exact HB.out.size); clear hbox hb4 hgg)
     | (go_at_call 80; refine (impl_KawasakiSequences_comps k 20 a0 HN.out.1 HN.out.2 w _ g _ [] rows HB4.out GE.out BK.out (Kd.S_nil _ _ _ _ _) A2.out).mono ?_; rintro e w9 ⟨⟨v0, rfl⟩, v', q1, q2, q3⟩; have Q1 := zpS q1; have Q3 := zpS q3; have hcz : w9.cell? ⟨g, 0, none⟩ = some v' := (zzS q2 0).trans rfl; clear q1 q2 q3))
    go_ret2
    exact ⟨_, rfl, Kd.S_mono Q3.out (fun _ _ => trivial), Q1.out⟩
   ·rw [if_neg hn] at H; cases H

def zxI (w0 W : World) (g : Nat) (f0 : List Int) (f1 : Int) (f2 : Int) : Prop := ∃ A0 c0, W.heap[g]? = some (.cells #[.slice A0 f0.length c0, .int .i64 f1, .int .u64 f2] 83 (0, 0)) ∧ w0.heap.size ≤ g ∧ Kd.C (Kd.int .u8) w0 A0 f0.length f0
theorem zxI.grown {w0 W : World} {g : Nat} {f0 : List Int} {f1 : Int} {f2 : Int} {W1 : World} {row : Option Nat} (h : zxI w0 W g f0 f1 f2) (hw : W.grownBy W1 row) (hne : some g ≠ row) : zxI w0 W1 g f0 f1 f2 := by
 obtain ⟨A0, c0, hb, hg, hr0⟩ := h
 exact ⟨A0, c0, blk_grown hb hw hne, hg, hr0⟩
theorem zxI.kept {w0 W : World} {g : Nat} {f0 : List Int} {f1 : Int} {f2 : Int} {W1 : World} {S : Nat → Prop} (h : zxI w0 W g f0 f1 f2) (hk : Kept W W1 S) (hne : ¬ S g) : zxI w0 W1 g f0 f1 f2 := by
 obtain ⟨A0, c0, hb, hg, hr0⟩ := h
 exact ⟨A0, c0, blk_kept hb hk hne, hg, hr0⟩
theorem zxI.below {w0 W : World} {g : Nat} {f0 : List Int} {f1 : Int} {f2 : Int} {W1 : World} (h : zxI w0 W g f0 f1 f2) (hw : Below W.heap.size W W1) : zxI w0 W1 g f0 f1 f2 := h.grown (grown_of_below hw none) (by simp)
theorem zxI.alloc {w0 W : World} {g : Nat} {f0 : List Int} {f1 : Int} {f2 : Int} (h : zxI w0 W g f0 f1 f2) (o : Obj) : zxI w0 (W.alloc o) g f0 f1 f2 := h.below (znU (Below.refl _ _) o)
theorem zxI.drewN {w0 W : World} {g : Nat} {f0 : List Int} {f1 : Int} {f2 : Int} (h : zxI w0 W g f0 f1 f2) (m : Nat) : zxI w0 (W.drewN m) g f0 f1 f2 := h
theorem zxI.drew {w0 W : World} {g : Nat} {f0 : List Int} {f1 : Int} {f2 : Int} (h : zxI w0 W g f0 f1 f2) : zxI w0 W.drew g f0 f1 f2 := h
theorem zxI.at_ {w0 W : World} {g : Nat} {f0 : List Int} {f1 : Int} {f2 : Int} {w' : World} {m : Nat} (hq : W.drewN m = w') (h : zxI w0 W g f0 f1 f2) : zxI w0 w' g f0 f1 f2 := by subst hq; exact zxI.drewN h m
theorem zxI.apart {w0 W : World} {g : Nat} {f0 : List Int} {f1 : Int} {f2 : Int} {α : Type} {d : Kd α} {e : Nat} {base : Nat} {ok : Nat → Prop} {v : Value} {xs : List α} (h : zxI w0 W g f0 f1 f2) (ho : d.R e W base ok v xs) (ht : ∀ q, q ∈ e :: d.E → q ≠ 83) : d.R e W base (fun k => ok k ∧ k ≠ g) v xs := by
 obtain ⟨A0, c0, hb, hg, hr0⟩ := h
 exact Kd.R_types ho hb ht
theorem zxI.own_ne {w0 W : World} {g : Nat} {f0 : List Int} {f1 : Int} {f2 : Int} {α : Type} {d : Kd α} {e : Nat} {base : Nat} {ok : Nat → Prop} {v : Value} {xs : List α} (h : zxI w0 W g f0 f1 f2) (ho : d.R e W base ok v xs) (ht : e ≠ 83) : some g ≠ v.ownBlock := by
 obtain ⟨A0, c0, hb, hg, hr0⟩ := h
 exact Kd.R_ne ho hb ht
theorem zxI.ge {w0 W : World} {g : Nat} {f0 : List Int} {f1 : Int} {f2 : Int} (h : zxI w0 W g f0 f1 f2) : w0.heap.size ≤ g := by
 obtain ⟨A0, c0, hb, hg, hr0⟩ := h
 exact hg
theorem cellS83_0 {W : World} {g : Nat} {A0 : Option Addr} {c0 : Nat} {f0 : List Int} {f1 : Int} {f2 : Int} (h : W.heap[g]? = some (.cells #[.slice A0 f0.length c0, .int .i64 f1, .int .u64 f2] 83 (0, 0))) : W.cell? ⟨g, 0, none⟩ = some (.slice A0 f0.length c0) := (zzS h 0).trans rfl
theorem cellS83_1 {W : World} {g : Nat} {A0 : Option Addr} {c0 : Nat} {f0 : List Int} {f1 : Int} {f2 : Int} (h : W.heap[g]? = some (.cells #[.slice A0 f0.length c0, .int .i64 f1, .int .u64 f2] 83 (0, 0))) : W.cell? ⟨g, 1, none⟩ = some (.int .i64 f1) := (zzS h 1).trans rfl
theorem zxI.set_1 {w0 W : World} {g : Nat} {f0 : List Int} {f1 : Int} {f2 : Int} (h : zxI w0 W g f0 f1 f2) (x : Int) : zxI w0 (W.setCell ⟨g, 1, none⟩ (.int .i64 x)) g f0 x f2 := by
 obtain ⟨A0, c0, hb, hg, hr0⟩ := h
 exact ⟨A0, c0, by simpa using blk_set hb 1 (.int .i64 x), hg, hr0⟩
theorem cellS83_2 {W : World} {g : Nat} {A0 : Option Addr} {c0 : Nat} {f0 : List Int} {f1 : Int} {f2 : Int} (h : W.heap[g]? = some (.cells #[.slice A0 f0.length c0, .int .i64 f1, .int .u64 f2] 83 (0, 0))) : W.cell? ⟨g, 2, none⟩ = some (.int .u64 f2) := (zzS h 2).trans rfl
theorem zxI.set_2 {w0 W : World} {g : Nat} {f0 : List Int} {f1 : Int} {f2 : Int} (h : zxI w0 W g f0 f1 f2) (x : Int) : zxI w0 (W.setCell ⟨g, 2, none⟩ (.int .u64 x)) g f0 f1 x := by
 obtain ⟨A0, c0, hb, hg, hr0⟩ := h
 exact ⟨A0, c0, by simpa using blk_set hb 2 (.int .u64 x), hg, hr0⟩
def zqP.f (l0 : List Int) : Option (List Int × Int × Int) := some (l0, 0, 0)
theorem zqP.calls (A0 : Option Addr) (c0 : Nat) (l0 : List Int) (r1 : List Int) (r2 : Int) (r3 : Int) (w0 w : World) (hB : Below w0.heap.size w0 w) (hr0 : Kd.C (Kd.int .u8) w0 A0 l0.length l0) (hc0 : l0.length ≤ c0) (h : zqP.f l0 = some (r1, r2, r3)) :
  Calls Try.prog 54 #[.slice A0 l0.length c0] w fun e w' => ∃ g_ : Nat, e = .returned (.pointer (some ⟨g_, 0, none⟩)) ∧ zxI w0 w' g_ r1 r2 r3 ∧ Below w0.heap.size w0 w' ∧ Below w.heap.size w w' := by
 have hu83 := Try.underlying83
 have HR0 := zpS hr0
 have HC0 := zpS hc0
 clear hr0 hc0
 have HBW := zpS (Below.refl w.heap.size w)
 have HW0 := zpS hB.size
 have HB := zpS hB
 clear hB
 have H : (some (l0, 0, 0)) = some (r1, r2, r3) := h
 clear h
 simp only [Option.some.injEq, Prod.mk.injEq] at H
 obtain ⟨rfl, rfl, rfl⟩ := H
 go_enter Try.func54, Try.ntmps54
 go_wp2_with (first | ((with_reducible refine gate_dst (N := 5) rfl ?_); refine bx_ 5 #[.slice A0 l0.length c0, .int .i64 0, .int .u64 0] 83 ?_; intro gb178 hg w2 hbox hb; have n0_ := zpS (zkR HBW.out hb); have n1_ := (ns_ hb); have n2_ := zpS (hbox); have n3_ := zpS ((by rw [hg]; exact (zuA (by repeat (first | (with_reducible first | exact HBW.out | apply znU | apply zkZ | apply zvF) | exact HBW.out))) : w.heap.size ≤ gb178)); have n4_ := zpS ((Nat.le_trans HW0.out (by rw [hg]; exact (zuA (by repeat (first | (with_reducible first | exact HBW.out | apply znU | apply zkZ | apply zvF) | exact HBW.out))) : w.heap.size ≤ gb178) : w0.heap.size ≤ gb178)); clear HBW; clear HB; have HBW := n0_; have HB := n1_; have BK178 := n2_; have GW178 := n3_; have GE178 := n4_; clear n0_ n1_ n2_ n3_ n4_; clear hb hbox hg))
 go_ret
 exact ⟨_, rfl, (show zxI w0 _ gb178 l0 0 0 from ⟨_, _, bk_, GE178.out, HR0.out⟩), bb_, by repeat (first | (with_reducible first | exact HBW.out | apply znU | apply zkZ | apply zvF | refine zjF ?_ GW178.out) | exact HBW.out)⟩

end Go.Proofs.Ytbpkbllokmplnaa.PFnSequences
