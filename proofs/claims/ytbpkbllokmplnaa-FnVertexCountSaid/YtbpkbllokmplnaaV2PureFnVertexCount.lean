/- What is proved: the kinds with which a cone can be folded are counted as the law says. Conditions: none. -/
import Derived.Test.YtbpkbllokmplnaaV2PFnVertexCountx
import Derived.Test.YtbpkbllokmplnaaV2Math
import Derived.Test.YtbpkbllokmplnaaV2Secs
import Derived.Test.YtbpkbllokmplnaaV2Lex
import Derived.Test.YtbpkbllokmplnaaV2Around
import Derived.Test.YtbpkbllokmplnaaV2Crimp
import Derived.Test.YtbpkbllokmplnaaV2Count
import Derived.Test.YtbpkbllokmplnaaV2Bits
import Derived.Test.YtbpkbllokmplnaaV2Cones
namespace Go.Proofs.Ytbpkbllokmplnaa.Pure
open Go.RowKit Go.Proofs.Ytbpkbllokmplnaa.PFnVertexCount Go.Proofs.YtbpkbllokmplnaaW.PrintWords Go.Proofs.YtbpkbllokmplnaaW.PrintLast Go.Proofs.YtbpkbllokmplnaaW.PrintMore Go.Proofs.Ytbpkbllokmplnaa.Math

theorem impl_within_eq (a b c : Int) : zrP.f a b c = some (decide (b ≤ a ∧ a ≤ c)) := by
 unfold zrP.f
 by_cases h : b ≤ a <;> simp [h]

theorem impl_sumOf_l0 (l : List Int) (hl : l.length ≤ 1048576) (hb : ∀ x ∈ l, -1048576 ≤ x ∧ x ≤ 1048576) : ∀ (d k j : Nat) (s : Int), j + d = l.length → d < k → -(1048576 * (j : Int)) ≤ s → s ≤ 1048576 * j →
  zcG.l0 k s l (l.length : Int) (j : Int) = some (s + (l.drop j).sum)
 | 0, k, j, s, hd, hk, h0, h1 => by
  obtain ⟨k, rfl⟩ : ∃ m, k = m + 1 := ⟨k - 1, by omega⟩
  simp only [zcG.l0]
  rw [if_neg (by omega), List.drop_eq_nil_of_le (by omega)]
  simp
 | d + 1, k, j, s, hd, hk, h0, h1 => by
  obtain ⟨k, rfl⟩ : ∃ m, k = m + 1 := ⟨k - 1, by omega⟩
  have h := hb l[j] (List.getElem_mem (by omega))
  simp only [zcG.l0]
  rw [if_pos (by omega), if_pos (by omega), if_pos (by omega), rd_nat l j (by omega), drop_at l j (by omega), w64 (by omega) (by omega), succ64 (by omega),
   impl_sumOf_l0 l hl hb d k (j + 1) _ (by omega) (by omega) (by omega) (by omega), List.sum_cons, Int.add_assoc]
theorem impl_sumOf_eq (l : List Int) (hl : l.length ≤ 1048576) (hb : ∀ x ∈ l, -1048576 ≤ x ∧ x ≤ 1048576) (k : Nat) (hk : l.length < k) : zcG.f k l = some l.sum := by
 unfold zcG.f
 have := impl_sumOf_l0 l hl hb l.length k 0 0 (by omega) hk (by omega) (by omega)
 rw [show ((0 : Nat) : Int) = 0 from rfl] at this
 rw [this, List.drop_zero, Int.zero_add]

theorem zrO (l : List Int) (hl : l.length ≤ 1048576) (hb : ∀ x ∈ l, -1048576 ≤ x ∧ x ≤ 1048576) : ∀ (d k j : Nat) (s : Int), j + d = l.length → d < k → -(1048576 * (j : Int)) ≤ s → s ≤ 1048576 * j →
  zaW.l0 k s l (l.length : Int) (j : Int) = some (s + (if j % 2 = 0 then alt (l.drop j) else -alt (l.drop j)))
 | 0, k, j, s, hd, hk, h0, h1 => by
  obtain ⟨k, rfl⟩ : ∃ m, k = m + 1 := ⟨k - 1, by omega⟩
  simp only [zaW.l0]
  rw [if_neg (by omega), List.drop_eq_nil_of_le (by omega)]
  simp [alt]
 | d + 1, k, j, s, hd, hk, h0, h1 => by
  obtain ⟨k, rfl⟩ : ∃ m, k = m + 1 := ⟨k - 1, by omega⟩
  have h := hb l[j] (List.getElem_mem (by omega))
  simp only [zaW.l0]
  rw [if_pos (by omega), if_pos (by omega), if_pos (by omega), rd_nat l j (by omega), drop_at l j (by omega), succ64 (by omega)]
  by_cases hj : j % 2 = 0
  ·rw [if_pos ((tmod2 _).2 (by omega)), w64 (by omega) (by omega), zrO l hl hb d k (j + 1) _ (by omega) (by omega) (by omega) (by omega), if_neg (show ¬ (j + 1) % 2 = 0 by omega), if_pos hj]
   simp only [alt]; congr 1; omega
  ·rw [if_neg (fun c => by have := (tmod2 _).1 c; omega), w64 (by omega) (by omega), zrO l hl hb d k (j + 1) _ (by omega) (by omega) (by omega) (by omega), if_pos (show (j + 1) % 2 = 0 by omega), if_neg hj]
   simp only [alt]; congr 1; omega
theorem impl_alternating_eq (l : List Int) (hl : l.length ≤ 1048576) (hb : ∀ x ∈ l, -1048576 ≤ x ∧ x ≤ 1048576) (k : Nat) (hk : l.length < k) : zaW.f k l = some (alt l) := by
 unfold zaW.f
 have := zrO l hl hb l.length k 0 0 (by omega) hk (by omega) (by omega)
 rw [show ((0 : Nat) : Int) = 0 from rfl] at this
 rw [this, List.drop_zero]
 simp

theorem impl_ValidCone_eq (l : List Int) (k : Nat) (hk : 18 < k) : ziL.f k l = some (decide (zzZ l)) := by
 unfold ziL.f zfN.f
 obtain ⟨k, rfl⟩ : ∃ m, k = m + 1 := ⟨k - 1, by omega⟩
 simp only [ziL.j0, Option.bind_some, impl_within_eq]
 by_cases h1 : 2 ≤ l.length ∧ l.length ≤ 16
 ·rw [if_pos (by rw [decide_eq_true_eq]; omega)]
  by_cases h3 : l.length % 2 = 0
  ·rw [if_neg (by simp; omega), zqM.eq_any (fun x => !decide (1 ≤ x ∧ x ≤ 16)) l (fun x _ => by unfold zzT.f; rw [impl_within_eq, Option.bind_some]), any_not l (fun x => 1 ≤ x ∧ x ≤ 16), Option.bind_some]
   by_cases h2 : ∀ x ∈ l, 1 ≤ x ∧ x ≤ 16
   ·rw [decide_eq_true h2, if_neg (by simp), impl_sumOf_eq l (by omega) (fun x hx => by have := h2 x hx; omega) k (by omega), Option.bind_some]
    by_cases h4 : l.sum ≤ 16
    ·rw [if_pos h4, impl_alternating_eq l (by omega) (fun x hx => by have := h2 x hx; omega) k (by omega), Option.bind_some]
     congr 1
     by_cases h5 : alt l = 0
     ·rw [decide_eq_true (show zzZ l from ⟨h1.1, h1.2, h3, h2, h4, h5⟩)]; simpa using h5
     ·rw [decide_eq_false (fun c : zzZ l => h5 c.2.2.2.2.2)]; simpa using h5
    ·rw [if_neg h4, decide_eq_false (fun c : zzZ l => h4 c.2.2.2.2.1)]
   ·rw [decide_eq_false h2, if_pos (by simp), decide_eq_false (fun c : zzZ l => h2 c.2.2.2.1)]
  ·rw [if_pos (by simp; omega), decide_eq_false (fun c : zzZ l => h3 c.2.2.1)]
 ·rw [if_neg (by rw [decide_eq_true_eq]; omega), if_pos trivial, decide_eq_false (fun c : zzZ l => h1 ⟨c.1, c.2.1⟩)]

def addR (l : List Int) (i : Nat) (o : List S87) (r : Int) : List S87 := if r > 0 then o ++ [⟨i, r, at' l i⟩] else o
theorem addR_pos {l : List Int} {i : Nat} {o : List S87} {r : Int} (h : r > 0) : addR l i o r = o ++ [⟨i, r, at' l i⟩] := if_pos h
theorem addR_zero {l : List Int} {i : Nat} {o : List S87} {r : Int} (h : ¬ r > 0) : addR l i o r = o := if_neg h
def runStep (l : List Int) (i : Nat) (o : List S87) : List S87 :=
 if at' l (i + l.length - 1) ≤ at' l i then o else addR l i o (runAt l i (l.length - 2) 1)
def runsF (l : List Int) : Nat → Nat → List S87 → List S87
 | 0, _, o => o
 | d + 1, i, o => runsF l d (i + 1) (runStep l i o)
set_option linter.unusedVariables false in
theorem impl_littleRuns_l1 (l : List Int) (hl : l.length ≤ 16) (i : Nat) (hi : i < l.length) (hp : ¬ at' l (i + l.length - 1) ≤ at' l i) (K : Nat) (o : List S87) (ho : o.length ≤ i) (res : List S87 → List S87)
  (hres : ∀ k o, K ≤ k → o.length ≤ i + 1 → zpB.l0 k l (l.length : Int) o l (l.length : Int) ((i + 1 : Nat) : Int) = some (res o)) :
  ∀ (d k m : Nat), m + d + 1 = l.length → d + 1 + K ≤ k → zpB.l1 k l (l.length : Int) o (i : Int) (at' l i) (m : Int) l (l.length : Int) (i : Int) =
   some (res (addR l i o (runAt l i d m)))
 | 0, k, m, hm, hk => by
  obtain ⟨k, rfl⟩ : ∃ m, k = m + 1 := ⟨k - 1, by omega⟩
  have hd := idx l (i + m) (by omega) (by omega)
  rw [show ((i + m : Nat) : Int) = (i : Int) + m by omega] at hd
  have hv : at' l (i + m) > at' l i := by rw [at'_last l i m hi (by omega)]; omega
  have hz : ¬ (l.length : Int) = 0 := by omega
  simp only [zpB.l1]
  rw [if_pos (by omega), if_neg hz, hd, if_pos (by omega), if_pos (idx_lt l _ (by omega)), show rd l ((((i + m) % l.length : Nat)) : Int) = at' l (i + m) from rfl, if_neg (by omega), if_pos hv, if_pos (by omega), succ64 (by omega), hres _ _ (by omega) (by simp; omega)]
  simp only [runAt]
  by_cases h0 : m = 0
  ·subst h0
   exfalso
   have e : i = 0 := by omega
   subst e
   rw [show (0 + l.length - 1 : Nat) = 0 by omega] at hp
   omega
  ·rw [addR_pos (by omega)]
 | d + 1, k, m, hm, hk => by
  obtain ⟨k, rfl⟩ : ∃ m, k = m + 1 := ⟨k - 1, by omega⟩
  have hd := idx l (i + m) (by omega) (by omega)
  rw [show ((i + m : Nat) : Int) = (i : Int) + m by omega] at hd
  have hz : ¬ (l.length : Int) = 0 := by omega
  simp only [zpB.l1]
  rw [if_pos (by omega), if_neg hz, hd, if_pos (by omega), if_pos (idx_lt l _ (by omega)), show rd l ((((i + m) % l.length : Nat)) : Int) = at' l (i + m) from rfl, succ64 (by omega), succ64 (by omega)]
  simp only [runAt]
  by_cases h : at' l (i + m) = at' l i
  ·rw [if_pos h, if_pos h]
   exact impl_littleRuns_l1 l hl i hi hp K o ho res hres d k (m + 1) (by omega) (by omega)
  ·rw [if_neg h, if_neg h]
   by_cases h2 : at' l (i + m) < at' l i
   ·rw [if_neg (by omega), if_pos h2, hres _ _ (by omega) (by omega), addR_zero (by omega)]
   ·rw [if_pos (by omega), if_neg h2, if_pos (by omega), hres _ _ (by omega) (by simp; omega)]
    by_cases h0 : m = 0
    ·subst h0; exact absurd rfl h
    ·rw [addR_pos (by omega)]
theorem impl_littleRuns_l0 (l : List Int) (hl : l.length ≤ 16) : ∀ (d k i : Nat) (o : List S87), i + d = l.length → 20 * d + 1 ≤ k → o.length ≤ i →
  zpB.l0 k l (l.length : Int) o l (l.length : Int) (i : Int) = some (runsF l d i o)
 | 0, k, i, o, hd, hk, ho => by
  obtain ⟨k, rfl⟩ : ∃ m, k = m + 1 := ⟨k - 1, by omega⟩
  simp only [zpB.l0]
  rw [if_neg (by omega)]; rfl
 | d + 1, k, i, o, hd, hk, ho => by
  obtain ⟨k, rfl⟩ : ∃ m, k = m + 1 := ⟨k - 1, by omega⟩
  have hdx := idx l (i + l.length - 1) (by omega) (by omega)
  have e1 : wrap64 ((i : Int) + (l.length : Int)) - 1 = ((i + l.length - 1 : Nat) : Int) := by rw [w64 (by omega) (by omega)]; omega
  have hz : ¬ (l.length : Int) = 0 := by omega
  simp only [zpB.l0]
  rw [if_pos (by omega), if_pos (by omega), if_pos (by omega), if_neg hz, e1, hdx, if_pos (by omega), if_pos (idx_lt l _ (by omega)), show rd l ((((i + l.length - 1) % l.length : Nat)) : Int) = at' l (i + l.length - 1) from rfl, at'_self l i (by omega)]
  simp only [runsF, runStep]
  by_cases h : at' l (i + l.length - 1) ≤ at' l i
  ·rw [if_pos h, if_pos h, succ64 (by omega)]
   exact impl_littleRuns_l0 l hl d k (i + 1) o (by omega) (by omega) (by omega)
  ·rw [if_neg h, if_neg h]
   have h2 : 2 ≤ l.length := by
    rcases Nat.lt_or_ge l.length 2 with c | c
    ·exfalso; rw [show i = 0 by omega, show l.length = 1 by omega] at h; exact h (Int.le_refl _)
    ·exact c
   exact impl_littleRuns_l1 l hl i (by omega) h (20 * d + 1) o ho (runsF l d (i + 1)) (fun k o hk ho => impl_littleRuns_l0 l hl d k (i + 1) o (by omega) hk ho) (l.length - 2) k 1 (by omega) (by omega)
/-- The run at a place, as the program tells it. -/
def runHead (l : List Int) (i : Nat) : S87 := ⟨i, zfG l i, at' l i⟩
theorem runStep_cons (l : List Int) (i : Nat) (x : S87) (o : List S87) : runStep l i (x :: o) = x :: runStep l i o := by
 unfold runStep
 split
 ·rfl
 ·unfold addR; split <;> rfl
theorem runsF_cons (l : List Int) (x : S87) : ∀ (d i : Nat) (o : List S87), runsF l d i (x :: o) = x :: runsF l d i o
 | 0, _, _ => rfl
 | d + 1, i, o => by simp only [runsF, runStep_cons]; exact runsF_cons l x d (i + 1) _
theorem runsF_first (l : List Int) : ∀ (d i : Nat), match zpQ l d i with | none => runsF l d i [] = [] | some j => ∃ o, runsF l d i [] = runHead l j :: o
 | 0, _ => by simp [zpQ, runsF]
 | d + 1, i => by
  simp only [zpQ, runsF]
  have e : runStep l i [] = if zfG l i > 0 then [runHead l i] else [] := by
   unfold runStep runHead zfG
   by_cases h : at' l (i + l.length - 1) ≤ at' l i
   ·rw [if_pos h, if_pos h]; rfl
   ·rw [if_neg h, if_neg h]; rfl
  rw [e]
  by_cases h : zfG l i > 0
  ·rw [if_pos h, if_pos h]; exact ⟨_, runsF_cons l _ d (i + 1) []⟩
  ·rw [if_neg h, if_neg h]; exact runsF_first l d (i + 1)
theorem impl_littleRuns_eq (l : List Int) (hl : l.length ≤ 16) (k : Nat) (hk : 400 ≤ k) : zpB.f k l = some (runsF l l.length 0 []) := by
 unfold zpB.f
 have := impl_littleRuns_l0 l hl l.length k 0 [] (by omega) (by omega) (by simp)
 rw [show ((0 : Nat) : Int) = 0 from rfl] at this
 exact this

theorem impl_countKind_l0 (y : Int) (l : List Int) (hl : l.length ≤ 1000) : ∀ (d j k : Nat) (s : Int), j + d = l.length → d < k → 0 ≤ s → s + d ≤ 1000 → zeT.l0 k y s l (l.length : Int) (j : Int) = some (s + cnt y (l.drop j))
 | 0, j, k, s, hd, hk, h0, h1 => by
  obtain ⟨k, rfl⟩ : ∃ m, k = m + 1 := ⟨k - 1, by omega⟩
  simp only [zeT.l0]
  rw [if_neg (by omega), List.drop_eq_nil_of_le (by omega)]
  simp [cnt]
 | d + 1, j, k, s, hd, hk, h0, h1 => by
  obtain ⟨k, rfl⟩ : ∃ m, k = m + 1 := ⟨k - 1, by omega⟩
  simp only [zeT.l0]
  rw [if_pos (by omega), if_pos (by omega), if_pos (by omega), rd_nat l j (by omega), succ64 (by omega), drop_at l j (by omega), cnt]
  by_cases h : l[j] = y
  ·rw [if_pos h, if_pos h, w64 (n := s + 1) (by omega) (by omega), impl_countKind_l0 y l hl d (j + 1) k (s + 1) (by omega) (by omega) (by omega) (by omega)]
   congr 1; omega
  ·rw [if_neg h, if_neg h, impl_countKind_l0 y l hl d (j + 1) k s (by omega) (by omega) (by omega) (by omega)]
   congr 1; omega
theorem zkV (y : Int) (l : List Int) (hl : l.length ≤ 100) (k : Nat) (hk : l.length < k) : zeT.f k l y = some (cnt y l) := by
 unfold zeT.f
 have := impl_countKind_l0 y l (by omega) l.length 0 k 0 (by omega) hk (by omega) (by omega)
 simpa using this

theorem impl_excess_eq (l : List Int) (hl : l.length ≤ 100) (hq : znN l) (k : Nat) (hk : l.length < k) : zyZ.f k l = some (if tal l < 0 then -tal l else tal l) := by
 unfold zyZ.f
 have h1 := cnt_bd 2 l
 have h2 := cnt_bd 3 l
 have h3 := cnt_tal hq
 have h4 := tal_bd l
 rw [zkV 2 l hl k hk, Option.bind_some, zkV 3 l hl k hk, Option.bind_some, w64 (n := cnt 2 l - cnt 3 l) (by omega) (by omega), h3]
 unfold impl_abs.f mx
 rw [w64 (n := -tal l) (by omega) (by omega), Option.bind_some]
 congr 1
 split <;> split <;> omega

theorem impl_chosen_l0 (q ix : List Int) (h : ∀ x ∈ ix, 0 ≤ x ∧ x < q.length) (hl : ix.length ≤ 1000) : ∀ (d j k : Nat) (acc : List Int), j + d = ix.length → d < k → acc.length = j → zrS.l0 k q acc ix (ix.length : Int) (j : Int) = some (acc ++ (ix.drop j).map (rd q))
 | 0, j, k, acc, hd, hk, ha => by
  obtain ⟨k, rfl⟩ : ∃ m, k = m + 1 := ⟨k - 1, by omega⟩
  simp only [zrS.l0]
  rw [if_neg (by omega), List.drop_eq_nil_of_le (by omega)]
  simp
 | d + 1, j, k, acc, hd, hk, ha => by
  obtain ⟨k, rfl⟩ : ∃ m, k = m + 1 := ⟨k - 1, by omega⟩
  have hj : j < ix.length := by omega
  have hx := h ix[j] (List.getElem_mem hj)
  simp only [zrS.l0]
  rw [if_pos (by omega), if_pos (by omega), if_pos (by omega), rd_nat ix j hj, if_pos hx.1, if_pos hx.2, if_pos (by omega), succ64 (by omega), impl_chosen_l0 q ix h hl d (j + 1) k _ (by omega) (by omega) (by simp; omega), drop_at ix j hj, List.map_cons, List.append_assoc]
  rfl
theorem impl_chosen_eq (q ix : List Int) (h : ∀ x ∈ ix, 0 ≤ x ∧ x < q.length) (hl : ix.length ≤ 100) (k : Nat) (hk : ix.length < k) : zrS.f k q ix = some (ix.map (rd q)) := by
 unfold zrS.f
 have := impl_chosen_l0 q ix h (by omega) ix.length 0 k [] (by omega) hk rfl
 simpa using this

/-- The zyR of a run of c sectors from place i on, of n. -/
def zyR (i n : Nat) : Nat → Nat → List Int
 | 0, _ => []
 | d + 1, j => (((i + j) % n : Nat) : Int) :: zyR i n d (j + 1)
theorem zqH (i n : Nat) : ∀ d j, (zyR i n d j).length = d
 | 0, _ => rfl
 | d + 1, j => by simp [zyR, zqH i n d (j + 1)]
theorem creases_mem (i n : Nat) (hn : 0 < n) : ∀ d j, ∀ x ∈ zyR i n d j, 0 ≤ x ∧ x < n
 | 0, _, x, hx => by simp [zyR] at hx
 | d + 1, j, x, hx => by
  rcases List.mem_cons.1 hx with rfl | hx
  ·have := Nat.mod_lt (i + j) hn; omega
  ·exact creases_mem i n hn d (j + 1) x hx
theorem creases_get (i n : Nat) : ∀ (d j t : Nat) (h : t < (zyR i n d j).length), (zyR i n d j)[t] = (((i + j + t) % n : Nat) : Int)
 | 0, j, t, h => by simp [zyR] at h
 | d + 1, j, 0, h => rfl
 | d + 1, j, t + 1, h => by
  simp only [zyR, List.getElem_cons_succ]
  rw [creases_get i n d (j + 1) t (by rw [zqH] at h ⊢; omega)]
  congr 2; omega
theorem impl_innerCreases_l0 (i n c : Nat) (s : Int) (hn : 0 < n) (h16 : n ≤ 16) (hi : i ≤ 16) (hc : c ≤ 16) : ∀ (d j k : Nat) (acc : List Int), j + d = c + 1 → d < k → acc.length = j → zgK.l0 k (n : Int) acc ((c : Int) + 1) (j : Int) (i : Int) (c : Int) s = some (acc ++ zyR i n d j)
 | 0, j, k, acc, hd, hk, ha => by
  obtain ⟨k, rfl⟩ : ∃ m, k = m + 1 := ⟨k - 1, by omega⟩
  simp only [zgK.l0]
  rw [if_neg (by omega)]
  simp [zyR]
 | d + 1, j, k, acc, hd, hk, ha => by
  obtain ⟨k, rfl⟩ : ∃ m, k = m + 1 := ⟨k - 1, by omega⟩
  have hz : ¬ (n : Int) = 0 := by omega
  simp only [zgK.l0]
  rw [if_pos (by omega), if_neg hz, if_pos (by omega), succ64 (by omega), w64 (n := (i : Int) + j) (by omega) (by omega), show (i : Int) + j = ((i + j : Nat) : Int) by omega, tmodN, impl_innerCreases_l0 i n c s hn h16 hi hc d (j + 1) k _ (by omega) (by omega) (by simp; omega)]
  simp [zyR]
theorem impl_innerCreases_eq (i n c : Nat) (s : Int) (hn : 0 < n) (h16 : n ≤ 16) (hi : i ≤ 16) (hc : c ≤ 16) (k : Nat) (hk : 20 < k) : zgK.f k (i : Int) (c : Int) s (n : Int) = some (zyR i n (c + 1) 0) := by
 unfold zgK.f
 rw [w64 (n := (c : Int) + 1) (by omega) (by omega)]
 have := impl_innerCreases_l0 i n c s hn h16 hi hc (c + 1) 0 k [] (by omega) (by omega) rfl
 simpa using this
/-- The kinds at a run's zyR. -/
theorem creases_inner (q : List Int) (i c : Nat) (_hi : i < q.length) (hc : c + 2 ≤ q.length) : (zyR i q.length (c + 1) 0).map (rd q) = zlR c (rot q ((i + q.length - 1) % q.length)) := by
 have hb : (i + q.length - 1) % q.length < q.length := Nat.mod_lt _ (by omega)
 have hR := zfX q ((i + q.length - 1) % q.length) (by omega)
 apply List.ext_getElem
 ·unfold zlR; rw [List.length_map, zqH, List.length_drop, List.length_take, hR]; omega
 ·intro t h1 h2
  rw [List.length_map, zqH] at h1
  rw [List.getElem_map, creases_get]
  have e : (zlR c (rot q ((i + q.length - 1) % q.length)))[t] = (rot q ((i + q.length - 1) % q.length))[1 + t]'(by rw [hR]; omega) := by simp [zlR, Nat.add_comm]
  rw [e, ← rd_nat _ (1 + t) (by rw [hR]; omega), rd_rot q _ (1 + t) hb (by omega)]
  refine Eq.trans ?_ (at'_congr q (add_mod_l _ _ _)).symm
  show at' q (i + 0 + t) = _
  exact at'_congr q (by rw [show i + q.length - 1 + (1 + t) = i + 0 + t + q.length by omega, Nat.add_mod_right])

theorem impl_isBalanced_eq (q : List Int) (hq : znN q) (i c : Nat) (s : Int) (h16 : q.length ≤ 16) (hi : i < q.length) (hc : c + 2 ≤ q.length) (k : Nat) (hk : 100 < k) :
  zbF.f k (i : Int) (c : Int) s q = some ((if tal (zlR c (rot q ((i + q.length - 1) % q.length))) < 0 then -tal (zlR c (rot q ((i + q.length - 1) % q.length))) else tal (zlR c (rot q ((i + q.length - 1) % q.length)))) == (((c + 1) % 2 : Nat) : Int)) := by
 unfold zbF.f zfN.f
 have hin := creases_inner q i c hi hc
 have hR := zfX q ((i + q.length - 1) % q.length) (Nat.le_of_lt (Nat.mod_lt _ (by omega)))
 have hil : (zlR c (rot q ((i + q.length - 1) % q.length))).length = c + 1 := by unfold zlR; rw [List.length_drop, List.length_take, hR]; omega
 have hk2 : znN (zlR c (rot q ((i + q.length - 1) % q.length))) := fun x hx => hq x (mem_rot (List.mem_of_mem_take (List.mem_of_mem_drop hx)))
 rw [Option.bind_some, impl_innerCreases_eq i q.length c s (by omega) h16 (by omega) (by omega) k (by omega), Option.bind_some, impl_chosen_eq q _ (creases_mem i q.length (by omega) (c + 1) 0) (by rw [zqH]; omega) k (by rw [zqH]; omega), Option.bind_some, hin, impl_excess_eq _ (by omega) hk2 k (by omega), Option.bind_some,
  succ64 (by omega), show Int.tmod ((c + 1 : Nat) : Int) 2 = (((c + 1) % 2 : Nat) : Int) from rfl]

theorem impl_crimp_l0 (l q : List Int) (hq : q.length = l.length) (h16 : l.length ≤ 16) (b : Nat) (hb : b < l.length) : ∀ (d m k : Nat) (S O : List Int), m + d = l.length → 1 ≤ m → d < k → S.length + d ≤ 100 → O.length + d ≤ 100 →
  zzB.l0 k l q (l.length : Int) (b : Int) S O (((b + m) % l.length : Nat) : Int) = some (S ++ (rot l b).drop m, O ++ (rot q b).drop m, 0)
 | 0, m, k, S, O, hd, h1, hk, hS, hO => by
  obtain ⟨k, rfl⟩ : ∃ m, k = m + 1 := ⟨k - 1, by omega⟩
  have hl := zfX l b (by omega)
  have hl2 := zfX q b (by omega)
  simp only [zzB.l0]
  rw [show m = l.length by omega, Nat.add_mod_right, Nat.mod_eq_of_lt hb, if_pos rfl, List.drop_eq_nil_of_le (by omega), List.drop_eq_nil_of_le (by omega), List.append_nil, List.append_nil]
 | d + 1, m, k, S, O, hd, h1, hk, hS, hO => by
  obtain ⟨k, rfl⟩ : ∃ m, k = m + 1 := ⟨k - 1, by omega⟩
  have hl := zfX l b (by omega)
  have hl2 := zfX q b (by omega)
  have hx := Nat.mod_lt (b + m) (show 0 < l.length by omega)
  have hne : (b + m) % l.length ≠ b := by
   intro e
   by_cases c : b + m < l.length
   ·rw [Nat.mod_eq_of_lt c] at e; omega
   ·rw [show b + m = (b + m - l.length) + l.length by omega, Nat.add_mod_right, Nat.mod_eq_of_lt (by omega)] at e; omega
  have hz : ¬ (l.length : Int) = 0 := by omega
  have r1 : rd l (((b + m) % l.length : Nat) : Int) = (rot l b)[m]'(by omega) := by
   rw [← rd_nat _ m (by omega), rd_rot l b m hb (by omega)]; rfl
  have r2 : rd q (((b + m) % l.length : Nat) : Int) = (rot q b)[m]'(by omega) := by
   rw [← rd_nat _ m (by omega), rd_rot q b m (by omega) (by omega)]; unfold at'; rw [hq]
  have e : Int.tmod (wrap64 ((((b + m) % l.length : Nat) : Int) + 1)) (l.length : Int) = (((b + (m + 1)) % l.length : Nat) : Int) := by
   rw [succ64 (by omega), tmodN, add_mod_l, Nat.add_assoc]
  have E := Aside0.mk e
  clear e
  simp only [zzB.l0]
  rw [if_neg (by omega), if_pos (by omega), if_pos (by omega), if_pos (by omega), if_pos (by omega), if_pos (by omega), if_neg hz, E.out, r1, r2, impl_crimp_l0 l q hq h16 b hb d (m + 1) k _ _ (by omega) (by omega) (by omega) (by simp; omega) (by simp; omega), drop_at (rot l b) m (by omega), drop_at (rot q b) m (by omega)]
  simp
set_option maxRecDepth 10000 in
theorem impl_crimp_eq (l q : List Int) (hl : zzZ l) (hq : znN q) (hn : q.length = l.length) (k : Nat) (hk : 500 ≤ k) : zzB.f k l q = some (zdQ l q) := by
 obtain ⟨h1, h2, h3, _⟩ := id hl
 have hruns := impl_littleRuns_eq l h2 k (by omega)
 have hfst := runsF_first l l.length 0
 unfold zdQ
 cases hf : zpQ l l.length 0 with
 | none =>
  rw [hf] at hfst
  simp only at hfst
  unfold zzB.f
  rw [hruns, hfst]
  rfl
 | some i =>
  rw [hf] at hfst
  obtain ⟨o, ho⟩ := hfst
  obtain ⟨_, hi, hr⟩ := zwE l _ _ _ hf
  have hi' : i < l.length := by omega
  have R := runR_of hl hi' hr
  obtain ⟨c, hc⟩ : ∃ c : Nat, c = (zfG l i).toNat := ⟨_, rfl⟩
  have hv : zfG l i = (c : Int) := by omega
  have hbal := impl_isBalanced_eq q hq i c (at' l i) (by omega) (by omega) (by have := R.two; rw [zfX _ _ (Nat.le_of_lt (Nat.mod_lt _ (by omega))), ← hc] at this; omega) k (by omega)
  have hic := creases_inner q i c (by omega) (by have := R.two; rw [zfX _ _ (Nat.le_of_lt (Nat.mod_lt _ (by omega))), ← hc] at this; omega)
  have hcm := creases_mem i q.length (by omega) (c + 1) 0
  obtain ⟨b, hb⟩ : ∃ b : Nat, b = (i + l.length - 1) % l.length := ⟨_, rfl⟩
  rw [hn, ← hb] at hbal hic
  rw [hn] at hcm
  rw [← hc, ← hb] at R
  simp only [← hc, ← hb]
  have hbl : b < l.length := by rw [hb]; exact Nat.mod_lt _ (by omega)
  have hL : (rot l b).length = l.length := zfX l b (Nat.le_of_lt hbl)
  have hQ : (rot q b).length = l.length := by rw [zfX q b (by rw [hn]; exact Nat.le_of_lt hbl), hn]
  have R1 := R.one
  have R2 := R.two
  have hc16 : c ≤ 16 := by omega
  have e1 : Int.tmod (wrap64 (wrap64 ((i : Int) + (l.length : Int)) - 1)) (l.length : Int) = (b : Int) := by
   rw [w64 (n := (i : Int) + l.length) (by omega) (by omega), show (i : Int) + l.length - 1 = ((i + l.length - 1 : Nat) : Int) by omega, idx l _ (by omega) (by omega), hb]
  have E1 := Aside0.mk e1
  clear e1
  have hbi : (b + 1) % l.length = i := by
   rw [hb, add_mod_l, show i + l.length - 1 + 1 = i + l.length by omega, Nat.add_mod_right, Nat.mod_eq_of_lt hi']
  obtain ⟨h, hh⟩ : ∃ h : Nat, h = (i + c) % l.length := ⟨_, rfl⟩
  have hhl : h < l.length := by rw [hh]; exact Nat.mod_lt _ (by omega)
  have hh2 : h = (b + (c + 1)) % l.length := by rw [hh, ← hbi, add_mod_l, show b + 1 + c = b + (c + 1) by omega]
  have e2 : Int.tmod (wrap64 ((i : Int) + (c : Int))) (l.length : Int) = (h : Int) := by
   rw [show (i : Int) + c = ((i + c : Nat) : Int) by omega, idx l _ (by omega) (by omega), hh]
  have E2 := Aside0.mk e2
  clear e2
  have e3 : Int.tmod (wrap64 ((h : Int) + 1)) (l.length : Int) = (((b + (c + 2)) % l.length : Nat) : Int) := by
   rw [succ64 (by omega), tmodN, hh2, add_mod_l, show b + (c + 1) + 1 = b + (c + 2) by omega]
  have E3 := Aside0.mk e3
  clear e3
  have rb : rd l (b : Int) = rd (rot l b) 0 := by rw [show (0 : Int) = ((0 : Nat) : Int) from rfl, rd_rot l b 0 hbl (by omega), at'_self l b hbl]; rfl
  have rh : rd l (h : Int) = rd (rot l b) ((c + 1 : Nat) : Int) := by rw [rd_rot l b (c + 1) hbl (by omega), hh2]; rfl
  have rs : at' l i = rd (rot l b) 1 := by
   rw [show (1 : Int) = ((1 : Nat) : Int) from rfl, rd_rot l b 1 hbl (by omega)]
   unfold at'
   rw [hbi, Nat.mod_eq_of_lt hi']
  have rq : rd q (b : Int) = rd (rot q b) 0 := by rw [show (0 : Int) = ((0 : Nat) : Int) from rfl, rd_rot q b 0 (by omega) (by omega), at'_self q b (by omega)]; rfl
  have hz : ¬ (l.length : Int) = 0 := by omega
  have hin : (zlR c (rot q b)).length = c + 1 := by unfold zlR; rw [List.length_drop, List.length_take]; omega
  have hk2 : znN (zlR c (rot q b)) := fun x hx => hq x (mem_rot (List.mem_of_mem_take (List.mem_of_mem_drop hx)))
  have hct := cnt_tal hk2
  -- the loop
  have hloop : ∀ S O : List Int, S.length ≤ 10 → O.length ≤ 10 → zzB.j0 k l q (l.length : Int) (b : Int) (h : Int) S O = some (S ++ (rot l b).drop (c + 2), O ++ (rot q b).drop (c + 2), 0) := by
   intro S O hS hO
   obtain ⟨k, rfl⟩ : ∃ m, k = m + 1 := ⟨k - 1, by omega⟩
   simp only [zzB.j0]
   rw [if_neg hz, E3.out]
   exact impl_crimp_l0 l q hn h2 b hbl (l.length - (c + 2)) (c + 2) k S O (by omega) (by omega) (by omega) (by omega) (by omega)
  have r0 : zwR (runHead l i :: o) 0 = ⟨(i : Int), (c : Int), at' l i⟩ := by rw [← hv]; rfl
  have hlen : ¬ (((runHead l i :: o).length : Int) = 0) := by rw [List.length_cons]; omega
  have hlen2 : (0 : Int) < ((runHead l i :: o).length : Int) := by rw [List.length_cons]; omega
  unfold zzB.f zfN.f
  rw [hruns, ho, Option.bind_some, if_neg hlen, if_pos hlen2, Option.bind_some, r0]
  simp only
  rw [hbal, Option.bind_some]
  simp only [E1.out, E2.out, if_neg hz, if_pos (show (0 : Int) ≤ (b : Int) by omega), if_pos (show (b : Int) < (l.length : Int) by omega), if_pos (show (0 : Int) ≤ (h : Int) by omega), if_pos (show (h : Int) < (l.length : Int) by omega), if_pos (show (b : Int) < (q.length : Int) by omega)]
  have hg0 := R.big _ (List.getElem_mem (show 0 < (rot l b).length by omega))
  have hg1 := R.big _ (List.getElem_mem (show 1 < (rot l b).length by omega))
  have hg2 := R.big _ (List.getElem_mem (show c + 1 < (rot l b).length by omega))
  rw [← rd_eq] at hg0 hg1 hg2
  have hg0 : 1 ≤ rd (rot l b) 0 ∧ rd (rot l b) 0 ≤ 16 := hg0
  have hg1 : 1 ≤ rd (rot l b) 1 ∧ rd (rot l b) 1 ≤ 16 := hg1
  rw [rb, rh, rs, rq, w64 (n := rd (rot l b) 0 - rd (rot l b) 1) (by omega) (by omega), w64 (n := rd (rot l b) 0 - rd (rot l b) 1 + rd (rot l b) ((c + 1 : Nat) : Int)) (by omega) (by omega)]
  have hdr : (rot l b).drop (c + 1) = rd (rot l b) ((c + 1 : Nat) : Int) :: (rot l b).drop (c + 2) := by rw [drop_at _ (c + 1) (by omega), rd_eq _ (j := c + 1) (by omega)]
  rw [impl_innerCreases_eq i l.length c _ (by omega) h2 (by omega) hc16 k (by omega), Option.bind_some, impl_chosen_eq q _ (by rw [hn]; exact hcm) (by rw [zqH]; omega) k (by rw [zqH]; omega), Option.bind_some, hic, zkV 3 _ (by omega) k (by omega), Option.bind_some, zkV 2 _ (by omega) k (by omega), Option.bind_some,
   hloop _ _ (by simp) (by simp), hloop _ _ (by simp) (by simp), hloop _ _ (by simp) (by simp)]
  unfold zuU
  rw [hdr]
  have htm : Int.tmod (c : Int) 2 = ((c % 2 : Nat) : Int) := rfl
  rw [htm]
  generalize tal (zlR c (rot q b)) = t at *
  by_cases hodd : c % 2 = 1
  ·rw [if_pos hodd]
   rw [if_pos (show ((c % 2 : Nat) : Int) = 1 by omega), show (c + 1) % 2 = 0 by omega]
   by_cases ht : t = 0
   ·subst ht; simp
   ·rw [if_neg ht, if_neg (by simp; split <;> omega)]
  ·rw [if_neg hodd]
   rw [if_neg (show ¬ ((c % 2 : Nat) : Int) = 1 by omega), show (c + 1) % 2 = 1 by omega]
   by_cases ht : t = 1 ∨ t = -1
   ·rw [if_pos ht, if_pos (by rcases ht with rfl | rfl <;> rfl)]
    by_cases hn : t < 0
    ·rw [if_pos hn, if_pos (by omega)]; rfl
    ·rw [if_neg hn, if_neg (by omega)]; rfl
   ·rw [if_neg ht, if_neg (by simp; split <;> omega)]

theorem impl_foldsAround_l0 : ∀ (d k : Nat) (l q : List Int), zzZ l → znN q → q.length = l.length → l.length ≤ d → 520 + d < k → zsK.l0 k l q = some (foldF d l q)
 | 0, k, l, q, hl, _, _, hd, _ => by have := hl.1; omega
 | d + 1, k, l, q, hl, hq, hn, hd, hk => by
  obtain ⟨k, rfl⟩ : ∃ m, k = m + 1 := ⟨k - 1, by omega⟩
  have h2 := hl.2.1
  simp only [zsK.l0, foldF]
  rw [impl_crimp_eq l q hl hq hn k (by omega), Option.bind_some]
  by_cases h6 : (zdQ l q).2.2 = 6
  ·rw [if_pos h6, if_pos h6, impl_excess_eq q (by omega) hq k (by omega), Option.bind_some]
   congr 1
   rw [Bool.eq_iff_iff, beq_iff_eq, decide_eq_true_eq]
   split <;> omega
  ·rw [if_neg h6, if_neg h6]
   rcases crimpF_code l q with h | h | h
   ·exact absurd h h6
   ·rw [if_pos h, if_neg (by omega)]
   ·rw [if_neg (by omega), if_pos h]
    obtain ⟨a1, a2, a3, a4⟩ := crimpF_ok hl hq hn h
    exact impl_foldsAround_l0 d k _ _ a1 a2 a3 (by omega) (by omega)
theorem zuH (l q : List Int) (hl : zzZ l) (hq : znN q) (hn : q.length = l.length) (k : Nat) (hk : 600 ≤ k) : zsK.f k l q = some (folds l q) := by
 unfold zsK.f folds
 have := hl.2.1
 exact impl_foldsAround_l0 l.length k l q hl hq hn (Nat.le_refl _) (by omega)

theorem kindsN_B2 (n b : Nat) : zbP n b = zkC n b := rfl
theorem asgF_eq (l : List Int) (hl : zzZ l) (k : Nat) (hk : 600 ≤ k) : ∀ (d b : Nat) (out : List (List Int)), zbS k l d b out = some (out ++ asgB l d b)
 | 0, b, out => by simp [zbS, asgB]
 | d + 1, b, out => by
  simp only [zbS, kindsN_B2]
  rw [zuH l _ hl (kindsB_ok _ _) (kindsB_length _ _) k hk, Option.bind_some, asgF_eq l hl k hk d (b + 1) _, asgB]
  cases hf : folds l (zkC l.length b) with
  | true => rw [if_pos rfl, if_pos rfl, List.append_assoc]
  | false => rw [if_neg (by simp), if_neg (by simp), List.nil_append]
theorem impl_AssignmentsOf_eq (l : List Int) (k : Nat) (hk : 600 ≤ k) : zyN.f k l = some (asgV l) := by
 unfold zyN.f asgV
 rw [impl_ValidCone_eq l k (by omega), Option.bind_some]
 by_cases h : zzZ l
 ·rw [decide_eq_true h, if_pos rfl, if_pos h]
  by_cases hn : l.length ≤ 10
  ·rw [if_pos hn, if_pos hn, asgF_eq l h k hk, Option.bind_some]
   rfl
  ·rw [if_neg hn, if_neg hn]
 ·rw [decide_eq_false h, if_neg (by simp), if_neg h]

theorem laws_a2Long_eq (a b : List Int) : zpR.f a b = some (decide (a.length > 3000 ∨ b.length > 3000)) := by
 unfold zpR.f
 by_cases h : a.length > 3000
 ·rw [if_pos (by omega), decide_eq_true (Or.inl h)]
 ·rw [if_neg (by omega)]
  congr 1
  rw [decide_eq_decide]; omega

theorem and255u (n : Int) : bits .and .u64 n 255 = n % 256 := by
 have h255 : (BitVec.ofInt 64 255).toNat = 2 ^ 8 - 1 := by decide
 have key : (BitVec.ofInt 64 n &&& BitVec.ofInt 64 255).toNat = (n % ((2 ^ 64 : Nat) : Int)).toNat % 2 ^ 8 := by
  rw [BitVec.toNat_and, BitVec.toNat_ofInt, h255, Nat.and_two_pow_sub_one_eq_mod]
 show IntKind.u64.wrap ((BitVec.ofInt 64 n &&& BitVec.ofInt 64 255).toNat : Nat) = n % 256
 rw [key, wu64 (by omega) (by omega)]
 omega
/-- The bytes of a list. -/
def Bytes (l : List Int) : Prop := l.length ≤ 3000 ∧ ∀ x ∈ l, 0 ≤ x ∧ x ≤ 255
theorem spec_l00Src_next_ok (l : List Int) (hl : Bytes l) (p s : Int) (h0 : 0 ≤ p) (h1 : p ≤ 4611686018427387904) : ∃ v s', zqO.f l p s = some (v, p + 1, s') ∧ 0 ≤ v ∧ v ≤ 255 := by
 unfold zqO.f
 rw [w64 (n := p + 1) (by omega) (by omega)]
 have hL := hl.1
 by_cases h : p < (l.length : Int)
 ·obtain ⟨q, rfl⟩ : ∃ q : Nat, p = q := ⟨p.toNat, by omega⟩
  rw [if_pos h, if_pos h0, if_pos (by omega), rd_nat l q (by omega)]
  have hb := hl.2 l[q] (List.getElem_mem _)
  refine ⟨_, _, rfl, ?_⟩
  rw [w64 (by omega) (by omega)]
  exact hb
 ·rw [if_neg h, if_neg (by omega), and255u]
  refine ⟨_, _, rfl, ?_⟩
  rw [w64 (by omega) (by omega)]
  omega

theorem ztV (l : List Int) (hl : Bytes l) (p s n : Int) (h0 : 0 ≤ p) (h1 : p ≤ 4611686018427387000) (hn : n ≤ 60000) :
  ∃ v p' s', zcB.f l p s n = some (v, p', s') ∧ 0 ≤ v ∧ (1 ≤ n → v < n) ∧ p ≤ p' ∧ p' ≤ p + 2 := by
 unfold zcB.f
 by_cases h : n ≤ 1
 ·rw [if_pos h]
  exact ⟨0, p, s, rfl, by omega, by omega, by omega, by omega⟩
 ·obtain ⟨v, s', e, v0, v1⟩ := spec_l00Src_next_ok l hl p s h0 (by omega)
  rw [if_neg h, e, Option.bind_some]
  have hz : ¬ n = 0 := by omega
  by_cases h2 : n > 200
  ·obtain ⟨w, s2, e2, w0, w1⟩ := spec_l00Src_next_ok l hl (p + 1) s' (by omega) (by omega)
   rw [if_pos h2]
   simp only [e2, Option.bind_some]
   rw [if_neg hz]
   have e3 : wrap64 (wrap64 (v * 256) + w) = v * 256 + w := by rw [w64 (n := v * 256) (by omega) (by omega), w64 (by omega) (by omega)]
   rw [e3]
   exact ⟨_, _, _, rfl, Int.tmod_nonneg _ (by omega), fun _ => Int.tmod_lt_of_pos _ (by omega), by omega, by omega⟩
  ·rw [if_neg h2, if_neg hz]
   exact ⟨_, _, _, rfl, Int.tmod_nonneg _ (by omega), fun _ => Int.tmod_lt_of_pos _ (by omega), by show p ≤ p + 1; omega, by show p + 1 ≤ p + 2; omega⟩

theorem spec_l00Src_one_ok (l : List Int) (hl : Bytes l) (p s n : Int) (h0 : 0 ≤ p) (h1 : p ≤ 4611686018427387000) (hn : n ≤ 60000) :
  ∃ b p' s', zmN.f l p s n = some (b, p', s') ∧ p ≤ p' ∧ p' ≤ p + 2 := by
 unfold zmN.f
 obtain ⟨v, p', s', e, _, _, hp, hp'⟩ := ztV l hl p s n h0 h1 hn
 rw [e]
 exact ⟨_, _, _, rfl, hp, hp'⟩

theorem spec_l00Min_eq (a b : Int) : zmO.f a b = some (if a < b then a else b) := by unfold zmO.f; exact some_ite _ _ _

theorem spec_l05Parts_l0 (l : List Int) (hl : Bytes l) : ∀ (n k : Nat) (t p s : Int) (o : List Int), n + 1 ≤ k → (n : Int) + 1 ≤ t → t ≤ 16 → o.length + n ≤ 1000 → 0 ≤ p → p + 4 * n ≤ 4611686018427386000 →
  ∃ q p' s', zfT.l0 k ((n : Int) + 1) t o l p s = some (o ++ q, p', s') ∧ q.length = n + 1 ∧ (∀ x ∈ q, 1 ≤ x ∧ x ≤ t) ∧ q.sum = t ∧ p ≤ p' ∧ p' ≤ p + 4 * n
 | 0, k, t, p, s, o, hk, ht, ht2, ho, hp, hp2 => by
  obtain ⟨k, rfl⟩ : ∃ m, k = m + 1 := ⟨k - 1, by omega⟩
  simp only [zfT.l0]
  rw [if_neg (by omega), if_pos (by omega)]
  exact ⟨[t], p, s, rfl, rfl, by simp; omega, by simp, by omega, by omega⟩
 | n + 1, k, t, p, s, o, hk, ht, ht2, ho, hp, hp2 => by
  obtain ⟨k, rfl⟩ : ∃ m, k = m + 1 := ⟨k - 1, by omega⟩
  obtain ⟨v, p1, s1, e1, v0, v1, g1, g1'⟩ := ztV l hl p s 6 hp (by omega) (by omega)
  have v2 := v1 (by omega)
  have ew : wrap64 (wrap64 (t - (((n + 1 : Nat) : Int) + 1)) + 1) = t - n - 1 := by rw [w64 (n := t - _) (by omega) (by omega), w64 (by omega) (by omega)]; omega
  have ew2 : wrap64 (1 + v) = 1 + v := w64 (by omega) (by omega)
  obtain ⟨r, hr⟩ : ∃ r : Int, r = if t - n - 1 < 1 + v then t - n - 1 else 1 + v := ⟨_, rfl⟩
  have hr1 : 1 ≤ r ∧ r ≤ t - n - 1 := by rw [hr]; split <;> omega
  obtain ⟨w, p2, s2, e2, w0, w1, g2, g2'⟩ := ztV l hl p1 s1 r (by omega) (by omega) (by omega)
  have w2 := w1 hr1.1
  have ew3 : wrap64 (1 + w) = 1 + w := w64 (by omega) (by omega)
  have ew4 : wrap64 (t - (1 + w)) = t - (1 + w) := w64 (by omega) (by omega)
  have ew5 : wrap64 (((n + 1 : Nat) : Int) + 1 - 1) = (n : Int) + 1 := by rw [w64 (by omega) (by omega)]; omega
  obtain ⟨q, p', s', e, hq, hq2, hq3, hq4, hq5⟩ := spec_l05Parts_l0 l hl n k (t - (1 + w)) p2 s2 (o ++ [1 + w]) (by omega) (by omega) (by omega) (by simp; omega) (by omega) (by omega)
  simp only [zfT.l0]
  rw [if_pos (by omega), e1, Option.bind_some, ew, ew2, spec_l00Min_eq, ← hr, Option.bind_some]
  simp only [e2, Option.bind_some, ew3, ew4, ew5]
  rw [if_pos (by omega), e]
  refine ⟨(1 + w) :: q, p', s', by rw [List.append_assoc]; rfl, by simp [hq], ?_, by rw [List.sum_cons, hq3]; omega, by omega, by omega⟩
  intro x hx
  rcases List.mem_cons.1 hx with rfl | hx
  ·omega
  ·have := hq2 x hx; omega
theorem spec_l05Parts_ok (l : List Int) (hl : Bytes l) (k : Nat) (n t p s : Int) (hk : 20 ≤ k) (hn : 1 ≤ n) (hnt : n ≤ t) (ht : t ≤ 16) (hp : 0 ≤ p) (hp2 : p ≤ 4000000000000000000) :
  ∃ q p' s', zfT.f k l p s n t = some (q, p', s') ∧ (q.length : Int) = n ∧ (∀ x ∈ q, 1 ≤ x ∧ x ≤ t) ∧ q.sum = t ∧ p ≤ p' ∧ p' ≤ p + 100 := by
 obtain ⟨m, rfl⟩ : ∃ m : Nat, n = (m : Int) + 1 := ⟨(n - 1).toNat, by omega⟩
 obtain ⟨q, p', s', e, a, b, c, d, f⟩ := spec_l05Parts_l0 l hl m k t p s [] (by omega) hnt ht (by simp; omega) hp (by omega)
 unfold zfT.f
 exact ⟨q, p', s', e, by omega, b, c, d, by omega⟩

theorem spec_l00Own_eq (l : List Int) (hl : l.length ≤ 1048576) : znA.f l = some l := by
 unfold znA.f
 rw [Option.bind_some, if_pos (by simp; omega)]
 rfl

theorem spec_l05Rotated_eq (l : List Int) (i : Nat) (hl : l.length ≤ 1048576) (hi : i ≤ l.length) : zrU.f l (i : Int) = some (l.drop i ++ l.take i) := by
 unfold zrU.f
 rw [if_pos (by omega), if_pos (by omega), Int.toNat_natCast, spec_l00Own_eq _ (by rw [List.length_drop]; omega), Option.bind_some, if_pos (by rw [List.length_drop, List.length_take]; omega)]

theorem dr_sum (l : List Int) (i : Nat) : (l.drop i ++ l.take i).sum = l.sum := by rw [List.sum_append, Int.add_comm, ← List.sum_append, List.take_append_drop]
theorem dr_mem {l : List Int} {i : Nat} {x : Int} (h : x ∈ l.drop i ++ l.take i) : x ∈ l := by
 rcases List.mem_append.1 h with h | h
 ·exact List.mem_of_mem_drop h
 ·exact List.mem_of_mem_take h
theorem dr_length (l : List Int) (i : Nat) : (l.drop i ++ l.take i).length = l.length := by rw [List.length_append, List.length_drop, List.length_take]; omega
theorem alt_two (x y : Int) (q : List Int) : alt (x :: y :: q) = x - y + alt q := by
 simp only [alt]
 omega
theorem spec_l11Draw_l0 (a b l : List Int) (p s : Int) (hab : a.length = b.length) (ha : a.length ≤ 100) : ∀ (d k j : Nat) (o : List Int), j + d = a.length → d < k → o.length ≤ 2 * j →
  ∃ q, zaK.l0 k a b o (j : Int) l p s = some (o ++ q, p, s) ∧ q.length = 2 * d ∧ (∀ x ∈ q, x ∈ a ∨ x ∈ b) ∧ q.sum = (a.drop j).sum + (b.drop j).sum ∧ alt q = (a.drop j).sum - (b.drop j).sum
 | 0, k, j, o, hd, hk, ho => by
  obtain ⟨k, rfl⟩ : ∃ m, k = m + 1 := ⟨k - 1, by omega⟩
  simp only [zaK.l0]
  rw [if_neg (by omega), List.drop_eq_nil_of_le (by omega), List.drop_eq_nil_of_le (by omega)]
  exact ⟨[], by simp, rfl, by simp, by simp, by simp [alt]⟩
 | d + 1, k, j, o, hd, hk, ho => by
  obtain ⟨k, rfl⟩ : ∃ m, k = m + 1 := ⟨k - 1, by omega⟩
  obtain ⟨q, e, h1, h2, h3, h4⟩ := spec_l11Draw_l0 a b l p s hab ha d k (j + 1) (o ++ [a[j], b[j]]) (by omega) (by omega) (by simp; omega)
  simp only [zaK.l0]
  rw [if_pos (by omega), if_pos (by omega), if_pos (by omega), rd_nat a j (by omega), rd_nat b j (by omega), Option.bind_some, if_pos (by simp; omega), succ64 (by omega), e, drop_at a j (by omega), drop_at b j (by omega)]
  refine ⟨a[j] :: b[j] :: q, by simp, by simp [h1]; omega, ?_, by simp only [List.sum_cons, h3]; omega, by rw [alt_two, h4]; simp only [List.sum_cons]; omega⟩
  intro x hx
  rcases List.mem_cons.1 hx with rfl | hx
  ·exact Or.inl (List.getElem_mem _)
  ·rcases List.mem_cons.1 hx with rfl | hx
   ·exact Or.inr (List.getElem_mem _)
   ·exact h2 x hx
theorem spec_l11Draw_ok (l : List Int) (hl : Bytes l) (k : Nat) (n p s : Int) (hk : 40 ≤ k) (hn : n = 8 ∨ n = 16) (hp : 0 ≤ p) (hp2 : p ≤ 1000000000000) :
  ∃ q p' s', zaK.f k l p s n = some (q, p', s') ∧ zzZ q ∧ (q.length : Int) ≤ n ∧ p ≤ p' ∧ p' ≤ p + 300 := by
 obtain ⟨m, hm0, hm1⟩ : ∃ m : Int, wrap64 (Int.tdiv n 2) = m ∧ (4 ≤ m ∧ m ≤ 8 ∧ n = 2 * m) := by
  rcases hn with rfl | rfl
  ·exact ⟨4, by decide +kernel, by omega⟩
  ·exact ⟨8, by decide +kernel, by omega⟩
 obtain ⟨v, p1, s1, e1, v0, v1, d1, d2⟩ := ztV l hl p s m hp (by omega) (by omega)
 have v2 := v1 (by omega)
 obtain ⟨t, p2, s2, e2, d3, d4⟩ := spec_l00Src_one_ok l hl p1 s1 4 (by omega) (by omega) (by omega)
 have eh : wrap64 (1 + v) = 1 + v := w64 (by omega) (by omega)
 have fin : ∀ (h u p s : Int) (k : Nat), 20 < k → 1 ≤ h → h ≤ m → h ≤ u → u ≤ 8 → 0 ≤ p → p ≤ 2000000000000 → ∃ q p' s', zaK.j0 k h u l p s = some (q, p', s') ∧ zzZ q ∧ (q.length : Int) ≤ n ∧ p ≤ p' ∧ p' ≤ p + 290 := by
  intro h u p s k hk h1 hm hu hu8 hp hp2
  obtain ⟨k, rfl⟩ : ∃ m, k = m + 2 := ⟨k - 2, by omega⟩
  obtain ⟨a, p1, s1, e1, a1, a2, a3, a4, a5⟩ := spec_l05Parts_ok l hl (k + 1) h u p s (by omega) h1 hu (by omega) hp (by omega)
  obtain ⟨b, p2, s2, e2, b1, b2, b3, b4, b5⟩ := spec_l05Parts_ok l hl (k + 1) h u p1 s1 (by omega) h1 hu (by omega) (by omega) (by omega)
  obtain ⟨t, p3, s3, e3, c1, c2⟩ := spec_l00Src_one_ok l hl p2 s2 3 (by omega) (by omega) (by omega)
  have fin2 : ∀ (b' : List Int) (p s : Int), b'.length = a.length → (∀ x ∈ b', 1 ≤ x ∧ x ≤ u) → b'.sum = u → ∃ q, zaK.j1 (k + 1) a b' l p s = some (q, p, s) ∧ zzZ q ∧ (q.length : Int) ≤ n := by
   intro b' p s h1 h2 h3
   obtain ⟨q, e, g1, g2, g3, g4⟩ := spec_l11Draw_l0 a b' l p s (by omega) (by omega) a.length k 0 [] (by omega) (by omega) (by simp)
   rw [List.nil_append] at e
   rw [List.drop_zero, List.drop_zero] at g3 g4
   simp only [zaK.j1]
   refine ⟨q, e, ⟨by omega, by omega, by omega, ?_, by omega, by omega⟩, by omega⟩
   intro x hx
   rcases g2 x hx with h | h
   ·have := a2 x h; omega
   ·have := h2 x h; omega
  simp only [zaK.j0]
  simp only [e1, e2, e3, Option.bind_some]
  by_cases ht : t = true
  ·rw [if_pos ht]
   obtain ⟨v, p4, s4, e4, v0, v1, d1, d2⟩ := ztV l hl p3 s3 h (by omega) (by omega) (by omega)
   have v2 := v1 h1
   obtain ⟨i, rfl⟩ : ∃ i : Nat, v = i := ⟨v.toNat, by omega⟩
   simp only [e4, Option.bind_some]
   rw [spec_l05Rotated_eq a i (by omega) (by omega), Option.bind_some]
   obtain ⟨q, e, h, h'⟩ := fin2 (a.drop i ++ a.take i) p4 s4 (dr_length a i) (fun x hx => a2 x (dr_mem hx)) (by rw [dr_sum, a3])
   exact ⟨q, _, _, e, h, h', by omega, by omega⟩
  ·rw [if_neg ht]
   obtain ⟨q, e, h, h'⟩ := fin2 b p3 s3 (by omega) b2 b3
   exact ⟨q, _, _, e, h, h', by omega, by omega⟩
 unfold zaK.f
 rw [hm0]
 simp only [e1, e2, Option.bind_some, eh]
 by_cases ht : t = true
 ·rw [if_pos ht]
  have ew : wrap64 (wrap64 (8 - (1 + v)) + 1) = 8 - v := by rw [w64 (n := 8 - (1 + v)) (by omega) (by omega), w64 (by omega) (by omega)]; omega
  rw [ew]
  obtain ⟨u, p4, s4, e4, u0, u1, d5, d6⟩ := ztV l hl p2 s2 (8 - v) (by omega) (by omega) (by omega)
  have u2 := u1 (by omega)
  simp only [e4, Option.bind_some]
  rw [w64 (n := 1 + v + u) (by omega) (by omega)]
  obtain ⟨q, p5, s5, e, h, h', g1, g2⟩ := fin (1 + v) (1 + v + u) p4 s4 k (by omega) (by omega) (by omega) (by omega) (by omega) (by omega) (by omega)
  exact ⟨q, _, _, e, h, h', by omega, by omega⟩
 ·rw [if_neg ht]
  obtain ⟨q, p5, s5, e, h, h', g1, g2⟩ := fin (1 + v) 8 p2 s2 k (by omega) (by omega) (by omega) (by omega) (by omega) (by omega) (by omega)
  exact ⟨q, _, _, e, h, h', by omega, by omega⟩

theorem spec_A2Cone_ok (l : List Int) (hl : Bytes l) (k : Nat) (n : Int) (hk : 40 ≤ k) (hn : n = 8 ∨ n = 16) : ∃ q, zuK.f k l n = some q ∧ zzZ q ∧ (q.length : Int) ≤ n := by
 obtain ⟨q, p', s', e, h, h', _⟩ := spec_l11Draw_ok l hl k n 0 0 hk hn (by omega) (by omega)
 refine ⟨q, ?_, h, h'⟩
 unfold zuK.f zqP.f
 simp only [Option.bind_some]
 rw [e]
 rfl

theorem kindsN_B (n b : Nat) : zpF n b = zkC n b := rfl
theorem cntF_eq (l : List Int) (hl : zzZ l) (k : Nat) (hk : 600 ≤ k) : ∀ (d b : Nat) (m : Int), 0 ≤ m → m + d ≤ 1073741824 → zaC k l d b m = some (m + ((rsum (fun b => b01 (folds l (zkC l.length b))) d b : Nat) : Int))
 | 0, b, m, _, _ => by simp [zaC, rsum]
 | d + 1, b, m, h0, h1 => by
  simp only [zaC, rsum, kindsN_B]
  rw [zuH l _ hl (kindsB_ok _ _) (kindsB_length _ _) k hk, Option.bind_some]
  cases hf : folds l (zkC l.length b) with
  | true =>
   rw [if_pos rfl, w64 (by omega) (by omega), cntF_eq l hl k hk d (b + 1) (m + 1) (by omega) (by omega)]
   congr 1
   have : b01 true = 1 := rfl
   omega
  | false =>
   rw [if_neg (by simp), cntF_eq l hl k hk d (b + 1) m (by omega) (by omega)]
   congr 1
   have : b01 false = 0 := rfl
   omega
theorem impl_CountAssignments_eq (l : List Int) (k : Nat) (hk : 600 ≤ k) : zeK.f k l = some (cntV l) := by
 unfold zeK.f cntV
 rw [impl_ValidCone_eq l k (by omega), Option.bind_some]
 by_cases h : zzZ l
 ·have h16 := h.2.1
  have hp : (2 : Nat) ^ l.length ≤ 2 ^ 16 := Nat.pow_le_pow_right (by omega) h16
  have c : (2 : Nat) ^ 16 = 65536 := by decide
  rw [decide_eq_true h, if_pos rfl, if_pos h16, cntF_eq l h k hk _ 0 0 (by omega) (by omega), Option.bind_some, rsum_kinds l.length (fun q => b01 (folds l q)), Int.zero_add, if_pos h]
  rfl
 ·rw [decide_eq_false h, if_neg (by simp), if_neg h]

theorem laws_a2Less_l0 (a b : List Int) (hab : a.length = b.length) (hl : a.length ≤ 1024) : ∀ (d k j : Nat), j + d = a.length → 2 * d + 2 < k → zlA.l0 k a b (j : Int) = some (lexlt (a.drop j) (b.drop j))
 | 0, k, j, hd, hk => by
  obtain ⟨k, rfl⟩ : ∃ m, k = m + 2 := ⟨k - 2, by omega⟩
  simp only [zlA.l0, zlA.j1]
  rw [if_neg (by omega), if_neg (by simp), List.drop_eq_nil_of_le (by omega), List.drop_eq_nil_of_le (by omega), decide_eq_false (by omega)]
  rfl
 | d + 1, k, j, hd, hk => by
  obtain ⟨k, rfl⟩ : ∃ m, k = m + 2 := ⟨k - 2, by omega⟩
  have ih := laws_a2Less_l0 a b hab hl d k (j + 1) (by omega) (by omega)
  simp only [zlA.l0, zlA.j1]
  rw [if_pos (by omega), decide_eq_true (by omega), if_pos rfl, if_pos (by omega), if_pos (by omega), if_pos (by omega), rd_nat a j (by omega), rd_nat b j (by omega), succ64 (by omega), ih, drop_at a j (by omega), drop_at b j (by omega), lexlt]
  split <;> rfl
theorem laws_a2Less_eq (a b : List Int) (hab : a.length = b.length) (hl : a.length ≤ 1024) (k : Nat) (hk : 2 * a.length + 2 < k) : zlA.f k a b = some (lexlt a b) := by
 unfold zlA.f
 have := laws_a2Less_l0 a b hab hl a.length k 0 (by omega) hk
 simpa using this

theorem rdLL_r (l : List (List Int)) (j : Nat) (h : j < l.length) : znM l (j : Int) = l[j] := by
 unfold znM
 rw [Int.toNat_natCast, List.getD_eq_getElem?_getD, List.getElem?_eq_getElem h]
 rfl
theorem laws_a2Rising_l0 (L : List (List Int)) (n : Nat) (hn : n ≤ 1024) (hL : L.length ≤ 1048576) (hx : ∀ x ∈ L, x.length = n) (hr : L.Pairwise (fun x y => lexlt x y = true)) : ∀ (d k j : Nat), L.length ≤ j + d → 1 ≤ j → j ≤ 1048577 → 2 * n + 10 + d < k → zzL.l0 k L (j : Int) = some true
 | 0, k, j, hd, h1, hj, hk => by
  obtain ⟨k, rfl⟩ : ∃ m, k = m + 1 := ⟨k - 1, by omega⟩
  simp only [zzL.l0]
  rw [if_neg (by omega)]
 | d + 1, k, j, hd, h1, hj, hk => by
  obtain ⟨k, rfl⟩ : ∃ m, k = m + 1 := ⟨k - 1, by omega⟩
  simp only [zzL.l0]
  by_cases h : j < L.length
  ·have ej : wrap64 ((j : Int) - 1) = ((j - 1 : Nat) : Int) := by rw [w64 (by omega) (by omega)]; omega
   have hlt := List.pairwise_iff_getElem.1 hr (j - 1) j (by omega) h (by omega)
   have n1 := hx _ (List.getElem_mem (show j - 1 < L.length by omega))
   have n2 := hx _ (List.getElem_mem h)
   rw [if_pos (by omega), ej, if_pos (by omega), if_pos (by omega), if_pos (by omega), rdLL_r L (j - 1) (by omega), rdLL_r L j h, laws_a2Less_eq _ _ (by rw [n1, n2]) (by omega) k (by omega), hlt, Option.bind_some, if_pos rfl, succ64 (by omega)]
   exact laws_a2Rising_l0 L n hn hL hx hr d k (j + 1) (by omega) (by omega) (by omega) (by omega)
  ·rw [if_neg (by omega)]
theorem laws_a2Rising_ok (L : List (List Int)) (n : Nat) (hn : n ≤ 1024) (hL : L.length ≤ 1048576) (hx : ∀ x ∈ L, x.length = n) (hr : L.Pairwise (fun x y => lexlt x y = true)) (k : Nat) (hk : 2 * n + 10 + L.length < k) : zzL.f k L = some true := by
 unfold zzL.f
 exact laws_a2Rising_l0 L n hn hL hx hr L.length k 1 (by omega) (by omega) (by omega) hk

theorem impl_areKinds_false (l q : List Int) : zcN.f l q false = some (decide (znN q ∧ q.length = l.length)) := by
 unfold zcN.f
 congr 1
 rw [show (if false = true then (4 : Int) else 3) = 3 from rfl, any_not q (fun x => 2 ≤ x ∧ x ≤ 3), Bool.not_not]
 by_cases h : q.length = l.length
 ·have e : (∀ x ∈ q, 2 ≤ x ∧ x ≤ 3) ↔ znN q := by
   unfold znN
   constructor <;> intro h x hx <;> have := h x hx <;> omega
  simp [h, e]
 ·simp [h]

theorem impl_FoldsAround_eq (l q : List Int) (k : Nat) (hk : 600 ≤ k) : zcL.f k l q = some (foldsV l q) := by
 unfold zcL.f foldsV
 rw [impl_ValidCone_eq l k (by omega), Option.bind_some]
 by_cases h : zzZ l
 ·rw [decide_eq_true h, if_pos rfl, impl_areKinds_false, Option.bind_some]
  by_cases h2 : znN q ∧ q.length = l.length
  ·rw [decide_eq_true h2, if_pos rfl, zuH l q h h2.1 h2.2 k (by omega), Option.bind_some, decide_eq_true ⟨h, h2⟩, Bool.true_and]
  ·rw [decide_eq_false h2, if_neg (by simp), decide_eq_false (fun c => h2 c.2), Bool.false_and]
 ·rw [decide_eq_false h, if_neg (by simp), decide_eq_false (fun c => h c.1), Bool.false_and]

theorem rdLL_v (l : List (List Int)) (j : Nat) (h : j < l.length) : znM l (j : Int) = l[j] := by
 unfold znM
 rw [Int.toNat_natCast, List.getD_eq_getElem?_getD, List.getElem?_eq_getElem h]
 rfl
theorem cnt_drop (q : List Int) (j : Nat) (h : j < q.length) : cnt 2 (q.drop j) = (if rd q (j : Int) = 2 then 1 else 0) + cnt 2 (q.drop (j + 1)) := by
 rw [drop_at q j h, cnt, rd_nat q j h]
theorem vc_l1 (l : List Int) (R : List (List Int)) (i : Nat) (hi : i < R.length) (hR : R.length ≤ 1048576) (hl : l.length ≤ 16) (hq : R[i].length ≤ 16) (T : Int) (hT : 2 * T = l.length + 2 ∨ 2 * T = l.length - 2) (K : Nat) (hK : 600 ≤ K)
  (hf : ∀ k, 600 ≤ k → zcL.f k l R[i] = some true) (hnext : ∀ k, K < k → laws_FnVertexCount.l0 k l R ((i + 1 : Nat) : Int) = some true) :
  ∀ (d j k : Nat) (c : Int), j + d = R[i].length → 0 ≤ c → c ≤ j → c + cnt 2 (R[i].drop j) = T → K + d + 2 < k → laws_FnVertexCount.l1 k l R (i : Int) c (j : Int) = some true
 | 0, j, k, c, hd, h0, h1, hc, hk => by
  obtain ⟨k, rfl⟩ : ∃ m, k = m + 1 := ⟨k - 1, by omega⟩
  rw [List.drop_eq_nil_of_le (by omega)] at hc
  have hc2 : c = T := by simpa [cnt] using hc
  subst hc2
  simp only [laws_FnVertexCount.l1]
  rw [if_pos (by omega), if_pos (by omega), rdLL_v R i hi, if_neg (by omega), hf k (by omega), Option.bind_some, if_pos rfl, w64 (n := 2 * c) (by omega) (by omega), w64 (n := (l.length : Int) + 2) (by omega) (by omega), w64 (n := (l.length : Int) - 2) (by omega) (by omega), succ64 (by omega)]
  have e := hnext k (by omega)
  by_cases h : 2 * c = (l.length : Int) + 2
  ·rw [if_pos h, e]
  ·rw [if_neg h, if_pos (by omega), e]
 | d + 1, j, k, c, hd, h0, h1, hc, hk => by
  obtain ⟨k, rfl⟩ : ∃ m, k = m + 1 := ⟨k - 1, by omega⟩
  rw [cnt_drop _ j (by omega)] at hc
  simp only [laws_FnVertexCount.l1]
  rw [if_pos (by omega), if_pos (by omega), rdLL_v R i hi, if_pos (by omega), if_pos (by omega), succ64 (by omega)]
  by_cases h : rd R[i] (j : Int) = 2
  ·rw [if_pos h] at hc
   rw [if_pos h, w64 (n := c + 1) (by omega) (by omega)]
   exact vc_l1 l R i hi hR hl hq T hT K hK hf hnext d (j + 1) k (c + 1) (by omega) (by omega) (by omega) (by omega) (by omega)
  ·rw [if_neg h] at hc
   rw [if_neg h]
   exact vc_l1 l R i hi hR hl hq T hT K hK hf hnext d (j + 1) k c (by omega) h0 (by omega) (by omega) (by omega)
theorem vc_l0 (l : List Int) (R : List (List Int)) (hR : R.length ≤ 1048576) (hl : l.length ≤ 16) (hx : ∀ q ∈ R, q.length = l.length ∧ (tal q = 2 ∨ tal q = -2) ∧ ∀ k, 600 ≤ k → zcL.f k l q = some true) :
  ∀ (d i k : Nat), i + d = R.length → 700 + 30 * d < k → laws_FnVertexCount.l0 k l R (i : Int) = some true
 | 0, i, k, hd, hk => by
  obtain ⟨k, rfl⟩ : ∃ m, k = m + 1 := ⟨k - 1, by omega⟩
  simp only [laws_FnVertexCount.l0]
  rw [if_neg (by omega)]
 | d + 1, i, k, hd, hk => by
  obtain ⟨k, rfl⟩ : ∃ m, k = m + 1 := ⟨k - 1, by omega⟩
  have hi : i < R.length := by omega
  obtain ⟨h1, h2, h3⟩ := hx R[i] (List.getElem_mem hi)
  have h4 := tal_cnt R[i]
  have h5 := cnt_bd 2 R[i]
  simp only [laws_FnVertexCount.l0]
  rw [if_pos (by omega)]
  exact vc_l1 l R i hi hR hl (by omega) (cnt 2 R[i]) (by omega) (700 + 30 * d) (by omega) h3 (fun k' hk' => vc_l0 l R hR hl hx d (i + 1) k' (by omega) hk') R[i].length 0 k 0 (by omega) (by omega) (by omega) (by rw [List.drop_zero]; omega) (by omega)
theorem FnVertexCount : laws_FnVertexCount.Pure := by
 intro a _ _ ha
 refine ⟨100000, ?_⟩
 obtain ⟨K, hK⟩ : ∃ K : Nat, K = 100000 := ⟨_, rfl⟩
 rw [← hK]
 unfold laws_FnVertexCount.f
 rw [laws_a2Long_eq, Option.bind_some]
 by_cases hlong : a.length > 3000 ∨ ([] : List Int).length > 3000
 ·rw [if_pos (by simpa using hlong)]
 ·rw [if_neg (by simpa using hlong)]
  have hB : Bytes a := ⟨by omega, fun x hx => by have := ha x hx; simpa [Lit.wf, IntKind.min, IntKind.max, IntKind.signed, IntKind.bits] using this⟩
  obtain ⟨l, e, hl, hn⟩ := spec_A2Cone_ok a hB K 8 (by omega) (Or.inl rfl)
  have hp : (2 : Nat) ^ l.length ≤ 2 ^ 8 := Nat.pow_le_pow_right (by omega) (by omega)
  have c8 : (2 : Nat) ^ 8 = 256 := by decide
  have e1 : cntV l = (((nfold l : Nat) : Int), (0 : Int)) := by unfold cntV; rw [if_pos hl]
  have e2 : asgV l = (asgB l (2 ^ l.length) 0, 0) := by unfold asgV; rw [if_pos hl, if_pos (by omega)]
  have n1 := asgB_nfold l
  have n2 := nfold_two l.length (Nat.le_refl _) hl
  have n3 := asgB_length l (2 ^ l.length) 0
  have hx : ∀ q ∈ asgB l (2 ^ l.length) 0, q.length = l.length ∧ (tal q = 2 ∨ tal q = -2) ∧ ∀ k, 600 ≤ k → zcL.f k l q = some true := by
   intro q hq
   obtain ⟨c, _, _, rfl, hf⟩ := asgB_in l _ _ q hq
   refine ⟨kindsB_length _ _, folds_tal l.length (Nat.le_refl _) hl (kindsB_ok _ _) (kindsB_length _ _) hf, fun k hk => ?_⟩
   rw [impl_FoldsAround_eq l _ k hk]
   unfold foldsV
   rw [hf, decide_eq_true ⟨hl, kindsB_ok _ _, kindsB_length _ _⟩]
   rfl
  rw [e, Option.bind_some, impl_CountAssignments_eq l K (by omega), e1, Option.bind_some, impl_AssignmentsOf_eq l K (by omega), e2, Option.bind_some]
  simp only
  rw [if_pos trivial, if_pos trivial, if_pos (by omega), if_neg (by omega), laws_a2Rising_ok _ l.length (by omega) (by omega) (fun q hq => (hx q hq).1) (asgB_rise l _ _ (by omega)) K (by omega), Option.bind_some]
  obtain ⟨K, rfl⟩ : ∃ m, K = m + 1 := ⟨K - 1, by omega⟩
  simp only [laws_FnVertexCount.j0]
  rw [if_neg (by simp)]
  exact vc_l0 l _ (by omega) (by omega) hx _ 0 K (Nat.zero_add _) (by omega)

end Go.Proofs.Ytbpkbllokmplnaa.Pure
