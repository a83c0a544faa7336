/- Plain lemmas of this session on the kinds with a number. Conditions: none. -/
import Derived.Test.YtbpkbllokmplnaaV2Count
namespace Go.Proofs.Ytbpkbllokmplnaa.Math
open Go.RowKit Go.Proofs.YtbpkbllokmplnaaW.PrintWords Go.Proofs.YtbpkbllokmplnaaW.PrintMore

/-- The kind of a crease in the kinds with a number, where mountains come first. -/
def bitA (n b i : Nat) : Int := 2 + ((b / 2 ^ (n - 1 - i) % 2 : Nat) : Int)
def zkC (n b : Nat) : List Int := (List.range n).map (bitA n b)
theorem kindsB_length (n b : Nat) : (zkC n b).length = n := by unfold zkC; simp
theorem kindsB_ok (n b : Nat) : znN (zkC n b) := by
  intro x hx
  obtain ⟨i, _, rfl⟩ := List.mem_map.1 hx
  unfold bitA
  omega
theorem kindsB_succ (n b : Nat) : zkC (n + 1) b = (2 + ((b / 2 ^ n % 2 : Nat) : Int)) :: zkC n b := by
  unfold zkC
  rw [List.range_succ_eq_map, List.map_cons, List.map_map]
  congr 1
  refine List.map_congr_left fun i hi => ?_
  have hi := List.mem_range.1 hi
  show bitA (n + 1) b (i + 1) = bitA n b i
  unfold bitA
  rw [show n + 1 - 1 - (i + 1) = n - 1 - i by omega]
theorem kindsB_high (n b : Nat) : zkC n (b + 2 ^ n) = zkC n b := by
  unfold zkC
  refine List.map_congr_left fun i hi => ?_
  have hi := List.mem_range.1 hi
  unfold bitA
  have e : (2 : Nat) ^ n = 2 ^ (n - 1 - i) * (2 * 2 ^ i) := by
    rw [← Nat.pow_succ', ← Nat.pow_add]; congr 1; omega
  rw [e, Nat.add_mul_div_left _ _ (Nat.pow_pos (by omega)), Nat.add_mul_mod_self_left]
/-- A sum over numbers from b on. -/
def rsum (G : Nat → Nat) : Nat → Nat → Nat
  | 0, _ => 0
  | d + 1, b => G b + rsum G d (b + 1)
theorem rsum_add (G : Nat → Nat) : ∀ (d e b : Nat), rsum G (d + e) b = rsum G d b + rsum G e (b + d)
  | 0, e, b => by simp [rsum]
  | d + 1, e, b => by
    rw [show d + 1 + e = (d + e) + 1 by omega]
    simp only [rsum]
    rw [rsum_add G d e (b + 1), show b + 1 + d = b + (d + 1) by omega]; omega
theorem rsum_congr (G H : Nat → Nat) : ∀ (d b c : Nat), (∀ i, i < d → G (b + i) = H (c + i)) → rsum G d b = rsum H d c
  | 0, _, _, _ => rfl
  | d + 1, b, c, h => by
    simp only [rsum]
    rw [show G b = H c from h 0 (by omega), rsum_congr G H d (b + 1) (c + 1) (fun i hi => by have := h (i + 1) (by omega); rw [show b + 1 + i = b + (i + 1) by omega, show c + 1 + i = c + (i + 1) by omega]; exact this)]
theorem rsum_kinds : ∀ (n : Nat) (F : List Int → Nat), rsum (fun b => F (zkC n b)) (2 ^ n) 0 = ksum n F
  | 0, F => by simp [rsum, ksum, zkC]
  | n + 1, F => by
    rw [Nat.pow_succ, Nat.mul_two, rsum_add, ksum_succ, ← rsum_kinds n, ← rsum_kinds n]
    congr 1
    · refine rsum_congr _ _ _ _ _ fun i hi => ?_
      simp only [kindsB_succ, Nat.zero_add]
      rw [Nat.div_eq_of_lt hi]; rfl
    · refine rsum_congr _ _ _ _ _ fun i hi => ?_
      simp only [kindsB_succ, Nat.zero_add]
      rw [Nat.add_comm (2 ^ n) i, kindsB_high, Nat.add_div_right _ (Nat.pow_pos (by omega)), Nat.div_eq_of_lt hi]; rfl
/-- The kinds with numbers from b on, d of them, with which a cone can be folded. -/
def asgB (l : List Int) : Nat → Nat → List (List Int)
  | 0, _ => []
  | d + 1, b => (if folds l (zkC l.length b) = true then [zkC l.length b] else []) ++ asgB l d (b + 1)
theorem asgB_length (l : List Int) : ∀ d b, (asgB l d b).length ≤ d
  | 0, _ => Nat.le_refl _
  | d + 1, b => by
    have := asgB_length l d (b + 1)
    rw [asgB, List.length_append]
    split <;> simp <;> omega
def asgV (l : List Int) : List (List Int) × Int := if zzZ l then (if l.length ≤ 10 then (asgB l (2 ^ l.length) 0, 0) else ([], 5)) else ([], 1)
end Go.Proofs.Ytbpkbllokmplnaa.Math
