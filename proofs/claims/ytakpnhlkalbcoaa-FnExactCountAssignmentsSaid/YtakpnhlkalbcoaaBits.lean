/- Plain lemmas of this session on the kinds with a number. Conditions: none. -/
import Derived.Test.YtakpnhlkalbcoaaCount
namespace Go.Proofs.Ytakpnhlkalbcoaa.Math
open Go.RowKit Go.Proofs.YtakpnhlkalbcoaaW.PrintWords Go.Proofs.YtakpnhlkalbcoaaW.PrintMore

/-- The kind of a crease in the kinds with a number, where mountains come first. -/
def bitA (n b i : Nat) : Int := 2 + ((b / 2 ^ (n - 1 - i) % 2 : Nat) : Int)
def kindsB (n b : Nat) : List Int := (List.range n).map (bitA n b)
theorem kindsB_length (n b : Nat) : (kindsB n b).length = n := by unfold kindsB; simp
theorem kindsB_ok (n b : Nat) : KndOk (kindsB n b) := by
  intro x hx
  obtain ⟨i, _, rfl⟩ := List.mem_map.1 hx
  unfold bitA
  omega
theorem kindsB_succ (n b : Nat) : kindsB (n + 1) b = (2 + ((b / 2 ^ n % 2 : Nat) : Int)) :: kindsB n b := by
  unfold kindsB
  rw [List.range_succ_eq_map, List.map_cons, List.map_map]
  congr 1
  refine List.map_congr_left fun i hi => ?_
  have hi := List.mem_range.1 hi
  show bitA (n + 1) b (i + 1) = bitA n b i
  unfold bitA
  rw [show n + 1 - 1 - (i + 1) = n - 1 - i by omega]
theorem kindsB_high (n b : Nat) : kindsB n (b + 2 ^ n) = kindsB n b := by
  unfold kindsB
  refine List.map_congr_left fun i hi => ?_
  have hi := List.mem_range.1 hi
  unfold bitA
  have e : (2 : Nat) ^ n = 2 ^ (n - 1 - i) * (2 * 2 ^ i) := by
    rw [← Nat.pow_succ', ← Nat.pow_add]; congr 1; omega
  rw [e, Nat.add_mul_div_left _ _ (Nat.pow_pos (by omega)), Nat.add_mul_mod_self_left]
/-- A sum over numbers from b on. -/
def rsum (G : Nat → Nat) : Nat → Nat → Nat
  | 0, _ => 0
  | d + 1, b => G b + rsum G d (b + 1)
theorem rsum_add (G : Nat → Nat) : ∀ (d e b : Nat), rsum G (d + e) b = rsum G d b + rsum G e (b + d)
  | 0, e, b => by simp [rsum]
  | d + 1, e, b => by
    rw [show d + 1 + e = (d + e) + 1 by omega]
    simp only [rsum]
    rw [rsum_add G d e (b + 1), show b + 1 + d = b + (d + 1) by omega]; omega
theorem rsum_congr (G H : Nat → Nat) : ∀ (d b c : Nat), (∀ i, i < d → G (b + i) = H (c + i)) → rsum G d b = rsum H d c
  | 0, _, _, _ => rfl
  | d + 1, b, c, h => by
    simp only [rsum]
    rw [show G b = H c from h 0 (by omega), rsum_congr G H d (b + 1) (c + 1) (fun i hi => by have := h (i + 1) (by omega); rw [show b + 1 + i = b + (i + 1) by omega, show c + 1 + i = c + (i + 1) by omega]; exact this)]
theorem rsum_kinds : ∀ (n : Nat) (F : List Int → Nat), rsum (fun b => F (kindsB n b)) (2 ^ n) 0 = ksum n F
  | 0, F => by simp [rsum, ksum, kindsB]
  | n + 1, F => by
    rw [Nat.pow_succ, Nat.mul_two, rsum_add, ksum_succ, ← rsum_kinds n, ← rsum_kinds n]
    congr 1
    · refine rsum_congr _ _ _ _ _ fun i hi => ?_
      simp only [kindsB_succ, Nat.zero_add]
      rw [Nat.div_eq_of_lt hi]; rfl
    · refine rsum_congr _ _ _ _ _ fun i hi => ?_
      simp only [kindsB_succ, Nat.zero_add]
      rw [Nat.add_comm (2 ^ n) i, kindsB_high, Nat.add_div_right _ (Nat.pow_pos (by omega)), Nat.div_eq_of_lt hi]; rfl
theorem ksum_le : ∀ (n : Nat) (F : List Int → Nat), (∀ r, F r ≤ 1) → ksum n F ≤ 2 ^ n
  | 0, F, h => by simpa [ksum] using h []
  | n + 1, F, h => by
    rw [ksum_succ, Nat.pow_succ]
    have a := ksum_le n (fun r => F (2 :: r)) (fun r => h _)
    have b := ksum_le n (fun r => F (3 :: r)) (fun r => h _)
    omega
theorem b01_le (b : Bool) : b01 b ≤ 1 := by unfold b01; split <;> omega
theorem nfold_le {l : List Int} (h : l.length ≤ 16) : nfold l ≤ 65536 := by
  unfold nfold
  have a := ksum_le l.length (fun q => b01 (folds l q)) (fun r => b01_le _)
  have b : (2 : Nat) ^ l.length ≤ 2 ^ 16 := Nat.pow_le_pow_right (by omega) h
  have c : (2 : Nat) ^ 16 = 65536 := by decide
  omega
theorem waysF_neg : ∀ (n : Nat) (t : Int), waysF n (-t) = waysF n t
  | 0, t => by simp only [waysF]; by_cases h : t = 0 <;> simp [h]
  | n + 1, t => by simp only [waysF]; rw [show -t - 1 = -(t + 1) by omega, show -t + 1 = -(t - 1) by omega, waysF_neg n, waysF_neg n]; omega
end Go.Proofs.Ytakpnhlkalbcoaa.Math
