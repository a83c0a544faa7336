/- Plain lemmas of this session on numbers: wrapping, bits, valid numbers. Conditions: none. -/
import Derived.Laws.BitsLemmas
import Derived.RowKit
import Derived.Test.YtakpnhlkalbcoaaWMore
namespace Go.Proofs.Ytakpnhlkalbcoaa.Math
open Go.RowKit Go.Proofs.YtakpnhlkalbcoaaW.PrintWords Go.Proofs.YtakpnhlkalbcoaaW.PrintMore

theorem and1 (n : Int) : bits .and .i64 n 1 = n % 2 := by
  have h127 : (BitVec.ofInt 64 1).toNat = 2 ^ 1 - 1 := by decide
  have key : (BitVec.ofInt 64 n &&& BitVec.ofInt 64 1).toNat = (n % ((2 ^ 64 : Nat) : Int)).toNat % 2 ^ 1 := by
    rw [BitVec.toNat_and, BitVec.toNat_ofInt, h127, Nat.and_two_pow_sub_one_eq_mod]
  show IntKind.i64.wrap ((BitVec.ofInt 64 n &&& BitVec.ofInt 64 1).toNat : Nat) = n % 2
  rw [key, IntKind.wrap_i64]
  omega
theorem and7 (n : Int) : bits .and .i64 n 7 = n % 8 := by
  have h127 : (BitVec.ofInt 64 7).toNat = 2 ^ 3 - 1 := by decide
  have key : (BitVec.ofInt 64 n &&& BitVec.ofInt 64 7).toNat = (n % ((2 ^ 64 : Nat) : Int)).toNat % 2 ^ 3 := by
    rw [BitVec.toNat_and, BitVec.toNat_ofInt, h127, Nat.and_two_pow_sub_one_eq_mod]
  show IntKind.i64.wrap ((BitVec.ofInt 64 n &&& BitVec.ofInt 64 7).toNat : Nat) = n % 8
  rw [key, IntKind.wrap_i64]
  omega
theorem and15 (n : Int) : bits .and .i64 n 15 = n % 16 := by
  have h127 : (BitVec.ofInt 64 15).toNat = 2 ^ 4 - 1 := by decide
  have key : (BitVec.ofInt 64 n &&& BitVec.ofInt 64 15).toNat = (n % ((2 ^ 64 : Nat) : Int)).toNat % 2 ^ 4 := by
    rw [BitVec.toNat_and, BitVec.toNat_ofInt, h127, Nat.and_two_pow_sub_one_eq_mod]
  show IntKind.i64.wrap ((BitVec.ofInt 64 n &&& BitVec.ofInt 64 15).toNat : Nat) = n % 16
  rw [key, IntKind.wrap_i64]
  omega
theorem w64 {n : Int} (h : -9223372036854775808 ≤ n) (h2 : n ≤ 9223372036854775807) : wrap64 n = n := by unfold wrap64; omega
theorem wu64 {n : Int} (h : 0 ≤ n) (h2 : n ≤ 18446744073709551615) : IntKind.u64.wrap n = n := by
  simp only [IntKind.wrap, IntKind.bits, IntKind.signed]
  have : ((2 : Int) ^ 64) = 18446744073709551616 := by decide
  simp only [this]
  rw [if_neg (by simp)]
  omega
theorem wf64 {n : Int} : (Lit.int .i64 n).wf = true ↔ -9223372036854775808 ≤ n ∧ n ≤ 9223372036854775807 := by
  simp only [Lit.wf, IntKind.min, IntKind.max, IntKind.signed, IntKind.bits, Bool.and_eq_true, decide_eq_true_eq, if_true]
  have : ((2 : Int) ^ 63) = 9223372036854775808 := by decide
  constructor <;> intro h <;> (simp at h ⊢; omega)
/-- The remainder of Go, of an even and an odd number. -/
theorem tmod2 (a : Int) : Int.tmod a 2 = 0 ↔ a % 2 = 0 := by
  constructor <;> intro h
  · have := Int.dvd_of_tmod_eq_zero h; omega
  · exact Int.tmod_eq_zero_of_dvd (by omega)
/-- What a valid number (a + b r) / 2^k is. -/
def NumOk (a b k : Int) : Prop := (-131072 ≤ a ∧ a ≤ 131072) ∧ (-131072 ≤ b ∧ b ≤ 131072) ∧ (0 ≤ k ∧ k ≤ 10) ∧ (k = 0 ∨ a % 2 = 1 ∨ b % 2 = 1)
instance (a b k : Int) : Decidable (NumOk a b k) := by unfold NumOk; infer_instance
theorem bool_ite (p : Prop) [Decidable p] (b : Bool) : (if p then some b else some false) = some (decide p && b) := by by_cases h : p <;> simp [h]
theorem some_ite {α : Type} (p : Prop) [Decidable p] (a b : α) : (if p then some a else some b) = some (if p then a else b) := by by_cases h : p <;> simp [h]
theorem sq_bd {m : Int} (h0 : 0 ≤ m) (h1 : m ≤ 1048576) : 0 ≤ m * m ∧ m * m ≤ 1099511627776 :=
  ⟨Int.mul_nonneg h0 h0, Int.le_trans (Int.mul_le_mul h1 h1 h0 (by omega)) (by omega)⟩
theorem sq_bd2 (b : Int) (h0 : -131072 ≤ b) (h1 : b ≤ 131072) : 0 ≤ 2 * b * b ∧ 2 * b * b ≤ 34359738368 := by
  rw [Int.mul_assoc]
  rcases Int.le_total 0 b with h | h
  · have := Int.mul_nonneg h h
    have := Int.mul_le_mul h1 h1 h (by omega)
    omega
  · have e : b * b = (-b) * (-b) := by rw [Int.neg_mul_neg]
    have := Int.mul_nonneg (show 0 ≤ -b by omega) (show 0 ≤ -b by omega)
    have := Int.mul_le_mul (show -b ≤ 131072 by omega) (show -b ≤ 131072 by omega) (show 0 ≤ -b by omega) (by omega)
    omega
theorem root_unique {n r s : Int} (hr : 0 ≤ r) (hs : 0 ≤ s) (h1 : r * r ≤ n) (h2 : n < (r + 1) * (r + 1)) (h3 : s * s ≤ n) (h4 : n < (s + 1) * (s + 1)) : r = s := by
  rcases Int.lt_trichotomy r s with h | h | h
  · have := Int.mul_le_mul (show r + 1 ≤ s by omega) (show r + 1 ≤ s by omega) (show 0 ≤ r + 1 by omega) hs
    omega
  · exact h
  · have := Int.mul_le_mul (show s + 1 ≤ r by omega) (show s + 1 ≤ r by omega) (show 0 ≤ s + 1 by omega) hr
    omega
theorem rd_nat (l : List Int) (j : Nat) (h : j < l.length) : rd l (j : Int) = l[j] := by
  unfold rd
  rw [Int.toNat_natCast, List.getD_eq_getElem?_getD, List.getElem?_eq_getElem h]
  rfl
theorem succ64 {j : Nat} (h : j ≤ 4611686018427387904) : wrap64 ((j : Int) + 1) = ((j + 1 : Nat) : Int) := by rw [w64 (by omega) (by omega)]; omega
theorem drop_at {α : Type} (l : List α) (j : Nat) (h : j < l.length) : l.drop j = l[j] :: l.drop (j + 1) := List.drop_eq_getElem_cons h
theorem mem_drop {α : Type} {l : List α} {j : Nat} {x : α} (h : x ∈ l.drop j) : x ∈ l := List.mem_of_mem_drop h
theorem sum_bd : ∀ {l : List Int} {a b : Int}, (∀ x ∈ l, a ≤ x ∧ x ≤ b) → a * l.length ≤ l.sum ∧ l.sum ≤ b * l.length
  | [], a, b, _ => by simp
  | x :: xs, a, b, h => by
    have h1 := h x List.mem_cons_self
    have h2 := sum_bd (l := xs) (a := a) (b := b) (fun y hy => h y (List.mem_cons_of_mem _ hy))
    simp only [List.sum_cons, List.length_cons, Int.natCast_add, Int.mul_add, Int.natCast_one, Int.mul_one]
    omega
theorem pred64 {j : Nat} (h : j ≤ 4611686018427387904) (h1 : 1 ≤ j) : wrap64 ((j : Int) - 1) = ((j - 1 : Nat) : Int) := by rw [w64 (by omega) (by omega)]; omega
theorem one_add_neg (n : Nat) : (1 + (n : Int) < 0) = False := by simp; omega
theorem dec2 (P Q : Prop) [Decidable P] [Decidable Q] : (if decide P = true then (if decide Q = true then some true else some false) else some false) = some (decide (P ∧ Q)) := by by_cases h : P <;> by_cases h2 : Q <;> simp [h, h2]
end Go.Proofs.Ytakpnhlkalbcoaa.Math
