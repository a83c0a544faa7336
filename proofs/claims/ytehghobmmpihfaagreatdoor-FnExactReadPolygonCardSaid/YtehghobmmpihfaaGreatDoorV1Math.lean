/- Plain lemmas of this session on numbers: wrapping, bits, valid numbers. Conditions: none. -/
import Derived.Test.YtehghobmmpihfaaGreatDoorV1WMore
namespace Go.Proofs.YtehghobmmpihfaaGreatDoor.Math
open Go.RowKit Go.Proofs.YtehghobmmpihfaaGreatDoorW.PrintWords Go.Proofs.YtehghobmmpihfaaGreatDoorW.PrintMore

theorem and1 (n : Int) : bits .and .i64 n 1 = n % 2 := by
  have h127 : (BitVec.ofInt 64 1).toNat = 2 ^ 1 - 1 := by decide
  have key : (BitVec.ofInt 64 n &&& BitVec.ofInt 64 1).toNat = (n % ((2 ^ 64 : Nat) : Int)).toNat % 2 ^ 1 := by
    rw [BitVec.toNat_and, BitVec.toNat_ofInt, h127, Nat.and_two_pow_sub_one_eq_mod]
  show IntKind.i64.wrap ((BitVec.ofInt 64 n &&& BitVec.ofInt 64 1).toNat : Nat) = n % 2
  rw [key, IntKind.wrap_i64]
  omega
theorem and15 (n : Int) : bits .and .i64 n 15 = n % 16 := by
  have h127 : (BitVec.ofInt 64 15).toNat = 2 ^ 4 - 1 := by decide
  have key : (BitVec.ofInt 64 n &&& BitVec.ofInt 64 15).toNat = (n % ((2 ^ 64 : Nat) : Int)).toNat % 2 ^ 4 := by
    rw [BitVec.toNat_and, BitVec.toNat_ofInt, h127, Nat.and_two_pow_sub_one_eq_mod]
  show IntKind.i64.wrap ((BitVec.ofInt 64 n &&& BitVec.ofInt 64 15).toNat : Nat) = n % 16
  rw [key, IntKind.wrap_i64]
  omega
theorem w64 {n : Int} (h : -9223372036854775808 ≤ n) (h2 : n ≤ 9223372036854775807) : wrap64 n = n := by unfold wrap64; omega
theorem wu64 {n : Int} (h : 0 ≤ n) (h2 : n ≤ 18446744073709551615) : IntKind.u64.wrap n = n := by
  simp only [IntKind.wrap, IntKind.bits, IntKind.signed]
  have : ((2 : Int) ^ 64) = 18446744073709551616 := by decide
  simp only [this]
  rw [if_neg (by simp)]
  omega
theorem tmod2 (a : Int) : Int.tmod a 2 = 0 ↔ a % 2 = 0 := by
  constructor <;> intro h
  · have := Int.dvd_of_tmod_eq_zero h; omega
  · exact Int.tmod_eq_zero_of_dvd (by omega)
def znX (a b k : Int) : Prop := (-131072 ≤ a ∧ a ≤ 131072) ∧ (-131072 ≤ b ∧ b ≤ 131072) ∧ (0 ≤ k ∧ k ≤ 10) ∧ (k = 0 ∨ a % 2 = 1 ∨ b % 2 = 1)
instance (a b k : Int) : Decidable (znX a b k) := by unfold znX; infer_instance
theorem zaU {j : Nat} (h : j ≤ 4611686018427387904) : wrap64 ((j : Int) + 1) = ((j + 1 : Nat) : Int) := by rw [w64 (by omega) (by omega)]; omega
theorem pred64 {j : Nat} (h : j ≤ 4611686018427387904) (h1 : 1 ≤ j) : wrap64 ((j : Int) - 1) = ((j - 1 : Nat) : Int) := by rw [w64 (by omega) (by omega)]; omega
theorem dec2 (P Q : Prop) [Decidable P] [Decidable Q] : (if decide P = true then (if decide Q = true then some true else some false) else some false) = some (decide (P ∧ Q)) := by by_cases h : P <;> by_cases h2 : Q <;> simp [h, h2]
end Go.Proofs.YtehghobmmpihfaaGreatDoor.Math
