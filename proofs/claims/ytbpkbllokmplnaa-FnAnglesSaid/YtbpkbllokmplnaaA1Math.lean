/- Plain lemmas of this session on numbers: wrapping, bits, valid numbers. Conditions: none. -/
import Derived.Laws.BitsLemmas
import Derived.RowKit
import Derived.Test.YtbpkbllokmplnaaA1WMore
namespace Go.Proofs.Ytbpkbllokmplnaa.Math
open Go.RowKit Go.Proofs.YtbpkbllokmplnaaW.PrintWords Go.Proofs.YtbpkbllokmplnaaW.PrintMore

theorem w64 {n : Int} (h : -9223372036854775808 ≤ n) (h2 : n ≤ 9223372036854775807) : wrap64 n = n := by unfold wrap64; omega
theorem wu64 {n : Int} (h : 0 ≤ n) (h2 : n ≤ 18446744073709551615) : IntKind.u64.wrap n = n := by
  simp only [IntKind.wrap, IntKind.bits, IntKind.signed]
  have : ((2 : Int) ^ 64) = 18446744073709551616 := by decide
  simp only [this]
  rw [if_neg (by simp)]
  omega
theorem tmod2 (a : Int) : Int.tmod a 2 = 0 ↔ a % 2 = 0 := by
  constructor <;> intro h
  · have := Int.dvd_of_tmod_eq_zero h; omega
  · exact Int.tmod_eq_zero_of_dvd (by omega)
def NumOk (a b k : Int) : Prop := (-131072 ≤ a ∧ a ≤ 131072) ∧ (-131072 ≤ b ∧ b ≤ 131072) ∧ (0 ≤ k ∧ k ≤ 10) ∧ (k = 0 ∨ a % 2 = 1 ∨ b % 2 = 1)
instance (a b k : Int) : Decidable (NumOk a b k) := by unfold NumOk; infer_instance
theorem some_ite {α : Type} (p : Prop) [Decidable p] (a b : α) : (if p then some a else some b) = some (if p then a else b) := by by_cases h : p <;> simp [h]
theorem zcC (l : List Int) (j : Nat) (h : j < l.length) : rd l (j : Int) = l[j] := by
  unfold rd
  rw [Int.toNat_natCast, List.getD_eq_getElem?_getD, List.getElem?_eq_getElem h]
  rfl
theorem succ64 {j : Nat} (h : j ≤ 4611686018427387904) : wrap64 ((j : Int) + 1) = ((j + 1 : Nat) : Int) := by rw [w64 (by omega) (by omega)]; omega
theorem zxE {α : Type} (l : List α) (j : Nat) (h : j < l.length) : l.drop j = l[j] :: l.drop (j + 1) := List.drop_eq_getElem_cons h
theorem pred64 {j : Nat} (h : j ≤ 4611686018427387904) (h1 : 1 ≤ j) : wrap64 ((j : Int) - 1) = ((j - 1 : Nat) : Int) := by rw [w64 (by omega) (by omega)]; omega
end Go.Proofs.Ytbpkbllokmplnaa.Math
