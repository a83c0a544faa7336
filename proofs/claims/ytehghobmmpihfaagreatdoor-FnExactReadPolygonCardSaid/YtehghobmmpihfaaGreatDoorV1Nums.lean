/- Plain lemmas of this session on the numbers (A + B r) / 2^K, r the square root of 2: lowest form, sums, products, signs. Conditions: none. -/
import Derived.Test.YtehghobmmpihfaaGreatDoorV1Math
namespace Go.Proofs.YtehghobmmpihfaaGreatDoor.Math
open Go.RowKit Go.Proofs.YtehghobmmpihfaaGreatDoorW.PrintWords Go.Proofs.YtehghobmmpihfaaGreatDoorW.PrintMore

def red : Nat → Int → Int → Int × Int × Int
  | 0, a, b => (a, b, 0)
  | k + 1, a, b => if a % 2 = 0 ∧ b % 2 = 0 then red k (a / 2) (b / 2) else (a, b, ((k + 1 : Nat) : Int))
theorem red_zero : ∀ k, red k 0 0 = (0, 0, 0)
  | 0 => rfl
  | k + 1 => by simp only [red]; rw [if_pos (by omega)]; exact red_zero k
theorem red_spec : ∀ (K : Nat) (A B : Int), ∃ (a b : Int) (k : Nat), red K A B = (a, b, (k : Int)) ∧ k ≤ K ∧ A = a * 2 ^ (K - k) ∧ B = b * 2 ^ (K - k) ∧ (k = 0 ∨ a % 2 = 1 ∨ b % 2 = 1)
  | 0, A, B => ⟨A, B, 0, rfl, Nat.le_refl _, by simp, by simp, Or.inl rfl⟩
  | K + 1, A, B => by
    simp only [red]
    by_cases h : A % 2 = 0 ∧ B % 2 = 0
    · rw [if_pos h]
      obtain ⟨a, b, k, e, hk, ha, hb, hl⟩ := red_spec K (A / 2) (B / 2)
      refine ⟨a, b, k, e, by omega, ?_, ?_, hl⟩
      · rw [show K + 1 - k = (K - k) + 1 by omega, Int.pow_succ, ← Int.mul_assoc, ← ha]; omega
      · rw [show K + 1 - k = (K - k) + 1 by omega, Int.pow_succ, ← Int.mul_assoc, ← hb]; omega
    · rw [if_neg h]
      exact ⟨A, B, K + 1, rfl, Nat.le_refl _, by simp, by simp, by omega⟩
theorem red_low {a b : Int} {k : Nat} (h : k = 0 ∨ a % 2 = 1 ∨ b % 2 = 1) : red k a b = (a, b, (k : Int)) := by
  cases k with
  | zero => rfl
  | succ k => simp only [red]; rw [if_neg (by omega)]
theorem red_shift : ∀ (j K : Nat) (A B : Int), red (K + j) (A * 2 ^ j) (B * 2 ^ j) = red K A B
  | 0, K, A, B => by simp
  | j + 1, K, A, B => by
    have e : ∀ x : Int, x * 2 ^ (j + 1) = 2 * (x * 2 ^ j) := fun x => by rw [Int.pow_succ, ← Int.mul_assoc, Int.mul_comm]
    rw [e A, e B, show K + (j + 1) = (K + j) + 1 from rfl]
    simp only [red]
    rw [if_pos (by omega), show 2 * (A * 2 ^ j) / 2 = A * 2 ^ j by omega, show 2 * (B * 2 ^ j) / 2 = B * 2 ^ j by omega]
    exact red_shift j K A B
theorem red_up {K L : Nat} (h : K ≤ L) (A B : Int) : red K A B = red L (A * 2 ^ (L - K)) (B * 2 ^ (L - K)) := by
  have := red_shift (L - K) K A B
  rw [show K + (L - K) = L by omega] at this
  exact this.symm
theorem red_ok {a b k : Int} (h : znX a b k) : (a, b, k) = red 10 (a * 2 ^ (10 - k.toNat)) (b * 2 ^ (10 - k.toNat)) := by
  obtain ⟨_, _, h3, h4⟩ := h
  rw [← red_up (show k.toNat ≤ 10 by omega), red_low (by omega), Int.toNat_of_nonneg h3.1]
theorem pow_le (j n : Nat) (h : j ≤ n) : (1 : Int) ≤ 2 ^ j ∧ (2 : Int) ^ j ≤ 2 ^ n := by
  constructor
  · have : (0 : Int) < 2 ^ j := Int.pow_pos (by omega)
    omega
  · have h1 : (2 : Nat) ^ j ≤ 2 ^ n := Nat.pow_le_pow_right (by omega) h
    exact_mod_cast h1
theorem zxW {a M : Int} (j : Nat) (h0 : -M ≤ a * 2 ^ j) (h1 : a * 2 ^ j ≤ M) : -M ≤ a ∧ a ≤ M := by
  have h2 := (pow_le j j (Nat.le_refl _)).1
  rcases Int.le_total 0 a with h | h
  · have := Int.mul_le_mul_of_nonneg_left h2 h
    omega
  · have := Int.mul_le_mul_of_nonpos_left h h2
    omega
theorem ok_bd {a : Int} {j : Nat} (hj : j ≤ 10) (h0 : -131072 ≤ a) (h1 : a ≤ 131072) : -134217728 ≤ a * 2 ^ j ∧ a * 2 ^ j ≤ 134217728 := by
  have h2 := pow_le j 10 hj
  have e : (2 : Int) ^ 10 = 1024 := by decide
  rw [e] at h2
  rcases Int.le_total 0 a with h | h
  · have h3 := Int.mul_le_mul h1 h2.2 (by omega) (by omega)
    have h4 := Int.mul_nonneg h (show (0 : Int) ≤ 2 ^ j by omega)
    omega
  · have h3 := Int.mul_le_mul (show -a ≤ 131072 by omega) h2.2 (by omega) (by omega)
    have h4 := Int.mul_nonneg (show 0 ≤ -a by omega) (show (0 : Int) ≤ 2 ^ j by omega)
    rw [Int.neg_mul] at h3 h4
    omega
theorem red_bd : ∀ (K : Nat) (A B : Int) {m : Int}, -m ≤ A → A ≤ m → -m ≤ B → B ≤ m → -m ≤ (red K A B).1 ∧ (red K A B).1 ≤ m ∧ -m ≤ (red K A B).2.1 ∧ (red K A B).2.1 ≤ m
  | 0, A, B, m, h0, h1, h2, h3 => ⟨h0, h1, h2, h3⟩
  | K + 1, A, B, m, h0, h1, h2, h3 => by
    simp only [red]
    split
    · exact red_bd K (A / 2) (B / 2) (by omega) (by omega) (by omega) (by omega)
    · exact ⟨h0, h1, h2, h3⟩
theorem red_neg : ∀ (K : Nat) (A B : Int), red K (-A) (-B) = (-(red K A B).1, -(red K A B).2.1, (red K A B).2.2)
  | 0, A, B => rfl
  | K + 1, A, B => by
    simp only [red]
    by_cases h : A % 2 = 0 ∧ B % 2 = 0
    · rw [if_pos h, if_pos (by omega), show -A / 2 = -(A / 2) by omega, show -B / 2 = -(B / 2) by omega, red_neg K]
    · rw [if_neg h, if_neg (by omega)]
theorem red_sum {K k l : Nat} {A B C D a b c d : Int} (hk : k ≤ K) (hl : l ≤ K) (hA : A = a * 2 ^ (K - k)) (hB : B = b * 2 ^ (K - k)) (hC : C = c * 2 ^ (K - l)) (hD : D = d * 2 ^ (K - l)) :
    red (max k l) (a * 2 ^ (max k l - k) + c * 2 ^ (max k l - l)) (b * 2 ^ (max k l - k) + d * 2 ^ (max k l - l)) = red K (A + C) (B + D) := by
  have hm : max k l ≤ K := by omega
  have e : ∀ (x : Int) (i : Nat), i ≤ max k l → x * 2 ^ (K - i) = x * 2 ^ (max k l - i) * 2 ^ (K - max k l) := fun x i hi => by
    rw [Int.mul_assoc, ← Int.pow_add, show max k l - i + (K - max k l) = K - i by omega]
  rw [red_up hm, hA, hB, hC, hD, e a k (by omega), e b k (by omega), e c l (by omega), e d l (by omega), Int.add_mul, Int.add_mul]
theorem no_root : ∀ (n : Nat) (a b : Nat), a ≤ n → a * a = 2 * (b * b) → b = 0
  | 0, a, b, h, e => by
    have : a = 0 := by omega
    subst this
    have h2 : b * b = 0 := by omega
    exact (Nat.mul_eq_zero.1 h2).elim id id
  | n + 1, a, b, h, e => by
    have h1 : a % 2 = 0 := by
      rcases Nat.mod_two_eq_zero_or_one a with h1 | h1
      · exact h1
      · have : (a * a) % 2 = 1 := by rw [Nat.mul_mod, h1]
        omega
    obtain ⟨c, rfl⟩ : ∃ c, a = 2 * c := ⟨a / 2, by omega⟩
    have e2 : 2 * (c * c) = b * b := by
      have : 2 * c * (2 * c) = 4 * (c * c) := by rw [Nat.mul_mul_mul_comm]
      omega
    by_cases hb : b = 0
    · exact hb
    · by_cases hc : c = 0
      · subst hc
        have h2 : b * b = 0 := by omega
        exact (Nat.mul_eq_zero.1 h2).elim id id
      · have h3 : b % 2 = 0 := by
          rcases Nat.mod_two_eq_zero_or_one b with h1 | h1
          · exact h1
          · have : (b * b) % 2 = 1 := by rw [Nat.mul_mod, h1]
            omega
        obtain ⟨d, rfl⟩ : ∃ d, b = 2 * d := ⟨b / 2, by omega⟩
        have e3 : c * c = 2 * (d * d) := by
          have : 2 * d * (2 * d) = 4 * (d * d) := by rw [Nat.mul_mul_mul_comm]
          omega
        have := no_root n c d (by omega) e3
        omega
theorem no_root_int {a b : Int} (h : a * a = 2 * (b * b)) : a = 0 ∧ b = 0 := by
  have e : (a.natAbs : Int) * a.natAbs = 2 * ((b.natAbs : Int) * b.natAbs) := by rw [Int.natAbs_mul_self', Int.natAbs_mul_self']; exact h
  have e2 : a.natAbs * a.natAbs = 2 * (b.natAbs * b.natAbs) := by exact_mod_cast e
  have h1 := no_root a.natAbs a.natAbs b.natAbs (Nat.le_refl _) e2
  have hb : b = 0 := by omega
  subst hb
  have h2 : a * a = 0 := by simpa using h
  exact ⟨(Int.mul_eq_zero.1 h2).elim id id, rfl⟩
def sgn (a b : Int) : Int :=
  if a = 0 ∧ b = 0 then 0 else if 0 ≤ a ∧ 0 ≤ b then 1 else if a ≤ 0 ∧ b ≤ 0 then -1 else if (decide (a * a < 2 * (b * b)) == decide (b > 0)) = true then 1 else -1
theorem wrapu (n : Int) : IntKind.u64.wrap n = n % 18446744073709551616 := by
  simp only [IntKind.wrap, IntKind.bits, IntKind.signed]
  have : ((2 : Int) ^ 64) = 18446744073709551616 := by decide
  simp only [this, Bool.false_and, Bool.false_eq_true, if_false]
theorem wraps_u64 (n : Int) (h₀ : 0 ≤ n) (h₁ : n < 2 ^ 64) : IntKind.u64.wrap n = n := by
  have : ((2 : Int) ^ 64) = 18446744073709551616 := by decide
  rw [wrapu]; omega
theorem andlow {u : Int} (h0 : 0 ≤ u) (h1 : u < 18446744073709551616) : bits .and .u64 u 4294967295 = u % 4294967296 := by
  have := bits_mask .u64 64 (by decide) wraps_u64 32 (by decide) u h0 (by have : ((2 : Int) ^ 64) = 18446744073709551616 := by decide
                                                                          omega)
  have e : ((2 : Int) ^ 32) = 4294967296 := by decide
  simpa [e] using this
theorem oru {x y : Int} (hx0 : 0 ≤ x) (hx : x % 2 = 0) (hx1 : x < 18446744073709551616) (hy0 : 0 ≤ y) (hy : y < 2) : bits .or .u64 x y = x + y := by
  have e64 : ((2 : Int) ^ 64) = 18446744073709551616 := by decide
  exact bits_join .u64 64 (by decide) wraps_u64 1 x y hx0 (by simpa using hx) (by omega) hy0 (by simpa using hy) (by omega)
theorem half_bd {x y : Int} (hx : 0 ≤ x) (hx1 : x ≤ 4294967295) (hy : 0 ≤ y) (hy1 : y ≤ 4294967295) : 0 ≤ x * y ∧ x * y ≤ 18446744065119617025 :=
  ⟨Int.mul_nonneg hx hy, Int.le_trans (Int.mul_le_mul hx1 hy1 hy (by omega)) (by omega)⟩
theorem halves (u : Int) : u * u = (u / 4294967296) * (u / 4294967296) * 18446744073709551616 + 2 * ((u % 4294967296) * (u / 4294967296)) * 4294967296 + (u % 4294967296) * (u % 4294967296) := by
  have e : u = (u / 4294967296) * 4294967296 + u % 4294967296 := by omega
  generalize u / 4294967296 = h at *
  generalize u % 4294967296 = l at *
  subst e
  rw [Int.add_mul, Int.mul_add, Int.mul_add]
  have e1 : h * 4294967296 * (h * 4294967296) = h * h * 18446744073709551616 := by
    have e4 : (4294967296 : Int) * 4294967296 = 18446744073709551616 := by decide
    rw [← e4]
    ac_rfl
  have e2 : h * 4294967296 * l = l * h * 4294967296 := by rw [Int.mul_right_comm, Int.mul_comm h l]
  have e3 : l * (h * 4294967296) = l * h * 4294967296 := by rw [Int.mul_assoc]
  rw [e1, e2, e3]
  omega
theorem abs_sq (a : Int) : (if a < 0 then -a else a) * (if a < 0 then -a else a) = a * a := by
  split
  · rw [Int.neg_mul_neg]
  · rfl
end Go.Proofs.YtehghobmmpihfaaGreatDoor.Math
