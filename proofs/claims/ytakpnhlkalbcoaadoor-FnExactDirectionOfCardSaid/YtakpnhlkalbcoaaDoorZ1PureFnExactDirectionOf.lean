/- What is proved: the program's DirectionOf answers what the reference's answers, at every two points. Conditions: none. -/
import Derived.Test.YtakpnhlkalbcoaaDoorZ1PFnExactDirectionOfx
import Derived.Test.YtakpnhlkalbcoaaDoorZ1Math
import Derived.Test.YtakpnhlkalbcoaaDoorZ1Nums
namespace Go.Proofs.YtakpnhlkalbcoaaDoor.Pure
open Go.RowKit Go.Proofs.YtakpnhlkalbcoaaDoor.PFnExactDirectionOf Go.Proofs.YtakpnhlkalbcoaaDoorW.PrintWords Go.Proofs.YtakpnhlkalbcoaaDoorW.PrintLast Go.Proofs.YtakpnhlkalbcoaaDoorW.PrintMore Go.Proofs.YtakpnhlkalbcoaaDoor.Math

-- spec_l00In
theorem spec_l00In_eq (a b c : Int) : spec_l00In.f a b c = some (decide (b ≤ a ∧ a ≤ c)) := by
  unfold spec_l00In.f
  by_cases h : b ≤ a <;> simp [h]

-- spec_l01Ok
theorem spec_l01Ok_eq (a b k : Int) : spec_l01Ok.f a b k = some (decide (NumOk a b k)) := by
  unfold spec_l01Ok.f NumOk
  simp only [spec_l00In_eq, Option.bind_some]
  by_cases h1 : -131072 ≤ a ∧ a ≤ 131072
  · by_cases h2 : -131072 ≤ b ∧ b ≤ 131072
    · by_cases h3 : 0 ≤ k ∧ k ≤ 10
      · simp only [h1, h2, h3, and_self, decide_true, if_true, true_and]
        by_cases h4 : k = 0
        · simp [h4]
        · by_cases h5 : Int.tmod a 2 = 0
          · have := (tmod2 a).1 h5
            by_cases h6 : Int.tmod b 2 = 0
            · have := (tmod2 b).1 h6
              simp [h4, h5, h6]; omega
            · have h7 : b % 2 = 1 := by have : ¬ b % 2 = 0 := fun h => h6 ((tmod2 b).2 h); omega
              simp [h4, h5, h6, h7]
          · have h7 : a % 2 = 1 := by have : ¬ a % 2 = 0 := fun h => h5 ((tmod2 a).2 h); omega
            simp [h4, h5, h7]
      · simp [h1, h2, h3]
    · simp [h1, h2]
  · simp [h1]

-- spec_l02Point
theorem spec_l02Point_eq (a b k c d l : Int) : spec_l02Point.f a b k c d l = some (decide (NumOk a b k ∧ NumOk c d l)) := by
  unfold spec_l02Point.f
  simp only [spec_l01Ok_eq, Option.bind_some]
  by_cases h : NumOk a b k <;> simp [h]

-- spec_l01Of
theorem spec_l01Of_eq (a b k : Int) : spec_l01Of.f a b k = some (a, b, k) := rfl

-- spec_l02Mod
-- spec_l02Vec
-- spec_l01Low
-- MATH Nums
theorem spec_l01Low_l0 : ∀ (k K : Nat) (a b : Int), k < K → -4611686018427387904 ≤ a → a ≤ 4611686018427387904 → -4611686018427387904 ≤ b → b ≤ 4611686018427387904 → k ≤ 1000 → spec_l01Low.l0 K a b (k : Int) = some (red k a b)
  | 0, K, a, b, hK, _, _, _, _, _ => by
    obtain ⟨K, rfl⟩ : ∃ m, K = m + 1 := ⟨K - 1, by omega⟩
    simp only [spec_l01Low.l0]
    rw [if_neg (by omega)]; rfl
  | k + 1, K, a, b, hK, h0, h1, h2, h3, h4 => by
    obtain ⟨K, rfl⟩ : ∃ m, K = m + 1 := ⟨K - 1, by omega⟩
    simp only [spec_l01Low.l0, red]
    rw [if_pos (by omega)]
    by_cases ha : a % 2 = 0
    · rw [if_pos ((tmod2 a).2 ha)]
      by_cases hb : b % 2 = 0
      · rw [if_pos ((tmod2 b).2 hb), if_pos ⟨ha, hb⟩, Int.tdiv_eq_ediv_of_dvd (by omega), Int.tdiv_eq_ediv_of_dvd (by omega), w64 (n := a / 2) (by omega) (by omega), w64 (n := b / 2) (by omega) (by omega), pred64 (by omega) (by omega)]
        exact spec_l01Low_l0 k K _ _ (by omega) (by omega) (by omega) (by omega) (by omega) (by omega)
      · rw [if_neg (fun c => hb ((tmod2 b).1 c)), if_neg (fun c => hb c.2)]
    · rw [if_neg (fun c => ha ((tmod2 a).1 c)), if_neg (fun c => ha c.1)]
theorem spec_l01Low_eq (a b : Int) (k K : Nat) (hK : k + 1 < K) (h0 : -4611686018427387904 ≤ a) (h1 : a ≤ 4611686018427387904) (h2 : -4611686018427387904 ≤ b) (h3 : b ≤ 4611686018427387904) (h4 : k ≤ 1000) : spec_l01Low.f K a b (k : Int) = some (red k a b) := by
  obtain ⟨K, rfl⟩ : ∃ m, K = m + 1 := ⟨K - 1, by omega⟩
  unfold spec_l01Low.f
  simp only [spec_l01Low.j0]
  by_cases h : a = 0
  · rw [if_pos h]
    by_cases hb : b = 0
    · subst h hb
      rw [if_pos (by simp), red_zero]
    · rw [if_neg (by simpa using hb)]
      exact spec_l01Low_l0 k K a b (by omega) h0 h1 h2 h3 h4
  · rw [if_neg h, if_neg (by simp)]
    exact spec_l01Low_l0 k K a b (by omega) h0 h1 h2 h3 h4

-- spec_l01Add
-- MATH Nums
theorem spec_l01Add_l1 : ∀ (d k l K : Nat) (a b c e : Int), l + d = k → d + k + 3 < K → k ≤ 1000 →
    -1152921504606846976 ≤ a → a ≤ 1152921504606846976 → -1152921504606846976 ≤ b → b ≤ 1152921504606846976 →
    -1152921504606846976 ≤ c * 2 ^ d → c * 2 ^ d ≤ 1152921504606846976 → -1152921504606846976 ≤ e * 2 ^ d → e * 2 ^ d ≤ 1152921504606846976 →
    spec_l01Add.l1 K a b (k : Int) c e (l : Int) = some (red k (a + c * 2 ^ d) (b + e * 2 ^ d))
  | 0, k, l, K, a, b, c, e, hd, hK, hk, a0, a1, b0, b1, c0, c1, e0, e1 => by
    obtain ⟨K, rfl⟩ : ∃ m, K = m + 1 := ⟨K - 1, by omega⟩
    rw [Int.pow_zero, Int.mul_one] at *
    simp only [spec_l01Add.l1]
    rw [if_neg (by omega), w64 (n := a + c) (by omega) (by omega), w64 (n := b + e) (by omega) (by omega), spec_l01Low_eq (a + c) (b + e) k K (by omega) (by omega) (by omega) (by omega) (by omega) hk]
    simp only [Option.bind_some, Int.mul_one]
  | d + 1, k, l, K, a, b, c, e, hd, hK, hk, a0, a1, b0, b1, c0, c1, e0, e1 => by
    obtain ⟨K, rfl⟩ : ∃ m, K = m + 1 := ⟨K - 1, by omega⟩
    have p : ∀ x : Int, x * 2 ^ (d + 1) = x * 2 * 2 ^ d := fun x => by rw [Int.pow_succ', ← Int.mul_assoc]
    have cb := mul_pow_bd (d + 1) c0 c1
    have eb := mul_pow_bd (d + 1) e0 e1
    rw [p] at c0 c1 e0 e1
    simp only [spec_l01Add.l1]
    rw [if_pos (by omega), w64 (n := c * 2) (by omega) (by omega), w64 (n := e * 2) (by omega) (by omega), succ64 (by omega), p, p]
    exact spec_l01Add_l1 d k (l + 1) K a b (c * 2) (e * 2) (by omega) (by omega) hk a0 a1 b0 b1 c0 c1 e0 e1
theorem spec_l01Add_l0 : ∀ (d k l K : Nat) (a b c e : Int), k + d = l → d + l + 5 < K → l ≤ 1000 →
    -1152921504606846976 ≤ a * 2 ^ d → a * 2 ^ d ≤ 1152921504606846976 → -1152921504606846976 ≤ b * 2 ^ d → b * 2 ^ d ≤ 1152921504606846976 →
    -1152921504606846976 ≤ c → c ≤ 1152921504606846976 → -1152921504606846976 ≤ e → e ≤ 1152921504606846976 →
    spec_l01Add.l0 K a b (k : Int) c e (l : Int) = some (red l (a * 2 ^ d + c) (b * 2 ^ d + e))
  | 0, k, l, K, a, b, c, e, hd, hK, hk, a0, a1, b0, b1, c0, c1, e0, e1 => by
    obtain ⟨K, rfl⟩ : ∃ m, K = m + 1 := ⟨K - 1, by omega⟩
    rw [Int.pow_zero, Int.mul_one] at *
    obtain rfl : k = l := by omega
    simp only [spec_l01Add.l0]
    rw [if_neg (by omega), spec_l01Add_l1 0 k k K a b c e (by omega) (by omega) hk a0 a1 b0 b1 (by simpa using c0) (by simpa using c1) (by simpa using e0) (by simpa using e1)]
    simp
  | d + 1, k, l, K, a, b, c, e, hd, hK, hk, a0, a1, b0, b1, c0, c1, e0, e1 => by
    obtain ⟨K, rfl⟩ : ∃ m, K = m + 1 := ⟨K - 1, by omega⟩
    have p : ∀ x : Int, x * 2 ^ (d + 1) = x * 2 * 2 ^ d := fun x => by rw [Int.pow_succ', ← Int.mul_assoc]
    have cb := mul_pow_bd (d + 1) a0 a1
    have eb := mul_pow_bd (d + 1) b0 b1
    rw [p] at a0 a1 b0 b1
    simp only [spec_l01Add.l0]
    rw [if_pos (by omega), w64 (n := a * 2) (by omega) (by omega), w64 (n := b * 2) (by omega) (by omega), succ64 (by omega), p, p]
    exact spec_l01Add_l0 d (k + 1) l K (a * 2) (b * 2) c e (by omega) (by omega) hk a0 a1 b0 b1 c0 c1 e0 e1
/-- The sum of two numbers in lowest form. -/
theorem spec_l01Add_eq (N K : Nat) (A B C D : Int) (hK : K ≤ 100) (hN : 300 < N) (A0 : -1152921504606846976 ≤ A) (A1 : A ≤ 1152921504606846976) (B0 : -1152921504606846976 ≤ B) (B1 : B ≤ 1152921504606846976)
    (C0 : -1152921504606846976 ≤ C) (C1 : C ≤ 1152921504606846976) (D0 : -1152921504606846976 ≤ D) (D1 : D ≤ 1152921504606846976) :
    spec_l01Add.f N (red K A B).1 (red K A B).2.1 (red K A B).2.2 (red K C D).1 (red K C D).2.1 (red K C D).2.2 = some (red K (A + C) (B + D)) := by
  obtain ⟨a, b, k, e1, hk, ha, hb, _⟩ := red_spec K A B
  obtain ⟨c, d, l, e2, hl, hc, hd, _⟩ := red_spec K C D
  rw [e1, e2]
  simp only [spec_l01Add.f]
  have hs := red_sum hk hl ha hb hc hd
  have q : ∀ (x : Int) (i m : Nat), i ≤ m → m ≤ K → x * 2 ^ (K - i) = x * 2 ^ (m - i) * 2 ^ (K - m) := fun x i m h1 h2 => by
    rw [Int.mul_assoc, ← Int.pow_add, show m - i + (K - m) = K - i by omega]
  have bd : ∀ (X x : Int) (i m : Nat), i ≤ m → m ≤ K → X = x * 2 ^ (K - i) → -1152921504606846976 ≤ X → X ≤ 1152921504606846976 → -1152921504606846976 ≤ x * 2 ^ (m - i) ∧ x * 2 ^ (m - i) ≤ 1152921504606846976 := fun X x i m h1 h2 h3 h4 h5 =>
    mul_pow_bd (K - m) (by rw [← q x i m h1 h2, ← h3]; exact h4) (by rw [← q x i m h1 h2, ← h3]; exact h5)
  rcases Nat.le_total k l with h | h
  · rw [Nat.max_eq_right h] at hs
    have a' := bd A a k l h hl ha A0 A1
    have b' := bd B b k l h hl hb B0 B1
    have c' := bd C c l l (Nat.le_refl _) hl hc C0 C1
    have d' := bd D d l l (Nat.le_refl _) hl hd D0 D1
    rw [Nat.sub_self, Int.pow_zero, Int.mul_one] at c' d'
    rw [spec_l01Add_l0 (l - k) k l N a b c d (by omega) (by omega) (by omega) a'.1 a'.2 b'.1 b'.2 c'.1 c'.2 d'.1 d'.2, ← hs]
    simp
  · rw [Nat.max_eq_left h] at hs
    have a' := bd A a k k (Nat.le_refl _) hk ha A0 A1
    have b' := bd B b k k (Nat.le_refl _) hk hb B0 B1
    have c' := bd C c l k h hk hc C0 C1
    have d' := bd D d l k h hk hd D0 D1
    rw [Nat.sub_self, Int.pow_zero, Int.mul_one] at a' b'
    obtain ⟨N, rfl⟩ : ∃ m, N = m + 1 := ⟨N - 1, by omega⟩
    simp only [spec_l01Add.l0]
    rw [if_neg (by omega), spec_l01Add_l1 (k - l) k l N a b c d (by omega) (by omega) (by omega) a'.1 a'.2 b'.1 b'.2 c'.1 c'.2 d'.1 d'.2, ← hs]
    simp

-- spec_l01Mul
-- MATH Nums
theorem small_mul {a c : Int} (ha : a = -1 ∨ a = 0 ∨ a = 1) {M : Int} (h0 : -M ≤ c) (h1 : c ≤ M) : -M ≤ a * c ∧ a * c ≤ M := by
  rcases ha with rfl | rfl | rfl <;> omega
theorem small_mul2 {a c : Int} (ha : a = -1 ∨ a = 0 ∨ a = 1) {M : Int} (h0 : -M ≤ c) (h1 : c ≤ M) : -(2 * M) ≤ 2 * a * c ∧ 2 * a * c ≤ 2 * M := by
  rcases ha with rfl | rfl | rfl <;> omega
/-- A product whose first factor is small. -/
theorem red_small {K k : Nat} {a b c d C D : Int} (hk : k ≤ K) (hC : C = c * 2 ^ (K - k)) (hD : D = d * 2 ^ (K - k)) : red k (a * c + 2 * b * d) (a * d + b * c) = red K (a * C + 2 * b * D) (a * D + b * C) := by
  rw [red_up hk, hC, hD, Int.add_mul, Int.add_mul, ← Int.mul_assoc, ← Int.mul_assoc, ← Int.mul_assoc, ← Int.mul_assoc]
theorem spec_l01Mul_eq (N K : Nat) (a b C D : Int) (hK : K ≤ 60) (hN : 300 < N) (ha : a = -1 ∨ a = 0 ∨ a = 1) (hb : b = -1 ∨ b = 0 ∨ b = 1) (C0 : -1099511627776 ≤ C) (C1 : C ≤ 1099511627776) (D0 : -1099511627776 ≤ D) (D1 : D ≤ 1099511627776) :
    spec_l01Mul.f N a b 0 (red K C D).1 (red K C D).2.1 (red K C D).2.2 = some (red K (a * C + 2 * b * D) (a * D + b * C)) := by
  obtain ⟨c, d, k, e, hk, hC, hD, _⟩ := red_spec K C D
  have hc := mul_pow_bd (a := c) (M := 1099511627776) (K - k) (by omega) (by omega)
  have hd := mul_pow_bd (a := d) (M := 1099511627776) (K - k) (by omega) (by omega)
  have m1 := small_mul ha hc.1 hc.2
  have m2 := small_mul2 hb hd.1 hd.2
  have m3 := small_mul ha hd.1 hd.2
  have m4 := small_mul hb hc.1 hc.2
  rw [e]
  unfold spec_l01Mul.f
  simp only
  rw [w64 (n := a * c) (by omega) (by omega), w64 (n := 2 * b) (by omega) (by omega), w64 (n := 2 * b * d) (by omega) (by omega), w64 (n := a * d) (by omega) (by omega), w64 (n := b * c) (by omega) (by omega), w64 (n := a * c + 2 * b * d) (by omega) (by omega),
    w64 (n := a * d + b * c) (by omega) (by omega), w64 (n := (0 : Int) + k) (by omega) (by omega), Int.zero_add, spec_l01Low_eq _ _ k N (by omega) (by omega) (by omega) (by omega) (by omega) (by omega), red_small hk hC hD]
  rfl

-- spec_l02Dot
/-- The product of a vector and a point, both in lowest form at 2^10. -/
def dotR (x xb y yb P Pb Q Qb : Int) : Int × Int × Int := red 10 ((x * P + 2 * xb * Pb) + (y * Q + 2 * yb * Qb)) ((x * Pb + xb * P) + (y * Qb + yb * Q))
theorem spec_l02Dot_eq (N : Nat) (d x xb y yb P Pb Q Qb : Int) (hN : 300 < N) (hv : spec_l02Vec.f d = some (x, xb, 0, y, yb, 0)) (hx : x = -1 ∨ x = 0 ∨ x = 1) (hxb : xb = -1 ∨ xb = 0 ∨ xb = 1) (hy : y = -1 ∨ y = 0 ∨ y = 1) (hyb : yb = -1 ∨ yb = 0 ∨ yb = 1)
    (p0 : -1073741824 ≤ P) (p1 : P ≤ 1073741824) (q0 : -1073741824 ≤ Pb) (q1 : Pb ≤ 1073741824) (r0 : -1073741824 ≤ Q) (r1 : Q ≤ 1073741824) (s0 : -1073741824 ≤ Qb) (s1 : Qb ≤ 1073741824) :
    spec_l02Dot.f N d (red 10 P Pb).1 (red 10 P Pb).2.1 (red 10 P Pb).2.2 (red 10 Q Qb).1 (red 10 Q Qb).2.1 (red 10 Q Qb).2.2 = some (dotR x xb y yb P Pb Q Qb) := by
  have m1 := small_mul hx p0 p1
  have m2 := small_mul2 hxb q0 q1
  have m3 := small_mul hx q0 q1
  have m4 := small_mul hxb p0 p1
  have m5 := small_mul hy r0 r1
  have m6 := small_mul2 hyb s0 s1
  have m7 := small_mul hy s0 s1
  have m8 := small_mul hyb r0 r1
  unfold spec_l02Dot.f spec_l02Of.f
  simp only [hv, Option.bind_some, spec_l01Of_eq]
  rw [spec_l01Mul_eq N 10 x xb P Pb (by omega) hN hx hxb (by omega) (by omega) (by omega) (by omega), spec_l01Mul_eq N 10 y yb Q Qb (by omega) hN hy hyb (by omega) (by omega) (by omega) (by omega)]
  simp only [Option.bind_some]
  rw [spec_l01Add_eq N 10 _ _ _ _ (by omega) hN (by omega) (by omega) (by omega) (by omega) (by omega) (by omega) (by omega) (by omega)]
  rfl

-- spec_l01Square
-- MATH Nums
theorem sq_core (u : Int) (h0 : 0 ≤ u) (h1 : u ≤ 9223372036854775808) :
    let l := u % 4294967296; let h := u / 4294967296
    (let s := (l * l % 18446744073709551616 + ((2 * l % 18446744073709551616) * h % 18446744073709551616) * 4294967296 % 18446744073709551616) % 18446744073709551616
     let c := ((2 * l % 18446744073709551616) * h % 18446744073709551616) / 4294967296
     0 ≤ s ∧ s ≤ 18446744073709551615 ∧ (h * h % 18446744073709551616 + (if s < l * l % 18446744073709551616 then (c + 1) % 18446744073709551616 else c)) % 18446744073709551616 * 18446744073709551616 + s = u * u ∧
       0 ≤ (h * h % 18446744073709551616 + (if s < l * l % 18446744073709551616 then (c + 1) % 18446744073709551616 else c)) % 18446744073709551616) := by
  intro l h
  have hl0 : 0 ≤ l ∧ l ≤ 4294967295 := by simp only [l]; omega
  have hh0 : 0 ≤ h ∧ h ≤ 2147483648 := by simp only [h]; omega
  have e := halves u
  change u * u = h * h * 18446744073709551616 + 2 * (l * h) * 4294967296 + l * l at e
  have b1 := half_bd hl0.1 hl0.2 hl0.1 hl0.2
  have b2 : 0 ≤ l * h ∧ l * h ≤ 4294967295 * 2147483648 := ⟨Int.mul_nonneg hl0.1 hh0.1, Int.mul_le_mul hl0.2 hh0.2 hh0.1 (by omega)⟩
  have b3 : 0 ≤ h * h ∧ h * h ≤ 2147483648 * 2147483648 := ⟨Int.mul_nonneg hh0.1 hh0.1, Int.mul_le_mul hh0.2 hh0.2 hh0.1 (by omega)⟩
  rw [e, Int.emod_eq_of_lt (a := 2 * l) (by omega) (by omega), Int.mul_assoc 2 l h]
  generalize l * l = p at *
  generalize l * h = q at *
  generalize h * h = r at *
  clear e hl0 hh0
  clear_value l h
  simp only []
  split <;> omega
theorem spec_l01Square_eq (a : Int) (h0 : -9223372036854775807 ≤ a) (h1 : a ≤ 9223372036854775807) : ∃ h s : Int, spec_l01Square.f a = some (h, s) ∧ h * 18446744073709551616 + s = a * a ∧ 0 ≤ h ∧ 0 ≤ s ∧ s ≤ 18446744073709551615 := by
  unfold spec_l01Square.f
  have key : ∀ u : Int, 0 ≤ u → u ≤ 9223372036854775808 → u * u = a * a → ∃ h s : Int,
      (if (IntKind.u64.wrap ((IntKind.u64.wrap ((bits .and .u64 u 4294967295) * (bits .and .u64 u 4294967295))) + (IntKind.u64.wrap ((IntKind.u64.wrap ((IntKind.u64.wrap (2 * (bits .and .u64 u 4294967295))) * (u / 4294967296))) * 4294967296)))) < (IntKind.u64.wrap ((bits .and .u64 u 4294967295) * (bits .and .u64 u 4294967295))) then (some (IntKind.u64.wrap ((IntKind.u64.wrap ((u / 4294967296) * (u / 4294967296))) + (IntKind.u64.wrap (((IntKind.u64.wrap ((IntKind.u64.wrap (2 * (bits .and .u64 u 4294967295))) * (u / 4294967296))) / 4294967296) + 1))), IntKind.u64.wrap ((IntKind.u64.wrap ((bits .and .u64 u 4294967295) * (bits .and .u64 u 4294967295))) + (IntKind.u64.wrap ((IntKind.u64.wrap ((IntKind.u64.wrap (2 * (bits .and .u64 u 4294967295))) * (u / 4294967296))) * 4294967296))))) else (some (IntKind.u64.wrap ((IntKind.u64.wrap ((u / 4294967296) * (u / 4294967296))) + ((IntKind.u64.wrap ((IntKind.u64.wrap (2 * (bits .and .u64 u 4294967295))) * (u / 4294967296))) / 4294967296)), IntKind.u64.wrap ((IntKind.u64.wrap ((bits .and .u64 u 4294967295) * (bits .and .u64 u 4294967295))) + (IntKind.u64.wrap ((IntKind.u64.wrap ((IntKind.u64.wrap (2 * (bits .and .u64 u 4294967295))) * (u / 4294967296))) * 4294967296)))))) = some (h, s) ∧ h * 18446744073709551616 + s = a * a ∧ 0 ≤ h ∧ 0 ≤ s ∧ s ≤ 18446744073709551615 := by
    intro u hu hu1 he
    rw [andlow hu (by omega)]
    simp only [wrapu]
    have c := sq_core u hu hu1
    simp only [] at c
    by_cases hc : ((u % 4294967296) * (u % 4294967296) % 18446744073709551616 + ((2 * (u % 4294967296) % 18446744073709551616) * (u / 4294967296) % 18446744073709551616) * 4294967296 % 18446744073709551616) % 18446744073709551616 < (u % 4294967296) * (u % 4294967296) % 18446744073709551616
    · rw [if_pos hc] at c ⊢
      exact ⟨_, _, rfl, by rw [← he]; exact c.2.2.1, c.2.2.2, c.1, c.2.1⟩
    · rw [if_neg hc] at c ⊢
      exact ⟨_, _, rfl, by rw [← he]; exact c.2.2.1, c.2.2.2, c.1, c.2.1⟩
  by_cases hn : a < 0
  · rw [if_pos hn, w64 (n := -a) (by omega) (by omega), wu64 (n := -a) (by omega) (by omega)]
    exact key (-a) (by omega) (by omega) (by rw [Int.neg_mul_neg])
  · rw [if_neg hn, wu64 (n := a) (by omega) (by omega)]
    exact key a (by omega) (by omega) rfl

-- spec_l01Less
-- MATH Nums
theorem spec_l01Less_eq (a b : Int) (ha0 : -9223372036854775807 ≤ a) (ha1 : a ≤ 9223372036854775807) (hb0 : -4611686018427387904 ≤ b) (hb1 : b ≤ 4611686018427387904) : spec_l01Less.f a b = some (decide (a * a < 2 * (b * b))) := by
  unfold spec_l01Less.f
  obtain ⟨h, s, e, es, h1, h2, h3⟩ := spec_l01Square_eq a ha0 ha1
  obtain ⟨g, m, f, fs, g1, g2, g3⟩ := spec_l01Square_eq b (by omega) (by omega)
  have hbb : b * b ≤ 4611686018427387904 * 4611686018427387904 := by
    rcases Int.le_total 0 b with h | h
    · exact Int.mul_le_mul hb1 hb1 h (by omega)
    · rw [← Int.neg_mul_neg]; exact Int.mul_le_mul (by omega) (by omega) (by omega) (by omega)
  rw [e, f, ← es, ← fs] 
  rw [← fs] at hbb
  simp only [Option.bind_some, wrapu]
  by_cases c1 : h < (g * 2 % 18446744073709551616 + m / 9223372036854775808) % 18446744073709551616
  · rw [if_pos c1, decide_eq_true (by omega)]
  · rw [if_neg c1]
    by_cases c2 : h = (g * 2 % 18446744073709551616 + m / 9223372036854775808) % 18446744073709551616
    · rw [if_pos c2]
      congr 1
      rw [decide_eq_decide]
      constructor <;> intro _ <;> omega
    · rw [if_neg c2, decide_eq_false (by omega)]

-- spec_l01Sign
-- MATH Nums
theorem spec_l01Sign_eq (a b c : Int) (ha0 : -4611686018427387904 ≤ a) (ha1 : a ≤ 4611686018427387904) (hb0 : -4611686018427387904 ≤ b) (hb1 : b ≤ 4611686018427387904) (k : Nat) (hk : 3 ≤ k) : spec_l01Sign.f k a b c = some (sgn a b) := by
  obtain ⟨k, rfl⟩ : ∃ m, k = m + 3 := ⟨k - 3, by omega⟩
  unfold spec_l01Sign.f sgn
  simp only [spec_l01Sign.j0, spec_l01Sign.j1, spec_l01Sign.j2]
  rw [spec_l01Less_eq a b (by omega) (by omega) hb0 hb1]
  simp only [Option.bind_some]
  by_cases h1 : a = 0 ∧ b = 0
  · obtain ⟨rfl, rfl⟩ := h1; simp
  · rw [if_neg h1]
    by_cases ha : a = 0
    · have hb : ¬ b = 0 := fun c => h1 ⟨ha, c⟩
      subst ha
      by_cases hb2 : 0 ≤ b
      · simp [hb, hb2]
      · have hb3 : b ≤ 0 := by omega
        simp [hb, hb2, hb3]
    · by_cases ha2 : 0 ≤ a
      · by_cases hb2 : 0 ≤ b
        · simp [ha, ha2, hb2]
        · have ha3 : ¬ a ≤ 0 := by omega
          simp [ha, ha2, hb2, ha3, apply_ite some]
      · have ha3 : a ≤ 0 := by omega
        by_cases hb3 : b ≤ 0
        · simp [ha, ha2, ha3, hb3]
        · simp [ha, ha2, ha3, hb3, apply_ite some]

-- spec_l01Neg
-- MATH Nums
theorem spec_l01Neg_eq (a b c : Int) (h0 : -4611686018427387904 ≤ a) (h1 : a ≤ 4611686018427387904) (h2 : -4611686018427387904 ≤ b) (h3 : b ≤ 4611686018427387904) : spec_l01Neg.f a b c = some (-a, -b, c) := by
  unfold spec_l01Neg.f
  rw [w64 (by omega) (by omega), w64 (by omega) (by omega)]

-- spec_l01Sub
-- MATH Nums
theorem spec_l01Sub_eq (N K : Nat) (A B C D : Int) (hK : K ≤ 100) (hN : 300 < N) (A0 : -1152921504606846976 ≤ A) (A1 : A ≤ 1152921504606846976) (B0 : -1152921504606846976 ≤ B) (B1 : B ≤ 1152921504606846976)
    (C0 : -1152921504606846976 ≤ C) (C1 : C ≤ 1152921504606846976) (D0 : -1152921504606846976 ≤ D) (D1 : D ≤ 1152921504606846976) :
    spec_l01Sub.f N (red K A B).1 (red K A B).2.1 (red K A B).2.2 (red K C D).1 (red K C D).2.1 (red K C D).2.2 = some (red K (A - C) (B - D)) := by
  unfold spec_l01Sub.f
  have bd := red_bd K C D C0 C1 D0 D1
  rw [spec_l01Neg_eq _ _ _ (by omega) (by omega) (by omega) (by omega)]
  have e := red_neg K C D
  have := spec_l01Add_eq N K A B (-C) (-D) hK hN A0 A1 B0 B1 (by omega) (by omega) (by omega) (by omega)
  rw [e] at this
  simp only [Option.bind_some] at this ⊢
  rw [this]
  simp only [Option.bind_some, Int.sub_eq_add_neg]

-- laws_toNum
-- laws_toPoint
theorem laws_toPoint_eq (a b k c d l : Int) : laws_toPoint.f a b k c d l = some (a, b, k, c, d, l) := rfl

-- impl_within
theorem impl_within_eq (a b c : Int) : impl_within.f a b c = some (decide (b ≤ a ∧ a ≤ c)) := by
  unfold impl_within.f
  by_cases h : b ≤ a <;> simp [h]

-- impl_ValidNum
theorem impl_ValidNum_eq (a b k : Int) : impl_ValidNum.f a b k = some (decide (NumOk a b k)) := by
  unfold impl_ValidNum.f NumOk
  simp only [impl_within_eq, Option.bind_some, and1]
  by_cases h1 : -131072 ≤ a ∧ a ≤ 131072
  · by_cases h2 : -131072 ≤ b ∧ b ≤ 131072
    · by_cases h3 : 0 ≤ k ∧ k ≤ 10
      · simp only [h1, h2, h3, and_self, decide_true, if_true, true_and]
        by_cases h4 : k = 0
        · simp [h4]
        · by_cases h5 : a % 2 = 1
          · simp [h4, h5]
          · by_cases h6 : b % 2 = 1 <;> simp [h4, h5, h6]
      · simp [h1, h2, h3]
    · simp [h1, h2]
  · simp [h1]

-- impl_ValidPoint
theorem impl_ValidPoint_eq (a b k c d l : Int) : impl_ValidPoint.f a b k c d l = some (decide (NumOk a b k ∧ NumOk c d l)) := by
  unfold impl_ValidPoint.f
  simp only [impl_ValidNum_eq, Option.bind_some]
  by_cases h : NumOk a b k <;> simp [h]

-- impl_Num_neg
-- MATH Nums
theorem impl_Num_neg_eq (a b c : Int) (h0 : -4611686018427387904 ≤ a) (h1 : a ≤ 4611686018427387904) (h2 : -4611686018427387904 ≤ b) (h3 : b ≤ 4611686018427387904) : impl_Num_neg.f a b c = some (-a, -b, c) := by
  unfold impl_Num_neg.f
  rw [w64 (by omega) (by omega), w64 (by omega) (by omega)]

-- impl_Num_reduced
-- MATH Nums
theorem impl_Num_reduced_l0 : ∀ (k K : Nat) (a b : Int), 2 * k + 1 < K → -4611686018427387904 ≤ a → a ≤ 4611686018427387904 → -4611686018427387904 ≤ b → b ≤ 4611686018427387904 → k ≤ 1000 → impl_Num_reduced.l0 K a b (k : Int) = some (red k a b)
  | 0, K, a, b, hK, _, _, _, _, _ => by
    obtain ⟨K, rfl⟩ : ∃ m, K = m + 2 := ⟨K - 2, by omega⟩
    simp only [impl_Num_reduced.l0, impl_Num_reduced.j1]
    rw [if_neg (by omega), if_neg (by simp)]; rfl
  | k + 1, K, a, b, hK, h0, h1, h2, h3, h4 => by
    obtain ⟨K, rfl⟩ : ∃ m, K = m + 2 := ⟨K - 2, by omega⟩
    simp only [impl_Num_reduced.l0, impl_Num_reduced.j1, red, and1]
    rw [if_pos (by omega)]
    by_cases ha : a % 2 = 0
    · rw [if_pos ha]
      by_cases hb : b % 2 = 0
      · rw [if_pos (by simpa using hb), if_pos (show a % 2 = 0 ∧ b % 2 = 0 from ⟨ha, hb⟩), Int.tdiv_eq_ediv_of_dvd (by omega), Int.tdiv_eq_ediv_of_dvd (by omega), w64 (n := a / 2) (by omega) (by omega), w64 (n := b / 2) (by omega) (by omega), pred64 (by omega) (by omega)]
        have ih := impl_Num_reduced_l0 k K (a / 2) (b / 2) (by omega) (by omega) (by omega) (by omega) (by omega) (by omega)
        by_cases c1 : a / 2 = 0
        · by_cases c2 : b / 2 = 0
          · rw [if_pos c1, if_pos c2, c1, c2, red_zero]
            have := impl_Num_reduced_l0 0 K 0 0 (by omega) (by omega) (by omega) (by omega) (by omega) (by omega)
            rw [red_zero] at this
            exact this
          · rw [if_pos c1, if_neg c2, Nat.add_sub_cancel]; exact ih
        · rw [if_neg c1, Nat.add_sub_cancel]; exact ih
      · rw [if_neg (by simpa using hb), if_neg (fun c => hb c.2)]
    · rw [if_neg ha, if_neg (by simp), if_neg (fun c => ha c.1)]
theorem impl_Num_reduced_eq (a b : Int) (k K : Nat) (hK : 2 * k + 1 < K) (h0 : -4611686018427387904 ≤ a) (h1 : a ≤ 4611686018427387904) (h2 : -4611686018427387904 ≤ b) (h3 : b ≤ 4611686018427387904) (h4 : k ≤ 1000) : impl_Num_reduced.f K a b (k : Int) = some (red k a b) :=
  impl_Num_reduced_l0 k K a b hK h0 h1 h2 h3 h4

-- impl_Num_plus
-- MATH Nums
/-- The sum of two numbers in lowest form. -/
theorem impl_Num_plus_eq (N K : Nat) (A B C D : Int) (hK : K ≤ 60) (hN : 300 < N) (A0 : -1152921504606846976 ≤ A) (A1 : A ≤ 1152921504606846976) (B0 : -1152921504606846976 ≤ B) (B1 : B ≤ 1152921504606846976)
    (C0 : -1152921504606846976 ≤ C) (C1 : C ≤ 1152921504606846976) (D0 : -1152921504606846976 ≤ D) (D1 : D ≤ 1152921504606846976) :
    impl_Num_plus.f N (red K A B).1 (red K A B).2.1 (red K A B).2.2 (red K C D).1 (red K C D).2.1 (red K C D).2.2 = some (red K (A + C) (B + D)) := by
  obtain ⟨a, b, k, e1, hk, ha, hb, _⟩ := red_spec K A B
  obtain ⟨c, d, l, e2, hl, hc, hd, _⟩ := red_spec K C D
  rw [e1, e2]
  simp only [impl_Num_plus.f]
  have hs := red_sum hk hl ha hb hc hd
  have hm : max k l ≤ K := by omega
  have q : ∀ (x : Int) (i m : Nat), i ≤ m → m ≤ K → x * 2 ^ (K - i) = x * 2 ^ (m - i) * 2 ^ (K - m) := fun x i m h1 h2 => by
    rw [Int.mul_assoc, ← Int.pow_add, show m - i + (K - m) = K - i by omega]
  have bd : ∀ (X x : Int) (i m : Nat), i ≤ m → m ≤ K → X = x * 2 ^ (K - i) → -1152921504606846976 ≤ X → X ≤ 1152921504606846976 → -1152921504606846976 ≤ x * 2 ^ (m - i) ∧ x * 2 ^ (m - i) ≤ 1152921504606846976 := fun X x i m h1 h2 h3 h4 h5 =>
    mul_pow_bd (K - m) (by rw [← q x i m h1 h2, ← h3]; exact h4) (by rw [← q x i m h1 h2, ← h3]; exact h5)
  have a' := bd A a k (max k l) (by omega) hm ha A0 A1
  have b' := bd B b k (max k l) (by omega) hm hb B0 B1
  have c' := bd C c l (max k l) (by omega) hm hc C0 C1
  have d' := bd D d l (max k l) (by omega) hm hd D0 D1
  have emx : mx (k : Int) (l : Int) = ((max k l : Nat) : Int) := by unfold mx; omega
  have sh : ∀ (x : Int) (i : Nat), i ≤ 60 → -1152921504606846976 ≤ x * 2 ^ i → x * 2 ^ i ≤ 1152921504606846976 → shl .i64 x (i : Int) = x * 2 ^ i := fun x i hi h1 h2 => by
    unfold shl
    rw [Int.toNat_natCast, Nat.min_eq_left (by simp only [IntKind.bits]; omega)]
    rw [IntKind.wrap_i64]
    have hw := w64 (n := x * 2 ^ i) (by omega) (by omega)
    unfold wrap64 at hw
    exact hw
  rw [emx, w64 (n := ((max k l : Nat) : Int) - k) (by omega) (by omega), w64 (n := ((max k l : Nat) : Int) - l) (by omega) (by omega), if_pos (by omega), if_pos (by omega),
    show ((max k l : Nat) : Int) - k = ((max k l - k : Nat) : Int) by omega, show ((max k l : Nat) : Int) - l = ((max k l - l : Nat) : Int) by omega,
    sh a _ (by omega) a'.1 a'.2, sh b _ (by omega) b'.1 b'.2, sh c _ (by omega) c'.1 c'.2, sh d _ (by omega) d'.1 d'.2, w64 (by omega) (by omega), w64 (by omega) (by omega),
    impl_Num_reduced_eq _ _ (max k l) N (by omega) (by omega) (by omega) (by omega) (by omega) (by omega), hs]
  rfl

-- impl_Num_minus
-- MATH Nums
theorem impl_Num_minus_eq (N K : Nat) (A B C D : Int) (hK : K ≤ 60) (hN : 300 < N) (A0 : -1152921504606846976 ≤ A) (A1 : A ≤ 1152921504606846976) (B0 : -1152921504606846976 ≤ B) (B1 : B ≤ 1152921504606846976)
    (C0 : -1152921504606846976 ≤ C) (C1 : C ≤ 1152921504606846976) (D0 : -1152921504606846976 ≤ D) (D1 : D ≤ 1152921504606846976) :
    impl_Num_minus.f N (red K A B).1 (red K A B).2.1 (red K A B).2.2 (red K C D).1 (red K C D).2.1 (red K C D).2.2 = some (red K (A - C) (B - D)) := by
  unfold impl_Num_minus.f
  have bd := red_bd K C D C0 C1 D0 D1
  rw [impl_Num_neg_eq _ _ _ (by omega) (by omega) (by omega) (by omega)]
  have e := red_neg K C D
  have := impl_Num_plus_eq N K A B (-C) (-D) hK hN A0 A1 B0 B1 (by omega) (by omega) (by omega) (by omega)
  rw [e] at this
  simp only [Option.bind_some] at this ⊢
  rw [this]
  simp only [Option.bind_some, Int.sub_eq_add_neg]

-- impl_vector
-- MATH Nums
/-- The vectors: their parts, and that the one four steps on is the same, turned. -/
theorem vec_all (d : Int) (h0 : 0 ≤ d) (h1 : d ≤ 15) : ∃ x xb y yb : Int, ((x = -1 ∨ x = 0 ∨ x = 1) ∧ (xb = -1 ∨ xb = 0 ∨ xb = 1) ∧ (y = -1 ∨ y = 0 ∨ y = 1) ∧ (yb = -1 ∨ yb = 0 ∨ yb = 1)) ∧
    impl_vector.f d = some (x, xb, 0, y, yb, 0) ∧ spec_l02Vec.f d = some (x, xb, 0, y, yb, 0) ∧ spec_l02Vec.f (wrap64 (d + 4)) = some (-y, -yb, 0, x, xb, 0) := by
  have : d = 0 ∨ d = 1 ∨ d = 2 ∨ d = 3 ∨ d = 4 ∨ d = 5 ∨ d = 6 ∨ d = 7 ∨ d = 8 ∨ d = 9 ∨ d = 10 ∨ d = 11 ∨ d = 12 ∨ d = 13 ∨ d = 14 ∨ d = 15 := by omega
  rcases this with rfl | rfl | rfl | rfl | rfl | rfl | rfl | rfl | rfl | rfl | rfl | rfl | rfl | rfl | rfl | rfl
  · exact ⟨1, 0, 0, 0, by decide, by decide +kernel, by decide +kernel, by decide +kernel⟩
  · exact ⟨1, 0, -1, 1, by decide, by decide +kernel, by decide +kernel, by decide +kernel⟩
  · exact ⟨1, 0, 1, 0, by decide, by decide +kernel, by decide +kernel, by decide +kernel⟩
  · exact ⟨-1, 1, 1, 0, by decide, by decide +kernel, by decide +kernel, by decide +kernel⟩
  · exact ⟨0, 0, 1, 0, by decide, by decide +kernel, by decide +kernel, by decide +kernel⟩
  · exact ⟨1, -1, 1, 0, by decide, by decide +kernel, by decide +kernel, by decide +kernel⟩
  · exact ⟨-1, 0, 1, 0, by decide, by decide +kernel, by decide +kernel, by decide +kernel⟩
  · exact ⟨-1, 0, -1, 1, by decide, by decide +kernel, by decide +kernel, by decide +kernel⟩
  · exact ⟨-1, 0, 0, 0, by decide, by decide +kernel, by decide +kernel, by decide +kernel⟩
  · exact ⟨-1, 0, 1, -1, by decide, by decide +kernel, by decide +kernel, by decide +kernel⟩
  · exact ⟨-1, 0, -1, 0, by decide, by decide +kernel, by decide +kernel, by decide +kernel⟩
  · exact ⟨1, -1, -1, 0, by decide, by decide +kernel, by decide +kernel, by decide +kernel⟩
  · exact ⟨0, 0, -1, 0, by decide, by decide +kernel, by decide +kernel, by decide +kernel⟩
  · exact ⟨-1, 1, -1, 0, by decide, by decide +kernel, by decide +kernel, by decide +kernel⟩
  · exact ⟨1, 0, -1, 0, by decide, by decide +kernel, by decide +kernel, by decide +kernel⟩
  · exact ⟨1, 0, 1, -1, by decide, by decide +kernel, by decide +kernel, by decide +kernel⟩

-- impl_Num_times
-- MATH Nums
theorem impl_Num_times_eq (N K : Nat) (a b C D : Int) (hK : K ≤ 60) (hN : 300 < N) (ha : a = -1 ∨ a = 0 ∨ a = 1) (hb : b = -1 ∨ b = 0 ∨ b = 1) (C0 : -1099511627776 ≤ C) (C1 : C ≤ 1099511627776) (D0 : -1099511627776 ≤ D) (D1 : D ≤ 1099511627776) :
    impl_Num_times.f N a b 0 (red K C D).1 (red K C D).2.1 (red K C D).2.2 = some (red K (a * C + 2 * b * D) (a * D + b * C)) := by
  obtain ⟨c, d, k, e, hk, hC, hD, _⟩ := red_spec K C D
  have hc := mul_pow_bd (a := c) (M := 1099511627776) (K - k) (by omega) (by omega)
  have hd := mul_pow_bd (a := d) (M := 1099511627776) (K - k) (by omega) (by omega)
  have m1 := small_mul ha hc.1 hc.2
  have m2 := small_mul2 hb hd.1 hd.2
  have m3 := small_mul ha hd.1 hd.2
  have m4 := small_mul hb hc.1 hc.2
  rw [e]
  unfold impl_Num_times.f
  simp only
  rw [w64 (n := a * c) (by omega) (by omega), w64 (n := 2 * b) (by omega) (by omega), w64 (n := 2 * b * d) (by omega) (by omega), w64 (n := a * d) (by omega) (by omega), w64 (n := b * c) (by omega) (by omega), w64 (n := a * c + 2 * b * d) (by omega) (by omega),
    w64 (n := a * d + b * c) (by omega) (by omega), w64 (n := (0 : Int) + k) (by omega) (by omega), Int.zero_add, impl_Num_reduced_eq _ _ k N (by omega) (by omega) (by omega) (by omega) (by omega) (by omega), red_small hk hC hD]
  rfl

-- impl_Point_cross
theorem impl_Point_cross_eq (N : Nat) (x xb y yb P Pb Q Qb : Int) (hN : 300 < N) (hx : x = -1 ∨ x = 0 ∨ x = 1) (hxb : xb = -1 ∨ xb = 0 ∨ xb = 1) (hy : y = -1 ∨ y = 0 ∨ y = 1) (hyb : yb = -1 ∨ yb = 0 ∨ yb = 1)
    (p0 : -1073741824 ≤ P) (p1 : P ≤ 1073741824) (q0 : -1073741824 ≤ Pb) (q1 : Pb ≤ 1073741824) (r0 : -1073741824 ≤ Q) (r1 : Q ≤ 1073741824) (s0 : -1073741824 ≤ Qb) (s1 : Qb ≤ 1073741824) :
    impl_Point_cross.f N x xb 0 y yb 0 (red 10 P Pb).1 (red 10 P Pb).2.1 (red 10 P Pb).2.2 (red 10 Q Qb).1 (red 10 Q Qb).2.1 (red 10 Q Qb).2.2 = some (dotR (-y) (-yb) x xb P Pb Q Qb) := by
  have m1 := small_mul hx r0 r1
  have m2 := small_mul2 hxb s0 s1
  have m3 := small_mul hx s0 s1
  have m4 := small_mul hxb r0 r1
  have m5 := small_mul hy p0 p1
  have m6 := small_mul2 hyb q0 q1
  have m7 := small_mul hy q0 q1
  have m8 := small_mul hyb p0 p1
  unfold impl_Point_cross.f dotR
  rw [impl_Num_times_eq N 10 x xb Q Qb (by omega) hN hx hxb (by omega) (by omega) (by omega) (by omega), impl_Num_times_eq N 10 y yb P Pb (by omega) hN hy hyb (by omega) (by omega) (by omega) (by omega)]
  simp only [Option.bind_some]
  rw [impl_Num_minus_eq N 10 _ _ _ _ (by omega) hN (by omega) (by omega) (by omega) (by omega) (by omega) (by omega) (by omega) (by omega)]
  simp only [Option.bind_some]
  have e1 : (-y * P + 2 * -yb * Pb) + (x * Q + 2 * xb * Qb) = (x * Q + 2 * xb * Qb) - (y * P + 2 * yb * Pb) := by rw [Int.neg_mul, Int.mul_neg, Int.neg_mul]; omega
  have e2 : (-y * Pb + -yb * P) + (x * Qb + xb * Q) = (x * Qb + xb * Q) - (y * Pb + yb * P) := by rw [Int.neg_mul, Int.neg_mul]; omega
  rw [e1, e2]

-- impl_Point_dot
theorem impl_Point_dot_eq (N : Nat) (x xb y yb P Pb Q Qb : Int) (hN : 300 < N) (hx : x = -1 ∨ x = 0 ∨ x = 1) (hxb : xb = -1 ∨ xb = 0 ∨ xb = 1) (hy : y = -1 ∨ y = 0 ∨ y = 1) (hyb : yb = -1 ∨ yb = 0 ∨ yb = 1)
    (p0 : -1073741824 ≤ P) (p1 : P ≤ 1073741824) (q0 : -1073741824 ≤ Pb) (q1 : Pb ≤ 1073741824) (r0 : -1073741824 ≤ Q) (r1 : Q ≤ 1073741824) (s0 : -1073741824 ≤ Qb) (s1 : Qb ≤ 1073741824) :
    impl_Point_dot.f N x xb 0 y yb 0 (red 10 P Pb).1 (red 10 P Pb).2.1 (red 10 P Pb).2.2 (red 10 Q Qb).1 (red 10 Q Qb).2.1 (red 10 Q Qb).2.2 = some (dotR x xb y yb P Pb Q Qb) := by
  have m1 := small_mul hx p0 p1
  have m2 := small_mul2 hxb q0 q1
  have m3 := small_mul hx q0 q1
  have m4 := small_mul hxb p0 p1
  have m5 := small_mul hy r0 r1
  have m6 := small_mul2 hyb s0 s1
  have m7 := small_mul hy s0 s1
  have m8 := small_mul hyb r0 r1
  unfold impl_Point_dot.f
  rw [impl_Num_times_eq N 10 x xb P Pb (by omega) hN hx hxb (by omega) (by omega) (by omega) (by omega), impl_Num_times_eq N 10 y yb Q Qb (by omega) hN hy hyb (by omega) (by omega) (by omega) (by omega)]
  simp only [Option.bind_some]
  rw [impl_Num_plus_eq N 10 _ _ _ _ (by omega) hN (by omega) (by omega) (by omega) (by omega) (by omega) (by omega) (by omega) (by omega)]
  rfl

-- impl_signOf
theorem impl_signOf_eq (a : Int) : impl_signOf.f a = some (if a < 0 then -1 else if a = 0 then 0 else 1) := by
  unfold impl_signOf.f mx mn
  congr 1
  by_cases h : a < 0
  · rw [if_pos h]; repeat' split
    all_goals omega
  · rw [if_neg h]
    by_cases h2 : a = 0
    · rw [if_pos h2]; repeat' split
      all_goals omega
    · rw [if_neg h2]; repeat' split
      all_goals omega

-- bits_Mul64
-- MATH Nums
theorem bits_Mul64_eq (a : Int) (h0 : 0 ≤ a) (h1 : a ≤ 18446744073709551615) : ∃ h s : Int, bits_Mul64.f a a = some (h, s) ∧ h * 18446744073709551616 + s = a * a ∧ 0 ≤ h ∧ 0 ≤ s ∧ s ≤ 18446744073709551615 := by
  unfold bits_Mul64.f
  have hl : 0 ≤ a % 4294967296 ∧ a % 4294967296 ≤ 4294967295 := by omega
  have hh : 0 ≤ a / 4294967296 ∧ a / 4294967296 ≤ 4294967295 := by omega
  have e := halves a
  have b1 := half_bd hl.1 hl.2 hl.1 hl.2
  have b2 := half_bd hl.1 hl.2 hh.1 hh.2
  have b3 := half_bd hh.1 hh.2 hh.1 hh.2
  rw [andlow h0 (by omega)]
  simp only [wrapu]
  rw [Int.mul_comm (a / 4294967296) (a % 4294967296)]
  have e0 : a * a = a * a := rfl
  generalize hp : (a % 4294967296) * (a % 4294967296) = p at *
  generalize hq : (a % 4294967296) * (a / 4294967296) = q at *
  generalize hr : (a / 4294967296) * (a / 4294967296) = r at *
  have hand : ∀ x : Int, 0 ≤ x → x < 18446744073709551616 → bits .and .u64 x 4294967295 = x % 4294967296 := fun x => andlow
  rw [hand _ (by omega) (by omega)]
  rw [e]
  clear hand hl hh hp hq hr e0 e
  exact ⟨_, _, rfl, by omega, by omega, by omega, by omega⟩

-- impl_abs
theorem impl_abs_eq (a : Int) (h0 : -9223372036854775807 ≤ a) (h1 : a ≤ 9223372036854775807) : impl_abs.f a = some (if a < 0 then -a else a) := by
  unfold impl_abs.f
  rw [w64 (by omega) (by omega)]
  congr 1
  unfold mx
  split <;> split <;> omega

-- impl_isGreater
-- MATH Nums
theorem impl_isGreater_eq (a b : Int) (ha0 : -9223372036854775807 ≤ a) (ha1 : a ≤ 9223372036854775807) (hb0 : -4611686018427387904 ≤ b) (hb1 : b ≤ 4611686018427387904) : impl_isGreater.f a b = some (decide (2 * (b * b) < a * a)) := by
  unfold impl_isGreater.f
  rw [impl_abs_eq a ha0 ha1, impl_abs_eq b (by omega) (by omega)]
  simp only [Option.bind_some]
  rw [wu64 (n := if a < 0 then -a else a) (by split <;> omega) (by split <;> omega), wu64 (n := if b < 0 then -b else b) (by split <;> omega) (by split <;> omega)]
  obtain ⟨h, s, e, es, h1, h2, h3⟩ := bits_Mul64_eq (if a < 0 then -a else a) (by split <;> omega) (by split <;> omega)
  obtain ⟨g, m, f, fs, g1, g2, g3⟩ := bits_Mul64_eq (if b < 0 then -b else b) (by split <;> omega) (by split <;> omega)
  rw [abs_sq] at es fs
  have hbb : b * b ≤ 4611686018427387904 * 4611686018427387904 := by
    rcases Int.le_total 0 b with h | h
    · exact Int.mul_le_mul hb1 hb1 h (by omega)
    · rw [← Int.neg_mul_neg]; exact Int.mul_le_mul (by omega) (by omega) (by omega) (by omega)
  rw [e, f, ← es, ← fs]
  rw [← fs] at hbb
  simp only [Option.bind_some, wrapu]
  rw [oru (by omega) (by omega) (by omega) (by omega) (by omega)]
  by_cases c1 : h > g * 2 % 18446744073709551616 + m / 9223372036854775808
  · rw [if_pos c1, decide_eq_true (by omega)]
  · rw [if_neg c1]
    by_cases c2 : h = g * 2 % 18446744073709551616 + m / 9223372036854775808
    · rw [if_pos c2]
      congr 1
      rw [decide_eq_decide]
      constructor <;> intro _ <;> omega
    · rw [if_neg c2, decide_eq_false (by omega)]

-- impl_Num_sign
-- MATH Nums
theorem impl_Num_sign_eq (a b c : Int) (ha0 : -4611686018427387904 ≤ a) (ha1 : a ≤ 4611686018427387904) (hb0 : -4611686018427387904 ≤ b) (hb1 : b ≤ 4611686018427387904) (k : Nat) (hk : 1 ≤ k) : impl_Num_sign.f k a b c = some (sgn a b) := by
  obtain ⟨k, rfl⟩ : ∃ m, k = m + 1 := ⟨k - 1, by omega⟩
  unfold impl_Num_sign.f
  simp only [impl_Num_sign.j0, impl_signOf_eq, Option.bind_some]
  rw [impl_isGreater_eq a b (by omega) (by omega) hb0 hb1]
  simp only [Option.bind_some]
  have hne : ¬ (a = 0 ∧ b = 0) → ¬ a * a = 2 * (b * b) := fun h e => h (no_root_int e)
  unfold sgn
  rcases Int.lt_trichotomy a 0 with ha | ha | ha
  · rcases Int.lt_trichotomy b 0 with hb | hb | hb
    · have h1 : ¬ (a = 0) := by omega
      have h2 : ¬ (0 ≤ a) := by omega
      have h3 : a ≤ 0 := by omega
      have h4 : b ≤ 0 := by omega
      simp [ha, hb, h1, h2, h3, h4]
    · subst hb
      have h1 : ¬ (a = 0) := by omega
      have h2 : ¬ (0 ≤ a) := by omega
      have h3 : a ≤ 0 := by omega
      simp [ha, h1, h2, h3]
    · have h1 : ¬ (a = 0) := by omega
      have h2 : ¬ (0 ≤ a) := by omega
      have h3 : ¬ b ≤ 0 := by omega
      have h4 : ¬ b < 0 := by omega
      have h5 : ¬ b = 0 := by omega
      have := hne (by omega)
      by_cases c : 2 * (b * b) < a * a
      · have c2 : ¬ a * a < 2 * (b * b) := by omega
        simp [ha, hb, h1, h2, h3, h4, h5, c, c2]
      · have c2 : a * a < 2 * (b * b) := by omega
        simp [ha, hb, h1, h2, h3, h4, h5, c, c2]
  · subst ha
    rcases Int.lt_trichotomy b 0 with hb | hb | hb
    · have h4 : b ≤ 0 := by omega
      have h5 : ¬ b = 0 := by omega
      have h6 : ¬ 0 ≤ b := by omega
      simp [hb, h4, h5, h6]
    · subst hb; simp
    · have h4 : ¬ b < 0 := by omega
      have h5 : ¬ b = 0 := by omega
      have h6 : 0 ≤ b := by omega
      simp [h4, h5, h6]
  · rcases Int.lt_trichotomy b 0 with hb | hb | hb
    · have h1 : ¬ (a = 0) := by omega
      have h2 : 0 ≤ a := by omega
      have h3 : ¬ a ≤ 0 := by omega
      have h4 : ¬ a < 0 := by omega
      have h5 : ¬ 0 ≤ b := by omega
      have h6 : ¬ 0 < b := by omega
      have := hne (by omega)
      by_cases c : 2 * (b * b) < a * a
      · have c2 : ¬ a * a < 2 * (b * b) := by omega
        simp [hb, h1, h2, h3, h4, h5, h6, c, c2]
      · have c2 : a * a < 2 * (b * b) := by omega
        simp [hb, h1, h2, h3, h4, h5, h6, c, c2]
    · subst hb
      have h1 : ¬ (a = 0) := by omega
      have h2 : 0 ≤ a := by omega
      have h4 : ¬ a < 0 := by omega
      simp [h1, h2, h4]
    · have h1 : ¬ (a = 0) := by omega
      have h2 : 0 ≤ a := by omega
      have h4 : ¬ a < 0 := by omega
      have h5 : ¬ b < 0 := by omega
      have h6 : ¬ b = 0 := by omega
      have h7 : 0 ≤ b := by omega
      simp [h1, h2, h4, h5, h6, h7]

theorem red_zero_iff (K : Nat) (A B : Int) : ((red K A B).1 = 0 ∧ (red K A B).2.1 = 0) → (red K A B).2.2 = 0 := by
  obtain ⟨a, b, k, e, _, _, _, h⟩ := red_spec K A B
  rw [e]
  rintro ⟨rfl, rfl⟩
  simp at h ⊢
  exact h
theorem direction_both (P Pb Q Qb : Int) (p0 : -1073741824 ≤ P) (p1 : P ≤ 1073741824) (q0 : -1073741824 ≤ Pb) (q1 : Pb ≤ 1073741824) (r0 : -1073741824 ≤ Q) (r1 : Q ≤ 1073741824) (s0 : -1073741824 ≤ Qb) (s1 : Qb ≤ 1073741824) :
    ∀ (n N M : Nat) (d : Int), 0 ≤ d → d + n = 16 → 310 + n < N → 310 + n < M → ∃ r,
      spec_l02Direction.l0 N d (red 10 P Pb).1 (red 10 P Pb).2.1 (red 10 P Pb).2.2 (red 10 Q Qb).1 (red 10 Q Qb).2.1 (red 10 Q Qb).2.2 = some r ∧
      impl_direction.l0 M d (red 10 P Pb).1 (red 10 P Pb).2.1 (red 10 P Pb).2.2 (red 10 Q Qb).1 (red 10 Q Qb).2.1 (red 10 Q Qb).2.2 = some r
  | 0, N, M, d, h0, h1, hN, hM => by
    obtain ⟨N, rfl⟩ : ∃ m, N = m + 1 := ⟨N - 1, by omega⟩
    obtain ⟨M, rfl⟩ : ∃ m, M = m + 1 := ⟨M - 1, by omega⟩
    simp only [spec_l02Direction.l0, impl_direction.l0]
    rw [if_neg (by omega), if_neg (by omega)]
    exact ⟨-1, rfl, rfl⟩
  | n + 1, N, M, d, h0, h1, hN, hM => by
    obtain ⟨N, rfl⟩ : ∃ m, N = m + 1 := ⟨N - 1, by omega⟩
    obtain ⟨M, rfl⟩ : ∃ m, M = m + 1 := ⟨M - 1, by omega⟩
    obtain ⟨x, xb, y, yb, ⟨hx, hxb, hy, hyb⟩, v1, v2, v3⟩ := vec_all d h0 (by omega)
    obtain ⟨r, i1, i2⟩ := direction_both P Pb Q Qb p0 p1 q0 q1 r0 r1 s0 s1 n N M (d + 1) (by omega) (by omega) (by omega) (by omega)
    have hy' : -y = -1 ∨ -y = 0 ∨ -y = 1 := by omega
    have hyb' : -yb = -1 ∨ -yb = 0 ∨ -yb = 1 := by omega
    simp only [spec_l02Direction.l0, impl_direction.l0]
    rw [if_pos (by omega), if_pos (by omega), spec_l02Dot_eq N _ (-y) (-yb) x xb P Pb Q Qb (by omega) v3 hy' hyb' hx hxb p0 p1 q0 q1 r0 r1 s0 s1, spec_l02Dot_eq N d x xb y yb P Pb Q Qb (by omega) v2 hx hxb hy hyb p0 p1 q0 q1 r0 r1 s0 s1, v1, w64 (n := d + 1) (by omega) (by omega)]
    simp only [Option.bind_some]
    rw [impl_Point_cross_eq M x xb y yb P Pb Q Qb (by omega) hx hxb hy hyb p0 p1 q0 q1 r0 r1 s0 s1, impl_Point_dot_eq M x xb y yb P Pb Q Qb (by omega) hx hxb hy hyb p0 p1 q0 q1 r0 r1 s0 s1]
    simp only [Option.bind_some]
    have m1 := small_mul hx p0 p1
    have m2 := small_mul2 hxb q0 q1
    have m3 := small_mul hx q0 q1
    have m4 := small_mul hxb p0 p1
    have m5 := small_mul hy r0 r1
    have m6 := small_mul2 hyb s0 s1
    have m7 := small_mul hy s0 s1
    have m8 := small_mul hyb r0 r1
    have bd := red_bd 10 ((x * P + 2 * xb * Pb) + (y * Q + 2 * yb * Qb)) ((x * Pb + xb * P) + (y * Qb + yb * Q)) (m := 1152921504606846976) (by omega) (by omega) (by omega) (by omega)
    rw [spec_l01Sign_eq _ _ _ (by unfold dotR; omega) (by unfold dotR; omega) (by unfold dotR; omega) (by unfold dotR; omega) N (by omega), impl_Num_sign_eq _ _ _ (by unfold dotR; omega) (by unfold dotR; omega) (by unfold dotR; omega) (by unfold dotR; omega) M (by omega)]
    simp only [Option.bind_some]
    have z := red_zero_iff 10 ((-y * P + 2 * -yb * Pb) + (x * Q + 2 * xb * Qb)) ((-y * Pb + -yb * P) + (x * Qb + xb * Q))
    have hz : spec_l02Zero.f (dotR (-y) (-yb) x xb P Pb Q Qb).1 (dotR (-y) (-yb) x xb P Pb Q Qb).2.1 (dotR (-y) (-yb) x xb P Pb Q Qb).2.2 = some ((dotR (-y) (-yb) x xb P Pb Q Qb).1 == 0 && ((dotR (-y) (-yb) x xb P Pb Q Qb).2.1 == 0 && ((dotR (-y) (-yb) x xb P Pb Q Qb).2.2 == 0))) := by
      unfold spec_l02Zero.f dotR
      generalize red 10 ((-y * P + 2 * -yb * Pb) + (x * Q + 2 * xb * Qb)) ((-y * Pb + -yb * P) + (x * Qb + xb * Q)) = t at z ⊢
      by_cases a : t.1 = 0
      · by_cases b : t.2.1 = 0
        · simp [a, b, z ⟨a, b⟩]
        · simp [a, b]
      · simp [a]
    rw [hz, Option.bind_some]
    split
    · split
      · exact ⟨d, rfl, rfl⟩
      · exact ⟨r, i1, i2⟩
    · exact ⟨r, i1, i2⟩
/-- What a valid number is at 2^10. -/
theorem at10 {a b k : Int} (h : NumOk a b k) : ∃ A B : Int, (a, b, k) = red 10 A B ∧ -134217728 ≤ A ∧ A ≤ 134217728 ∧ -134217728 ≤ B ∧ B ≤ 134217728 := by
  obtain ⟨h1, h2, h3, h4⟩ := h
  have a1 := ok_bd (j := 10 - k.toNat) (by omega) h1.1 h1.2
  have b1 := ok_bd (j := 10 - k.toNat) (by omega) h2.1 h2.2
  exact ⟨_, _, red_ok ⟨h1, h2, h3, h4⟩, a1.1, a1.2, b1.1, b1.2⟩
theorem FnExactDirectionOf : laws_FnExactDirectionOf.Pure := by
  intro a b k c d l a' b' k' c' d' l' _ _
  obtain ⟨N, hN⟩ : ∃ N : Nat, 400 < N := ⟨401, by omega⟩
  refine ⟨N + 1, ?_⟩
  unfold laws_FnExactDirectionOf.f spec_DirectionOf.f impl_DirectionOf.f
  simp only [laws_toPoint_eq, spec_l02Point_eq, impl_ValidPoint_eq, Option.bind_some]
  by_cases h : NumOk a b k ∧ NumOk c d l
  · by_cases h2 : NumOk a' b' k' ∧ NumOk c' d' l'
    · obtain ⟨A, B, e1, g1, g2, g3, g4⟩ := at10 h.1
      obtain ⟨C, D, e2, g5, g6, g7, g8⟩ := at10 h.2
      obtain ⟨A', B', e3, g9, g10, g11, g12⟩ := at10 h2.1
      obtain ⟨C', D', e4, g13, g14, g15, g16⟩ := at10 h2.2
      have s1 := spec_l01Sub_eq N 10 A' B' A B (by omega) (by omega) (by omega) (by omega) (by omega) (by omega) (by omega) (by omega) (by omega) (by omega)
      have s2 := spec_l01Sub_eq N 10 C' D' C D (by omega) (by omega) (by omega) (by omega) (by omega) (by omega) (by omega) (by omega) (by omega) (by omega)
      have s3 := impl_Num_minus_eq (N + 1) 10 A' B' A B (by omega) (by omega) (by omega) (by omega) (by omega) (by omega) (by omega) (by omega) (by omega) (by omega)
      have s4 := impl_Num_minus_eq (N + 1) 10 C' D' C D (by omega) (by omega) (by omega) (by omega) (by omega) (by omega) (by omega) (by omega) (by omega) (by omega)
      rw [← e1, ← e3] at s1 s3
      rw [← e2, ← e4] at s2 s4
      obtain ⟨r, i1, i2⟩ := direction_both (A' - A) (B' - B) (C' - C) (D' - D) (by omega) (by omega) (by omega) (by omega) (by omega) (by omega) (by omega) (by omega) 16 N (N + 1) 0 (by omega) (by omega) (by omega) (by omega)
      have d1 : spec_DirectionOf.j0 (N + 1) false a b k c d l a' b' k' c' d' l' = some r := by
        simp only [spec_DirectionOf.j0, spec_l02Of.f, spec_l01Of_eq, Option.bind_some, spec_l02Minus.f]
        rw [if_neg (by simp), s1, Option.bind_some, s2]
        simp only [Option.bind_some, spec_l02Direction.f]
        rw [i1]; rfl
      have d2 : impl_direction.f (N + 1) a b k c d l a' b' k' c' d' l' = some r := by
        simp only [impl_direction.f, impl_Point_minus.f]
        rw [s3, Option.bind_some, s4]
        simp only [Option.bind_some]
        exact i2
      simp [h, h2, d1, d2]
    · simp [h, h2, spec_DirectionOf.j0]
  · simp [h, spec_DirectionOf.j0]

end Go.Proofs.YtakpnhlkalbcoaaDoor.Pure
