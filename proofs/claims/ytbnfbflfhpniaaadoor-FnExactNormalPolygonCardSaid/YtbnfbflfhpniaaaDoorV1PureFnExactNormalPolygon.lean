/- What is proved: the program's NormalPolygon answers what the reference's answers, at every list of points. Conditions: none. -/
import Derived.Test.YtbnfbflfhpniaaaDoorV1PFnExactNormalPolygonx
import Derived.Test.YtbnfbflfhpniaaaDoorV1Math
import Derived.Test.YtbnfbflfhpniaaaDoorV1Nums
import Derived.Test.YtbnfbflfhpniaaaDoorV1Dirs
namespace Go.Proofs.YtbnfbflfhpniaaaDoor.Pure
open Go.RowKit Go.Proofs.YtbnfbflfhpniaaaDoor.PFnExactNormalPolygon Go.Proofs.YtbnfbflfhpniaaaDoorW.PrintWords Go.Proofs.YtbnfbflfhpniaaaDoorW.PrintLast Go.Proofs.YtbnfbflfhpniaaaDoorW.PrintMore Go.Proofs.YtbnfbflfhpniaaaDoor.Math

theorem laws_szPointS_eq {l : List S41} {n : Int} (hn : 0 ≤ n) (hn1 : n ≤ 1048576) (hl : l.length ≤ maxLen) : zeT.f l n = some (if n < l.length then -1 else n - l.length) := by
 unfold zeT.f
 have : l.length ≤ 9223372036854775807 := Nat.le_trans hl (by unfold maxLen; omega)
 rw [w64 (by omega) (by omega)]
 by_cases h : n < l.length
 ·rw [if_pos (by omega), if_pos h]
 ·rw [if_neg (by omega), if_neg h]

theorem spec_l00In_eq (a b c : Int) : ziE.f a b c = some (decide (b ≤ a ∧ a ≤ c)) := by
 unfold ziE.f
 by_cases h : b ≤ a <;> simp [h]

theorem spec_l01Ok_eq (a b k : Int) : zeG.f a b k = some (decide (znX a b k)) := by
 unfold zeG.f znX
 simp only [spec_l00In_eq, Option.bind_some]
 by_cases h1 : -131072 ≤ a ∧ a ≤ 131072
 ·by_cases h2 : -131072 ≤ b ∧ b ≤ 131072
  ·by_cases h3 : 0 ≤ k ∧ k ≤ 10
   ·simp only [h1, h2, h3, and_self, decide_true, if_true, true_and]
    by_cases h4 : k = 0
    ·simp [h4]
    ·by_cases h5 : Int.tmod a 2 = 0
     ·have := (tmod2 a).1 h5
      by_cases h6 : Int.tmod b 2 = 0
      ·have := (tmod2 b).1 h6
       simp [h4, h5, h6]; omega
      ·have h7 : b % 2 = 1 := by have : ¬ b % 2 = 0 := fun h => h6 ((tmod2 b).2 h); omega
       simp [h4, h5, h6, h7]
     ·have h7 : a % 2 = 1 := by have : ¬ a % 2 = 0 := fun h => h5 ((tmod2 a).2 h); omega
      simp [h4, h5, h7]
   ·simp [h1, h2, h3]
  ·simp [h1, h2]
 ·simp [h1]

theorem spec_l02Point_eq (a b k c d l : Int) : zzR.f a b k c d l = some (decide (znX a b k ∧ znX c d l)) := by
 unfold zzR.f
 simp only [spec_l01Ok_eq, Option.bind_some]
 by_cases h : znX a b k <;> simp [h]

theorem sq_core (u : Int) (h0 : 0 ≤ u) (h1 : u ≤ 9223372036854775808) :
  let l := u % 4294967296; let h := u / 4294967296
  (let s := (l * l % 18446744073709551616 + ((2 * l % 18446744073709551616) * h % 18446744073709551616) * 4294967296 % 18446744073709551616) % 18446744073709551616
   let c := ((2 * l % 18446744073709551616) * h % 18446744073709551616) / 4294967296
   0 ≤ s ∧ s ≤ 18446744073709551615 ∧ (h * h % 18446744073709551616 + (if s < l * l % 18446744073709551616 then (c + 1) % 18446744073709551616 else c)) % 18446744073709551616 * 18446744073709551616 + s = u * u ∧
    0 ≤ (h * h % 18446744073709551616 + (if s < l * l % 18446744073709551616 then (c + 1) % 18446744073709551616 else c)) % 18446744073709551616) := by
 intro l h
 have hl0 : 0 ≤ l ∧ l ≤ 4294967295 := by simp only [l]; omega
 have hh0 : 0 ≤ h ∧ h ≤ 2147483648 := by simp only [h]; omega
 have e := halves u
 change u * u = h * h * 18446744073709551616 + 2 * (l * h) * 4294967296 + l * l at e
 have b1 := half_bd hl0.1 hl0.2 hl0.1 hl0.2
 have b2 : 0 ≤ l * h ∧ l * h ≤ 4294967295 * 2147483648 := ⟨Int.mul_nonneg hl0.1 hh0.1, Int.mul_le_mul hl0.2 hh0.2 hh0.1 (by omega)⟩
 have b3 : 0 ≤ h * h ∧ h * h ≤ 2147483648 * 2147483648 := ⟨Int.mul_nonneg hh0.1 hh0.1, Int.mul_le_mul hh0.2 hh0.2 hh0.1 (by omega)⟩
 rw [e, Int.emod_eq_of_lt (a := 2 * l) (by omega) (by omega), Int.mul_assoc 2 l h]
 generalize l * l = p at *
 generalize l * h = q at *
 generalize h * h = r at *
 clear e hl0 hh0
 clear_value l h
 simp only []
 split <;> omega
theorem spec_l01Square_eq (a : Int) (h0 : -9223372036854775807 ≤ a) (h1 : a ≤ 9223372036854775807) : ∃ h s : Int, zpT.f a = some (h, s) ∧ h * 18446744073709551616 + s = a * a ∧ 0 ≤ h ∧ 0 ≤ s ∧ s ≤ 18446744073709551615 := by
 unfold zpT.f
 have key : ∀ u : Int, 0 ≤ u → u ≤ 9223372036854775808 → u * u = a * a → ∃ h s : Int,
   (if (IntKind.u64.wrap ((IntKind.u64.wrap ((bits .and .u64 u 4294967295) * (bits .and .u64 u 4294967295))) + (IntKind.u64.wrap ((IntKind.u64.wrap ((IntKind.u64.wrap (2 * (bits .and .u64 u 4294967295))) * (u / 4294967296))) * 4294967296)))) < (IntKind.u64.wrap ((bits .and .u64 u 4294967295) * (bits .and .u64 u 4294967295))) then (some (IntKind.u64.wrap ((IntKind.u64.wrap ((u / 4294967296) * (u / 4294967296))) + (IntKind.u64.wrap (((IntKind.u64.wrap ((IntKind.u64.wrap (2 * (bits .and .u64 u 4294967295))) * (u / 4294967296))) / 4294967296) + 1))), IntKind.u64.wrap ((IntKind.u64.wrap ((bits .and .u64 u 4294967295) * (bits .and .u64 u 4294967295))) + (IntKind.u64.wrap ((IntKind.u64.wrap ((IntKind.u64.wrap (2 * (bits .and .u64 u 4294967295))) * (u / 4294967296))) * 4294967296))))) else (some (IntKind.u64.wrap ((IntKind.u64.wrap ((u / 4294967296) * (u / 4294967296))) + ((IntKind.u64.wrap ((IntKind.u64.wrap (2 * (bits .and .u64 u 4294967295))) * (u / 4294967296))) / 4294967296)), IntKind.u64.wrap ((IntKind.u64.wrap ((bits .and .u64 u 4294967295) * (bits .and .u64 u 4294967295))) + (IntKind.u64.wrap ((IntKind.u64.wrap ((IntKind.u64.wrap (2 * (bits .and .u64 u 4294967295))) * (u / 4294967296))) * 4294967296)))))) = some (h, s) ∧ h * 18446744073709551616 + s = a * a ∧ 0 ≤ h ∧ 0 ≤ s ∧ s ≤ 18446744073709551615 := by
  intro u hu hu1 he
  rw [andlow hu (by omega)]
  simp only [wrapu]
  have c := sq_core u hu hu1
  simp only [] at c
  by_cases hc : ((u % 4294967296) * (u % 4294967296) % 18446744073709551616 + ((2 * (u % 4294967296) % 18446744073709551616) * (u / 4294967296) % 18446744073709551616) * 4294967296 % 18446744073709551616) % 18446744073709551616 < (u % 4294967296) * (u % 4294967296) % 18446744073709551616
  ·rw [if_pos hc] at c ⊢
   exact ⟨_, _, rfl, by rw [← he]; exact c.2.2.1, c.2.2.2, c.1, c.2.1⟩
  ·rw [if_neg hc] at c ⊢
   exact ⟨_, _, rfl, by rw [← he]; exact c.2.2.1, c.2.2.2, c.1, c.2.1⟩
 by_cases hn : a < 0
 ·rw [if_pos hn, w64 (n := -a) (by omega) (by omega), wu64 (n := -a) (by omega) (by omega)]
  exact key (-a) (by omega) (by omega) (by rw [Int.neg_mul_neg])
 ·rw [if_neg hn, wu64 (n := a) (by omega) (by omega)]
  exact key a (by omega) (by omega) rfl

theorem spec_l01Less_eq (a b : Int) (ha0 : -9223372036854775807 ≤ a) (ha1 : a ≤ 9223372036854775807) (hb0 : -4611686018427387904 ≤ b) (hb1 : b ≤ 4611686018427387904) : zoU.f a b = some (decide (a * a < 2 * (b * b))) := by
 unfold zoU.f
 obtain ⟨h, s, e, es, h1, h2, h3⟩ := spec_l01Square_eq a ha0 ha1
 obtain ⟨g, m, f, fs, g1, g2, g3⟩ := spec_l01Square_eq b (by omega) (by omega)
 have hbb : b * b ≤ 4611686018427387904 * 4611686018427387904 := by
  rcases Int.le_total 0 b with h | h
  ·exact Int.mul_le_mul hb1 hb1 h (by omega)
  ·rw [← Int.neg_mul_neg]; exact Int.mul_le_mul (by omega) (by omega) (by omega) (by omega)
 rw [e, f, ← es, ← fs] 
 rw [← fs] at hbb
 simp only [Option.bind_some, wrapu]
 by_cases c1 : h < (g * 2 % 18446744073709551616 + m / 9223372036854775808) % 18446744073709551616
 ·rw [if_pos c1, decide_eq_true (by omega)]
 ·rw [if_neg c1]
  by_cases c2 : h = (g * 2 % 18446744073709551616 + m / 9223372036854775808) % 18446744073709551616
  ·rw [if_pos c2]
   congr 1
   rw [decide_eq_decide]
   constructor <;> intro _ <;> omega
  ·rw [if_neg c2, decide_eq_false (by omega)]

theorem spec_l01Sign_eq (a b c : Int) (ha0 : -4611686018427387904 ≤ a) (ha1 : a ≤ 4611686018427387904) (hb0 : -4611686018427387904 ≤ b) (hb1 : b ≤ 4611686018427387904) (k : Nat) (hk : 3 ≤ k) : zxR.f k a b c = some (sgn a b) := by
 obtain ⟨k, rfl⟩ : ∃ m, k = m + 3 := ⟨k - 3, by omega⟩
 unfold zxR.f sgn
 simp only [zxR.j0, zxR.j1, zxR.j2]
 rw [spec_l01Less_eq a b (by omega) (by omega) hb0 hb1]
 simp only [Option.bind_some]
 by_cases h1 : a = 0 ∧ b = 0
 ·obtain ⟨rfl, rfl⟩ := h1; simp
 ·rw [if_neg h1]
  by_cases ha : a = 0
  ·have hb : ¬ b = 0 := fun c => h1 ⟨ha, c⟩
   subst ha
   by_cases hb2 : 0 ≤ b
   ·simp [hb, hb2]
   ·have hb3 : b ≤ 0 := by omega
    simp [hb, hb2, hb3]
  ·by_cases ha2 : 0 ≤ a
   ·by_cases hb2 : 0 ≤ b
    ·simp [ha, ha2, hb2]
    ·have ha3 : ¬ a ≤ 0 := by omega
     simp [ha, ha2, hb2, ha3, apply_ite some]
   ·have ha3 : a ≤ 0 := by omega
    by_cases hb3 : b ≤ 0
    ·simp [ha, ha2, ha3, hb3]
    ·simp [ha, ha2, ha3, hb3, apply_ite some]

theorem spec_l01Low_l0 : ∀ (k K : Nat) (a b : Int), k < K → -4611686018427387904 ≤ a → a ≤ 4611686018427387904 → -4611686018427387904 ≤ b → b ≤ 4611686018427387904 → k ≤ 1000 → zhR.l0 K a b (k : Int) = some (red k a b)
 | 0, K, a, b, hK, _, _, _, _, _ => by
  obtain ⟨K, rfl⟩ : ∃ m, K = m + 1 := ⟨K - 1, by omega⟩
  simp only [zhR.l0]
  rw [if_neg (by omega)]; rfl
 | k + 1, K, a, b, hK, h0, h1, h2, h3, h4 => by
  obtain ⟨K, rfl⟩ : ∃ m, K = m + 1 := ⟨K - 1, by omega⟩
  simp only [zhR.l0, red]
  rw [if_pos (by omega)]
  by_cases ha : a % 2 = 0
  ·rw [if_pos ((tmod2 a).2 ha)]
   by_cases hb : b % 2 = 0
   ·rw [if_pos ((tmod2 b).2 hb), if_pos ⟨ha, hb⟩, Int.tdiv_eq_ediv_of_dvd (by omega), Int.tdiv_eq_ediv_of_dvd (by omega), w64 (n := a / 2) (by omega) (by omega), w64 (n := b / 2) (by omega) (by omega), pred64 (by omega) (by omega)]
    exact spec_l01Low_l0 k K _ _ (by omega) (by omega) (by omega) (by omega) (by omega) (by omega)
   ·rw [if_neg (fun c => hb ((tmod2 b).1 c)), if_neg (fun c => hb c.2)]
  ·rw [if_neg (fun c => ha ((tmod2 a).1 c)), if_neg (fun c => ha c.1)]
theorem spec_l01Low_eq (a b : Int) (k K : Nat) (hK : k + 1 < K) (h0 : -4611686018427387904 ≤ a) (h1 : a ≤ 4611686018427387904) (h2 : -4611686018427387904 ≤ b) (h3 : b ≤ 4611686018427387904) (h4 : k ≤ 1000) : zhR.f K a b (k : Int) = some (red k a b) := by
 obtain ⟨K, rfl⟩ : ∃ m, K = m + 1 := ⟨K - 1, by omega⟩
 unfold zhR.f
 simp only [zhR.j0]
 by_cases h : a = 0
 ·rw [if_pos h]
  by_cases hb : b = 0
  ·subst h hb
   rw [if_pos (by simp), red_zero]
  ·rw [if_neg (by simpa using hb)]
   exact spec_l01Low_l0 k K a b (by omega) h0 h1 h2 h3 h4
 ·rw [if_neg h, if_neg (by simp)]
  exact spec_l01Low_l0 k K a b (by omega) h0 h1 h2 h3 h4

theorem spec_l01Add_l1 : ∀ (d k l K : Nat) (a b c e : Int), l + d = k → d + k + 3 < K → k ≤ 1000 →
  -1152921504606846976 ≤ a → a ≤ 1152921504606846976 → -1152921504606846976 ≤ b → b ≤ 1152921504606846976 →
  -1152921504606846976 ≤ c * 2 ^ d → c * 2 ^ d ≤ 1152921504606846976 → -1152921504606846976 ≤ e * 2 ^ d → e * 2 ^ d ≤ 1152921504606846976 →
  zhQ.l1 K a b (k : Int) c e (l : Int) = some (red k (a + c * 2 ^ d) (b + e * 2 ^ d))
 | 0, k, l, K, a, b, c, e, hd, hK, hk, a0, a1, b0, b1, c0, c1, e0, e1 => by
  obtain ⟨K, rfl⟩ : ∃ m, K = m + 1 := ⟨K - 1, by omega⟩
  rw [Int.pow_zero, Int.mul_one] at *
  simp only [zhQ.l1]
  rw [if_neg (by omega), w64 (n := a + c) (by omega) (by omega), w64 (n := b + e) (by omega) (by omega), spec_l01Low_eq (a + c) (b + e) k K (by omega) (by omega) (by omega) (by omega) (by omega) hk]
  simp only [Option.bind_some, Int.mul_one]
 | d + 1, k, l, K, a, b, c, e, hd, hK, hk, a0, a1, b0, b1, c0, c1, e0, e1 => by
  obtain ⟨K, rfl⟩ : ∃ m, K = m + 1 := ⟨K - 1, by omega⟩
  have p : ∀ x : Int, x * 2 ^ (d + 1) = x * 2 * 2 ^ d := fun x => by rw [Int.pow_succ', ← Int.mul_assoc]
  have cb := zxW (d + 1) c0 c1
  have eb := zxW (d + 1) e0 e1
  rw [p] at c0 c1 e0 e1
  simp only [zhQ.l1]
  rw [if_pos (by omega), w64 (n := c * 2) (by omega) (by omega), w64 (n := e * 2) (by omega) (by omega), zaU (by omega), p, p]
  exact spec_l01Add_l1 d k (l + 1) K a b (c * 2) (e * 2) (by omega) (by omega) hk a0 a1 b0 b1 c0 c1 e0 e1
theorem spec_l01Add_l0 : ∀ (d k l K : Nat) (a b c e : Int), k + d = l → d + l + 5 < K → l ≤ 1000 →
  -1152921504606846976 ≤ a * 2 ^ d → a * 2 ^ d ≤ 1152921504606846976 → -1152921504606846976 ≤ b * 2 ^ d → b * 2 ^ d ≤ 1152921504606846976 →
  -1152921504606846976 ≤ c → c ≤ 1152921504606846976 → -1152921504606846976 ≤ e → e ≤ 1152921504606846976 →
  zhQ.l0 K a b (k : Int) c e (l : Int) = some (red l (a * 2 ^ d + c) (b * 2 ^ d + e))
 | 0, k, l, K, a, b, c, e, hd, hK, hk, a0, a1, b0, b1, c0, c1, e0, e1 => by
  obtain ⟨K, rfl⟩ : ∃ m, K = m + 1 := ⟨K - 1, by omega⟩
  rw [Int.pow_zero, Int.mul_one] at *
  obtain rfl : k = l := by omega
  simp only [zhQ.l0]
  rw [if_neg (by omega), spec_l01Add_l1 0 k k K a b c e (by omega) (by omega) hk a0 a1 b0 b1 (by simpa using c0) (by simpa using c1) (by simpa using e0) (by simpa using e1)]
  simp
 | d + 1, k, l, K, a, b, c, e, hd, hK, hk, a0, a1, b0, b1, c0, c1, e0, e1 => by
  obtain ⟨K, rfl⟩ : ∃ m, K = m + 1 := ⟨K - 1, by omega⟩
  have p : ∀ x : Int, x * 2 ^ (d + 1) = x * 2 * 2 ^ d := fun x => by rw [Int.pow_succ', ← Int.mul_assoc]
  have cb := zxW (d + 1) a0 a1
  have eb := zxW (d + 1) b0 b1
  rw [p] at a0 a1 b0 b1
  simp only [zhQ.l0]
  rw [if_pos (by omega), w64 (n := a * 2) (by omega) (by omega), w64 (n := b * 2) (by omega) (by omega), zaU (by omega), p, p]
  exact spec_l01Add_l0 d (k + 1) l K (a * 2) (b * 2) c e (by omega) (by omega) hk a0 a1 b0 b1 c0 c1 e0 e1
theorem spec_l01Add_eq (N K : Nat) (A B C D : Int) (hK : K ≤ 100) (hN : 300 < N) (A0 : -1152921504606846976 ≤ A) (A1 : A ≤ 1152921504606846976) (B0 : -1152921504606846976 ≤ B) (B1 : B ≤ 1152921504606846976)
  (C0 : -1152921504606846976 ≤ C) (C1 : C ≤ 1152921504606846976) (D0 : -1152921504606846976 ≤ D) (D1 : D ≤ 1152921504606846976) :
  zhQ.f N (red K A B).1 (red K A B).2.1 (red K A B).2.2 (red K C D).1 (red K C D).2.1 (red K C D).2.2 = some (red K (A + C) (B + D)) := by
 obtain ⟨a, b, k, e1, hk, ha, hb, _⟩ := red_spec K A B
 obtain ⟨c, d, l, e2, hl, hc, hd, _⟩ := red_spec K C D
 rw [e1, e2]
 simp only [zhQ.f]
 have hs := red_sum hk hl ha hb hc hd
 have q : ∀ (x : Int) (i m : Nat), i ≤ m → m ≤ K → x * 2 ^ (K - i) = x * 2 ^ (m - i) * 2 ^ (K - m) := fun x i m h1 h2 => by
  rw [Int.mul_assoc, ← Int.pow_add, show m - i + (K - m) = K - i by omega]
 have bd : ∀ (X x : Int) (i m : Nat), i ≤ m → m ≤ K → X = x * 2 ^ (K - i) → -1152921504606846976 ≤ X → X ≤ 1152921504606846976 → -1152921504606846976 ≤ x * 2 ^ (m - i) ∧ x * 2 ^ (m - i) ≤ 1152921504606846976 := fun X x i m h1 h2 h3 h4 h5 =>
  zxW (K - m) (by rw [← q x i m h1 h2, ← h3]; exact h4) (by rw [← q x i m h1 h2, ← h3]; exact h5)
 rcases Nat.le_total k l with h | h
 ·rw [Nat.max_eq_right h] at hs
  have a' := bd A a k l h hl ha A0 A1
  have b' := bd B b k l h hl hb B0 B1
  have c' := bd C c l l (Nat.le_refl _) hl hc C0 C1
  have d' := bd D d l l (Nat.le_refl _) hl hd D0 D1
  rw [Nat.sub_self, Int.pow_zero, Int.mul_one] at c' d'
  rw [spec_l01Add_l0 (l - k) k l N a b c d (by omega) (by omega) (by omega) a'.1 a'.2 b'.1 b'.2 c'.1 c'.2 d'.1 d'.2, ← hs]
  simp
 ·rw [Nat.max_eq_left h] at hs
  have a' := bd A a k k (Nat.le_refl _) hk ha A0 A1
  have b' := bd B b k k (Nat.le_refl _) hk hb B0 B1
  have c' := bd C c l k h hk hc C0 C1
  have d' := bd D d l k h hk hd D0 D1
  rw [Nat.sub_self, Int.pow_zero, Int.mul_one] at a' b'
  obtain ⟨N, rfl⟩ : ∃ m, N = m + 1 := ⟨N - 1, by omega⟩
  simp only [zhQ.l0]
  rw [if_neg (by omega), spec_l01Add_l1 (k - l) k l N a b c d (by omega) (by omega) (by omega) a'.1 a'.2 b'.1 b'.2 c'.1 c'.2 d'.1 d'.2, ← hs]
  simp

theorem spec_l01Neg_eq (a b c : Int) (h0 : -4611686018427387904 ≤ a) (h1 : a ≤ 4611686018427387904) (h2 : -4611686018427387904 ≤ b) (h3 : b ≤ 4611686018427387904) : zpH.f a b c = some (-a, -b, c) := by
 unfold zpH.f
 rw [w64 (by omega) (by omega), w64 (by omega) (by omega)]

theorem spec_l01Sub_eq (N K : Nat) (A B C D : Int) (hK : K ≤ 100) (hN : 300 < N) (A0 : -1152921504606846976 ≤ A) (A1 : A ≤ 1152921504606846976) (B0 : -1152921504606846976 ≤ B) (B1 : B ≤ 1152921504606846976)
  (C0 : -1152921504606846976 ≤ C) (C1 : C ≤ 1152921504606846976) (D0 : -1152921504606846976 ≤ D) (D1 : D ≤ 1152921504606846976) :
  zyB.f N (red K A B).1 (red K A B).2.1 (red K A B).2.2 (red K C D).1 (red K C D).2.1 (red K C D).2.2 = some (red K (A - C) (B - D)) := by
 unfold zyB.f
 have bd := red_bd K C D C0 C1 D0 D1
 rw [spec_l01Neg_eq _ _ _ (by omega) (by omega) (by omega) (by omega)]
 have e := red_neg K C D
 have := spec_l01Add_eq N K A B (-C) (-D) hK hN A0 A1 B0 B1 (by omega) (by omega) (by omega) (by omega)
 rw [e] at this
 simp only [Option.bind_some] at this ⊢
 rw [this]
 simp only [Option.bind_some, Int.sub_eq_add_neg]

theorem spec_l01Of_eq (a b k : Int) : zqO.f a b k = some (a, b, k) := rfl

def cmpN (a b k c d l : Int) : Int := sgn (red 10 (a * 2 ^ (10 - k.toNat) - c * 2 ^ (10 - l.toNat)) (b * 2 ^ (10 - k.toNat) - d * 2 ^ (10 - l.toNat))).1 (red 10 (a * 2 ^ (10 - k.toNat) - c * 2 ^ (10 - l.toNat)) (b * 2 ^ (10 - k.toNat) - d * 2 ^ (10 - l.toNat))).2.1
theorem spec_l01Compare_eq (N : Nat) (a b k c d l : Int) (hN : 300 < N) (h1 : znX a b k) (h2 : znX c d l) : ztF.f N a b k c d l = some (cmpN a b k c d l) := by
 unfold ztF.f
 simp only [spec_l01Of_eq, Option.bind_some]
 have a' := ok_bd (j := 10 - k.toNat) (by omega) h1.1.1 h1.1.2
 have b' := ok_bd (j := 10 - k.toNat) (by omega) h1.2.1.1 h1.2.1.2
 have c' := ok_bd (j := 10 - l.toNat) (by omega) h2.1.1 h2.1.2
 have d' := ok_bd (j := 10 - l.toNat) (by omega) h2.2.1.1 h2.2.1.2
 have := spec_l01Sub_eq N 10 (a * 2 ^ (10 - k.toNat)) (b * 2 ^ (10 - k.toNat)) (c * 2 ^ (10 - l.toNat)) (d * 2 ^ (10 - l.toNat)) (by omega) hN (by omega) (by omega) (by omega) (by omega) (by omega) (by omega) (by omega) (by omega)
 rw [← red_ok h1, ← red_ok h2] at this
 simp only [] at this
 rw [this]
 simp only [Option.bind_some]
 have bd := red_bd 10 (a * 2 ^ (10 - k.toNat) - c * 2 ^ (10 - l.toNat)) (b * 2 ^ (10 - k.toNat) - d * 2 ^ (10 - l.toNat)) (m := 4611686018427387904) (by omega) (by omega) (by omega) (by omega)
 rw [spec_l01Sign_eq _ _ _ bd.1 bd.2.1 bd.2.2.1 bd.2.2.2 N (by omega)]
 rfl

theorem spec_l02Before_eq (N : Nat) (a b k c d l a' b' k' c' d' l' : Int) (hN : 300 < N) (h1 : znX a b k) (h2 : znX c d l) (h3 : znX a' b' k') (h4 : znX c' d' l') :
  zwB.f N a b k c d l a' b' k' c' d' l' = some (if cmpN a b k a' b' k' = 0 then cmpN c d l c' d' l' else cmpN a b k a' b' k') := by
 unfold zwB.f
 rw [spec_l01Compare_eq N a b k a' b' k' hN h1 h3, spec_l01Compare_eq N c d l c' d' l' hN h2 h4]
 simp only [Option.bind_some]
 split <;> rfl

theorem spec_l02Mod_eq (d : Int) : ziB.f d = some (d % 16) := by
 unfold ziB.f
 have h := Int.tmod_lt_of_pos d (show (0 : Int) < 16 by omega)
 have h2 : -16 < Int.tmod d 16 := by have := Int.lt_tmod_of_pos d (show (0 : Int) < 16 by omega); omega
 have e : (Int.tmod d 16 + 16) % 16 = d % 16 := by
  have := Int.tmod_add_mul_tdiv d 16
  omega
 rw [w64 (by omega) (by omega), Int.tmod_eq_emod_of_nonneg (by omega), e]

theorem zzC {a c : Int} (ha : a = -1 ∨ a = 0 ∨ a = 1) {M : Int} (h0 : -M ≤ c) (h1 : c ≤ M) : -M ≤ a * c ∧ a * c ≤ M := by
 rcases ha with rfl | rfl | rfl <;> omega
theorem zxS {a c : Int} (ha : a = -1 ∨ a = 0 ∨ a = 1) {M : Int} (h0 : -M ≤ c) (h1 : c ≤ M) : -(2 * M) ≤ 2 * a * c ∧ 2 * a * c ≤ 2 * M := by
 rcases ha with rfl | rfl | rfl <;> omega
theorem red_small {K k : Nat} {a b c d C D : Int} (hk : k ≤ K) (hC : C = c * 2 ^ (K - k)) (hD : D = d * 2 ^ (K - k)) : red k (a * c + 2 * b * d) (a * d + b * c) = red K (a * C + 2 * b * D) (a * D + b * C) := by
 rw [red_up hk, hC, hD, Int.add_mul, Int.add_mul, ← Int.mul_assoc, ← Int.mul_assoc, ← Int.mul_assoc, ← Int.mul_assoc]
theorem spec_l01Mul_eq (N K : Nat) (a b C D : Int) (hK : K ≤ 60) (hN : 300 < N) (ha : a = -1 ∨ a = 0 ∨ a = 1) (hb : b = -1 ∨ b = 0 ∨ b = 1) (C0 : -1099511627776 ≤ C) (C1 : C ≤ 1099511627776) (D0 : -1099511627776 ≤ D) (D1 : D ≤ 1099511627776) :
  zhW.f N a b 0 (red K C D).1 (red K C D).2.1 (red K C D).2.2 = some (red K (a * C + 2 * b * D) (a * D + b * C)) := by
 obtain ⟨c, d, k, e, hk, hC, hD, _⟩ := red_spec K C D
 have hc := zxW (a := c) (M := 1099511627776) (K - k) (by omega) (by omega)
 have hd := zxW (a := d) (M := 1099511627776) (K - k) (by omega) (by omega)
 have m1 := zzC ha hc.1 hc.2
 have m2 := zxS hb hd.1 hd.2
 have m3 := zzC ha hd.1 hd.2
 have m4 := zzC hb hc.1 hc.2
 rw [e]
 unfold zhW.f
 simp only
 rw [w64 (n := a * c) (by omega) (by omega), w64 (n := 2 * b) (by omega) (by omega), w64 (n := 2 * b * d) (by omega) (by omega), w64 (n := a * d) (by omega) (by omega), w64 (n := b * c) (by omega) (by omega), w64 (n := a * c + 2 * b * d) (by omega) (by omega),
  w64 (n := a * d + b * c) (by omega) (by omega), w64 (n := (0 : Int) + k) (by omega) (by omega), Int.zero_add, spec_l01Low_eq _ _ k N (by omega) (by omega) (by omega) (by omega) (by omega) (by omega), red_small hk hC hD]
 rfl

def dotR (x xb y yb P Pb Q Qb : Int) : Int × Int × Int := red 10 ((x * P + 2 * xb * Pb) + (y * Q + 2 * yb * Qb)) ((x * Pb + xb * P) + (y * Qb + yb * Q))
theorem spec_l02Dot_eq (N : Nat) (d x xb y yb P Pb Q Qb : Int) (hN : 300 < N) (hv : zqB.f d = some (x, xb, 0, y, yb, 0)) (hx : x = -1 ∨ x = 0 ∨ x = 1) (hxb : xb = -1 ∨ xb = 0 ∨ xb = 1) (hy : y = -1 ∨ y = 0 ∨ y = 1) (hyb : yb = -1 ∨ yb = 0 ∨ yb = 1)
  (p0 : -1073741824 ≤ P) (p1 : P ≤ 1073741824) (q0 : -1073741824 ≤ Pb) (q1 : Pb ≤ 1073741824) (r0 : -1073741824 ≤ Q) (r1 : Q ≤ 1073741824) (s0 : -1073741824 ≤ Qb) (s1 : Qb ≤ 1073741824) :
  zmD.f N d (red 10 P Pb).1 (red 10 P Pb).2.1 (red 10 P Pb).2.2 (red 10 Q Qb).1 (red 10 Q Qb).2.1 (red 10 Q Qb).2.2 = some (dotR x xb y yb P Pb Q Qb) := by
 have m1 := zzC hx p0 p1
 have m2 := zxS hxb q0 q1
 have m3 := zzC hx q0 q1
 have m4 := zzC hxb p0 p1
 have m5 := zzC hy r0 r1
 have m6 := zxS hyb s0 s1
 have m7 := zzC hy s0 s1
 have m8 := zzC hyb r0 r1
 unfold zmD.f ziY.f
 simp only [hv, Option.bind_some, spec_l01Of_eq]
 rw [spec_l01Mul_eq N 10 x xb P Pb (by omega) hN hx hxb (by omega) (by omega) (by omega) (by omega), spec_l01Mul_eq N 10 y yb Q Qb (by omega) hN hy hyb (by omega) (by omega) (by omega) (by omega)]
 simp only [Option.bind_some]
 rw [spec_l01Add_eq N 10 _ _ _ _ (by omega) hN (by omega) (by omega) (by omega) (by omega) (by omega) (by omega) (by omega) (by omega)]
 rfl

theorem ip_rd (l : List S35) (j : Nat) (h : j < l.length) : zmE l (j : Int) = l[j] := by
 unfold zmE
 rw [Int.toNat_natCast, List.getD_eq_getElem?_getD, List.getElem?_eq_getElem h]
 rfl
def toW (p : S35) : S65 := ⟨⟨p.f0.f0, p.f0.f1, p.f0.f2⟩, ⟨p.f1.f0, p.f1.f1, p.f1.f2⟩⟩
theorem w_rd (l : List S35) (j : Nat) (h : j < l.length) : zbT (l.map toW) (j : Int) = toW (zmE l (j : Int)) := by
 rw [ip_rd l j h]
 unfold zbT
 rw [Int.toNat_natCast, List.getD_eq_getElem?_getD, List.getElem?_map, List.getElem?_eq_getElem h]
 rfl
theorem wide_loop (l : List S35) (hl : l.length ≤ 1048576) : ∀ (d j : Nat) (acc : List S65), j + d = l.length → acc.length = j → ∀ k, d < k → zsN.l0 k l acc (j : Int) = some (acc ++ (l.drop j).map toW)
 | 0, j, acc, hd, ha, k, hk => by
  obtain ⟨k, rfl⟩ : ∃ m, k = m + 1 := ⟨k - 1, by omega⟩
  simp only [zsN.l0]
  rw [if_neg (by omega), List.drop_eq_nil_of_le (by omega)]
  simp
 | d + 1, j, acc, hd, ha, k, hk => by
  obtain ⟨k, rfl⟩ : ∃ m, k = m + 1 := ⟨k - 1, by omega⟩
  have hj : j < l.length := by omega
  simp only [zsN.l0]
  rw [if_pos (by omega), if_pos (by omega)]
  simp only [ziY.f, spec_l01Of_eq, Option.bind_some]
  rw [if_pos (by omega), zaU (by omega), wide_loop l hl d (j + 1) _ (by omega) (by simp; omega) k (by omega), List.drop_eq_getElem_cons hj, List.map_cons, List.append_assoc, ip_rd l j hj]
  rfl
theorem spec_l03Wide_eq (l : List S35) (hl : l.length ≤ 1048576) (k : Nat) (hk : l.length < k) : zsN.f k l = some (l.map toW) := by
 unfold zsN.f
 have := wide_loop l hl l.length 0 [] (by omega) rfl k hk
 simpa using this

theorem next_at {n : Nat} (j : Nat) (hj : j ≤ 1048576) : Int.tmod (wrap64 ((j : Int) + 1)) (n : Int) = (((j + 1) % n : Nat) : Int) := by rw [zaU (by omega)]; rfl
def allD (D : Nat → Int) : Nat → Nat → Bool
 | 0, _ => true
 | d + 1, j => decide (0 ≤ D j) && allD D d (j + 1)
theorem allD_iff (D : Nat → Int) : ∀ (d j : Nat), allD D d j = true ↔ ∀ i, j ≤ i → i < j + d → 0 ≤ D i
 | 0, j => by simp [allD]; intro i h1 h2; omega
 | d + 1, j => by
  simp only [allD, Bool.and_eq_true, decide_eq_true_eq, allD_iff D d (j + 1)]
  constructor
  ·intro h i h1 h2
   by_cases e : i = j
   ·subst e; exact h.1
   ·exact h.2 i (by omega) (by omega)
  ·intro h
   exact ⟨h j (by omega) (by omega), fun i h1 h2 => h i (by omega) (by omega)⟩
def SideIs (p q : S35) (r : Int) : Prop := ∀ N, 400 < N → ∃ x1 x2 x3 x4 x5 x6 : Int, zkL.f N q.f0.f0 q.f0.f1 q.f0.f2 q.f1.f0 q.f1.f1 q.f1.f2 p.f0.f0 p.f0.f1 p.f0.f2 p.f1.f0 p.f1.f1 p.f1.f2 = some (x1, x2, x3, x4, x5, x6) ∧ znA.f N x1 x2 x3 x4 x5 x6 = some r
theorem sides_loop (l : List S35) (D : Nat → Int) (hl : l.length ≤ 1048576) (hn : 0 < l.length) (hD : ∀ i, i < l.length → SideIs (zmE l (i : Int)) (zmE l (((i + 1) % l.length : Nat) : Int)) (D i)) :
  ∀ (d j : Nat) (acc : List Int), j + d = l.length → acc = (List.range j).map D → ∀ k, 400 + d < k → zlQ.l0 k (l.map toW) acc (j : Int) = some (if allD D d j = true then ((List.range l.length).map D, true) else ([], false))
 | 0, j, acc, hd, ha, k, hk => by
  obtain ⟨k, rfl⟩ : ∃ m, k = m + 1 := ⟨k - 1, by omega⟩
  simp only [zlQ.l0]
  rw [if_neg (by rw [List.length_map]; omega), ha, show j = l.length by omega]
  rfl
 | d + 1, j, acc, hd, ha, k, hk => by
  obtain ⟨k, rfl⟩ : ∃ m, k = m + 1 := ⟨k - 1, by omega⟩
  have hj : j < l.length := by omega
  have hm : (j + 1) % l.length < l.length := Nat.mod_lt _ hn
  obtain ⟨x1, x2, x3, x4, x5, x6, e1, e2⟩ := hD j hj k (by omega)
  simp only [zlQ.l0]
  rw [List.length_map, next_at j (by omega), if_pos (by omega), if_neg (by omega), if_pos (by omega), if_pos (by omega), if_pos (by omega), w_rd l _ hm, w_rd l j hj]
  simp only [toW]
  rw [e1, Option.bind_some, e2, Option.bind_some]
  by_cases h : D j < 0
  ·have ea : allD D (d + 1) j = false := by show (decide (0 ≤ D j) && allD D d (j + 1)) = false; rw [decide_eq_false (by omega), Bool.false_and]
   rw [if_pos h, ea]; rfl
  ·have ea : allD D (d + 1) j = allD D d (j + 1) := by show (decide (0 ≤ D j) && allD D d (j + 1)) = _; rw [decide_eq_true (by omega), Bool.true_and]
   rw [if_neg h, if_pos (by rw [ha, List.length_map, List.length_range]; omega), zaU (by omega), ea]
   exact sides_loop l D hl hn hD d (j + 1) _ (by omega) (by rw [ha, List.range_succ, List.map_append]; rfl) k (by omega)

def PtOk (p : S35) : Prop := znX p.f0.f0 p.f0.f1 p.f0.f2 ∧ znX p.f1.f0 p.f1.f1 p.f1.f2
instance (p : S35) : Decidable (PtOk p) := by unfold PtOk; infer_instance
def vz (a k : Int) : Int := a * 2 ^ (10 - k.toNat)
def cmpS (p q : S35) : Int := lexs (vz p.f0.f0 p.f0.f2 - vz q.f0.f0 q.f0.f2) (vz p.f0.f1 p.f0.f2 - vz q.f0.f1 q.f0.f2) (vz p.f1.f0 p.f1.f2 - vz q.f1.f0 q.f1.f2) (vz p.f1.f1 p.f1.f2 - vz q.f1.f1 q.f1.f2)
theorem cmpN_eq (a b k c d l : Int) : cmpN a b k c d l = sgn (vz a k - vz c l) (vz b k - vz d l) := by unfold cmpN vz; exact sgn_red 10 _ _
theorem cmpS_of (p q : S35) : (if cmpN p.f0.f0 p.f0.f1 p.f0.f2 q.f0.f0 q.f0.f1 q.f0.f2 = 0 then cmpN p.f1.f0 p.f1.f1 p.f1.f2 q.f1.f0 q.f1.f1 q.f1.f2 else cmpN p.f0.f0 p.f0.f1 p.f0.f2 q.f0.f0 q.f0.f1 q.f0.f2) = cmpS p q := by
 rw [cmpN_eq, cmpN_eq]; rfl
theorem cmpS_anti (p q : S35) : cmpS q p = -cmpS p q := by
 unfold cmpS
 rw [← lexs_neg]
 congr 1 <;> omega
theorem cmpS_three (p q : S35) : cmpS p q = 1 ∨ cmpS p q = 0 ∨ cmpS p q = -1 := lexs_three _ _ _ _
theorem cmpS_self (p : S35) : cmpS p p = 0 := by have := cmpS_anti p p; omega
theorem cmpS_same {p q : S35} (h : cmpS p q = 0) (r : S35) : cmpS p r = cmpS q r := by
 obtain ⟨h1, h2, h3, h4⟩ := lexs_zero h
 unfold cmpS
 congr 1 <;> omega
def cornerOk (l : List S35) (i : Nat) : Prop := PtOk (zmE l (i : Int)) ∧ (0 < i → cmpS (zmE l 0) (zmE l (i : Int)) = -1)
theorem corners_good (l : List S35) (hl : l.length ≤ 16) (h0 : PtOk (zmE l 0)) : ∀ (d j : Nat), j + d = l.length → (∀ i, j ≤ i → i < l.length → cornerOk l i) → ∀ K, 300 < K → zhB.l0 (d + 1 + K) l (l.length : Int) (j : Int) = ((zsN.f K l).bind fun t241 => ((zlQ.f K t241).bind fun bt244 => (if bt244.2 = true then (zhB.l1 K (l.length : Int) bt244.1 0 0) else (some false))))
 | 0, j, hd, hg, K, hK => by
  rw [show 0 + 1 + K = K + 1 by omega]
  simp only [zhB.l0]
  rw [if_neg (by omega)]
 | d + 1, j, hd, hg, K, hK => by
  rw [show d + 1 + 1 + K = (d + 1 + K) + 1 by omega]
  have hj : j < l.length := by omega
  obtain ⟨g1, g2⟩ := hg j (Nat.le_refl j) hj
  simp only [zhB.l0]
  rw [if_pos (by omega), if_pos (by omega), if_pos (by omega), spec_l02Point_eq, decide_eq_true (show znX _ _ _ ∧ znX _ _ _ from g1), Option.bind_some, if_pos rfl]
  have ih := corners_good l hl h0 d (j + 1) (by omega) (fun i h1 h2 => hg i (by omega) h2) K hK
  by_cases hz : 0 < j
  ·rw [if_pos (by omega), if_pos (by omega), spec_l02Before_eq _ _ _ _ _ _ _ _ _ _ _ _ _ (by omega) h0.1 h0.2 g1.1 g1.2, Option.bind_some, cmpS_of, g2 hz, if_neg (by omega), zaU (by omega)]
   exact ih
  ·rw [if_neg (by omega), zaU (by omega)]
   exact ih
theorem corners_bad (l : List S35) (hl : l.length ≤ 16) : ∀ (d j : Nat), j + d = l.length → (0 < j → PtOk (zmE l 0)) → (∃ i, j ≤ i ∧ i < l.length ∧ ¬ cornerOk l i) → ∀ k, 300 + d < k → zhB.l0 k l (l.length : Int) (j : Int) = some false
 | 0, j, hd, h0, ⟨i, h1, h2, _⟩, k, hk => by omega
 | d + 1, j, hd, h0, ⟨i, h1, h2, h3⟩, k, hk => by
  obtain ⟨k, rfl⟩ : ∃ m, k = m + 1 := ⟨k - 1, by omega⟩
  have hj : j < l.length := by omega
  simp only [zhB.l0]
  rw [if_pos (by omega), if_pos (by omega), if_pos (by omega), spec_l02Point_eq, Option.bind_some]
  by_cases g1 : PtOk (zmE l (j : Int))
  ·rw [decide_eq_true (show znX _ _ _ ∧ znX _ _ _ from g1), if_pos rfl]
   have more : j ≠ i → ∃ i', j + 1 ≤ i' ∧ i' < l.length ∧ ¬ cornerOk l i' := fun e => ⟨i, by omega, h2, h3⟩
   by_cases hz : 0 < j
   ·have p0 := h0 hz
    rw [if_pos (by omega), if_pos (by omega), spec_l02Before_eq _ _ _ _ _ _ _ _ _ _ _ _ _ (by omega) p0.1 p0.2 g1.1 g1.2, Option.bind_some, cmpS_of]
    by_cases hc : cmpS (zmE l 0) (zmE l (j : Int)) = -1
    ·rw [if_neg (by omega), zaU (by omega)]
     exact corners_bad l hl d (j + 1) (by omega) (fun _ => p0) (more fun e => by subst e; exact h3 ⟨g1, fun _ => hc⟩) k (by omega)
    ·rw [if_pos (by have := cmpS_three (zmE l 0) (zmE l (j : Int)); omega)]
   ·rw [if_neg (by omega), zaU (by omega)]
    have e0 : j = 0 := by omega
    subst e0
    exact corners_bad l hl d 1 (by omega) (fun _ => g1) (more fun e => by subst e; exact h3 ⟨g1, fun h => by omega⟩) k (by omega)
  ·rw [decide_eq_false (show ¬ (znX _ _ _ ∧ znX _ _ _) from g1), if_neg (by simp)]
def tOk (T : Nat → Int) : Nat → Nat → Bool
 | 0, _ => true
 | d + 1, j => decide (1 ≤ T j ∧ T j ≤ 7) && tOk T d (j + 1)
def tSum (T : Nat → Int) : Nat → Nat → Int
 | 0, _ => 0
 | d + 1, j => T j + tSum T d (j + 1)
theorem tOk_iff (T : Nat → Int) : ∀ (d j : Nat), tOk T d j = true ↔ ∀ i, j ≤ i → i < j + d → 1 ≤ T i ∧ T i ≤ 7
 | 0, j => by simp [tOk]; intro i h1 h2; omega
 | d + 1, j => by
  simp only [tOk, Bool.and_eq_true, decide_eq_true_eq, tOk_iff T d (j + 1)]
  constructor
  ·intro h i h1 h2
   by_cases e : i = j
   ·subst e; exact h.1
   ·exact h.2 i (by omega) (by omega)
  ·intro h
   exact ⟨h j (by omega) (by omega), fun i h1 h2 => h i (by omega) (by omega)⟩
theorem tSum_snoc (T : Nat → Int) : ∀ (d j : Nat), tSum T (d + 1) j = tSum T d j + T (j + d)
 | 0, j => by simp [tSum]
 | d + 1, j => by
  have := tSum_snoc T d (j + 1)
  simp only [tSum] at this ⊢
  rw [this, show j + 1 + d = j + (d + 1) by omega]; omega
theorem tSum_shift (T T' : Nat → Int) : ∀ (d j : Nat), (∀ i, j ≤ i → i < j + d → T' (i + 1) = T i) → tSum T' d (j + 1) = tSum T d j
 | 0, j, _ => rfl
 | d + 1, j, h => by simp only [tSum]; rw [h j (by omega) (by omega), tSum_shift T T' d (j + 1) (fun i h1 h2 => h i (by omega) (by omega))]
def zlV (n : Nat) (D : Nat → Int) (i : Nat) : Int := (D ((i + 1) % n) - D i) % 16
theorem sides_rd (D : Nat → Int) (n j : Nat) (h : j < n) : rd ((List.range n).map D) (j : Int) = D j := by
 unfold rd
 rw [Int.toNat_natCast, List.getD_eq_getElem?_getD, List.getElem?_map, List.getElem?_range h]
 rfl
theorem turns_loop (n : Nat) (D : Nat → Int) (hn : 0 < n) (hn2 : n ≤ 16) (hD : ∀ i, i < n → 0 ≤ D i ∧ D i ≤ 15) : ∀ (d j : Nat) (s : Int), j + d = n → 0 ≤ s → s ≤ 7 * j → ∀ k, d < k → zhB.l1 k (n : Int) ((List.range n).map D) s (j : Int) = some (tOk (zlV n D) d j && (s + tSum (zlV n D) d j == 16))
 | 0, j, s, hd, h0, h1, k, hk => by
  obtain ⟨k, rfl⟩ : ∃ m, k = m + 1 := ⟨k - 1, by omega⟩
  simp only [zhB.l1]
  rw [if_neg (by omega)]
  simp [tOk, tSum]
 | d + 1, j, s, hd, h0, h1, k, hk => by
  obtain ⟨k, rfl⟩ : ∃ m, k = m + 1 := ⟨k - 1, by omega⟩
  have hj : j < n := by omega
  have hm : (j + 1) % n < n := Nat.mod_lt _ hn
  have a1 := hD j hj
  have a2 := hD _ hm
  simp only [zhB.l1]
  rw [next_at j (by omega), if_pos (by omega), if_neg (by omega), if_pos (by omega), if_pos (by rw [List.length_map, List.length_range]; omega), if_pos (by omega), if_pos (by rw [List.length_map, List.length_range]; omega), sides_rd D n _ hm, sides_rd D n j hj, w64 (n := D ((j + 1) % n) - D j) (by omega) (by omega), spec_l02Mod_eq, Option.bind_some, spec_l00In_eq, Option.bind_some]
  simp only [tOk, tSum]
  have et : (D ((j + 1) % n) - D j) % 16 = zlV n D j := rfl
  rw [et]
  by_cases ht : 1 ≤ zlV n D j ∧ zlV n D j ≤ 7
  ·rw [decide_eq_true ht, if_pos rfl, w64 (by omega) (by omega), zaU (by omega), turns_loop n D hn hn2 hD d (j + 1) _ (by omega) (by omega) (by omega) k (by omega), Bool.true_and, Int.add_assoc]
  ·rw [decide_eq_false ht, if_neg (by simp), Bool.false_and, Bool.false_and]

theorem laws_toPoint_eq (a b k c d l : Int) : laws_toPoint.f a b k c d l = some (a, b, k, c, d, l) := rfl

def toP (x : S41) : S35 := ⟨⟨x.f0.f0, x.f0.f1, x.f0.f2⟩, ⟨x.f1.f0, x.f1.f1, x.f1.f2⟩⟩
theorem rdT_lp (l : List S41) (j : Nat) (h : j < l.length) : zdH l (j : Int) = l[j] := by
 unfold zdH
 rw [Int.toNat_natCast, List.getD_eq_getElem?_getD, List.getElem?_eq_getElem h]
 rfl
theorem laws_toPointS_l0 (l : List S41) (hl : l.length ≤ 1048576) : ∀ (d k j : Nat) (o : List S35), j + d = l.length → d < k → o.length = l.length → o.take j = (l.take j).map toP →
  ztE.l0 k l o (j : Int) = some (l.map toP)
 | 0, k, j, o, hd, hk, ho, ht => by
  obtain ⟨k, rfl⟩ : ∃ m, k = m + 1 := ⟨k - 1, by omega⟩
  simp only [ztE.l0]
  rw [if_neg (by omega)]
  rw [List.take_of_length_le (by omega), List.take_of_length_le (by omega)] at ht
  rw [ht]
 | d + 1, k, j, o, hd, hk, ho, ht => by
  obtain ⟨k, rfl⟩ : ∃ m, k = m + 1 := ⟨k - 1, by omega⟩
  simp only [ztE.l0]
  rw [if_pos (by omega), if_pos (by omega), rdT_lp l j (by omega), laws_toPoint_eq]
  simp only [Option.bind_some]
  rw [if_pos (by omega), zaU (by omega), Int.toNat_natCast]
  refine laws_toPointS_l0 l hl d k (j + 1) _ (by omega) (by omega) (by simpa using ho) ?_
  rw [List.take_add_one, List.take_add_one, List.take_set_of_le (Nat.le_refl j), ht, List.getElem?_set_self (by omega), List.getElem?_eq_getElem (by omega), List.map_append]
  rfl
theorem laws_toPointS_eq (l : List S41) (hl : l.length ≤ 1048576) (k : Nat) (hk : l.length < k) : ztE.f k l = some (l.map toP) := by
 unfold ztE.f
 rw [if_pos (by omega), if_pos (by omega), Int.toNat_natCast]
 exact laws_toPointS_l0 l hl l.length k 0 _ (by omega) hk (by simp) (by simp)

theorem impl_within_eq (a b c : Int) : zrP.f a b c = some (decide (b ≤ a ∧ a ≤ c)) := by
 unfold zrP.f
 by_cases h : b ≤ a <;> simp [h]

theorem impl_ValidNum_eq (a b k : Int) : zdR.f a b k = some (decide (znX a b k)) := by
 unfold zdR.f znX
 simp only [impl_within_eq, Option.bind_some, and1]
 by_cases h1 : -131072 ≤ a ∧ a ≤ 131072
 ·by_cases h2 : -131072 ≤ b ∧ b ≤ 131072
  ·by_cases h3 : 0 ≤ k ∧ k ≤ 10
   ·simp only [h1, h2, h3, and_self, decide_true, if_true, true_and]
    by_cases h4 : k = 0
    ·simp [h4]
    ·by_cases h5 : a % 2 = 1
     ·simp [h4, h5]
     ·by_cases h6 : b % 2 = 1 <;> simp [h4, h5, h6]
   ·simp [h1, h2, h3]
  ·simp [h1, h2]
 ·simp [h1]

theorem impl_ValidPoint_eq (a b k c d l : Int) : ztU.f a b k c d l = some (decide (znX a b k ∧ znX c d l)) := by
 unfold ztU.f
 simp only [impl_ValidNum_eq, Option.bind_some]
 by_cases h : znX a b k <;> simp [h]

theorem zlI (l : List S35) : zmH.f l = some (l.all (fun p => decide (PtOk p))) := by
 unfold zmH.f
 rw [zhZ.eq_any (fun p => !decide (PtOk p)) l (fun x _ => by simp only [zkG.f]; rw [impl_ValidPoint_eq]; rfl), Option.bind_some, List.not_any_eq_all_not]
 simp only [Bool.not_not]

theorem impl_signOf_eq (a : Int) : zpU.f a = some (if a < 0 then -1 else if a = 0 then 0 else 1) := by
 unfold zpU.f mx mn
 congr 1
 by_cases h : a < 0
 ·rw [if_pos h]; repeat' split
  all_goals omega
 ·rw [if_neg h]
  by_cases h2 : a = 0
  ·rw [if_pos h2]; repeat' split
   all_goals omega
  ·rw [if_neg h2]; repeat' split
   all_goals omega

theorem bits_Mul64_eq (a : Int) (h0 : 0 ≤ a) (h1 : a ≤ 18446744073709551615) : ∃ h s : Int, zoP.f a a = some (h, s) ∧ h * 18446744073709551616 + s = a * a ∧ 0 ≤ h ∧ 0 ≤ s ∧ s ≤ 18446744073709551615 := by
 unfold zoP.f
 have hl : 0 ≤ a % 4294967296 ∧ a % 4294967296 ≤ 4294967295 := by omega
 have hh : 0 ≤ a / 4294967296 ∧ a / 4294967296 ≤ 4294967295 := by omega
 have e := halves a
 have b1 := half_bd hl.1 hl.2 hl.1 hl.2
 have b2 := half_bd hl.1 hl.2 hh.1 hh.2
 have b3 := half_bd hh.1 hh.2 hh.1 hh.2
 rw [andlow h0 (by omega)]
 simp only [wrapu]
 rw [Int.mul_comm (a / 4294967296) (a % 4294967296)]
 have e0 : a * a = a * a := rfl
 generalize hp : (a % 4294967296) * (a % 4294967296) = p at *
 generalize hq : (a % 4294967296) * (a / 4294967296) = q at *
 generalize hr : (a / 4294967296) * (a / 4294967296) = r at *
 have hand : ∀ x : Int, 0 ≤ x → x < 18446744073709551616 → bits .and .u64 x 4294967295 = x % 4294967296 := fun x => andlow
 rw [hand _ (by omega) (by omega)]
 rw [e]
 clear hand hl hh hp hq hr e0 e
 exact ⟨_, _, rfl, by omega, by omega, by omega, by omega⟩

theorem impl_abs_eq (a : Int) (h0 : -9223372036854775807 ≤ a) (h1 : a ≤ 9223372036854775807) : zgD.f a = some (if a < 0 then -a else a) := by
 unfold zgD.f
 rw [w64 (by omega) (by omega)]
 congr 1
 unfold mx
 split <;> split <;> omega

theorem impl_isGreater_eq (a b : Int) (ha0 : -9223372036854775807 ≤ a) (ha1 : a ≤ 9223372036854775807) (hb0 : -4611686018427387904 ≤ b) (hb1 : b ≤ 4611686018427387904) : zyC.f a b = some (decide (2 * (b * b) < a * a)) := by
 unfold zyC.f
 rw [impl_abs_eq a ha0 ha1, impl_abs_eq b (by omega) (by omega)]
 simp only [Option.bind_some]
 rw [wu64 (n := if a < 0 then -a else a) (by split <;> omega) (by split <;> omega), wu64 (n := if b < 0 then -b else b) (by split <;> omega) (by split <;> omega)]
 obtain ⟨h, s, e, es, h1, h2, h3⟩ := bits_Mul64_eq (if a < 0 then -a else a) (by split <;> omega) (by split <;> omega)
 obtain ⟨g, m, f, fs, g1, g2, g3⟩ := bits_Mul64_eq (if b < 0 then -b else b) (by split <;> omega) (by split <;> omega)
 rw [abs_sq] at es fs
 have hbb : b * b ≤ 4611686018427387904 * 4611686018427387904 := by
  rcases Int.le_total 0 b with h | h
  ·exact Int.mul_le_mul hb1 hb1 h (by omega)
  ·rw [← Int.neg_mul_neg]; exact Int.mul_le_mul (by omega) (by omega) (by omega) (by omega)
 rw [e, f, ← es, ← fs]
 rw [← fs] at hbb
 simp only [Option.bind_some, wrapu]
 rw [oru (by omega) (by omega) (by omega) (by omega) (by omega)]
 by_cases c1 : h > g * 2 % 18446744073709551616 + m / 9223372036854775808
 ·rw [if_pos c1, decide_eq_true (by omega)]
 ·rw [if_neg c1]
  by_cases c2 : h = g * 2 % 18446744073709551616 + m / 9223372036854775808
  ·rw [if_pos c2]
   congr 1
   rw [decide_eq_decide]
   constructor <;> intro _ <;> omega
  ·rw [if_neg c2, decide_eq_false (by omega)]

theorem impl_Num_sign_eq (a b c : Int) (ha0 : -4611686018427387904 ≤ a) (ha1 : a ≤ 4611686018427387904) (hb0 : -4611686018427387904 ≤ b) (hb1 : b ≤ 4611686018427387904) (k : Nat) (hk : 1 ≤ k) : zyE.f k a b c = some (sgn a b) := by
 obtain ⟨k, rfl⟩ : ∃ m, k = m + 1 := ⟨k - 1, by omega⟩
 unfold zyE.f
 simp only [zyE.j0, impl_signOf_eq, Option.bind_some]
 rw [impl_isGreater_eq a b (by omega) (by omega) hb0 hb1]
 simp only [Option.bind_some]
 have hne : ¬ (a = 0 ∧ b = 0) → ¬ a * a = 2 * (b * b) := fun h e => h (no_root_int e)
 unfold sgn
 rcases Int.lt_trichotomy a 0 with ha | ha | ha
 ·rcases Int.lt_trichotomy b 0 with hb | hb | hb
  ·have h1 : ¬ (a = 0) := by omega
   have h2 : ¬ (0 ≤ a) := by omega
   have h3 : a ≤ 0 := by omega
   have h4 : b ≤ 0 := by omega
   simp [ha, hb, h1, h2, h3, h4]
  ·subst hb
   have h1 : ¬ (a = 0) := by omega
   have h2 : ¬ (0 ≤ a) := by omega
   have h3 : a ≤ 0 := by omega
   simp [ha, h1, h2, h3]
  ·have h1 : ¬ (a = 0) := by omega
   have h2 : ¬ (0 ≤ a) := by omega
   have h3 : ¬ b ≤ 0 := by omega
   have h4 : ¬ b < 0 := by omega
   have h5 : ¬ b = 0 := by omega
   have := hne (by omega)
   by_cases c : 2 * (b * b) < a * a
   ·have c2 : ¬ a * a < 2 * (b * b) := by omega
    simp [ha, hb, h1, h2, h3, h4, h5, c, c2]
   ·have c2 : a * a < 2 * (b * b) := by omega
    simp [ha, hb, h1, h2, h3, h4, h5, c, c2]
 ·subst ha
  rcases Int.lt_trichotomy b 0 with hb | hb | hb
  ·have h4 : b ≤ 0 := by omega
   have h5 : ¬ b = 0 := by omega
   have h6 : ¬ 0 ≤ b := by omega
   simp [hb, h4, h5, h6]
  ·subst hb; simp
  ·have h4 : ¬ b < 0 := by omega
   have h5 : ¬ b = 0 := by omega
   have h6 : 0 ≤ b := by omega
   simp [h4, h5, h6]
 ·rcases Int.lt_trichotomy b 0 with hb | hb | hb
  ·have h1 : ¬ (a = 0) := by omega
   have h2 : 0 ≤ a := by omega
   have h3 : ¬ a ≤ 0 := by omega
   have h4 : ¬ a < 0 := by omega
   have h5 : ¬ 0 ≤ b := by omega
   have h6 : ¬ 0 < b := by omega
   have := hne (by omega)
   by_cases c : 2 * (b * b) < a * a
   ·have c2 : ¬ a * a < 2 * (b * b) := by omega
    simp [hb, h1, h2, h3, h4, h5, h6, c, c2]
   ·have c2 : a * a < 2 * (b * b) := by omega
    simp [hb, h1, h2, h3, h4, h5, h6, c, c2]
  ·subst hb
   have h1 : ¬ (a = 0) := by omega
   have h2 : 0 ≤ a := by omega
   have h4 : ¬ a < 0 := by omega
   simp [h1, h2, h4]
  ·have h1 : ¬ (a = 0) := by omega
   have h2 : 0 ≤ a := by omega
   have h4 : ¬ a < 0 := by omega
   have h5 : ¬ b < 0 := by omega
   have h6 : ¬ b = 0 := by omega
   have h7 : 0 ≤ b := by omega
   simp [h1, h2, h4, h5, h6, h7]

theorem impl_Num_neg_eq (a b c : Int) (h0 : -4611686018427387904 ≤ a) (h1 : a ≤ 4611686018427387904) (h2 : -4611686018427387904 ≤ b) (h3 : b ≤ 4611686018427387904) : zjD.f a b c = some (-a, -b, c) := by
 unfold zjD.f
 rw [w64 (by omega) (by omega), w64 (by omega) (by omega)]

theorem zbZ : ∀ (k K : Nat) (a b : Int), 2 * k + 1 < K → -4611686018427387904 ≤ a → a ≤ 4611686018427387904 → -4611686018427387904 ≤ b → b ≤ 4611686018427387904 → k ≤ 1000 → zbI.l0 K a b (k : Int) = some (red k a b)
 | 0, K, a, b, hK, _, _, _, _, _ => by
  obtain ⟨K, rfl⟩ : ∃ m, K = m + 2 := ⟨K - 2, by omega⟩
  simp only [zbI.l0, zbI.j1]
  rw [if_neg (by omega), if_neg (by simp)]; rfl
 | k + 1, K, a, b, hK, h0, h1, h2, h3, h4 => by
  obtain ⟨K, rfl⟩ : ∃ m, K = m + 2 := ⟨K - 2, by omega⟩
  simp only [zbI.l0, zbI.j1, red, and1]
  rw [if_pos (by omega)]
  by_cases ha : a % 2 = 0
  ·rw [if_pos ha]
   by_cases hb : b % 2 = 0
   ·rw [if_pos (by simpa using hb), if_pos (show a % 2 = 0 ∧ b % 2 = 0 from ⟨ha, hb⟩), Int.tdiv_eq_ediv_of_dvd (by omega), Int.tdiv_eq_ediv_of_dvd (by omega), w64 (n := a / 2) (by omega) (by omega), w64 (n := b / 2) (by omega) (by omega), pred64 (by omega) (by omega)]
    have ih := zbZ k K (a / 2) (b / 2) (by omega) (by omega) (by omega) (by omega) (by omega) (by omega)
    by_cases c1 : a / 2 = 0
    ·by_cases c2 : b / 2 = 0
     ·rw [if_pos c1, if_pos c2, c1, c2, red_zero]
      have := zbZ 0 K 0 0 (by omega) (by omega) (by omega) (by omega) (by omega) (by omega)
      rw [red_zero] at this
      exact this
     ·rw [if_pos c1, if_neg c2, Nat.add_sub_cancel]; exact ih
    ·rw [if_neg c1, Nat.add_sub_cancel]; exact ih
   ·rw [if_neg (by simpa using hb), if_neg (fun c => hb c.2)]
  ·rw [if_neg ha, if_neg (by simp), if_neg (fun c => ha c.1)]
theorem impl_Num_reduced_eq (a b : Int) (k K : Nat) (hK : 2 * k + 1 < K) (h0 : -4611686018427387904 ≤ a) (h1 : a ≤ 4611686018427387904) (h2 : -4611686018427387904 ≤ b) (h3 : b ≤ 4611686018427387904) (h4 : k ≤ 1000) : zbI.f K a b (k : Int) = some (red k a b) :=
 zbZ k K a b hK h0 h1 h2 h3 h4

theorem impl_Num_plus_eq (N K : Nat) (A B C D : Int) (hK : K ≤ 60) (hN : 300 < N) (A0 : -1152921504606846976 ≤ A) (A1 : A ≤ 1152921504606846976) (B0 : -1152921504606846976 ≤ B) (B1 : B ≤ 1152921504606846976)
  (C0 : -1152921504606846976 ≤ C) (C1 : C ≤ 1152921504606846976) (D0 : -1152921504606846976 ≤ D) (D1 : D ≤ 1152921504606846976) :
  zjL.f N (red K A B).1 (red K A B).2.1 (red K A B).2.2 (red K C D).1 (red K C D).2.1 (red K C D).2.2 = some (red K (A + C) (B + D)) := by
 obtain ⟨a, b, k, e1, hk, ha, hb, _⟩ := red_spec K A B
 obtain ⟨c, d, l, e2, hl, hc, hd, _⟩ := red_spec K C D
 rw [e1, e2]
 simp only [zjL.f]
 have hs := red_sum hk hl ha hb hc hd
 have hm : max k l ≤ K := by omega
 have q : ∀ (x : Int) (i m : Nat), i ≤ m → m ≤ K → x * 2 ^ (K - i) = x * 2 ^ (m - i) * 2 ^ (K - m) := fun x i m h1 h2 => by
  rw [Int.mul_assoc, ← Int.pow_add, show m - i + (K - m) = K - i by omega]
 have bd : ∀ (X x : Int) (i m : Nat), i ≤ m → m ≤ K → X = x * 2 ^ (K - i) → -1152921504606846976 ≤ X → X ≤ 1152921504606846976 → -1152921504606846976 ≤ x * 2 ^ (m - i) ∧ x * 2 ^ (m - i) ≤ 1152921504606846976 := fun X x i m h1 h2 h3 h4 h5 =>
  zxW (K - m) (by rw [← q x i m h1 h2, ← h3]; exact h4) (by rw [← q x i m h1 h2, ← h3]; exact h5)
 have a' := bd A a k (max k l) (by omega) hm ha A0 A1
 have b' := bd B b k (max k l) (by omega) hm hb B0 B1
 have c' := bd C c l (max k l) (by omega) hm hc C0 C1
 have d' := bd D d l (max k l) (by omega) hm hd D0 D1
 have emx : mx (k : Int) (l : Int) = ((max k l : Nat) : Int) := by unfold mx; omega
 have sh : ∀ (x : Int) (i : Nat), i ≤ 60 → -1152921504606846976 ≤ x * 2 ^ i → x * 2 ^ i ≤ 1152921504606846976 → shl .i64 x (i : Int) = x * 2 ^ i := fun x i hi h1 h2 => by
  unfold shl
  rw [Int.toNat_natCast, Nat.min_eq_left (by simp only [IntKind.bits]; omega)]
  rw [IntKind.wrap_i64]
  have hw := w64 (n := x * 2 ^ i) (by omega) (by omega)
  unfold wrap64 at hw
  exact hw
 rw [emx, w64 (n := ((max k l : Nat) : Int) - k) (by omega) (by omega), w64 (n := ((max k l : Nat) : Int) - l) (by omega) (by omega), if_pos (by omega), if_pos (by omega),
  show ((max k l : Nat) : Int) - k = ((max k l - k : Nat) : Int) by omega, show ((max k l : Nat) : Int) - l = ((max k l - l : Nat) : Int) by omega,
  sh a _ (by omega) a'.1 a'.2, sh b _ (by omega) b'.1 b'.2, sh c _ (by omega) c'.1 c'.2, sh d _ (by omega) d'.1 d'.2, w64 (by omega) (by omega), w64 (by omega) (by omega),
  impl_Num_reduced_eq _ _ (max k l) N (by omega) (by omega) (by omega) (by omega) (by omega) (by omega), hs]
 rfl

theorem zcT (N K : Nat) (A B C D : Int) (hK : K ≤ 60) (hN : 300 < N) (A0 : -1152921504606846976 ≤ A) (A1 : A ≤ 1152921504606846976) (B0 : -1152921504606846976 ≤ B) (B1 : B ≤ 1152921504606846976)
  (C0 : -1152921504606846976 ≤ C) (C1 : C ≤ 1152921504606846976) (D0 : -1152921504606846976 ≤ D) (D1 : D ≤ 1152921504606846976) :
  zpR.f N (red K A B).1 (red K A B).2.1 (red K A B).2.2 (red K C D).1 (red K C D).2.1 (red K C D).2.2 = some (red K (A - C) (B - D)) := by
 unfold zpR.f
 have bd := red_bd K C D C0 C1 D0 D1
 rw [impl_Num_neg_eq _ _ _ (by omega) (by omega) (by omega) (by omega)]
 have e := red_neg K C D
 have := impl_Num_plus_eq N K A B (-C) (-D) hK hN A0 A1 B0 B1 (by omega) (by omega) (by omega) (by omega)
 rw [e] at this
 simp only [Option.bind_some] at this ⊢
 rw [this]
 simp only [Option.bind_some, Int.sub_eq_add_neg]

theorem impl_Num_compare_eq (N : Nat) (a b k c d l : Int) (hN : 300 < N) (h1 : znX a b k) (h2 : znX c d l) : ziA.f N a b k c d l = some (cmpN a b k c d l) := by
 unfold ziA.f
 have a' := ok_bd (j := 10 - k.toNat) (by omega) h1.1.1 h1.1.2
 have b' := ok_bd (j := 10 - k.toNat) (by omega) h1.2.1.1 h1.2.1.2
 have c' := ok_bd (j := 10 - l.toNat) (by omega) h2.1.1 h2.1.2
 have d' := ok_bd (j := 10 - l.toNat) (by omega) h2.2.1.1 h2.2.1.2
 have := zcT N 10 (a * 2 ^ (10 - k.toNat)) (b * 2 ^ (10 - k.toNat)) (c * 2 ^ (10 - l.toNat)) (d * 2 ^ (10 - l.toNat)) (by omega) hN (by omega) (by omega) (by omega) (by omega) (by omega) (by omega) (by omega) (by omega)
 rw [← red_ok h1, ← red_ok h2] at this
 simp only [] at this
 rw [this]
 simp only [Option.bind_some]
 have bd := red_bd 10 (a * 2 ^ (10 - k.toNat) - c * 2 ^ (10 - l.toNat)) (b * 2 ^ (10 - k.toNat) - d * 2 ^ (10 - l.toNat)) (m := 4611686018427387904) (by omega) (by omega) (by omega) (by omega)
 rw [impl_Num_sign_eq _ _ _ bd.1 bd.2.1 bd.2.2.1 bd.2.2.2 N (by omega)]
 rfl

theorem zmM (N : Nat) (a b k c d l a' b' k' c' d' l' : Int) (hN : 300 < N) (h1 : znX a b k) (h2 : znX c d l) (h3 : znX a' b' k') (h4 : znX c' d' l') :
  zmC.f N a b k c d l a' b' k' c' d' l' = some (if cmpN a b k a' b' k' = 0 then cmpN c d l c' d' l' else cmpN a b k a' b' k') := by
 unfold zmC.f
 rw [impl_Num_compare_eq N a b k a' b' k' hN h1 h3, impl_Num_compare_eq N c d l c' d' l' hN h2 h4]
 simp only [Option.bind_some]
 split <;> rfl

theorem least_any (l : List S35) (hl : l.length ≤ 16) (hP : ∀ i, i < l.length → PtOk (zmE l (i : Int))) : ∀ (d j m : Nat), j + d = l.length → m < l.length → ∃ r : Nat, (r = m ∨ j ≤ r) ∧ ∀ k, 300 + d < k → ztP.l0 k l (m : Int) l (l.length : Int) (j : Int) = some (r : Int)
 | 0, j, m, hd, hm => by
  refine ⟨m, Or.inl rfl, fun k hk => ?_⟩
  obtain ⟨k, rfl⟩ : ∃ m, k = m + 1 := ⟨k - 1, by omega⟩
  simp only [ztP.l0]
  rw [if_neg (by omega)]
 | d + 1, j, m, hd, hm => by
  have hj : j < l.length := by omega
  have p1 := hP j hj
  have p2 := hP m hm
  obtain ⟨r1, a1, b1⟩ := least_any l hl hP d (j + 1) j (by omega) hj
  obtain ⟨r2, a2, b2⟩ := least_any l hl hP d (j + 1) m (by omega) hm
  by_cases c : cmpS (zmE l (j : Int)) (zmE l (m : Int)) < 0
  ·refine ⟨r1, by omega, fun k hk => ?_⟩
   obtain ⟨k, rfl⟩ : ∃ m, k = m + 1 := ⟨k - 1, by omega⟩
   simp only [ztP.l0]
   rw [if_pos (by omega), if_pos (by omega), if_pos (by omega), if_pos (by omega), if_pos (by omega), zmM _ _ _ _ _ _ _ _ _ _ _ _ _ (by omega) p1.1 p1.2 p2.1 p2.2, Option.bind_some, cmpS_of, if_pos c, zaU (by omega)]
   exact b1 k (by omega)
  ·refine ⟨r2, by omega, fun k hk => ?_⟩
   obtain ⟨k, rfl⟩ : ∃ m, k = m + 1 := ⟨k - 1, by omega⟩
   simp only [ztP.l0]
   rw [if_pos (by omega), if_pos (by omega), if_pos (by omega), if_pos (by omega), if_pos (by omega), zmM _ _ _ _ _ _ _ _ _ _ _ _ _ (by omega) p1.1 p1.2 p2.1 p2.2, Option.bind_some, cmpS_of, if_neg c, zaU (by omega)]
   exact b2 k (by omega)
theorem least_zero (l : List S35) (hl : l.length ≤ 16) (hn : 0 < l.length) (hP : ∀ i, i < l.length → PtOk (zmE l (i : Int))) : ∀ (d j : Nat), j + d = l.length → ∃ r : Nat, (r = 0 ↔ ∀ i : Nat, j ≤ i → i < l.length → cmpS (zmE l (i : Int)) (zmE l 0) ≠ -1) ∧ ∀ k, 300 + d < k → ztP.l0 k l 0 l (l.length : Int) (j : Int) = some (r : Int)
 | 0, j, hd => by
  refine ⟨0, ⟨fun _ i h1 h2 => by omega, fun _ => rfl⟩, fun k hk => ?_⟩
  obtain ⟨k, rfl⟩ : ∃ m, k = m + 1 := ⟨k - 1, by omega⟩
  simp only [ztP.l0]
  rw [if_neg (by omega)]
  rfl
 | d + 1, j, hd => by
  have hj : j < l.length := by omega
  have p1 := hP j hj
  have p2 : PtOk (zmE l 0) := hP 0 hn
  have t := cmpS_three (zmE l (j : Int)) (zmE l 0)
  by_cases c : cmpS (zmE l (j : Int)) (zmE l 0) < 0
  ·have hj0 : 0 < j := by
    by_cases e : j = 0
    ·subst e
     have := cmpS_self (zmE l 0)
     rw [show ((0 : Nat) : Int) = 0 from rfl] at c
     omega
    ·omega
   obtain ⟨r, a, b⟩ := least_any l hl hP d (j + 1) j (by omega) hj
   refine ⟨r, ⟨fun h => by omega, fun h => absurd (show cmpS (zmE l (j : Int)) (zmE l 0) = -1 by omega) (h j (Nat.le_refl j) hj)⟩, fun k hk => ?_⟩
   obtain ⟨k, rfl⟩ : ∃ m, k = m + 1 := ⟨k - 1, by omega⟩
   simp only [ztP.l0]
   rw [if_pos (by omega), if_pos (by omega), if_pos (by omega), if_pos (by omega), if_pos (by omega), zmM _ _ _ _ _ _ _ _ _ _ _ _ _ (by omega) p1.1 p1.2 p2.1 p2.2, Option.bind_some, cmpS_of, if_pos c, zaU (by omega)]
   exact b k (by omega)
  ·obtain ⟨r, a, b⟩ := least_zero l hl hn hP d (j + 1) (by omega)
   refine ⟨r, ⟨fun h i h1 h2 => ?_, fun h => a.2 fun i h1 h2 => h i (by omega) h2⟩, fun k hk => ?_⟩
   ·by_cases e : i = j
    ·subst e; omega
    ·exact a.1 h i (by omega) h2
   ·obtain ⟨k, rfl⟩ : ∃ m, k = m + 1 := ⟨k - 1, by omega⟩
    simp only [ztP.l0]
    rw [if_pos (by omega), if_pos (by omega), if_pos (by omega), if_pos (by omega), if_pos (by omega), zmM _ _ _ _ _ _ _ _ _ _ _ _ _ (by omega) p1.1 p1.2 p2.1 p2.2, Option.bind_some, cmpS_of, if_neg c, zaU (by omega)]
    exact b k (by omega)

theorem vec_all (d : Int) (h0 : 0 ≤ d) (h1 : d ≤ 15) : ∃ x xb y yb : Int, ((x = -1 ∨ x = 0 ∨ x = 1) ∧ (xb = -1 ∨ xb = 0 ∨ xb = 1) ∧ (y = -1 ∨ y = 0 ∨ y = 1) ∧ (yb = -1 ∨ yb = 0 ∨ yb = 1)) ∧
  zdP.f d = some (x, xb, 0, y, yb, 0) ∧ zqB.f d = some (x, xb, 0, y, yb, 0) ∧ zqB.f (wrap64 (d + 4)) = some (-y, -yb, 0, x, xb, 0) := by
 have : d = 0 ∨ d = 1 ∨ d = 2 ∨ d = 3 ∨ d = 4 ∨ d = 5 ∨ d = 6 ∨ d = 7 ∨ d = 8 ∨ d = 9 ∨ d = 10 ∨ d = 11 ∨ d = 12 ∨ d = 13 ∨ d = 14 ∨ d = 15 := by omega
 rcases this with rfl | rfl | rfl | rfl | rfl | rfl | rfl | rfl | rfl | rfl | rfl | rfl | rfl | rfl | rfl | rfl
 ·exact ⟨1, 0, 0, 0, by decide, by decide +kernel, by decide +kernel, by decide +kernel⟩
 ·exact ⟨1, 0, -1, 1, by decide, by decide +kernel, by decide +kernel, by decide +kernel⟩
 ·exact ⟨1, 0, 1, 0, by decide, by decide +kernel, by decide +kernel, by decide +kernel⟩
 ·exact ⟨-1, 1, 1, 0, by decide, by decide +kernel, by decide +kernel, by decide +kernel⟩
 ·exact ⟨0, 0, 1, 0, by decide, by decide +kernel, by decide +kernel, by decide +kernel⟩
 ·exact ⟨1, -1, 1, 0, by decide, by decide +kernel, by decide +kernel, by decide +kernel⟩
 ·exact ⟨-1, 0, 1, 0, by decide, by decide +kernel, by decide +kernel, by decide +kernel⟩
 ·exact ⟨-1, 0, -1, 1, by decide, by decide +kernel, by decide +kernel, by decide +kernel⟩
 ·exact ⟨-1, 0, 0, 0, by decide, by decide +kernel, by decide +kernel, by decide +kernel⟩
 ·exact ⟨-1, 0, 1, -1, by decide, by decide +kernel, by decide +kernel, by decide +kernel⟩
 ·exact ⟨-1, 0, -1, 0, by decide, by decide +kernel, by decide +kernel, by decide +kernel⟩
 ·exact ⟨1, -1, -1, 0, by decide, by decide +kernel, by decide +kernel, by decide +kernel⟩
 ·exact ⟨0, 0, -1, 0, by decide, by decide +kernel, by decide +kernel, by decide +kernel⟩
 ·exact ⟨-1, 1, -1, 0, by decide, by decide +kernel, by decide +kernel, by decide +kernel⟩
 ·exact ⟨1, 0, -1, 0, by decide, by decide +kernel, by decide +kernel, by decide +kernel⟩
 ·exact ⟨1, 0, 1, -1, by decide, by decide +kernel, by decide +kernel, by decide +kernel⟩

theorem zpW (N K : Nat) (a b C D : Int) (hK : K ≤ 60) (hN : 300 < N) (ha : a = -1 ∨ a = 0 ∨ a = 1) (hb : b = -1 ∨ b = 0 ∨ b = 1) (C0 : -1099511627776 ≤ C) (C1 : C ≤ 1099511627776) (D0 : -1099511627776 ≤ D) (D1 : D ≤ 1099511627776) :
  zeF.f N a b 0 (red K C D).1 (red K C D).2.1 (red K C D).2.2 = some (red K (a * C + 2 * b * D) (a * D + b * C)) := by
 obtain ⟨c, d, k, e, hk, hC, hD, _⟩ := red_spec K C D
 have hc := zxW (a := c) (M := 1099511627776) (K - k) (by omega) (by omega)
 have hd := zxW (a := d) (M := 1099511627776) (K - k) (by omega) (by omega)
 have m1 := zzC ha hc.1 hc.2
 have m2 := zxS hb hd.1 hd.2
 have m3 := zzC ha hd.1 hd.2
 have m4 := zzC hb hc.1 hc.2
 rw [e]
 unfold zeF.f
 simp only
 rw [w64 (n := a * c) (by omega) (by omega), w64 (n := 2 * b) (by omega) (by omega), w64 (n := 2 * b * d) (by omega) (by omega), w64 (n := a * d) (by omega) (by omega), w64 (n := b * c) (by omega) (by omega), w64 (n := a * c + 2 * b * d) (by omega) (by omega),
  w64 (n := a * d + b * c) (by omega) (by omega), w64 (n := (0 : Int) + k) (by omega) (by omega), Int.zero_add, impl_Num_reduced_eq _ _ k N (by omega) (by omega) (by omega) (by omega) (by omega) (by omega), red_small hk hC hD]
 rfl

theorem impl_Point_cross_eq (N : Nat) (x xb y yb P Pb Q Qb : Int) (hN : 300 < N) (hx : x = -1 ∨ x = 0 ∨ x = 1) (hxb : xb = -1 ∨ xb = 0 ∨ xb = 1) (hy : y = -1 ∨ y = 0 ∨ y = 1) (hyb : yb = -1 ∨ yb = 0 ∨ yb = 1)
  (p0 : -1073741824 ≤ P) (p1 : P ≤ 1073741824) (q0 : -1073741824 ≤ Pb) (q1 : Pb ≤ 1073741824) (r0 : -1073741824 ≤ Q) (r1 : Q ≤ 1073741824) (s0 : -1073741824 ≤ Qb) (s1 : Qb ≤ 1073741824) :
  zhX.f N x xb 0 y yb 0 (red 10 P Pb).1 (red 10 P Pb).2.1 (red 10 P Pb).2.2 (red 10 Q Qb).1 (red 10 Q Qb).2.1 (red 10 Q Qb).2.2 = some (dotR (-y) (-yb) x xb P Pb Q Qb) := by
 have m1 := zzC hx r0 r1
 have m2 := zxS hxb s0 s1
 have m3 := zzC hx s0 s1
 have m4 := zzC hxb r0 r1
 have m5 := zzC hy p0 p1
 have m6 := zxS hyb q0 q1
 have m7 := zzC hy q0 q1
 have m8 := zzC hyb p0 p1
 unfold zhX.f dotR
 rw [zpW N 10 x xb Q Qb (by omega) hN hx hxb (by omega) (by omega) (by omega) (by omega), zpW N 10 y yb P Pb (by omega) hN hy hyb (by omega) (by omega) (by omega) (by omega)]
 simp only [Option.bind_some]
 rw [zcT N 10 _ _ _ _ (by omega) hN (by omega) (by omega) (by omega) (by omega) (by omega) (by omega) (by omega) (by omega)]
 simp only [Option.bind_some]
 have e1 : (-y * P + 2 * -yb * Pb) + (x * Q + 2 * xb * Qb) = (x * Q + 2 * xb * Qb) - (y * P + 2 * yb * Pb) := by rw [Int.neg_mul, Int.mul_neg, Int.neg_mul]; omega
 have e2 : (-y * Pb + -yb * P) + (x * Qb + xb * Q) = (x * Qb + xb * Q) - (y * Pb + yb * P) := by rw [Int.neg_mul, Int.neg_mul]; omega
 rw [e1, e2]

theorem impl_Point_dot_eq (N : Nat) (x xb y yb P Pb Q Qb : Int) (hN : 300 < N) (hx : x = -1 ∨ x = 0 ∨ x = 1) (hxb : xb = -1 ∨ xb = 0 ∨ xb = 1) (hy : y = -1 ∨ y = 0 ∨ y = 1) (hyb : yb = -1 ∨ yb = 0 ∨ yb = 1)
  (p0 : -1073741824 ≤ P) (p1 : P ≤ 1073741824) (q0 : -1073741824 ≤ Pb) (q1 : Pb ≤ 1073741824) (r0 : -1073741824 ≤ Q) (r1 : Q ≤ 1073741824) (s0 : -1073741824 ≤ Qb) (s1 : Qb ≤ 1073741824) :
  ztL.f N x xb 0 y yb 0 (red 10 P Pb).1 (red 10 P Pb).2.1 (red 10 P Pb).2.2 (red 10 Q Qb).1 (red 10 Q Qb).2.1 (red 10 Q Qb).2.2 = some (dotR x xb y yb P Pb Q Qb) := by
 have m1 := zzC hx p0 p1
 have m2 := zxS hxb q0 q1
 have m3 := zzC hx q0 q1
 have m4 := zzC hxb p0 p1
 have m5 := zzC hy r0 r1
 have m6 := zxS hyb s0 s1
 have m7 := zzC hy s0 s1
 have m8 := zzC hyb r0 r1
 unfold ztL.f
 rw [zpW N 10 x xb P Pb (by omega) hN hx hxb (by omega) (by omega) (by omega) (by omega), zpW N 10 y yb Q Qb (by omega) hN hy hyb (by omega) (by omega) (by omega) (by omega)]
 simp only [Option.bind_some]
 rw [impl_Num_plus_eq N 10 _ _ _ _ (by omega) hN (by omega) (by omega) (by omega) (by omega) (by omega) (by omega) (by omega) (by omega)]
 rfl

theorem neg_of {s X Y : Int} (h : s = sgn (-X) (-Y)) : s = -sgn X Y := by rw [h, sgn_neg]
theorem pos_of {s X Y : Int} (h : s = -sgn (-X) (-Y)) : s = sgn X Y := by rw [h, sgn_neg, Int.neg_neg]
theorem vec_lex (d : Int) (h0 : 0 ≤ d) (h1 : d ≤ 15) (x xb y yb P Pb Q Qb : Int) (hv : zdP.f d = some (x, xb, 0, y, yb, 0)) (c1 : (-y * P + 2 * -yb * Pb) + (x * Q + 2 * xb * Qb) = 0) (c2 : (-y * Pb + -yb * P) + (x * Qb + xb * Q) = 0) :
  lexs P Pb Q Qb = (if 5 ≤ d ∧ d ≤ 12 then -1 else 1) * sgn ((x * P + 2 * xb * Pb) + (y * Q + 2 * yb * Qb)) ((x * Pb + xb * P) + (y * Qb + yb * Q)) := by
 have hd : d = 0 ∨ d = 1 ∨ d = 2 ∨ d = 3 ∨ d = 4 ∨ d = 5 ∨ d = 6 ∨ d = 7 ∨ d = 8 ∨ d = 9 ∨ d = 10 ∨ d = 11 ∨ d = 12 ∨ d = 13 ∨ d = 14 ∨ d = 15 := by omega
 have key : ∀ {X Xb Y Yb : Int}, zdP.f d = some (X, Xb, 0, Y, Yb, 0) → x = X ∧ xb = Xb ∧ y = Y ∧ yb = Yb := by
  intro X Xb Y Yb e
  have h := Option.some.inj (hv.symm.trans e)
  exact ⟨congrArg (·.1) h, congrArg (·.2.1) h, congrArg (·.2.2.2.1) h, congrArg (·.2.2.2.2.1) h⟩
 rcases hd with rfl | rfl | rfl | rfl | rfl | rfl | rfl | rfl | rfl | rfl | rfl | rfl | rfl | rfl | rfl | rfl
 ·obtain ⟨rfl, rfl, rfl, rfl⟩ := key (show zdP.f 0 = some (1, 0, 0, 0, 0, 0) by decide +kernel)
  rw [if_neg (by omega), Int.one_mul]; exact lex0 (by omega) (by omega) (by omega) (by omega)
 ·obtain ⟨rfl, rfl, rfl, rfl⟩ := key (show zdP.f 1 = some (1, 0, 0, -1, 1, 0) by decide +kernel)
  rw [if_neg (by omega), Int.one_mul]; exact lex1 (by omega) (by omega) (by omega) (by omega)
 ·obtain ⟨rfl, rfl, rfl, rfl⟩ := key (show zdP.f 2 = some (1, 0, 0, 1, 0, 0) by decide +kernel)
  rw [if_neg (by omega), Int.one_mul]; exact lex2 (by omega) (by omega) (by omega) (by omega)
 ·obtain ⟨rfl, rfl, rfl, rfl⟩ := key (show zdP.f 3 = some (-1, 1, 0, 1, 0, 0) by decide +kernel)
  rw [if_neg (by omega), Int.one_mul]; exact lex3 (by omega) (by omega) (by omega) (by omega)
 ·obtain ⟨rfl, rfl, rfl, rfl⟩ := key (show zdP.f 4 = some (0, 0, 0, 1, 0, 0) by decide +kernel)
  rw [if_neg (by omega), Int.one_mul]; exact lex4 (by omega) (by omega) (by omega) (by omega)
 ·obtain ⟨rfl, rfl, rfl, rfl⟩ := key (show zdP.f 5 = some (1, -1, 0, 1, 0, 0) by decide +kernel)
  rw [if_pos (by omega), Int.neg_mul, Int.one_mul]; exact lex5 (by omega) (by omega) (by omega) (by omega)
 ·obtain ⟨rfl, rfl, rfl, rfl⟩ := key (show zdP.f 6 = some (-1, 0, 0, 1, 0, 0) by decide +kernel)
  rw [if_pos (by omega), Int.neg_mul, Int.one_mul]; exact lex6 (by omega) (by omega) (by omega) (by omega)
 ·obtain ⟨rfl, rfl, rfl, rfl⟩ := key (show zdP.f 7 = some (-1, 0, 0, -1, 1, 0) by decide +kernel)
  rw [if_pos (by omega), Int.neg_mul, Int.one_mul]; exact lex7 (by omega) (by omega) (by omega) (by omega)
 ·obtain ⟨rfl, rfl, rfl, rfl⟩ := key (show zdP.f 8 = some (-1, 0, 0, 0, 0, 0) by decide +kernel)
  rw [if_pos (by omega), Int.neg_mul, Int.one_mul]; exact neg_of (lex0 (by omega) (by omega) (by omega) (by omega))
 ·obtain ⟨rfl, rfl, rfl, rfl⟩ := key (show zdP.f 9 = some (-1, 0, 0, 1, -1, 0) by decide +kernel)
  rw [if_pos (by omega), Int.neg_mul, Int.one_mul]; exact neg_of (lex1 (by omega) (by omega) (by omega) (by omega))
 ·obtain ⟨rfl, rfl, rfl, rfl⟩ := key (show zdP.f 10 = some (-1, 0, 0, -1, 0, 0) by decide +kernel)
  rw [if_pos (by omega), Int.neg_mul, Int.one_mul]; exact neg_of (lex2 (by omega) (by omega) (by omega) (by omega))
 ·obtain ⟨rfl, rfl, rfl, rfl⟩ := key (show zdP.f 11 = some (1, -1, 0, -1, 0, 0) by decide +kernel)
  rw [if_pos (by omega), Int.neg_mul, Int.one_mul]; exact neg_of (lex3 (by omega) (by omega) (by omega) (by omega))
 ·obtain ⟨rfl, rfl, rfl, rfl⟩ := key (show zdP.f 12 = some (0, 0, 0, -1, 0, 0) by decide +kernel)
  rw [if_pos (by omega), Int.neg_mul, Int.one_mul]; exact neg_of (lex4 (by omega) (by omega) (by omega) (by omega))
 ·obtain ⟨rfl, rfl, rfl, rfl⟩ := key (show zdP.f 13 = some (-1, 1, 0, -1, 0, 0) by decide +kernel)
  rw [if_neg (by omega), Int.one_mul]; exact pos_of (lex5 (by omega) (by omega) (by omega) (by omega))
 ·obtain ⟨rfl, rfl, rfl, rfl⟩ := key (show zdP.f 14 = some (1, 0, 0, -1, 0, 0) by decide +kernel)
  rw [if_neg (by omega), Int.one_mul]; exact pos_of (lex6 (by omega) (by omega) (by omega) (by omega))
 ·obtain ⟨rfl, rfl, rfl, rfl⟩ := key (show zdP.f 15 = some (1, 0, 0, 1, -1, 0) by decide +kernel)
  rw [if_neg (by omega), Int.one_mul]; exact pos_of (lex7 (by omega) (by omega) (by omega) (by omega))
def DirSays (r P Pb Q Qb : Int) : Prop := r = -1 ∨ (0 ≤ r ∧ r ≤ 15 ∧ lexs P Pb Q Qb = if 5 ≤ r ∧ r ≤ 12 then -1 else 1)
theorem direction_two (P Pb Q Qb : Int) (p0 : -1073741824 ≤ P) (p1 : P ≤ 1073741824) (q0 : -1073741824 ≤ Pb) (q1 : Pb ≤ 1073741824) (r0 : -1073741824 ≤ Q) (r1 : Q ≤ 1073741824) (s0 : -1073741824 ≤ Qb) (s1 : Qb ≤ 1073741824) :
  ∀ (n : Nat) (d : Int), 0 ≤ d → d + n = 16 → ∃ r, DirSays r P Pb Q Qb ∧ ∀ N M, 310 + n < N → 310 + n < M →
   znA.l0 N d (red 10 P Pb).1 (red 10 P Pb).2.1 (red 10 P Pb).2.2 (red 10 Q Qb).1 (red 10 Q Qb).2.1 (red 10 Q Qb).2.2 = some r ∧
   zxB.l0 M d (red 10 P Pb).1 (red 10 P Pb).2.1 (red 10 P Pb).2.2 (red 10 Q Qb).1 (red 10 Q Qb).2.1 (red 10 Q Qb).2.2 = some r
 | 0, d, h0, h1 => by
  refine ⟨-1, Or.inl rfl, fun N M hN hM => ?_⟩
  obtain ⟨N, rfl⟩ : ∃ m, N = m + 1 := ⟨N - 1, by omega⟩
  obtain ⟨M, rfl⟩ : ∃ m, M = m + 1 := ⟨M - 1, by omega⟩
  simp only [znA.l0, zxB.l0]
  rw [if_neg (by omega), if_neg (by omega)]
  exact ⟨rfl, rfl⟩
 | n + 1, d, h0, h1 => by
  obtain ⟨x, xb, y, yb, ⟨hx, hxb, hy, hyb⟩, v1, v2, v3⟩ := vec_all d h0 (by omega)
  obtain ⟨r, hr, hi⟩ := direction_two P Pb Q Qb p0 p1 q0 q1 r0 r1 s0 s1 n (d + 1) (by omega) (by omega)
  have hy' : -y = -1 ∨ -y = 0 ∨ -y = 1 := by omega
  have hyb' : -yb = -1 ∨ -yb = 0 ∨ -yb = 1 := by omega
  have m1 := zzC hx p0 p1
  have m2 := zxS hxb q0 q1
  have m3 := zzC hx q0 q1
  have m4 := zzC hxb p0 p1
  have m5 := zzC hy r0 r1
  have m6 := zxS hyb s0 s1
  have m7 := zzC hy s0 s1
  have m8 := zzC hyb r0 r1
  have bd := red_bd 10 ((x * P + 2 * xb * Pb) + (y * Q + 2 * yb * Qb)) ((x * Pb + xb * P) + (y * Qb + yb * Q)) (m := 1152921504606846976) (by omega) (by omega) (by omega) (by omega)
  have z : ((dotR (-y) (-yb) x xb P Pb Q Qb).1 = 0 ∧ (dotR (-y) (-yb) x xb P Pb Q Qb).2.1 = 0) → (dotR (-y) (-yb) x xb P Pb Q Qb).2.2 = 0 := by
   unfold dotR
   obtain ⟨a, b, k, e, _, _, _, h⟩ := red_spec 10 ((-y * P + 2 * -yb * Pb) + (x * Q + 2 * xb * Qb)) ((-y * Pb + -yb * P) + (x * Qb + xb * Q))
   rw [e]
   rintro ⟨rfl, rfl⟩
   simp at h ⊢
   exact h
  have hz : zbR.f (dotR (-y) (-yb) x xb P Pb Q Qb).1 (dotR (-y) (-yb) x xb P Pb Q Qb).2.1 (dotR (-y) (-yb) x xb P Pb Q Qb).2.2 = some ((dotR (-y) (-yb) x xb P Pb Q Qb).1 == 0 && ((dotR (-y) (-yb) x xb P Pb Q Qb).2.1 == 0 && ((dotR (-y) (-yb) x xb P Pb Q Qb).2.2 == 0))) := by
   unfold zbR.f
   generalize dotR (-y) (-yb) x xb P Pb Q Qb = t at z ⊢
   by_cases a : t.1 = 0
   ·by_cases b : t.2.1 = 0
    ·simp [a, b, z ⟨a, b⟩]
    ·simp [a, b]
   ·simp [a]
  have step : ∀ N M, 310 + (n + 1) < N + 1 → 310 + (n + 1) < M + 1 →
    (znA.l0 (N + 1) d (red 10 P Pb).1 (red 10 P Pb).2.1 (red 10 P Pb).2.2 (red 10 Q Qb).1 (red 10 Q Qb).2.1 (red 10 Q Qb).2.2 = if ((dotR (-y) (-yb) x xb P Pb Q Qb).1 == 0 && ((dotR (-y) (-yb) x xb P Pb Q Qb).2.1 == 0 && ((dotR (-y) (-yb) x xb P Pb Q Qb).2.2 == 0))) = true then (if sgn (dotR x xb y yb P Pb Q Qb).1 (dotR x xb y yb P Pb Q Qb).2.1 > 0 then some d else some r) else some r) ∧
    (zxB.l0 (M + 1) d (red 10 P Pb).1 (red 10 P Pb).2.1 (red 10 P Pb).2.2 (red 10 Q Qb).1 (red 10 Q Qb).2.1 (red 10 Q Qb).2.2 = if ((dotR (-y) (-yb) x xb P Pb Q Qb).1 == 0 && ((dotR (-y) (-yb) x xb P Pb Q Qb).2.1 == 0 && ((dotR (-y) (-yb) x xb P Pb Q Qb).2.2 == 0))) = true then (if sgn (dotR x xb y yb P Pb Q Qb).1 (dotR x xb y yb P Pb Q Qb).2.1 > 0 then some d else some r) else some r) := by
   intro N M hN hM
   obtain ⟨i1, i2⟩ := hi N M (by omega) (by omega)
   simp only [znA.l0, zxB.l0]
   rw [if_pos (show d < 16 by omega), if_pos (show d < 16 by omega), spec_l02Dot_eq N _ (-y) (-yb) x xb P Pb Q Qb (by omega) v3 hy' hyb' hx hxb p0 p1 q0 q1 r0 r1 s0 s1, spec_l02Dot_eq N d x xb y yb P Pb Q Qb (by omega) v2 hx hxb hy hyb p0 p1 q0 q1 r0 r1 s0 s1, v1, w64 (n := d + 1) (by omega) (by omega)]
   simp only [Option.bind_some]
   rw [impl_Point_cross_eq M x xb y yb P Pb Q Qb (by omega) hx hxb hy hyb p0 p1 q0 q1 r0 r1 s0 s1, impl_Point_dot_eq M x xb y yb P Pb Q Qb (by omega) hx hxb hy hyb p0 p1 q0 q1 r0 r1 s0 s1]
   simp only [Option.bind_some]
   rw [spec_l01Sign_eq _ _ _ (by unfold dotR; omega) (by unfold dotR; omega) (by unfold dotR; omega) (by unfold dotR; omega) N (by omega), impl_Num_sign_eq _ _ _ (by unfold dotR; omega) (by unfold dotR; omega) (by unfold dotR; omega) (by unfold dotR; omega) M (by omega)]
   simp only [Option.bind_some]
   rw [hz, Option.bind_some, i1, i2]
   exact ⟨rfl, rfl⟩
  by_cases hc : ((dotR (-y) (-yb) x xb P Pb Q Qb).1 == 0 && ((dotR (-y) (-yb) x xb P Pb Q Qb).2.1 == 0 && ((dotR (-y) (-yb) x xb P Pb Q Qb).2.2 == 0))) = true
  ·by_cases hs : sgn (dotR x xb y yb P Pb Q Qb).1 (dotR x xb y yb P Pb Q Qb).2.1 > 0
   ·refine ⟨d, Or.inr ⟨h0, by omega, ?_⟩, fun N M hN hM => ?_⟩
    ·have hc' : (dotR (-y) (-yb) x xb P Pb Q Qb).1 = 0 ∧ (dotR (-y) (-yb) x xb P Pb Q Qb).2.1 = 0 := by simp at hc; exact ⟨hc.1, hc.2.1⟩
     have e0 : sgn (dotR (-y) (-yb) x xb P Pb Q Qb).1 (dotR (-y) (-yb) x xb P Pb Q Qb).2.1 = 0 := (sgn_zero _ _).2 hc'
     unfold dotR at e0 hs
     rw [sgn_red] at e0 hs
     obtain ⟨c1, c2⟩ := (sgn_zero _ _).1 e0
     rw [vec_lex d h0 (by omega) x xb y yb P Pb Q Qb v1 c1 c2]
     have s1' : sgn ((x * P + 2 * xb * Pb) + (y * Q + 2 * yb * Qb)) ((x * Pb + xb * P) + (y * Qb + yb * Q)) = 1 := by
      rcases sgn_three ((x * P + 2 * xb * Pb) + (y * Q + 2 * yb * Qb)) ((x * Pb + xb * P) + (y * Qb + yb * Q)) with h | h | h
      ·exact h
      ·rw [h] at hs; omega
      ·rw [h] at hs; omega
     rw [s1', Int.mul_one]
    ·obtain ⟨N, rfl⟩ : ∃ m, N = m + 1 := ⟨N - 1, by omega⟩
     obtain ⟨M, rfl⟩ : ∃ m, M = m + 1 := ⟨M - 1, by omega⟩
     obtain ⟨a, b⟩ := step N M (by omega) (by omega)
     rw [a, b, if_pos hc, if_pos hs]
     exact ⟨rfl, rfl⟩
   ·refine ⟨r, hr, fun N M hN hM => ?_⟩
    obtain ⟨N, rfl⟩ : ∃ m, N = m + 1 := ⟨N - 1, by omega⟩
    obtain ⟨M, rfl⟩ : ∃ m, M = m + 1 := ⟨M - 1, by omega⟩
    obtain ⟨a, b⟩ := step N M (by omega) (by omega)
    rw [a, b, if_pos hc, if_neg hs]
    exact ⟨rfl, rfl⟩
  ·refine ⟨r, hr, fun N M hN hM => ?_⟩
   obtain ⟨N, rfl⟩ : ∃ m, N = m + 1 := ⟨N - 1, by omega⟩
   obtain ⟨M, rfl⟩ : ∃ m, M = m + 1 := ⟨M - 1, by omega⟩
   obtain ⟨a, b⟩ := step N M (by omega) (by omega)
   rw [a, b, if_neg hc]
   exact ⟨rfl, rfl⟩
theorem vz_red {a b k : Int} (h : znX a b k) : (a, b, k) = red 10 (vz a k) (vz b k) ∧ -134217728 ≤ vz a k ∧ vz a k ≤ 134217728 ∧ -134217728 ≤ vz b k ∧ vz b k ≤ 134217728 := by
 obtain ⟨h1, h2, h3, h4⟩ := h
 have a1 := ok_bd (j := 10 - k.toNat) (by omega) h1.1 h1.2
 have b1 := ok_bd (j := 10 - k.toNat) (by omega) h2.1 h2.2
 exact ⟨red_ok ⟨h1, h2, h3, h4⟩, a1.1, a1.2, b1.1, b1.2⟩
theorem dir_pts (p q : S35) (hp : PtOk p) (hq : PtOk q) : ∃ r : Int, (r = -1 ∨ (0 ≤ r ∧ r ≤ 15 ∧ cmpS q p = if 5 ≤ r ∧ r ≤ 12 then -1 else 1)) ∧ SideIs p q r ∧ ∀ N, 400 < N → zxB.f N p.f0.f0 p.f0.f1 p.f0.f2 p.f1.f0 p.f1.f1 p.f1.f2 q.f0.f0 q.f0.f1 q.f0.f2 q.f1.f0 q.f1.f1 q.f1.f2 = some r := by
 obtain ⟨e1, g1, g2, g3, g4⟩ := vz_red hp.1
 obtain ⟨e2, g5, g6, g7, g8⟩ := vz_red hp.2
 obtain ⟨e3, g9, g10, g11, g12⟩ := vz_red hq.1
 obtain ⟨e4, g13, g14, g15, g16⟩ := vz_red hq.2
 obtain ⟨r, hr, hi⟩ := direction_two (vz q.f0.f0 q.f0.f2 - vz p.f0.f0 p.f0.f2) (vz q.f0.f1 q.f0.f2 - vz p.f0.f1 p.f0.f2) (vz q.f1.f0 q.f1.f2 - vz p.f1.f0 p.f1.f2) (vz q.f1.f1 q.f1.f2 - vz p.f1.f1 p.f1.f2) (by omega) (by omega) (by omega) (by omega) (by omega) (by omega) (by omega) (by omega) 16 0 (by omega) (by omega)
 refine ⟨r, hr, fun N hN => ?_, fun N hN => ?_⟩
 ·have s1 := spec_l01Sub_eq N 10 (vz q.f0.f0 q.f0.f2) (vz q.f0.f1 q.f0.f2) (vz p.f0.f0 p.f0.f2) (vz p.f0.f1 p.f0.f2) (by omega) (by omega) (by omega) (by omega) (by omega) (by omega) (by omega) (by omega) (by omega) (by omega)
  have s2 := spec_l01Sub_eq N 10 (vz q.f1.f0 q.f1.f2) (vz q.f1.f1 q.f1.f2) (vz p.f1.f0 p.f1.f2) (vz p.f1.f1 p.f1.f2) (by omega) (by omega) (by omega) (by omega) (by omega) (by omega) (by omega) (by omega) (by omega) (by omega)
  rw [← e1, ← e3] at s1
  rw [← e2, ← e4] at s2
  refine ⟨_, _, _, _, _, _, ?_, (hi N N (by omega) (by omega)).1⟩
  simp only [zkL.f]
  rw [s1, Option.bind_some, s2]
  rfl
 ·have s3 := zcT N 10 (vz q.f0.f0 q.f0.f2) (vz q.f0.f1 q.f0.f2) (vz p.f0.f0 p.f0.f2) (vz p.f0.f1 p.f0.f2) (by omega) (by omega) (by omega) (by omega) (by omega) (by omega) (by omega) (by omega) (by omega) (by omega)
  have s4 := zcT N 10 (vz q.f1.f0 q.f1.f2) (vz q.f1.f1 q.f1.f2) (vz p.f1.f0 p.f1.f2) (vz p.f1.f1 p.f1.f2) (by omega) (by omega) (by omega) (by omega) (by omega) (by omega) (by omega) (by omega) (by omega) (by omega)
  rw [← e1, ← e3] at s3
  rw [← e2, ← e4] at s4
  simp only [zxB.f, zdY.f]
  rw [s3, Option.bind_some, s4]
  simp only [Option.bind_some]
  exact (hi N N (by omega) (by omega)).2

theorem impl_turned_eq (d : Int) : zbC.f d = some (d % 16) := by unfold zbC.f; rw [and15]

theorem convex_loop (l : List S35) (D B : Nat → Int) (hl : l.length ≤ 16) (hn : 0 < l.length) (hI : ∀ i, i < l.length → ∀ N, 400 < N → zxB.f N (zmE l (i : Int)).f0.f0 (zmE l (i : Int)).f0.f1 (zmE l (i : Int)).f0.f2 (zmE l (i : Int)).f1.f0 (zmE l (i : Int)).f1.f1 (zmE l (i : Int)).f1.f2 (zmE l (((i + 1) % l.length : Nat) : Int)).f0.f0 (zmE l (((i + 1) % l.length : Nat) : Int)).f0.f1 (zmE l (((i + 1) % l.length : Nat) : Int)).f0.f2 (zmE l (((i + 1) % l.length : Nat) : Int)).f1.f0 (zmE l (((i + 1) % l.length : Nat) : Int)).f1.f1 (zmE l (((i + 1) % l.length : Nat) : Int)).f1.f2 = some (D i))
  (hb : ∀ i, i < l.length → -1 ≤ D i ∧ D i ≤ 15) (hb0 : -1 ≤ B 0 ∧ B 0 ≤ 15) (hB : ∀ i, B (i + 1) = D i) : ∀ (d j : Nat) (s : Int), j + d = l.length → 0 ≤ s → s ≤ 7 * j → ∀ k, 400 + d < k →
  zjY.l0 k l (l.length : Int) s (B j) l (l.length : Int) (j : Int) = some (if d = 0 then (s == 16) else (decide (0 ≤ B j) && allD D d j && tOk (fun i => (D i - B i) % 16) d j && (s + tSum (fun i => (D i - B i) % 16) d j == 16)))
 | 0, j, s, hd, h0, h1, k, hk => by
  obtain ⟨k, rfl⟩ : ∃ m, k = m + 1 := ⟨k - 1, by omega⟩
  simp only [zjY.l0]
  rw [if_neg (show ¬ (j : Int) < (l.length : Int) by omega)]
  rfl
 | d + 1, j, s, hd, h0, h1, k, hk => by
  obtain ⟨k, rfl⟩ : ∃ m, k = m + 1 := ⟨k - 1, by omega⟩
  have hj : j < l.length := by omega
  have hm : (j + 1) % l.length < l.length := Nat.mod_lt _ hn
  have a1 := hb j hj
  have a2 : -1 ≤ B j ∧ B j ≤ 15 := by
   cases j with
   | zero => exact hb0
   | succ j => rw [hB]; exact hb j (by omega)
  simp only [zjY.l0]
  rw [next_at j (by omega), if_pos (by omega), if_pos (by omega), if_pos (by omega), if_neg (by omega), if_pos (by omega), if_pos (by omega), hI j hj k (by omega), Option.bind_some, w64 (n := D j - B j) (by omega) (by omega), impl_turned_eq, Option.bind_some, if_neg (show ¬ d + 1 = 0 by omega)]
  simp only [allD, tOk, tSum]
  by_cases c1 : D j < 0
  ·rw [if_pos c1, decide_eq_false (show ¬ 0 ≤ D j by omega)]; simp
  ·rw [if_neg c1, decide_eq_true (show 0 ≤ D j by omega)]
   by_cases c2 : B j < 0
   ·rw [if_pos c2, decide_eq_false (show ¬ 0 ≤ B j by omega)]; simp
   ·rw [if_neg c2, decide_eq_true (show 0 ≤ B j by omega), impl_within_eq, Option.bind_some]
    by_cases c3 : 1 ≤ (D j - B j) % 16 ∧ (D j - B j) % 16 ≤ 7
    ·have ih := convex_loop l D B hl hn hI hb hb0 hB d (j + 1) (s + (D j - B j) % 16) (by omega) (by omega) (by omega) k (by omega)
     rw [hB] at ih
     rw [decide_eq_true c3, if_pos rfl, w64 (n := s + (D j - B j) % 16) (by omega) (by omega), zaU (by omega), ih, decide_eq_true (show 0 ≤ D j by omega)]
     cases d with
     | zero => simp [allD, tOk, tSum]
     | succ d => rw [if_neg (by omega), Int.add_assoc]; simp
    ·rw [decide_eq_false c3, if_neg (by simp)]; simp

structure Sides (l : List S35) (D : Nat → Int) : Prop where
 side : ∀ i, i < l.length → SideIs (zmE l (i : Int)) (zmE l (((i + 1) % l.length : Nat) : Int)) (D i)
 says : ∀ i, i < l.length → (D i = -1 ∨ (0 ≤ D i ∧ D i ≤ 15 ∧ cmpS (zmE l (((i + 1) % l.length : Nat) : Int)) (zmE l (i : Int)) = if 5 ≤ D i ∧ D i ≤ 12 then -1 else 1))
 own : ∀ i, i < l.length → ∀ N, 400 < N → zxB.f N (zmE l (i : Int)).f0.f0 (zmE l (i : Int)).f0.f1 (zmE l (i : Int)).f0.f2 (zmE l (i : Int)).f1.f0 (zmE l (i : Int)).f1.f1 (zmE l (i : Int)).f1.f2 (zmE l (((i + 1) % l.length : Nat) : Int)).f0.f0 (zmE l (((i + 1) % l.length : Nat) : Int)).f0.f1 (zmE l (((i + 1) % l.length : Nat) : Int)).f0.f2 (zmE l (((i + 1) % l.length : Nat) : Int)).f1.f0 (zmE l (((i + 1) % l.length : Nat) : Int)).f1.f1 (zmE l (((i + 1) % l.length : Nat) : Int)).f1.f2 = some (D i)
theorem sides_of (l : List S35) (hn : 0 < l.length) (hP : ∀ i, i < l.length → PtOk (zmE l (i : Int))) : ∃ D, Sides l D := by
 have h : ∀ i : Nat, ∃ r : Int, i < l.length → (r = -1 ∨ (0 ≤ r ∧ r ≤ 15 ∧ cmpS (zmE l (((i + 1) % l.length : Nat) : Int)) (zmE l (i : Int)) = if 5 ≤ r ∧ r ≤ 12 then -1 else 1)) ∧ SideIs (zmE l (i : Int)) (zmE l (((i + 1) % l.length : Nat) : Int)) r ∧ ∀ N, 400 < N → zxB.f N (zmE l (i : Int)).f0.f0 (zmE l (i : Int)).f0.f1 (zmE l (i : Int)).f0.f2 (zmE l (i : Int)).f1.f0 (zmE l (i : Int)).f1.f1 (zmE l (i : Int)).f1.f2 (zmE l (((i + 1) % l.length : Nat) : Int)).f0.f0 (zmE l (((i + 1) % l.length : Nat) : Int)).f0.f1 (zmE l (((i + 1) % l.length : Nat) : Int)).f0.f2 (zmE l (((i + 1) % l.length : Nat) : Int)).f1.f0 (zmE l (((i + 1) % l.length : Nat) : Int)).f1.f1 (zmE l (((i + 1) % l.length : Nat) : Int)).f1.f2 = some r := by
  intro i
  by_cases hi : i < l.length
  ·obtain ⟨r, h⟩ := dir_pts (zmE l (i : Int)) (zmE l (((i + 1) % l.length : Nat) : Int)) (hP i hi) (hP _ (Nat.mod_lt _ hn))
   exact ⟨r, fun _ => h⟩
  ·exact ⟨0, fun h => absurd h hi⟩
 obtain ⟨D, hD⟩ := Classical.axiomOfChoice h
 exact ⟨D, fun i hi => (hD i hi).2.1, fun i hi => (hD i hi).1, fun i hi => (hD i hi).2.2⟩
theorem never_again (l : List S35) (D : Nat → Int) (hS : Sides l D) (hn : 3 ≤ l.length) (hA : allD D l.length 0 = true) (hT : tOk (zlV l.length D) l.length 0 = true) (hs : tSum (zlV l.length D) l.length 0 = 16)
  (hmin : ∀ i : Nat, 0 ≤ i → i < l.length → cmpS (zmE l (i : Int)) (zmE l 0) ≠ -1) (i : Nat) (h0 : 0 < i) (h1 : i < l.length) (he : cmpS (zmE l 0) (zmE l (i : Int)) = 0) : False := by
 have A := (allD_iff D l.length 0).1 hA
 have T := (tOk_iff (zlV l.length D) l.length 0).1 hT
 have says : ∀ i, i < l.length → 0 ≤ D i ∧ D i ≤ 15 ∧ cmpS (zmE l (((i + 1) % l.length : Nat) : Int)) (zmE l (i : Int)) = if 5 ≤ D i ∧ D i ≤ 12 then -1 else 1 := by
  intro i hi
  have := A i (by omega) (by omega)
  rcases hS.says i hi with h | h
  ·omega
  ·exact h
 have he' : cmpS (zmE l (i : Int)) (zmE l 0) = 0 := by rw [cmpS_anti, he]; rfl
 -- the way on from a least corner
 have out : ∀ j, j < l.length → cmpS (zmE l (j : Int)) (zmE l 0) = 0 → D j ≤ 4 ∨ 13 ≤ D j := by
  intro j hj hz
  obtain ⟨_, _, h⟩ := says j hj
  have m := hmin ((j + 1) % l.length) (by omega) (Nat.mod_lt _ (by omega))
  rw [cmpS_anti, cmpS_same hz, ← cmpS_anti] at h
  by_cases c : 5 ≤ D j ∧ D j ≤ 12
  ·rw [if_pos c] at h; exact absurd h m
  ·omega
 -- the way to a least corner
 have inn : ∀ j, j < l.length → cmpS (zmE l (((j + 1) % l.length : Nat) : Int)) (zmE l 0) = 0 → 5 ≤ D j ∧ D j ≤ 12 := by
  intro j hj hz
  obtain ⟨_, _, h⟩ := says j hj
  have m := hmin j (by omega) hj
  rw [cmpS_same hz, cmpS_anti] at h
  by_cases c : 5 ≤ D j ∧ D j ≤ 12
  ·exact c
  ·rw [if_neg c] at h; exact absurd (show cmpS (zmE l (j : Int)) (zmE l 0) = -1 by omega) m
 have z0 : cmpS (zmE l ((0 : Nat) : Int)) (zmE l 0) = 0 := cmpS_self _
 have o0 := out 0 (by omega) z0
 have oi := out i h1 he'
 have i0 := inn (l.length - 1) (by omega) (by rw [show (l.length - 1 + 1) % l.length = 0 by rw [show l.length - 1 + 1 = l.length by omega]; exact Nat.mod_self _]; exact z0)
 have ii := inn (i - 1) (by omega) (by rw [show (i - 1 + 1) % l.length = i by rw [show i - 1 + 1 = i by omega]; exact Nat.mod_eq_of_lt h1]; exact he')
 have d0 := says 0 (by omega)
 refine one_low l.length D (zlV l.length D) (fun m => (if D 0 ≤ 4 then D 0 + 16 else D 0) + tSum (zlV l.length D) m 0) (fun i hi => ⟨(says i hi).1, (says i hi).2.1⟩) (fun i hi => T i (by omega) (by omega)) (fun m _ => ?_) ?_ (fun m hm => ?_) ?_ i0 i h0 h1 oi ii
 ·show _ + tSum (zlV l.length D) (m + 1) 0 = _ + tSum (zlV l.length D) m 0 + _
  rw [tSum_snoc, Nat.zero_add]; omega
 ·show _ + tSum (zlV l.length D) l.length 0 = _ + tSum (zlV l.length D) 0 0 + 16
  rw [hs]; simp only [tSum]; omega
 ·induction m with
  | zero =>
   show ((if D 0 ≤ 4 then D 0 + 16 else D 0) + tSum (zlV l.length D) 0 0 - D 0) % 16 = 0
   simp only [tSum]; split <;> omega
  | succ m ih =>
   have := ih (by omega)
   show ((if D 0 ≤ 4 then D 0 + 16 else D 0) + tSum (zlV l.length D) (m + 1) 0 - D (m + 1)) % 16 = 0
   have this : ((if D 0 ≤ 4 then D 0 + 16 else D 0) + tSum (zlV l.length D) m 0 - D m) % 16 = 0 := this
   rw [tSum_snoc, Nat.zero_add, show zlV l.length D m = (D (m + 1) - D m) % 16 by unfold zlV; rw [Nat.mod_eq_of_lt hm]]
   generalize (if D 0 ≤ 4 then D 0 + 16 else D 0) = q at this ⊢
   omega
 ·show 13 ≤ (if D 0 ≤ 4 then D 0 + 16 else D 0) + tSum (zlV l.length D) 0 0 ∧ (if D 0 ≤ 4 then D 0 + 16 else D 0) + tSum (zlV l.length D) 0 0 ≤ 20
  simp only [tSum]; split <;> omega
theorem polygon_both (l : List S35) : ∃ r : Bool, (r = true → 3 ≤ l.length ∧ l.length ≤ 16 ∧ (∀ i, i < l.length → PtOk (zmE l (i : Int))) ∧ ∃ D, Sides l D ∧ allD D l.length 0 = true) ∧ ∀ k, 1000 < k → zhB.f k l = some r ∧ zoR.f k l = some r := by
 by_cases hn : 3 ≤ l.length ∧ l.length ≤ 16
 ·have pre : ∀ k, 1000 < k → (zhB.f k l = zhB.l0 (k - 1) l (l.length : Int) 0) ∧ zoR.f k l = ((zmH.f l).bind fun t414 => (if t414 = true then ((zjY.f k l).bind fun t415 => (if t415 = true then ((ztP.f k l).bind fun t416 => (some (t416 == 0))) else (some false))) else (some false))) := by
   intro k hk
   obtain ⟨k, rfl⟩ : ∃ m, k = m + 1 := ⟨k - 1, by omega⟩
   constructor
   ·unfold zhB.f
    rw [if_neg (by omega), decide_eq_false (by omega)]
    simp only [zhB.j0]
    rw [if_neg (by simp)]; rfl
   ·unfold zoR.f zsU.f
    rw [Option.bind_some, impl_within_eq, decide_eq_true (by omega), Option.bind_some, if_pos rfl]
  by_cases hP : ∀ i, i < l.length → PtOk (zmE l (i : Int))
  ·have hv : l.all (fun p => decide (PtOk p)) = true := by
    rw [List.all_eq_true]
    intro p hp
    obtain ⟨i, hi, rfl⟩ := List.getElem_of_mem hp
    have := hP i hi
    rw [ip_rd l i hi] at this
    exact decide_eq_true this
   obtain ⟨D, hS⟩ := sides_of l (by omega) hP
   have hb : ∀ i, i < l.length → -1 ≤ D i ∧ D i ≤ 15 := by
    intro i hi
    rcases hS.says i hi with h | h <;> omega
   obtain ⟨lr, lz, lk⟩ := least_zero l hn.2 (by omega) hP l.length 0 (by omega)
   have hA := allD_iff D l.length 0
   -- the program's turns are the reference's, one on
   have sh1 : tOk (fun i => (D i - (fun i => if i = 0 then D (l.length - 1) else D (i - 1)) i) % 16) l.length 0 = tOk (zlV l.length D) l.length 0 := by
    rw [Bool.eq_iff_iff, tOk_iff, tOk_iff]
    constructor
    ·intro h i h1 h2
     by_cases e : i + 1 = l.length
     ·have := h 0 (by omega) (by omega)
      simp only [if_pos] at this
      unfold zlV
      rw [e, Nat.mod_self, show i = l.length - 1 by omega]; exact this
     ·have := h (i + 1) (by omega) (by omega)
      simp only [if_neg (show ¬ i + 1 = 0 by omega), Nat.add_sub_cancel] at this
      unfold zlV
      rw [Nat.mod_eq_of_lt (by omega)]; exact this
    ·intro h i h1 h2
     by_cases e : i = 0
     ·subst e
      have := h (l.length - 1) (by omega) (by omega)
      unfold zlV at this
      rw [show l.length - 1 + 1 = l.length by omega, Nat.mod_self] at this
      simp only [if_pos]; exact this
     ·have := h (i - 1) (by omega) (by omega)
      unfold zlV at this
      rw [show i - 1 + 1 = i by omega, Nat.mod_eq_of_lt (by omega)] at this
      simp only [if_neg e]; exact this
   have sh2 : tSum (fun i => (D i - (fun i => if i = 0 then D (l.length - 1) else D (i - 1)) i) % 16) l.length 0 = tSum (zlV l.length D) l.length 0 := by
    obtain ⟨m, hm⟩ : ∃ m, l.length = m + 1 := ⟨l.length - 1, by omega⟩
    rw [hm, tSum_snoc (zlV (m + 1) D) m 0]
    simp only [tSum]
    rw [tSum_shift (zlV (m + 1) D) _ m 0 (fun i h1 h2 => by simp only [if_neg (show ¬ i + 1 = 0 by omega), Nat.add_sub_cancel]; unfold zlV; rw [Nat.mod_eq_of_lt (by omega)])]
    simp only [if_pos, Nat.add_sub_cancel, Nat.zero_add]
    unfold zlV
    rw [Nat.mod_self]; omega
   have conv : ∀ k, 900 < k → zjY.f k l = some (allD D l.length 0 && tOk (zlV l.length D) l.length 0 && (tSum (zlV l.length D) l.length 0 == 16)) := by
    intro k hk
    unfold zjY.f
    have ew : wrap64 ((l.length : Int) - 1) = ((l.length - 1 : Nat) : Int) := by rw [w64 (by omega) (by omega)]; omega
    have el := hS.own (l.length - 1) (by omega) k (by omega)
    rw [show (l.length - 1 + 1) % l.length = 0 by rw [show l.length - 1 + 1 = l.length by omega]; exact Nat.mod_self _, show ((0 : Nat) : Int) = 0 from rfl] at el
    rw [if_neg (by omega), ew, if_pos (by omega), if_pos (by omega), if_pos (by omega), el, Option.bind_some]
    have cl := convex_loop l D (fun i => if i = 0 then D (l.length - 1) else D (i - 1)) hn.2 (by omega) hS.own hb (by simp only [if_pos]; exact hb _ (by omega)) (fun i => by simp) l.length 0 0 (by omega) (by omega) (by omega) k (by omega)
    rw [sh1, sh2] at cl
    simp only [if_pos] at cl
    rw [show ((0 : Nat) : Int) = 0 from rfl] at cl
    rw [cl, if_neg (by omega), Int.zero_add]
    by_cases ha : allD D l.length 0 = true
    ·rw [decide_eq_true (hA.1 ha (l.length - 1) (by omega) (by omega)), Bool.true_and]
    ·rw [Bool.not_eq_true] at ha; rw [ha]; simp
   have least : ∀ k, 900 < k → ztP.f k l = some (lr : Int) := by
    intro k hk
    unfold ztP.f
    exact lk k (by omega)
   by_cases hc : ∀ i, 0 ≤ i → i < l.length → cornerOk l i
   ·refine ⟨allD D l.length 0 && tOk (zlV l.length D) l.length 0 && (tSum (zlV l.length D) l.length 0 == 16), fun hr => ⟨hn.1, hn.2, hP, D, hS, by simp at hr; exact hr.1.1⟩, fun k hk => ?_⟩
    obtain ⟨e1, e2⟩ := pre k hk
    rw [e1, e2]
    constructor
    ·obtain ⟨K, rfl⟩ : ∃ K, k = (l.length + 1 + K) + 1 := ⟨k - l.length - 2, by omega⟩
     rw [show l.length + 1 + K + 1 - 1 = l.length + 1 + K by omega]
     have cg := corners_good l hn.2 (hP 0 (by omega)) l.length 0 (by omega) hc K (by omega)
     rw [show ((0 : Nat) : Int) = 0 from rfl] at cg
     rw [cg, spec_l03Wide_eq l (by omega) K (by omega), Option.bind_some]
     have sl := sides_loop l D (by omega) (by omega) hS.side l.length 0 [] (by omega) rfl K (by omega)
     rw [show ((0 : Nat) : Int) = 0 from rfl] at sl
     unfold zlQ.f
     rw [sl, Option.bind_some]
     by_cases ha : allD D l.length 0 = true
     ·rw [if_pos ha]
      simp only [if_true]
      have tl := turns_loop l.length D (by omega) hn.2 (fun i hi => ⟨hA.1 ha i (by omega) (by omega), (hb i hi).2⟩) l.length 0 0 (by omega) (by omega) (by omega) K (by omega)
      rw [show ((0 : Nat) : Int) = 0 from rfl] at tl
      rw [tl, ha, Bool.true_and, Int.zero_add]
     ·rw [if_neg ha]
      rw [Bool.not_eq_true] at ha
      rw [ha]; simp
    ·have lz0 : lr = 0 := lz.2 fun i _ h2 => by
      by_cases e : i = 0
      ·subst e; rw [show ((0 : Nat) : Int) = 0 from rfl, cmpS_self]; omega
      ·have := (hc i (by omega) h2).2 (by omega)
       rw [cmpS_anti, this]; omega
     rw [zlI, hv, Option.bind_some, if_pos rfl, conv k (by omega), Option.bind_some, least k (by omega), lz0]
     cases (allD D l.length 0 && tOk (zlV l.length D) l.length 0 && (tSum (zlV l.length D) l.length 0 == 16)) <;> rfl
   ·refine ⟨false, (fun hr => by cases hr), fun k hk => ?_⟩
    have hc' : ∃ i, 0 ≤ i ∧ i < l.length ∧ ¬ cornerOk l i := by
     apply Classical.byContradiction
     intro hx
     exact hc fun i h1 h2 => Classical.byContradiction fun h3 => hx ⟨i, h1, h2, h3⟩
    obtain ⟨e1, e2⟩ := pre k hk
    rw [e1, e2]
    constructor
    ·have := corners_bad l hn.2 l.length 0 (by omega) (fun h => by omega) hc' (k - 1) (by omega)
     exact this
    ·rw [zlI, hv, Option.bind_some, if_pos rfl, conv k (by omega), Option.bind_some]
     by_cases hx : (allD D l.length 0 && tOk (zlV l.length D) l.length 0 && (tSum (zlV l.length D) l.length 0 == 16)) = true
     ·rw [if_pos hx, least k (by omega), Option.bind_some]
      simp only [Bool.and_eq_true, beq_iff_eq] at hx
      by_cases hr : lr = 0
      ·exfalso
       obtain ⟨i, h1, h2, h3⟩ := hc'
       have hmin := lz.1 hr
       have hi0 : 0 < i := by
        by_cases e : i = 0
        ·exact absurd ⟨hP i h2, fun h => by omega⟩ h3
        ·omega
       have h4 : cmpS (zmE l 0) (zmE l (i : Int)) ≠ -1 := fun e => h3 ⟨hP i h2, fun _ => e⟩
       have h5 := hmin i (by omega) h2
       have h6 := cmpS_anti (zmE l 0) (zmE l (i : Int))
       have h7 := cmpS_three (zmE l 0) (zmE l (i : Int))
       exact never_again l D hS hn.1 hx.1.1 hx.1.2 hx.2 hmin i hi0 h2 (by omega)
      ·congr 1
       simp; omega
     ·rw [if_neg hx]
  ·refine ⟨false, (fun hr => by cases hr), fun k hk => ?_⟩
   obtain ⟨e1, e2⟩ := pre k hk
   have hx : ∃ i, i < l.length ∧ ¬ PtOk (zmE l (i : Int)) := by
    apply Classical.byContradiction
    intro hx
    exact hP fun i h2 => Classical.byContradiction fun h3 => hx ⟨i, h2, h3⟩
   obtain ⟨i, h1, h2⟩ := hx
   rw [e1, e2]
   constructor
   ·exact corners_bad l hn.2 l.length 0 (by omega) (fun h => by omega) ⟨i, by omega, h1, fun h => h2 h.1⟩ (k - 1) (by omega)
   ·have : l.all (fun p => decide (PtOk p)) = false := by
     rw [Bool.eq_false_iff]
     intro h
     rw [ip_rd l i h1] at h2
     exact h2 (of_decide_eq_true (List.all_eq_true.1 h _ (List.getElem_mem h1)))
    rw [zlI, this, Option.bind_some, if_neg (by simp)]
 ·refine ⟨false, (fun hr => by cases hr), fun k hk => ?_⟩
  obtain ⟨k, rfl⟩ : ∃ m, k = m + 1 := ⟨k - 1, by omega⟩
  constructor
  ·unfold zhB.f
   simp only [zhB.j0]
   by_cases c : (l.length : Int) < 3
   ·rw [if_pos c, if_pos trivial]
   ·rw [if_neg c, if_pos (by rw [decide_eq_true_eq]; omega)]
  ·unfold zoR.f zsU.f
   rw [Option.bind_some, impl_within_eq, decide_eq_false (by omega), Option.bind_some, if_neg (by simp)]

theorem laws_eqNum_eq (a b k c d l : Int) : zaT.f a b k c d l = some (decide (a = c ∧ b = d ∧ k = l)) := by
 unfold zaT.f
 by_cases h : a = c <;> by_cases h1 : b = d <;> by_cases h2 : k = l <;> simp [h, h1, h2]

theorem laws_eqPoint_eq (x y : S35) : zkR.f x.f0.f0 x.f0.f1 x.f0.f2 x.f1.f0 x.f1.f1 x.f1.f2 y.f0.f0 y.f0.f1 y.f0.f2 y.f1.f0 y.f1.f1 y.f1.f2 = some (decide ((x.f0.f0 = y.f0.f0 ∧ x.f0.f1 = y.f0.f1 ∧ x.f0.f2 = y.f0.f2) ∧ (x.f1.f0 = y.f1.f0 ∧ x.f1.f1 = y.f1.f1 ∧ x.f1.f2 = y.f1.f2))) := by
 unfold zkR.f
 simp only [laws_eqNum_eq, Option.bind_some]
 exact dec2 _ _
theorem laws_eqPointS_l0 (a : List S35) (hl : a.length ≤ 1048576) : ∀ (d k j : Nat), j + d = a.length → d < k → zcH.l0 k a a (j : Int) = some true
 | 0, k, j, hd, hk => by
  obtain ⟨k, rfl⟩ : ∃ m, k = m + 1 := ⟨k - 1, by omega⟩
  simp only [zcH.l0]
  rw [if_neg (by omega)]
 | d + 1, k, j, hd, hk => by
  obtain ⟨k, rfl⟩ : ∃ m, k = m + 1 := ⟨k - 1, by omega⟩
  simp only [zcH.l0]
  rw [if_pos (by omega), if_pos (by omega), if_pos (by omega), laws_eqPoint_eq, decide_eq_true ⟨⟨rfl, rfl, rfl⟩, ⟨rfl, rfl, rfl⟩⟩, Option.bind_some, if_pos rfl, zaU (by omega)]
  exact laws_eqPointS_l0 a hl d k (j + 1) (by omega) (by omega)
theorem laws_eqPointS_self (a : List S35) (hl : a.length ≤ 1048576) (k : Nat) (hk : a.length < k) : zcH.f k a a = some true := by
 unfold zcH.f
 rw [if_pos rfl]
 exact laws_eqPointS_l0 a hl a.length k 0 (by omega) hk

def mkP (a : Int) : S35 := ⟨⟨a, a + 1, a + 2⟩, ⟨a + 3, a + 4, a + 5⟩⟩
def zfM (a : Int) : Nat → List S35
 | 0 => []
 | n + 1 => mkP a :: zfM (a + 6) n
theorem zwJ : ∀ (n : Nat) (a : Int), (zfM a n).length = n
 | 0, _ => rfl
 | n + 1, a => by simp [zfM, zwJ n]
theorem marksP_get : ∀ (n j : Nat) (a : Int) (h : j < (zfM a n).length), (zfM a n)[j] = mkP (a + 6 * j)
 | 0, j, a, h => by simp [zfM] at h
 | n + 1, 0, a, h => by simp [zfM]
 | n + 1, j + 1, a, h => by
  have := marksP_get n j (a + 6) (by simpa [zfM] using h)
  simp only [zfM, List.getElem_cons_succ]
  rw [this]
  congr 1
  omega
theorem marksP_snoc (n : Nat) (a : Int) : zfM a (n + 1) = zfM a n ++ [mkP (a + 6 * n)] := by
 refine List.ext_getElem (by simp [zwJ]) (fun i h1 h2 => ?_)
 rw [zwJ] at h1
 rw [marksP_get]
 by_cases hi : i < n
 ·rw [List.getElem_append_left (by rw [zwJ]; exact hi), marksP_get]
 ·have : i = n := by omega
  subst this
  rw [List.getElem_append_right (by rw [zwJ]; omega)]
  simp [zwJ]
theorem rdT_set (l : List S35) (j : Nat) (v : S35) (h : j < l.length) : zmE (l.set j v) (j : Int) = v := by
 unfold zmE
 rw [Int.toNat_natCast, List.getD_eq_getElem?_getD, List.getElem?_set_self h]
 rfl
theorem laws_markPointS_l0 (l : List S35) (hl : l.length ≤ 1048576) : ∀ (d k j : Nat) (o : List S35), j + d = l.length → d < k → o.length = l.length → o.take j = zfM 1 j →
  zeY.l0 k o (1 + 6 * j : Int) (j : Int) = some ((1 + 6 * l.length : Int), zfM 1 l.length)
 | 0, k, j, o, hd, hk, ho, ht => by
  obtain ⟨k, rfl⟩ : ∃ m, k = m + 1 := ⟨k - 1, by omega⟩
  simp only [zeY.l0]
  rw [if_neg (by omega)]
  obtain rfl : j = l.length := by omega
  rw [List.take_of_length_le (by omega)] at ht
  rw [ht]
 | d + 1, k, j, o, hd, hk, ho, ht => by
  obtain ⟨k, rfl⟩ : ∃ m, k = m + 1 := ⟨k - 1, by omega⟩
  simp only [zeY.l0]
  rw [if_pos (by omega), if_pos (by omega)]
  have hj : j < o.length := by omega
  have e1 := w64 (n := 1 + 6 * (j : Int) + 1) (by omega) (by omega)
  have e2 := w64 (n := 1 + 6 * (j : Int) + 1 + 1) (by omega) (by omega)
  have e3 := w64 (n := 1 + 6 * (j : Int) + 1 + 1 + 1) (by omega) (by omega)
  have e4 := w64 (n := 1 + 6 * (j : Int) + 1 + 1 + 1 + 1) (by omega) (by omega)
  have e5 := w64 (n := 1 + 6 * (j : Int) + 1 + 1 + 1 + 1 + 1) (by omega) (by omega)
  have e6 := w64 (n := 1 + 6 * (j : Int) + 1 + 1 + 1 + 1 + 1 + 1) (by omega) (by omega)
  simp only [Option.bind_some, Int.toNat_natCast, e1, e2, e3, e4, e5, e6, rdT_set _ j _ hj, List.set_set]
  rw [zaU (by omega)]
  have := laws_markPointS_l0 l hl d k (j + 1) (o.set j (mkP (1 + 6 * j))) (by omega) (by omega) (by simpa using ho) (by
   rw [List.take_add_one, List.take_set_of_le (Nat.le_refl j), ht, List.getElem?_set_self (by omega), marksP_snoc]
   rfl)
  rw [← this]
  congr 1
theorem laws_markPointS_eq (l : List S35) (hl : l.length ≤ 1048576) (k : Nat) (hk : l.length < k) : zeY.f k l 1 = some ((1 + 6 * l.length : Int), zfM 1 l.length) := by
 unfold zeY.f
 have := laws_markPointS_l0 l hl l.length k 0 l (by omega) hk rfl (by simp [zfM])
 simpa using this

theorem rdT_pt (l : List S35) (j : Nat) (h : j < l.length) : zmE l (j : Int) = l[j] := by
 unfold zmE
 rw [Int.toNat_natCast, List.getD_eq_getElem?_getD, List.getElem?_eq_getElem h]
 rfl
theorem laws_heldPointS_l0 (n : Nat) (hn : n ≤ 1048576) : ∀ (d k j : Nat), j + d = n → d < k →
  zsO.l0 k (zfM 1 n) (1 + 6 * j : Int) (j : Int) = some (1 + 6 * n : Int)
 | 0, k, j, hd, hk => by
  obtain ⟨k, rfl⟩ : ∃ m, k = m + 1 := ⟨k - 1, by omega⟩
  simp only [zsO.l0]
  rw [if_neg (by rw [zwJ]; omega)]
  obtain rfl : j = n := by omega
  rfl
 | d + 1, k, j, hd, hk => by
  obtain ⟨k, rfl⟩ : ∃ m, k = m + 1 := ⟨k - 1, by omega⟩
  have hj : j < (zfM 1 n).length := by rw [zwJ]; omega
  have e1 := w64 (n := 1 + 6 * (j : Int) + 1) (by omega) (by omega)
  have e2 := w64 (n := 1 + 6 * (j : Int) + 1 + 1) (by omega) (by omega)
  have e3 := w64 (n := 1 + 6 * (j : Int) + 1 + 1 + 1) (by omega) (by omega)
  have e4 := w64 (n := 1 + 6 * (j : Int) + 1 + 1 + 1 + 1) (by omega) (by omega)
  have e5 := w64 (n := 1 + 6 * (j : Int) + 1 + 1 + 1 + 1 + 1) (by omega) (by omega)
  have e6 := w64 (n := 1 + 6 * (j : Int) + 1 + 1 + 1 + 1 + 1 + 1) (by omega) (by omega)
  simp only [zsO.l0]
  rw [if_pos (by omega), if_pos (by omega), rdT_pt _ j hj, marksP_get, e1, e2, e3, e4, e5, e6]
  rw [if_pos (show (mkP (1 + 6 * (j : Int))).f0.f0 = 1 + 6 * (j : Int) from rfl), if_pos (show (mkP (1 + 6 * (j : Int))).f0.f1 = 1 + 6 * (j : Int) + 1 from rfl),
   if_pos (show (mkP (1 + 6 * (j : Int))).f0.f2 = 1 + 6 * (j : Int) + 1 + 1 by show 1 + 6 * (j : Int) + 2 = _; omega), if_pos (show (mkP (1 + 6 * (j : Int))).f1.f0 = 1 + 6 * (j : Int) + 1 + 1 + 1 by show 1 + 6 * (j : Int) + 3 = _; omega),
   if_pos (show (mkP (1 + 6 * (j : Int))).f1.f1 = 1 + 6 * (j : Int) + 1 + 1 + 1 + 1 by show 1 + 6 * (j : Int) + 4 = _; omega), if_pos (show (mkP (1 + 6 * (j : Int))).f1.f2 = 1 + 6 * (j : Int) + 1 + 1 + 1 + 1 + 1 by show 1 + 6 * (j : Int) + 5 = _; omega), zaU (by omega)]
  rw [← laws_heldPointS_l0 n hn d k (j + 1) (by omega) (by omega)]
  congr 1
theorem laws_heldPointS_eq (n : Nat) (hn : n ≤ 1048576) (k : Nat) (hk : n < k) : zsO.f k (zfM 1 n) 1 = some (1 + 6 * n : Int) := by
 unfold zsO.f
 have := laws_heldPointS_l0 n hn n k 0 (by omega) hk
 simpa using this

def lowC (l : List S35) : Nat → Nat → Nat → Nat
 | 0, _, m => m
 | d + 1, j, m => if cmpS (zmE l (j : Int)) (zmE l (m : Int)) < 0 then lowC l d (j + 1) j else lowC l d (j + 1) m
theorem lowC_lt (l : List S35) : ∀ d j m, j + d = l.length → m < l.length → lowC l d j m < l.length
 | 0, _, m, _, h => h
 | d + 1, j, m, hj, h => by
  simp only [lowC]
  split
  ·exact lowC_lt l d (j + 1) j (by omega) (by omega)
  ·exact lowC_lt l d (j + 1) m (by omega) h
theorem low_one (l : List S35) (hn : 0 < l.length) : lowC l l.length 0 0 = lowC l (l.length - 1) 1 0 := by
 obtain ⟨n, e⟩ : ∃ n, l.length = n + 1 := ⟨l.length - 1, by omega⟩
 rw [e]
 show (if cmpS (zmE l ((0 : Nat) : Int)) (zmE l ((0 : Nat) : Int)) < 0 then _ else _) = _
 rw [cmpS_self, if_neg (by omega)]; rfl
theorem least_eq (l : List S35) (hP : ∀ i, i < l.length → PtOk (zmE l (i : Int))) (hl : l.length ≤ 16) : ∀ (d j m : Nat), j + d = l.length → m < l.length → ∀ k, 300 + d < k → ztP.l0 k l (m : Int) l (l.length : Int) (j : Int) = some (lowC l d j m : Int)
 | 0, j, m, hd, hm, k, hk => by
  obtain ⟨k, rfl⟩ : ∃ m, k = m + 1 := ⟨k - 1, by omega⟩
  simp only [ztP.l0]
  rw [if_neg (by omega)]; rfl
 | d + 1, j, m, hd, hm, k, hk => by
  obtain ⟨k, rfl⟩ : ∃ m, k = m + 1 := ⟨k - 1, by omega⟩
  have hj : j < l.length := by omega
  have p1 := hP j hj
  have p2 := hP m hm
  simp only [ztP.l0]
  rw [if_pos (by omega), if_pos (by omega), if_pos (by omega), if_pos (by omega), if_pos (by omega), zmM _ _ _ _ _ _ _ _ _ _ _ _ _ (by omega) p1.1 p1.2 p2.1 p2.2, Option.bind_some, cmpS_of, zaU (by omega), least_eq l hP hl d (j + 1) j (by omega) hj k (by omega), least_eq l hP hl d (j + 1) m (by omega) hm k (by omega)]
  simp only [lowC]
  split <;> rfl
def rotP (l : List S35) : List S35 := l.drop (lowC l l.length 0 0) ++ l.take (lowC l l.length 0 0)
theorem rotP_length (l : List S35) : (rotP l).length = l.length := by
 unfold rotP
 rw [List.length_append, List.length_drop, List.length_take]; omega
theorem rev_pts_st (k : Nat) (x0 : List S35) (x2 x3 : Int) : zoA.l0 (k + 1) x0 x2 x3 = if x2 < x3 then (if 0 ≤ x3 then (if x3 < (x0.length : Int) then (if 0 ≤ x2 then (if x2 < (x0.length : Int) then (zoA.l0 k ((x0.set (x2 : Int).toNat (zmE x0 x3)).set (x3 : Int).toNat (zmE x0 x2)) (wrap64 (x2 + 1)) (wrap64 (x3 - 1))) else none) else none) else none) else none) else some x0 := rfl
theorem rev_pts_l0 (l : List S35) (hl : l.length ≤ 1048576) : ∀ (d k i : Nat) (o : List S35), l.length - 2 * i ≤ d → d < k → 2 * i ≤ l.length → 1 ≤ l.length → o.length = l.length →
  (∀ m, m < l.length → o[m]? = if m < i ∨ l.length - 1 - i < m then l[l.length - 1 - m]? else l[m]?) →
  zoA.l0 k o (i : Int) ((l.length : Int) - 1 - i) = some l.reverse
 | d, k, i, o, hd, hk, hi, hp, ho, h => by
  obtain ⟨k, rfl⟩ : ∃ m, k = m + 1 := ⟨k - 1, by omega⟩
  rw [rev_pts_st]
  by_cases hc : (i : Int) < (l.length : Int) - 1 - i
  ·match d, hd, hk with
   | 0, hd, _ => omega
   | d + 1, hd, hk =>
   have ej : ((l.length : Int) - 1 - i) = ((l.length - 1 - i : Nat) : Int) := by omega
   rw [if_pos hc, if_pos (by omega), if_pos (by omega), if_pos (by omega), if_pos (by omega), ej, rdT_pt o (l.length - 1 - i) (by omega), rdT_pt o i (by omega), zaU (by omega), pred64 (by omega) (by omega), Int.toNat_natCast, Int.toNat_natCast]
   have e2 : ((l.length - 1 - i - 1 : Nat) : Int) = (l.length : Int) - 1 - ((i + 1 : Nat) : Int) := by omega
   rw [e2]
   refine rev_pts_l0 l hl d k (i + 1) _ (by omega) (by omega) (by omega) hp (by simpa using ho) (fun m hm => ?_)
   have a1 : o[i] = l[i] := by
    have := h i (by omega)
    rw [if_neg (by omega), List.getElem?_eq_getElem (by omega), List.getElem?_eq_getElem (by omega)] at this
    exact Option.some.inj this
   have a2 : o[l.length - 1 - i] = l[l.length - 1 - i] := by
    have := h (l.length - 1 - i) (by omega)
    rw [if_neg (by omega), List.getElem?_eq_getElem (by omega), List.getElem?_eq_getElem (by omega)] at this
    exact Option.some.inj this
   by_cases m1 : m = l.length - 1 - i
   ·subst m1
    rw [List.getElem?_set_self (by simp; omega), if_pos (by omega), a1, show l.length - 1 - (l.length - 1 - i) = i by omega, List.getElem?_eq_getElem (by omega)]
   ·rw [List.getElem?_set_ne (by omega)]
    by_cases m2 : m = i
    ·subst m2
     rw [List.getElem?_set_self (by omega), if_pos (by omega), a2, List.getElem?_eq_getElem (by omega)]
    ·rw [List.getElem?_set_ne (by omega), h m hm]
     by_cases m3 : m < i ∨ l.length - 1 - i < m
     ·rw [if_pos m3, if_pos (by omega)]
     ·rw [if_neg m3, if_neg (by omega)]
  ·rw [if_neg hc]
   congr 1
   refine List.ext_getElem? (fun m => ?_)
   by_cases hm : m < l.length
   ·rw [h m hm, List.getElem?_reverse hm]
    by_cases m3 : m < i ∨ l.length - 1 - i < m
    ·rw [if_pos m3]
    ·rw [if_neg m3, show l.length - 1 - m = m by omega]
   ·rw [List.getElem?_eq_none (by omega), List.getElem?_eq_none (by rw [List.length_reverse]; omega)]
theorem rev_pts (l : List S35) (hl : l.length ≤ 1048576) (k : Nat) (hk : l.length + 1 < k) : zoA.f k l = some l.reverse := by
 unfold zoA.f
 rw [w64 (by omega) (by omega)]
 by_cases h : l.length = 0
 ·have : l = [] := List.length_eq_zero_iff.1 h
  subst this
  obtain ⟨k, rfl⟩ : ∃ m, k = m + 1 := ⟨k - 1, by omega⟩
  rw [rev_pts_st, if_neg (by simp)]; rfl
 ·have := rev_pts_l0 l hl l.length k 0 l (by omega) (by omega) (by omega) (by omega) rfl (fun m hm => by rw [if_neg (by omega)])
  simpa using this
theorem con_pts (a b : List S35) (hl : a.length + b.length ≤ 1048576) (k : Nat) (hk : 6 ≤ k) : ziJ.f k [a, b] = some (a ++ b) := by
 obtain ⟨k, rfl⟩ : ∃ m, k = m + 6 := ⟨k - 6, by omega⟩
 have r0 : rd_L7 [a, b] 0 = a := rfl
 have r1 : rd_L7 [a, b] 1 = b := rfl
 have e0 : wrap64 (a.length : Int) = a.length := by rw [w64 (by omega) (by omega)]
 have e1 : wrap64 ((a.length : Int) + (b.length : Int)) = (a.length : Int) + b.length := w64 (by omega) (by omega)
 have e2 : wrap64 1 = 1 := w64 (n := 1) (by omega) (by omega)
 have e3 : wrap64 2 = 2 := w64 (n := 2) (by omega) (by omega)
 have n0 : ¬ ((a.length : Int) < 0) := by omega
 have n1 : ¬ ((a.length : Int) + (b.length : Int) < 0) := by omega
 have g : zlT.f ((a.length : Int) + b.length) = some [] := by unfold zlT.f; rw [if_pos (by omega)]
 have c1 : a.length < 2932031007402 := by omega
 have c2 : a.length + b.length < 2932031007402 := by omega
 unfold ziJ.f
 simp [ziJ.l0, ziJ.l1, r0, r1, e0, e1, e2, e3, n0, n1, g, c1, c2]
theorem rotated_eq (l : List S35) (hP : ∀ i, i < l.length → PtOk (zmE l (i : Int))) (hl : l.length ≤ 16) (k : Nat) (hk : 400 < k) : zzE.f k l = some (rotP l) := by
 unfold zzE.f
 by_cases h0 : l = []
 ·subst h0; rfl
 ·have hn : 0 < l.length := List.length_pos_iff.2 h0
  rw [if_neg (by omega)]
  have e : ztP.f k l = some (lowC l l.length 0 0 : Int) := least_eq l hP hl l.length 0 0 (by omega) hn k (by omega)
  have hb := lowC_lt l l.length 0 0 (by omega) hn
  rw [e, Option.bind_some, if_pos (by omega), if_pos (by omega), Int.toNat_natCast, con_pts _ _ (by rw [List.length_drop, List.length_take]; omega) k (by omega), Option.bind_some]; rfl
theorem turned_l0 (l : List S35) (hP : ∀ i, i < l.length → PtOk (zmE l (i : Int))) (hl : l.length ≤ 16) : ∀ (d j m : Nat), j + d = l.length → m < l.length → ∀ k, 300 + d < k → zwS.l0 k l (m : Int) (j : Int) = some (l.drop (lowC l d j m) ++ l.take (lowC l d j m))
 | 0, j, m, hd, hm, k, hk => by
  obtain ⟨k, rfl⟩ : ∃ m, k = m + 1 := ⟨k - 1, by omega⟩
  simp only [zwS.l0]
  rw [if_neg (by omega)]
  simp only [Option.bind_some, Int.toNat_natCast, List.nil_append]
  rw [if_pos (by omega), if_pos (by omega), if_pos (by rw [List.length_nil, List.length_drop]; omega), if_pos (by rw [List.length_drop, List.length_take]; omega)]; rfl
 | d + 1, j, m, hd, hm, k, hk => by
  obtain ⟨k, rfl⟩ : ∃ m, k = m + 1 := ⟨k - 1, by omega⟩
  have hj : j < l.length := by omega
  have p1 := hP j hj
  have p2 := hP m hm
  simp only [zwS.l0]
  rw [if_pos (by omega), if_pos (by omega), if_pos (by omega), if_pos (by omega), spec_l02Before_eq _ _ _ _ _ _ _ _ _ _ _ _ _ (by omega) p1.1 p1.2 p2.1 p2.2, Option.bind_some, cmpS_of, zaU (by omega), turned_l0 l hP hl d (j + 1) j (by omega) hj k (by omega), turned_l0 l hP hl d (j + 1) m (by omega) hm k (by omega)]
  simp only [lowC]
  split <;> rfl
theorem turned_eq (l : List S35) (hP : ∀ i, i < l.length → PtOk (zmE l (i : Int))) (hl : l.length ≤ 16) (k : Nat) (hk : 400 < k) : zwS.f k l = some (rotP l) := by
 unfold zwS.f
 by_cases h0 : l = []
 ·subst h0
  obtain ⟨k, rfl⟩ : ∃ m, k = m + 1 := ⟨k - 1, by omega⟩
  rfl
 ·have hn : 0 < l.length := List.length_pos_iff.2 h0
  unfold rotP
  rw [low_one l hn]
  exact turned_l0 l hP hl (l.length - 1) 1 0 (by omega) hn k (by omega)
theorem reversed_l0 (l : List S35) (hl : l.length ≤ 16) : ∀ (n : Nat) (o : List S35), n ≤ l.length → o.length + n ≤ 16 → ∀ k, n < k → zbL.l0 k l o ((n : Int) - 1) = some (o ++ (l.take n).reverse)
 | 0, o, hn, ho, k, hk => by
  obtain ⟨k, rfl⟩ : ∃ m, k = m + 1 := ⟨k - 1, by omega⟩
  simp only [zbL.l0]
  rw [if_neg (by omega), List.take_zero, List.reverse_nil, List.append_nil]
 | n + 1, o, hn, ho, k, hk => by
  obtain ⟨k, rfl⟩ : ∃ m, k = m + 1 := ⟨k - 1, by omega⟩
  simp only [zbL.l0]
  rw [show ((n + 1 : Nat) : Int) - 1 = (n : Int) by omega, if_pos (by omega), if_pos (by omega), if_pos (by omega), if_pos (by omega), w64 (by omega) (by omega), reversed_l0 l hl n _ (by omega) (by rw [List.length_append, List.length_singleton]; omega) k (by omega), List.append_assoc]
  have e : l.take (n + 1) = l.take n ++ [zmE l (n : Int)] := by rw [List.take_succ_eq_append_getElem (by omega), rdT_pt l n (by omega)]
  rw [e, List.reverse_append]; rfl
theorem reversed_pts (l : List S35) (hl : l.length ≤ 16) (k : Nat) (hk : 20 < k) : zbL.f k l = some l.reverse := by
 unfold zbL.f
 rw [w64 (by omega) (by omega), reversed_l0 l hl l.length [] (by omega) (by simp; omega) k (by omega), List.take_length, List.nil_append]
def normalP (V : List S35 → Bool) (l : List S35) : List S35 × Bool := if l.length ≤ 16 ∧ l.all (fun p => decide (PtOk p)) = true then (if V (rotP l) = true then (rotP l, true) else if V (rotP l.reverse) = true then (rotP l.reverse, true) else ([], false)) else ([], false)
theorem normalP_len (V : List S35 → Bool) (l : List S35) : (normalP V l).1.length ≤ 16 := by
 unfold normalP
 by_cases h : l.length ≤ 16 ∧ l.all (fun p => decide (PtOk p)) = true
 ·rw [if_pos h]
  split
  ·show (rotP l).length ≤ 16
   rw [rotP_length]; exact h.1
  ·split
   ·show (rotP l.reverse).length ≤ 16
    rw [rotP_length, List.length_reverse]; exact h.1
   ·exact Nat.zero_le _
 ·rw [if_neg h]; exact Nat.zero_le _
theorem all_rd (l : List S35) (h : l.all (fun p => decide (PtOk p)) = true) (i : Nat) (hi : i < l.length) : PtOk (zmE l (i : Int)) := by
 rw [rdT_pt l i hi]
 exact of_decide_eq_true (List.all_eq_true.1 h _ (List.getElem_mem hi))
theorem all_rev (l : List S35) (h : l.all (fun p => decide (PtOk p)) = true) : l.reverse.all (fun p => decide (PtOk p)) = true := by
 rw [List.all_eq_true] at h ⊢
 exact fun x hx => h x (List.mem_reverse.1 hx)
theorem impl_normal (V : List S35 → Bool) (hV : ∀ l k, 1000 < k → zhB.f k l = some (V l) ∧ zoR.f k l = some (V l)) (l : List S35) (hlen : l.length ≤ 1048576) (K : Nat) (hK : 1100 < K) : zqR.f K l = some (normalP V l) := by
 obtain ⟨K, rfl⟩ : ∃ m, K = m + 1 := ⟨K - 1, by omega⟩
 unfold zqR.f normalP
 rw [zlI, Option.bind_some]
 by_cases ha : l.all (fun p => decide (PtOk p)) = true
 ·rw [if_pos ha]
  simp only [zqR.j0]
  by_cases hl : l.length ≤ 16
  ·rw [decide_eq_false (by omega), if_neg (by simp), if_pos ⟨hl, ha⟩]
   have hc : zkH.f l = some l := by unfold zkH.f; rw [if_pos (by omega)]
   rw [hc, Option.bind_some, rev_pts l (by omega) K (by omega)]
   simp only [Option.bind_some]
   obtain ⟨K, rfl⟩ : ∃ m, K = m + 3 := ⟨K - 3, by omega⟩
   have n0 : rd_L7 [l, l.reverse] 0 = l := rfl
   have n1 : rd_L7 [l, l.reverse] 1 = l.reverse := rfl
   have r0 : ∀ k, 400 < k → zzE.f k l = some (rotP l) := fun k hk => rotated_eq l (all_rd l ha) hl k hk
   have r1 : ∀ k, 400 < k → zzE.f k l.reverse = some (rotP l.reverse) := fun k hk => rotated_eq l.reverse (all_rd _ (all_rev l ha)) (by rw [List.length_reverse]; exact hl) k hk
   have w1 : wrap64 (0 + 1) = 1 := w64 (n := 0 + 1) (by omega) (by omega)
   have w2 : wrap64 (1 + 1) = 2 := w64 (n := 1 + 1) (by omega) (by omega)
   have s0 : zqR.l0 (K + 3) [l, l.reverse] (([l, l.reverse] : List (List S35)).length : Int) 0 = (if V (rotP l) = true then some (rotP l, true) else zqR.l0 (K + 2) [l, l.reverse] (([l, l.reverse] : List (List S35)).length : Int) 1) := by
    simp only [zqR.l0]
    rw [if_pos (by simp), if_pos (by omega), if_pos (by simp), n0, r0 _ (by omega), Option.bind_some, (hV _ _ (by omega)).2, Option.bind_some, w1]
   have s1 : zqR.l0 (K + 2) [l, l.reverse] (([l, l.reverse] : List (List S35)).length : Int) 1 = (if V (rotP l.reverse) = true then some (rotP l.reverse, true) else some ([], false)) := by
    simp only [zqR.l0]
    rw [if_pos (by simp), if_pos (by omega), if_pos (by simp), n1, r1 _ (by omega), Option.bind_some, (hV _ _ (by omega)).2, Option.bind_some, w2, if_neg (show ¬ ((2 : Int) < (([l, l.reverse] : List (List S35)).length : Int)) by simp)]
   rw [s0, s1]
   split
   ·rfl
   ·split <;> rfl
  ·rw [decide_eq_true (by omega), if_pos rfl, if_neg (fun h => hl h.1)]
 ·rw [if_neg ha, if_neg (fun h => ha h.2)]
  simp only [zqR.j0]
  rw [if_pos trivial]
theorem spec_normal_l0 (V : List S35 → Bool) (hV : ∀ l k, 1000 < k → zhB.f k l = some (V l) ∧ zoR.f k l = some (V l)) (l : List S35) (hl : l.length ≤ 16) : ∀ (d j : Nat), j + d = l.length → (∀ i, i < j → i < l.length → PtOk (zmE l (i : Int))) → ∀ K, 1100 + d < K → zpV.l0 K l (j : Int) = some (normalP V l)
 | 0, j, hd, hP, K, hK => by
  obtain ⟨K, rfl⟩ : ∃ m, K = m + 1 := ⟨K - 1, by omega⟩
  have hA : ∀ i, i < l.length → PtOk (zmE l (i : Int)) := fun i hi => hP i (by omega) hi
  have ha : l.all (fun p => decide (PtOk p)) = true := by
   rw [List.all_eq_true]
   intro p hp
   obtain ⟨i, hi, rfl⟩ := List.getElem_of_mem hp
   have := hA i hi
   rw [rdT_pt l i hi] at this
   exact decide_eq_true this
  simp only [zpV.l0]
  unfold normalP
  rw [if_neg (by omega), if_pos ⟨hl, ha⟩, turned_eq l hA hl K (by omega), Option.bind_some, (hV _ _ (by omega)).1, Option.bind_some]
  split
  ·rfl
  ·rw [reversed_pts l hl K (by omega), Option.bind_some, turned_eq l.reverse (all_rd _ (all_rev l ha)) (by rw [List.length_reverse]; exact hl) K (by omega), Option.bind_some, (hV _ _ (by omega)).1, Option.bind_some]
   split <;> rfl
 | d + 1, j, hd, hP, K, hK => by
  obtain ⟨K, rfl⟩ : ∃ m, K = m + 1 := ⟨K - 1, by omega⟩
  have hj : j < l.length := by omega
  simp only [zpV.l0]
  rw [if_pos (by omega), if_pos (by omega), spec_l02Point_eq, Option.bind_some]
  by_cases g1 : PtOk (zmE l (j : Int))
  ·rw [decide_eq_true (show znX _ _ _ ∧ znX _ _ _ from g1), if_pos rfl, zaU (by omega)]
   exact spec_normal_l0 V hV l hl d (j + 1) (by omega) (fun i h1 h2 => by
    by_cases e : i = j
    ·subst e; exact g1
    ·exact hP i (by omega) h2) K (by omega)
  ·rw [decide_eq_false (show ¬ (znX _ _ _ ∧ znX _ _ _) from g1), if_neg (by simp)]
   unfold normalP
   rw [if_neg (fun h => g1 (all_rd l h.2 j hj))]
theorem spec_normal (V : List S35 → Bool) (hV : ∀ l k, 1000 < k → zhB.f k l = some (V l) ∧ zoR.f k l = some (V l)) (l : List S35) (K : Nat) (hK : 1200 < K) : zpV.f K l = some (normalP V l) := by
 unfold zpV.f
 by_cases hl : l.length ≤ 16
 ·rw [if_neg (by omega)]
  exact spec_normal_l0 V hV l hl l.length 0 (by omega) (fun i h => by omega) K (by omega)
 ·rw [if_pos (by omega)]
  unfold normalP
  rw [if_neg (fun h => hl h.1)]
theorem FnExactNormalPolygon : laws_FnExactNormalPolygon.Pure := by
 intro a ha
 refine ⟨1048600, ?_⟩
 obtain ⟨K, hK⟩ : ∃ K : Nat, K + 3 = 1048600 := ⟨1048597, rfl⟩
 rw [← hK]
 obtain ⟨V, hV0⟩ := Classical.axiomOfChoice polygon_both
 have hV : ∀ l k, 1000 < k → zhB.f k l = some (V l) ∧ zoR.f k l = some (V l) := fun l k hk => (hV0 l).2 k hk
 unfold laws_FnExactNormalPolygon.f
 have a1 : a.length ≤ maxLen := ha.1
 rw [laws_szPointS_eq (n := 1048576) (by omega) (by omega) a1, Option.bind_some]
 by_cases h : (1048576 : Int) < a.length
 ·rw [if_pos h, if_pos (by omega)]
 ·rw [if_neg h, if_neg (show ¬ (1048576 : Int) - a.length < 0 by omega)]
  have hln : (a.map toP).length ≤ 1048576 := by rw [List.length_map]; omega
  have toe : ∀ k, K ≤ k → ztE.f k a = some (a.map toP) := fun k hk => laws_toPointS_eq a (by omega) k (by omega)
  have sp : ∀ k, K ≤ k → zpV.f k (a.map toP) = some (normalP V (a.map toP)) := fun k hk => spec_normal V hV _ k (by omega)
  have im : ∀ k, K ≤ k → zqR.f k (a.map toP) = some (normalP V (a.map toP)) := fun k hk => impl_normal V hV _ hln k (by omega)
  have rl := normalP_len V (a.map toP)
  rw [toe _ (by omega), Option.bind_some, sp _ (by omega), Option.bind_some, Option.bind_some, im _ (by omega), Option.bind_some]
  generalize normalP V (a.map toP) = R at *
  have hin : (a.map toP).length < K := by omega
  have se : ∀ k, K ≤ k → zcH.f k R.1 R.1 = some true := fun k hk => laws_eqPointS_self _ (by omega) k (by omega)
  have sx : ∀ k, K ≤ k → zcH.f k (a.map toP) (a.map toP) = some true := fun k hk => laws_eqPointS_self _ (by omega) k (by omega)
  have mk : ∀ k, K ≤ k → zeY.f k R.1 1 = some ((1 + 6 * R.1.length : Int), zfM 1 R.1.length) := fun k hk => laws_markPointS_eq _ (by omega) k (by omega)
  have mx : ∀ k, K ≤ k → zeY.f k (a.map toP) 1 = some ((1 + 6 * (a.map toP).length : Int), zfM 1 (a.map toP).length) := fun k hk => laws_markPointS_eq _ hln k (by omega)
  have hh : ∀ k, K ≤ k → zsO.f k (zfM 1 R.1.length) 1 = some (1 + 6 * R.1.length : Int) := fun k hk => laws_heldPointS_eq _ (by omega) k (by omega)
  rw [se _ (by omega), Option.bind_some, if_pos rfl]
  simp only [laws_FnExactNormalPolygon.j0, bne_self_eq_false]
  rw [if_neg (by simp), toe _ (by omega), Option.bind_some, sx _ (by omega), Option.bind_some, if_pos rfl, mx _ (by omega), Option.bind_some, if_neg (show ¬ (1 + 6 * ((a.map toP).length : Int)) < 0 by omega), se _ (by omega), Option.bind_some, if_pos rfl]
  simp only [laws_FnExactNormalPolygon.j1]
  rw [if_neg (by simp), mk _ (by omega), Option.bind_some, hh _ (by omega), Option.bind_some, if_neg (show ¬ (1 + 6 * (R.1.length : Int)) < 0 by omega), if_pos rfl, toe _ (by omega), Option.bind_some, im _ (by omega), Option.bind_some, se _ (by omega), Option.bind_some, if_pos rfl]
  simp only [laws_FnExactNormalPolygon.j2]
  rw [if_neg (by simp), hh _ (by omega), Option.bind_some, if_neg (show ¬ (1 + 6 * (R.1.length : Int)) < 0 by omega), if_pos rfl]

end Go.Proofs.YtbnfbflfhpniaaaDoor.Pure
