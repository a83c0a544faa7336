/- Plain lemmas of this session on signs of a + b r and on directions of vectors. Conditions: none. -/
import Derived.Test.YtehghobmmpihfaaGreatDoorV1Nums
namespace Go.Proofs.YtehghobmmpihfaaGreatDoor.Math
open Go.RowKit Go.Proofs.YtehghobmmpihfaaGreatDoorW.PrintWords Go.Proofs.YtehghobmmpihfaaGreatDoorW.PrintMore

def pos (a b : Int) : Prop := (0 ≤ a ∧ 0 ≤ b ∧ ¬ (a = 0 ∧ b = 0)) ∨ (0 < a ∧ b < 0 ∧ 2 * (b * b) < a * a) ∨ (a < 0 ∧ 0 < b ∧ a * a < 2 * (b * b))
theorem sgn_one (a b : Int) : sgn a b = 1 ↔ pos a b := by
  unfold sgn pos
  by_cases h1 : a = 0 ∧ b = 0
  · rw [if_pos h1]; constructor <;> intro h <;> omega
  · rw [if_neg h1]
    have nr : a * a ≠ 2 * (b * b) := fun e => h1 (no_root_int e)
    by_cases h2 : 0 ≤ a ∧ 0 ≤ b
    · rw [if_pos h2]; constructor <;> intro h
      · left; omega
      · rfl
    · rw [if_neg h2]
      by_cases h3 : a ≤ 0 ∧ b ≤ 0
      · rw [if_pos h3]; constructor <;> intro h <;> omega
      · rw [if_neg h3]
        by_cases hb : b > 0 <;> by_cases hq : a * a < 2 * (b * b) <;> simp [hb, hq] <;> omega
theorem sgn_zero (a b : Int) : sgn a b = 0 ↔ a = 0 ∧ b = 0 := by
  unfold sgn
  by_cases h1 : a = 0 ∧ b = 0
  · simp [h1]
  · rw [if_neg h1]
    constructor
    · intro h; split at h
      · omega
      · split at h
        · omega
        · split at h <;> omega
    · intro h; exact absurd h h1
theorem sgn_neg (a b : Int) : sgn (-a) (-b) = -sgn a b := by
  unfold sgn
  by_cases h1 : a = 0 ∧ b = 0
  · rw [if_pos h1, if_pos (by omega)]; rfl
  · rw [if_neg h1, if_neg (by omega)]
    have nr : a * a ≠ 2 * (b * b) := fun e => h1 (no_root_int e)
    by_cases h2 : 0 ≤ a ∧ 0 ≤ b
    · rw [if_pos h2, if_neg (by omega), if_pos (by omega)]
    · rw [if_neg h2]
      by_cases h3 : a ≤ 0 ∧ b ≤ 0
      · rw [if_pos h3, if_pos (by omega)]; rfl
      · rw [if_neg h3, if_neg (by omega), if_neg (by omega), Int.neg_mul_neg, Int.neg_mul_neg]
        have e1 : decide (-b > 0) = !decide (b > 0) := by
          by_cases hb : b > 0
          · simp [hb]; omega
          · simp [hb]; omega
        rw [e1]
        by_cases hb : b > 0 <;> by_cases hq : a * a < 2 * (b * b) <;> simp [hb, hq]
theorem sgn_three (a b : Int) : sgn a b = 1 ∨ sgn a b = 0 ∨ sgn a b = -1 := by
  unfold sgn
  split
  · omega
  · split
    · omega
    · split
      · omega
      · split <;> omega
theorem sgn_of {a b c d : Int} (h0 : a = 0 → b = 0 → c = 0 ∧ d = 0) (h1 : pos a b → pos c d) (h2 : pos (-a) (-b) → pos (-c) (-d)) : sgn c d = sgn a b := by
  rcases sgn_three a b with h | h | h
  · rw [h]; exact (sgn_one c d).2 (h1 ((sgn_one a b).1 h))
  · rw [h]; obtain ⟨x, y⟩ := (sgn_zero a b).1 h; exact (sgn_zero c d).2 (h0 x y)
  · rw [h]
    have e : sgn (-a) (-b) = 1 := by rw [sgn_neg, h]; rfl
    have := (sgn_one _ _).2 (h2 ((sgn_one _ _).1 e))
    rw [sgn_neg] at this
    omega
theorem sq2 (a : Int) : 2 * a * (2 * a) = 4 * (a * a) := by rw [Int.mul_assoc, Int.mul_left_comm a 2 a]; omega
theorem pos_dbl {a b : Int} (h : pos a b) : pos (2 * a) (2 * b) := by
  unfold pos at *
  rw [sq2, sq2]; omega
theorem sgn_dbl (a b : Int) : sgn (2 * a) (2 * b) = sgn a b :=
  sgn_of (fun h1 h2 => by omega) pos_dbl (fun h => by have := pos_dbl h; rw [show 2 * -a = -(2 * a) by omega, show 2 * -b = -(2 * b) by omega] at this; exact this)
theorem pos_S {a b : Int} (h : pos a b) : pos (2 * b) a := by
  unfold pos at *
  rw [sq2]; omega
theorem sgn_S (a b : Int) : sgn (2 * b) a = sgn a b :=
  sgn_of (fun h1 h2 => by omega) pos_S (fun h => by have := pos_S h; rw [show 2 * -b = -(2 * b) by omega] at this; exact this)
theorem sqU (a b : Int) : (2 * b - a) * (2 * b - a) - 2 * ((a - b) * (a - b)) = 2 * (b * b) - a * a := by
  have e1 : (2 * b - a) * (2 * b - a) = 4 * (b * b) - 4 * (a * b) + a * a := by
    rw [Int.sub_mul, Int.mul_sub, Int.mul_sub, sq2, Int.mul_assoc 2 b a, Int.mul_left_comm a 2 b, Int.mul_comm b a]; omega
  have e2 : (a - b) * (a - b) = a * a - 2 * (a * b) + b * b := by
    rw [Int.sub_mul, Int.mul_sub, Int.mul_sub, Int.mul_comm b a]; omega
  rw [e1, e2]; omega
theorem sq_lt {a b : Int} (h0 : 0 ≤ a) (h : a < b) : a * a < b * b := Int.lt_of_le_of_lt (Int.mul_le_mul_of_nonneg_left (Int.le_of_lt h) h0) (Int.mul_lt_mul_of_pos_right h (by omega))
theorem sq_pos {a : Int} (h : a ≠ 0) : 0 < a * a := by
  have h1 : a * a ≠ 0 := fun e => h ((Int.mul_eq_zero.1 e).elim id id)
  have h2 : (0 : Int) ≤ a * a := by
    rw [← Int.natAbs_mul_self' a]; exact Int.mul_nonneg (Int.natCast_nonneg _) (Int.natCast_nonneg _)
  omega
theorem pos_U {a b : Int} (h : pos a b) : pos (2 * b - a) (a - b) := by
  have e := sqU a b
  unfold pos at *
  rcases h with ⟨h1, h2, h3⟩ | ⟨h1, h2, h3⟩ | ⟨h1, h2, h3⟩
  · by_cases c1 : 0 ≤ 2 * b - a
    · by_cases c2 : 0 ≤ a - b
      · left; omega
      · right; left
        have := sq_lt h1 (show a < b by omega)
        have := sq_pos (show b ≠ 0 by omega)
        omega
    · right; right
      have h4 := sq_lt (show 0 ≤ 2 * b by omega) (show 2 * b < a by omega)
      rw [sq2] at h4
      have : 0 ≤ b * b := Int.mul_nonneg h2 h2
      omega
  · right; right; omega
  · right; left; omega
theorem sgn_U (a b : Int) : sgn (2 * b - a) (a - b) = sgn a b :=
  sgn_of (fun h1 h2 => by omega) pos_U (fun h => by have := pos_U h; rw [show 2 * -b - -a = -(2 * b - a) by omega, show -a - -b = -(a - b) by omega] at this; exact this)
theorem sgn_SU (a b : Int) : sgn (4 * a - 4 * b) (4 * b - 2 * a) = sgn a b := by
  rw [← sgn_U a b, ← sgn_S (2 * b - a) (a - b), ← sgn_dbl (2 * (a - b)) (2 * b - a)]
  congr 1 <;> omega
theorem sgn_pow (a b : Int) : ∀ j : Nat, sgn (a * 2 ^ j) (b * 2 ^ j) = sgn a b
  | 0 => by simp
  | j + 1 => by
    rw [← sgn_pow a b j, ← sgn_dbl (a * 2 ^ j) (b * 2 ^ j), Int.pow_succ]
    congr 1 <;> rw [← Int.mul_assoc, Int.mul_comm]
theorem sgn_red (K : Nat) (A B : Int) : sgn (red K A B).1 (red K A B).2.1 = sgn A B := by
  obtain ⟨a, b, k, e, hk, hA, hB, _⟩ := red_spec K A B
  rw [e, hA, hB, sgn_pow]
def lexs (P Pb Q Qb : Int) : Int := if sgn P Pb = 0 then sgn Q Qb else sgn P Pb
theorem lexs_neg (P Pb Q Qb : Int) : lexs (-P) (-Pb) (-Q) (-Qb) = -lexs P Pb Q Qb := by
  unfold lexs
  rw [sgn_neg, sgn_neg]
  by_cases h : sgn P Pb = 0
  · rw [if_pos h, if_pos (by omega)]
  · rw [if_neg h, if_neg (by omega)]
theorem lexs_zero {P Pb Q Qb : Int} (h : lexs P Pb Q Qb = 0) : P = 0 ∧ Pb = 0 ∧ Q = 0 ∧ Qb = 0 := by
  unfold lexs at h
  by_cases h1 : sgn P Pb = 0
  · rw [if_pos h1] at h
    have := (sgn_zero _ _).1 h1; have := (sgn_zero _ _).1 h; omega
  · rw [if_neg h1] at h; exact absurd h h1
theorem lexs_three (P Pb Q Qb : Int) : lexs P Pb Q Qb = 1 ∨ lexs P Pb Q Qb = 0 ∨ lexs P Pb Q Qb = -1 := by
  unfold lexs; split
  · exact sgn_three _ _
  · exact sgn_three _ _
theorem lex_first {P Pb Q Qb s : Int} (h : sgn P Pb = s) (h0 : P = 0 → Pb = 0 → Q = 0 ∧ Qb = 0) : lexs P Pb Q Qb = s := by
  unfold lexs
  by_cases h1 : sgn P Pb = 0
  · rw [if_pos h1]
    obtain ⟨a, b⟩ := (sgn_zero _ _).1 h1
    obtain ⟨c, d⟩ := h0 a b
    rw [← h, h1]; exact (sgn_zero _ _).2 ⟨c, d⟩
  · rw [if_neg h1]; exact h
theorem lex0 {P Pb Q Qb X Y : Int} (h1 : Q = 0) (h2 : Qb = 0) (hX : X = P) (hY : Y = Pb) : lexs P Pb Q Qb = sgn X Y := by
  subst hX hY; exact lex_first rfl (fun _ _ => ⟨h1, h2⟩)
theorem lex1 {P Pb Q Qb X Y : Int} (h1 : Q = 2 * Pb - P) (h2 : Qb = P - Pb) (hX : X = 4 * P - 4 * Pb) (hY : Y = 4 * Pb - 2 * P) : lexs P Pb Q Qb = sgn X Y := by
  subst hX hY; rw [sgn_SU]; exact lex_first rfl (fun _ _ => ⟨by omega, by omega⟩)
theorem lex2 {P Pb Q Qb X Y : Int} (h1 : Q = P) (h2 : Qb = Pb) (hX : X = 2 * P) (hY : Y = 2 * Pb) : lexs P Pb Q Qb = sgn X Y := by
  subst hX hY; rw [sgn_dbl]; exact lex_first rfl (fun _ _ => ⟨by omega, by omega⟩)
theorem lex3 {P Pb Q Qb X Y : Int} (h1 : P = 2 * Qb - Q) (h2 : Pb = Q - Qb) (hX : X = 4 * Q - 4 * Qb) (hY : Y = 4 * Qb - 2 * Q) : lexs P Pb Q Qb = sgn X Y := by
  subst hX hY; rw [sgn_SU]; subst h1 h2; exact lex_first (sgn_U _ _) (fun _ _ => ⟨by omega, by omega⟩)
theorem lex4 {P Pb Q Qb X Y : Int} (h1 : P = 0) (h2 : Pb = 0) (hX : X = Q) (hY : Y = Qb) : lexs P Pb Q Qb = sgn X Y := by
  subst hX hY h1 h2; unfold lexs; rw [if_pos (by rw [sgn_zero]; exact ⟨rfl, rfl⟩)]
theorem lex5 {P Pb Q Qb X Y : Int} (h1 : P = -(2 * Qb - Q)) (h2 : Pb = -(Q - Qb)) (hX : X = 4 * Q - 4 * Qb) (hY : Y = 4 * Qb - 2 * Q) : lexs P Pb Q Qb = -sgn X Y := by
  subst hX hY; rw [sgn_SU]; subst h1 h2; exact lex_first (by rw [sgn_neg, sgn_U]) (fun _ _ => ⟨by omega, by omega⟩)
theorem lex6 {P Pb Q Qb X Y : Int} (h1 : Q = -P) (h2 : Qb = -Pb) (hX : X = -(2 * P)) (hY : Y = -(2 * Pb)) : lexs P Pb Q Qb = -sgn X Y := by
  subst hX hY; rw [sgn_neg, sgn_dbl, Int.neg_neg]; exact lex_first rfl (fun _ _ => ⟨by omega, by omega⟩)
theorem lex7 {P Pb Q Qb X Y : Int} (h1 : Q = -(2 * Pb - P)) (h2 : Qb = -(P - Pb)) (hX : X = -(4 * P - 4 * Pb)) (hY : Y = -(4 * Pb - 2 * P)) : lexs P Pb Q Qb = -sgn X Y := by
  subst hX hY; rw [sgn_neg, sgn_SU, Int.neg_neg]; exact lex_first rfl (fun _ _ => ⟨by omega, by omega⟩)
theorem one_low (n : Nat) (D T M : Nat → Int) (hD : ∀ i, i < n → 0 ≤ D i ∧ D i ≤ 15) (hT : ∀ i, i < n → 1 ≤ T i ∧ T i ≤ 7) (hM : ∀ i, i < n → M (i + 1) = M i + T i) (hn : M n = M 0 + 16)
    (hc : ∀ i, i < n → (M i - D i) % 16 = 0) (h0 : 13 ≤ M 0 ∧ M 0 ≤ 20) (hl : 5 ≤ D (n - 1) ∧ D (n - 1) ≤ 12) (i : Nat) (hi : 0 < i) (hi2 : i < n) (h1 : D i ≤ 4 ∨ 13 ≤ D i) (h2 : 5 ≤ D (i - 1) ∧ D (i - 1) ≤ 12) : False := by
  have mono : ∀ (d j : Nat), j + d ≤ n → M j ≤ M (j + d) := by
    intro d
    induction d with
    | zero => intro j _; exact Int.le_refl _
    | succ d ih =>
      intro j hj
      have a := ih j (by omega)
      have b := hM (j + d) (by omega)
      have c := hT (j + d) (by omega)
      rw [show j + (d + 1) = j + d + 1 by omega]; omega
  have e1 := hM (n - 1) (by omega)
  rw [show n - 1 + 1 = n by omega] at e1
  have t1 := hT (n - 1) (by omega)
  have c1 := hc (n - 1) (by omega)
  have e2 := hM (i - 1) (by omega)
  rw [show i - 1 + 1 = i by omega] at e2
  have t2 := hT (i - 1) (by omega)
  have c2 := hc (i - 1) (by omega)
  have c3 := hc i hi2
  have m1 := mono (i - 1) 0 (by omega)
  rw [show 0 + (i - 1) = i - 1 by omega] at m1
  have m2 := mono (n - 1 - i) i (by omega)
  rw [show i + (n - 1 - i) = n - 1 by omega] at m2
  have d1 := hD i hi2
  omega
end Go.Proofs.YtehghobmmpihfaaGreatDoor.Math
