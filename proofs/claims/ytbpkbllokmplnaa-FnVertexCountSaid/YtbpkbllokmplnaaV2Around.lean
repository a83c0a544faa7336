/- Plain lemmas of this session on lists told around: sectors at places, runs of equal ones. Conditions: none. -/
import Derived.Test.YtbpkbllokmplnaaV2Secs
import Derived.Test.YtbpkbllokmplnaaV2Lex
namespace Go.Proofs.Ytbpkbllokmplnaa.Math
open Go.RowKit Go.Proofs.YtbpkbllokmplnaaW.PrintWords Go.Proofs.YtbpkbllokmplnaaW.PrintMore

theorem tmodN (a b : Nat) : Int.tmod (a : Int) (b : Int) = ((a % b : Nat) : Int) := rfl
/-- The sector at a place, around. -/
def at' (l : List Int) (i : Nat) : Int := rd l ((i % l.length : Nat) : Int)
/-- How long the run at place i is, told from its place m on, where d places may still be looked at. -/
def runAt (l : List Int) (i : Nat) : Nat → Nat → Int
  | 0, m => m
  | d + 1, m => if at' l (i + m) = at' l i then runAt l i d (m + 1) else if at' l (i + m) < at' l i then 0 else m
theorem at'_self (l : List Int) (i : Nat) (h : i < l.length) : rd l (i : Int) = at' l i := by unfold at'; rw [Nat.mod_eq_of_lt h]
theorem idx (l : List Int) (a : Nat) (_ : l.length ≤ 1048576) (ha : a ≤ 2097152) : Int.tmod (wrap64 (a : Int)) (l.length : Int) = ((a % l.length : Nat) : Int) := by rw [w64 (by omega) (by omega), tmodN]
theorem idx_lt (l : List Int) (a : Nat) (h : 0 < l.length) : ((a % l.length : Nat) : Int) < (l.length : Int) := by have := Nat.mod_lt a h; omega
/-- The place of the one before place i, looked at from place i on. -/
theorem at'_last (l : List Int) (i m : Nat) (_ : i < l.length) (hm : m + 1 = l.length) : at' l (i + m) = at' l (i + l.length - 1) := by rw [show i + m = i + l.length - 1 by omega]
/-- How long the little run that begins at place i is; 0 if there is none. -/
def zfG (l : List Int) (i : Nat) : Int := if at' l (i + l.length - 1) ≤ at' l i then 0 else runAt l i (l.length - 2) 1
/-- The place of the first little run from place i on. -/
def zpQ (l : List Int) : Nat → Nat → Option Nat
  | 0, _ => none
  | d + 1, i => if zfG l i > 0 then some i else zpQ l d (i + 1)
theorem zwE (l : List Int) : ∀ (d i j : Nat), zpQ l d i = some j → i ≤ j ∧ j < i + d ∧ zfG l j > 0
  | 0, i, j, h => by simp [zpQ] at h
  | d + 1, i, j, h => by
    simp only [zpQ] at h
    split at h
    · obtain rfl := Option.some.inj h; exact ⟨Nat.le_refl _, by omega, by assumption⟩
    · have := zwE l d (i + 1) j h; exact ⟨by omega, by omega, this.2.2⟩
theorem runAt_props (l : List Int) (i : Nat) (hi : i < l.length) (hp : at' l (i + l.length - 1) > at' l i) :
    ∀ (d m : Nat), m + d + 1 = l.length → (∀ j, j < m → at' l (i + j) = at' l i) → runAt l i d m = 0 ∨ ∃ c : Nat, runAt l i d m = c ∧ m ≤ c ∧ c + 1 ≤ l.length ∧ (∀ j, j < c → at' l (i + j) = at' l i) ∧ at' l (i + c) > at' l i
  | 0, m, hm, he => Or.inr ⟨m, rfl, Nat.le_refl _, by omega, he, by rw [at'_last l i m hi (by omega)]; exact hp⟩
  | d + 1, m, hm, he => by
    simp only [runAt]
    by_cases h : at' l (i + m) = at' l i
    · rw [if_pos h]
      rcases runAt_props l i hi hp d (m + 1) (by omega) (fun j hj => by
        by_cases hj2 : j < m
        · exact he j hj2
        · obtain rfl : j = m := by omega
          exact h) with c | ⟨c, h1, h2, h3⟩
      · exact Or.inl c
      · exact Or.inr ⟨c, h1, by omega, h3⟩
    · rw [if_neg h]
      by_cases h2 : at' l (i + m) < at' l i
      · rw [if_pos h2]; exact Or.inl rfl
      · rw [if_neg h2]; exact Or.inr ⟨m, rfl, Nat.le_refl _, by omega, he, by omega⟩
theorem runVal_props (l : List Int) (i : Nat) (hi : i < l.length) (h2 : 2 ≤ l.length) (h : zfG l i > 0) :
    ∃ c : Nat, zfG l i = c ∧ 1 ≤ c ∧ c + 1 ≤ l.length ∧ (∀ j, j < c → at' l (i + j) = at' l i) ∧ at' l (i + c) > at' l i ∧ at' l (i + l.length - 1) > at' l i := by
  unfold zfG at h ⊢
  by_cases hp : at' l (i + l.length - 1) ≤ at' l i
  · rw [if_pos hp] at h; omega
  · rw [if_neg hp] at h ⊢
    rcases runAt_props l i hi (by omega) (l.length - 2) 1 (by omega) (fun j hj => by rw [show j = 0 by omega]; rfl) with c | ⟨c, h1, h2, h3, h4, h5⟩
    · omega
    · exact ⟨c, h1, h2, h3, h4, h5, by omega⟩
/-- A rotated list, place for place. -/
theorem rd_rot (l : List Int) (b t : Nat) (hb : b < l.length) (ht : t < l.length) : rd (rot l b) (t : Int) = at' l (b + t) := by
  have hlen := zfX l b (by omega)
  rw [rd_nat _ t (by omega)]
  unfold at'
  rw [rd_nat l _ (Nat.mod_lt _ (by omega))]
  unfold rot at hlen ⊢
  by_cases h : t < l.length - b
  · rw [List.getElem_append_left (by rw [List.length_drop]; exact h), List.getElem_drop]
    congr 1
    rw [Nat.mod_eq_of_lt (by omega)]
  · rw [List.getElem_append_right (by rw [List.length_drop]; omega), List.getElem_take]
    congr 1
    rw [List.length_drop, show b + t = (b + t - l.length) + l.length by omega, Nat.add_mod_right, Nat.mod_eq_of_lt (by omega)]
    omega
theorem at'_congr (l : List Int) {a b : Nat} (h : a % l.length = b % l.length) : at' l a = at' l b := by unfold at'; rw [h]
theorem add_mod_l (a b n : Nat) : (a % n + b) % n = (a + b) % n := by rw [Nat.add_mod, Nat.mod_mod, ← Nat.add_mod]
/-- The alternating sum, joined. -/
theorem alt_append : ∀ (a b : List Int), alt (a ++ b) = alt a + (if a.length % 2 = 0 then alt b else -alt b)
  | [], b => by simp [alt]
  | x :: xs, b => by
    simp only [List.cons_append, alt, alt_append xs b, List.length_cons]
    by_cases h : xs.length % 2 = 0
    · rw [if_pos h, if_neg (by omega)]; omega
    · rw [if_neg h, if_pos (by omega)]; omega
theorem alt_rot {l : List Int} (h : alt l = 0) (hn : l.length % 2 = 0) (b : Nat) (hb : b ≤ l.length) : alt (rot l b) = 0 := by
  unfold rot
  have e := alt_append (l.take b) (l.drop b)
  rw [List.take_append_drop, h, List.length_take, Nat.min_eq_left hb] at e
  rw [alt_append, List.length_drop]
  by_cases hp : b % 2 = 0
  · rw [if_pos hp] at e; rw [if_pos (by omega)]; omega
  · rw [if_neg hp] at e; rw [if_neg (by omega)]; omega
theorem sum_rot (l : List Int) (b : Nat) : (rot l b).sum = l.sum := by
  unfold rot
  have e : (l.take b ++ l.drop b).sum = l.sum := by rw [List.take_append_drop]
  rw [List.sum_append] at e ⊢
  omega
theorem mem_rot {l : List Int} {b : Nat} {x : Int} (h : x ∈ rot l b) : x ∈ l := by
  unfold rot at h
  rcases List.mem_append.1 h with h | h
  · exact List.mem_of_mem_drop h
  · exact List.mem_of_mem_take h
theorem alt_replicate (s : Int) : ∀ n : Nat, alt (List.replicate n s) = if n % 2 = 0 then 0 else s
  | 0 => rfl
  | n + 1 => by
    rw [List.replicate_succ, alt, alt_replicate s n]
    by_cases h : n % 2 = 0
    · rw [if_pos h, if_neg (by omega)]; omega
    · rw [if_neg h, if_pos (by omega)]; omega
theorem sum_replicate (s : Int) : ∀ n : Nat, (List.replicate n s).sum = n * s
  | 0 => by simp
  | n + 1 => by rw [List.replicate_succ, List.sum_cons, sum_replicate s n]; push_cast; rw [Int.add_mul, Int.one_mul]; omega
end Go.Proofs.Ytbpkbllokmplnaa.Math
