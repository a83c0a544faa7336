/- What is proved: sectors are recovered from their directions; all rotations and mirror images of a list have one canonical form; their number times the number of symmetries is twice the number of sectors. Conditions: none. -/
import Derived.Test.YtbpkbllokmplnaaA1PFnAnglesx
import Derived.Test.YtbpkbllokmplnaaA1Math
import Derived.Test.YtbpkbllokmplnaaA1Secs
import Derived.Test.YtbpkbllokmplnaaA1Lex
import Derived.Test.YtbpkbllokmplnaaA1Around
import Derived.Test.YtbpkbllokmplnaaA1Crimp
import Derived.Test.YtbpkbllokmplnaaA1Count
import Derived.Test.YtbpkbllokmplnaaA1Bits
import Derived.Test.YtbpkbllokmplnaaA1Cones
import Derived.Test.YtbpkbllokmplnaaA1Kawa
import Derived.Test.YtbpkbllokmplnaaA1Orbit
import Derived.Test.YtbpkbllokmplnaaA1Group
namespace Go.Proofs.Ytbpkbllokmplnaa.Pure
open Go.RowKit Go.Proofs.Ytbpkbllokmplnaa.PFnAngles Go.Proofs.YtbpkbllokmplnaaW.PrintWords Go.Proofs.YtbpkbllokmplnaaW.PrintLast Go.Proofs.YtbpkbllokmplnaaW.PrintMore Go.Proofs.Ytbpkbllokmplnaa.Math

theorem laws_a2Long_eq (a b : List Int) : zpR.f a b = some (decide (a.length > 3000 ∨ b.length > 3000)) := by
 unfold zpR.f
 by_cases h : a.length > 3000
 ·rw [if_pos (by omega), decide_eq_true (Or.inl h)]
 ·rw [if_neg (by omega)]
  congr 1
  rw [decide_eq_decide]; omega

theorem and255u (n : Int) : bits .and .u64 n 255 = n % 256 := by
 have h255 : (BitVec.ofInt 64 255).toNat = 2 ^ 8 - 1 := by decide
 have key : (BitVec.ofInt 64 n &&& BitVec.ofInt 64 255).toNat = (n % ((2 ^ 64 : Nat) : Int)).toNat % 2 ^ 8 := by
  rw [BitVec.toNat_and, BitVec.toNat_ofInt, h255, Nat.and_two_pow_sub_one_eq_mod]
 show IntKind.u64.wrap ((BitVec.ofInt 64 n &&& BitVec.ofInt 64 255).toNat : Nat) = n % 256
 rw [key, wu64 (by omega) (by omega)]
 omega
def Bytes (l : List Int) : Prop := l.length ≤ 3000 ∧ ∀ x ∈ l, 0 ≤ x ∧ x ≤ 255
theorem spec_l00Src_next_ok (l : List Int) (hl : Bytes l) (p s : Int) (h0 : 0 ≤ p) (h1 : p ≤ 4611686018427387904) : ∃ v s', zqO.f l p s = some (v, p + 1, s') ∧ 0 ≤ v ∧ v ≤ 255 := by
 unfold zqO.f
 rw [w64 (n := p + 1) (by omega) (by omega)]
 have hL := hl.1
 by_cases h : p < (l.length : Int)
 ·obtain ⟨q, rfl⟩ : ∃ q : Nat, p = q := ⟨p.toNat, by omega⟩
  rw [if_pos h, if_pos h0, if_pos (by omega), zcC l q (by omega)]
  have hb := hl.2 l[q] (List.getElem_mem _)
  refine ⟨_, _, rfl, ?_⟩
  rw [w64 (by omega) (by omega)]
  exact hb
 ·rw [if_neg h, if_neg (by omega), and255u]
  refine ⟨_, _, rfl, ?_⟩
  rw [w64 (by omega) (by omega)]
  omega

theorem ztV (l : List Int) (hl : Bytes l) (p s n : Int) (h0 : 0 ≤ p) (h1 : p ≤ 4611686018427387000) (hn : n ≤ 60000) :
  ∃ v p' s', zcB.f l p s n = some (v, p', s') ∧ 0 ≤ v ∧ (1 ≤ n → v < n) ∧ p ≤ p' ∧ p' ≤ p + 2 := by
 unfold zcB.f
 by_cases h : n ≤ 1
 ·rw [if_pos h]
  exact ⟨0, p, s, rfl, by omega, by omega, by omega, by omega⟩
 ·obtain ⟨v, s', e, v0, v1⟩ := spec_l00Src_next_ok l hl p s h0 (by omega)
  rw [if_neg h, e, Option.bind_some]
  have hz : ¬ n = 0 := by omega
  by_cases h2 : n > 200
  ·obtain ⟨w, s2, e2, w0, w1⟩ := spec_l00Src_next_ok l hl (p + 1) s' (by omega) (by omega)
   rw [if_pos h2]
   simp only [e2, Option.bind_some]
   rw [if_neg hz]
   have e3 : wrap64 (wrap64 (v * 256) + w) = v * 256 + w := by rw [w64 (n := v * 256) (by omega) (by omega), w64 (by omega) (by omega)]
   rw [e3]
   exact ⟨_, _, _, rfl, Int.tmod_nonneg _ (by omega), fun _ => Int.tmod_lt_of_pos _ (by omega), by omega, by omega⟩
  ·rw [if_neg h2, if_neg hz]
   exact ⟨_, _, _, rfl, Int.tmod_nonneg _ (by omega), fun _ => Int.tmod_lt_of_pos _ (by omega), by show p ≤ p + 1; omega, by show p + 1 ≤ p + 2; omega⟩

theorem spec_l00Src_one_ok (l : List Int) (hl : Bytes l) (p s n : Int) (h0 : 0 ≤ p) (h1 : p ≤ 4611686018427387000) (hn : n ≤ 60000) :
  ∃ b p' s', zmN.f l p s n = some (b, p', s') ∧ p ≤ p' ∧ p' ≤ p + 2 := by
 unfold zmN.f
 obtain ⟨v, p', s', e, _, _, hp, hp'⟩ := ztV l hl p s n h0 h1 hn
 rw [e]
 exact ⟨_, _, _, rfl, hp, hp'⟩

theorem spec_l00Src_among_ok (l : List Int) (hl : Bytes l) (p s : Int) (c : List Int) (hc : 1 ≤ c.length) (hc2 : c.length ≤ 60000) (h0 : 0 ≤ p) (h1 : p ≤ 4611686018427387000) :
  ∃ v p' s', zpJ.f l p s c = some (v, p', s') ∧ v ∈ c ∧ p ≤ p' ∧ p' ≤ p + 2 := by
 unfold zpJ.f
 obtain ⟨v, p', s', e, v0, v1, hp, hp'⟩ := ztV l hl p s (c.length : Int) h0 h1 (by omega)
 have := v1 (by omega)
 obtain ⟨q, rfl⟩ : ∃ q : Nat, v = q := ⟨v.toNat, by omega⟩
 rw [e, Option.bind_some, if_pos v0, if_pos this, zcC c q (by omega)]
 exact ⟨_, _, _, rfl, List.getElem_mem _, hp, hp'⟩

theorem spec_l00Min_eq (a b : Int) : zmO.f a b = some (if a < b then a else b) := by unfold zmO.f; exact some_ite _ _ _

theorem spec_l05Parts_l0 (l : List Int) (hl : Bytes l) : ∀ (n k : Nat) (t p s : Int) (o : List Int), n + 1 ≤ k → (n : Int) + 1 ≤ t → t ≤ 16 → o.length + n ≤ 1000 → 0 ≤ p → p + 4 * n ≤ 4611686018427386000 →
  ∃ q p' s', zfT.l0 k ((n : Int) + 1) t o l p s = some (o ++ q, p', s') ∧ q.length = n + 1 ∧ (∀ x ∈ q, 1 ≤ x ∧ x ≤ t) ∧ q.sum = t ∧ p ≤ p' ∧ p' ≤ p + 4 * n
 | 0, k, t, p, s, o, hk, ht, ht2, ho, hp, hp2 => by
  obtain ⟨k, rfl⟩ : ∃ m, k = m + 1 := ⟨k - 1, by omega⟩
  simp only [zfT.l0]
  rw [if_neg (by omega), if_pos (by omega)]
  exact ⟨[t], p, s, rfl, rfl, by simp; omega, by simp, by omega, by omega⟩
 | n + 1, k, t, p, s, o, hk, ht, ht2, ho, hp, hp2 => by
  obtain ⟨k, rfl⟩ : ∃ m, k = m + 1 := ⟨k - 1, by omega⟩
  obtain ⟨v, p1, s1, e1, v0, v1, g1, g1'⟩ := ztV l hl p s 6 hp (by omega) (by omega)
  have v2 := v1 (by omega)
  have ew : wrap64 (wrap64 (t - (((n + 1 : Nat) : Int) + 1)) + 1) = t - n - 1 := by rw [w64 (n := t - _) (by omega) (by omega), w64 (by omega) (by omega)]; omega
  have ew2 : wrap64 (1 + v) = 1 + v := w64 (by omega) (by omega)
  obtain ⟨r, hr⟩ : ∃ r : Int, r = if t - n - 1 < 1 + v then t - n - 1 else 1 + v := ⟨_, rfl⟩
  have hr1 : 1 ≤ r ∧ r ≤ t - n - 1 := by rw [hr]; split <;> omega
  obtain ⟨w, p2, s2, e2, w0, w1, g2, g2'⟩ := ztV l hl p1 s1 r (by omega) (by omega) (by omega)
  have w2 := w1 hr1.1
  have ew3 : wrap64 (1 + w) = 1 + w := w64 (by omega) (by omega)
  have ew4 : wrap64 (t - (1 + w)) = t - (1 + w) := w64 (by omega) (by omega)
  have ew5 : wrap64 (((n + 1 : Nat) : Int) + 1 - 1) = (n : Int) + 1 := by rw [w64 (by omega) (by omega)]; omega
  obtain ⟨q, p', s', e, hq, hq2, hq3, hq4, hq5⟩ := spec_l05Parts_l0 l hl n k (t - (1 + w)) p2 s2 (o ++ [1 + w]) (by omega) (by omega) (by omega) (by simp; omega) (by omega) (by omega)
  simp only [zfT.l0]
  rw [if_pos (by omega), e1, Option.bind_some, ew, ew2, spec_l00Min_eq, ← hr, Option.bind_some]
  simp only [e2, Option.bind_some, ew3, ew4, ew5]
  rw [if_pos (by omega), e]
  refine ⟨(1 + w) :: q, p', s', by rw [List.append_assoc]; rfl, by simp [hq], ?_, by rw [List.sum_cons, hq3]; omega, by omega, by omega⟩
  intro x hx
  rcases List.mem_cons.1 hx with rfl | hx
  ·omega
  ·have := hq2 x hx; omega
theorem spec_l05Parts_ok (l : List Int) (hl : Bytes l) (k : Nat) (n t p s : Int) (hk : 20 ≤ k) (hn : 1 ≤ n) (hnt : n ≤ t) (ht : t ≤ 16) (hp : 0 ≤ p) (hp2 : p ≤ 4000000000000000000) :
  ∃ q p' s', zfT.f k l p s n t = some (q, p', s') ∧ (q.length : Int) = n ∧ (∀ x ∈ q, 1 ≤ x ∧ x ≤ t) ∧ q.sum = t ∧ p ≤ p' ∧ p' ≤ p + 100 := by
 obtain ⟨m, rfl⟩ : ∃ m : Nat, n = (m : Int) + 1 := ⟨(n - 1).toNat, by omega⟩
 obtain ⟨q, p', s', e, a, b, c, d, f⟩ := spec_l05Parts_l0 l hl m k t p s [] (by omega) hnt ht (by simp; omega) hp (by omega)
 unfold zfT.f
 exact ⟨q, p', s', e, by omega, b, c, d, by omega⟩

theorem spec_l00Own_eq (l : List Int) (hl : l.length ≤ 1048576) : znA.f l = some l := by
 unfold znA.f
 rw [Option.bind_some, if_pos (by simp; omega)]
 rfl

theorem spec_l05Rotated_eq (l : List Int) (i : Nat) (hl : l.length ≤ 1048576) (hi : i ≤ l.length) : zrU.f l (i : Int) = some (l.drop i ++ l.take i) := by
 unfold zrU.f
 rw [if_pos (by omega), if_pos (by omega), Int.toNat_natCast, spec_l00Own_eq _ (by rw [List.length_drop]; omega), Option.bind_some, if_pos (by rw [List.length_drop, List.length_take]; omega)]

theorem drop_take_sum (l : List Int) (i : Nat) : (l.drop i ++ l.take i).sum = l.sum := by rw [List.sum_append, Int.add_comm, ← List.sum_append, List.take_append_drop]
theorem drop_take_mem {l : List Int} {i : Nat} {x : Int} (h : x ∈ l.drop i ++ l.take i) : x ∈ l := by
 rcases List.mem_append.1 h with h | h
 ·exact List.mem_of_mem_drop h
 ·exact List.mem_of_mem_take h
theorem drop_take_length (l : List Int) (i : Nat) : (l.drop i ++ l.take i).length = l.length := by rw [List.length_append, List.length_drop, List.length_take]; omega
theorem spec_l05DrawFlat_l0 (a b l : List Int) (p s : Int) (hab : a.length = b.length) (ha : a.length ≤ 100) : ∀ (d k j : Nat) (o : List Int), j + d = a.length → d < k → o.length ≤ 2 * j →
  ∃ q, zaF.l0 k a b o (j : Int) l p s = some (o ++ q, p, s) ∧ q.length = 2 * d ∧ (∀ x ∈ q, x ∈ a ∨ x ∈ b) ∧ q.sum = (a.drop j).sum + (b.drop j).sum ∧ alt q = (a.drop j).sum - (b.drop j).sum
 | 0, k, j, o, hd, hk, ho => by
  obtain ⟨k, rfl⟩ : ∃ m, k = m + 1 := ⟨k - 1, by omega⟩
  simp only [zaF.l0]
  rw [if_neg (by omega), List.drop_eq_nil_of_le (by omega), List.drop_eq_nil_of_le (by omega)]
  exact ⟨[], by simp, rfl, by simp, by simp, by simp [alt]⟩
 | d + 1, k, j, o, hd, hk, ho => by
  obtain ⟨k, rfl⟩ : ∃ m, k = m + 1 := ⟨k - 1, by omega⟩
  obtain ⟨q, e, h1, h2, h3, h4⟩ := spec_l05DrawFlat_l0 a b l p s hab ha d k (j + 1) (o ++ [a[j], b[j]]) (by omega) (by omega) (by simp; omega)
  simp only [zaF.l0]
  rw [if_pos (by omega), if_pos (by omega), if_pos (by omega), zcC a j (by omega), zcC b j (by omega), Option.bind_some, if_pos (by simp; omega), succ64 (by omega), e, zxE a j (by omega), zxE b j (by omega)]
  refine ⟨a[j] :: b[j] :: q, by simp, by simp [h1]; omega, ?_, by simp only [List.sum_cons, h3]; omega, by simp only [alt, List.sum_cons, h4]; omega⟩
  intro x hx
  rcases List.mem_cons.1 hx with rfl | hx
  ·exact Or.inl (List.getElem_mem _)
  ·rcases List.mem_cons.1 hx with rfl | hx
   ·exact Or.inr (List.getElem_mem _)
   ·exact h2 x hx
theorem spec_l05DrawFlat_ok (l : List Int) (hl : Bytes l) (k : Nat) (n p s : Int) (hk : 40 ≤ k) (hn : n = 2 ∨ n = 4 ∨ n = 6 ∨ n = 8 ∨ n = 10 ∨ n = 12 ∨ n = 14 ∨ n = 16) (hp : 0 ≤ p) (hp2 : p ≤ 1000000000000) :
  ∃ q p' s', zaF.f k l p s n = some (q, p', s') ∧ zcD q ∧ (q.length : Int) = n ∧ p ≤ p' ∧ p' ≤ p + 300 ∧ alt q = 0 := by
 obtain ⟨m, hm0, hm1, hm2⟩ : ∃ m : Int, wrap64 (Int.tdiv n 2) = m ∧ (1 ≤ m ∧ m ≤ 8) ∧ n = 2 * m := by
  rcases hn with rfl | rfl | rfl | rfl | rfl | rfl | rfl | rfl
  ·exact ⟨1, by decide +kernel, by omega, by omega⟩
  ·exact ⟨2, by decide +kernel, by omega, by omega⟩
  ·exact ⟨3, by decide +kernel, by omega, by omega⟩
  ·exact ⟨4, by decide +kernel, by omega, by omega⟩
  ·exact ⟨5, by decide +kernel, by omega, by omega⟩
  ·exact ⟨6, by decide +kernel, by omega, by omega⟩
  ·exact ⟨7, by decide +kernel, by omega, by omega⟩
  ·exact ⟨8, by decide +kernel, by omega, by omega⟩
 obtain ⟨a, p1, s1, e1, a1, a2, a3, a4, a5⟩ := spec_l05Parts_ok l hl k m 8 p s (by omega) hm1.1 hm1.2 (by omega) hp (by omega)
 obtain ⟨b, p2, s2, e2, b1, b2, b3, b4, b5⟩ := spec_l05Parts_ok l hl k m 8 p1 s1 (by omega) hm1.1 hm1.2 (by omega) (by omega) (by omega)
 obtain ⟨t, p3, s3, e3, c1, c2⟩ := spec_l00Src_one_ok l hl p2 s2 3 (by omega) (by omega) (by omega)
 obtain ⟨k, rfl⟩ : ∃ m, k = m + 1 := ⟨k - 1, by omega⟩
 have fin : ∀ (b' : List Int) (p s : Int), b'.length = a.length → (∀ x ∈ b', 1 ≤ x ∧ x ≤ 8) → b'.sum = 8 → ∃ q, zaF.j0 (k + 1) a b' l p s = some (q, p, s) ∧ zcD q ∧ (q.length : Int) = n ∧ alt q = 0 := by
  intro b' p s h1 h2 h3
  obtain ⟨q, e, g1, g2, g3, g4⟩ := spec_l05DrawFlat_l0 a b' l p s (by omega) (by omega) a.length k 0 [] (by omega) (by omega) (by simp)
  rw [List.nil_append] at e
  simp only [zaF.j0]
  refine ⟨q, e, ⟨by omega, ?_, by rw [g3, List.drop_zero, List.drop_zero]; omega⟩, by omega, by rw [g4, List.drop_zero, List.drop_zero]; omega⟩
  intro x hx
  rcases g2 x hx with h | h
  ·have := a2 x h; omega
  ·have := h2 x h; omega
 unfold zaF.f
 rw [hm0]
 simp only [e1, e2, e3, Option.bind_some]
 by_cases ht : t = true
 ·rw [if_pos ht]
  obtain ⟨v, p4, s4, e4, v0, v1, d1, d2⟩ := ztV l hl p3 s3 m (by omega) (by omega) (by omega)
  have v2 := v1 hm1.1
  obtain ⟨i, rfl⟩ : ∃ i : Nat, v = i := ⟨v.toNat, by omega⟩
  simp only [e4, Option.bind_some]
  rw [spec_l05Rotated_eq a i (by omega) (by omega), Option.bind_some]
  obtain ⟨q, e, h, h', h''⟩ := fin (a.drop i ++ a.take i) p4 s4 (drop_take_length a i) (fun x hx => a2 x (drop_take_mem hx)) (by rw [drop_take_sum, a3])
  exact ⟨q, _, _, e, h, h', by omega, by omega, h''⟩
 ·rw [if_neg ht]
  obtain ⟨q, e, h, h', h''⟩ := fin b p3 s3 (by omega) b2 b3
  exact ⟨q, _, _, e, h, h', by omega, by omega, h''⟩

theorem spec_l05Draw_ok (l : List Int) (hl : Bytes l) (k : Nat) (p s : Int) (hk : 40 ≤ k) (hp : 0 ≤ p) (hp2 : p ≤ 1000000000000) :
  ∃ q p' s', ziM.f k l p s = some (q, p', s') ∧ zcD q := by
 obtain ⟨v, p1, s1, e1, v0, v1, a1, a2⟩ := ztV l hl p s 8 hp (by omega) (by omega)
 obtain ⟨b, p2, s2, e2, b1, b2⟩ := spec_l00Src_one_ok l hl p1 s1 8 (by omega) (by omega) (by omega)
 have fin : ∀ (p s n : Int), 0 ≤ p → p ≤ 2000000000000 → 0 ≤ n → n < 16 → ∃ q p' s', ((zfT.f k l p s (wrap64 (1 + n)) 16).bind fun bt185 => ((zcB.f l bt185.2.1 bt185.2.2 (wrap64 (1 + n))).bind fun bt190 => ((zrU.f bt185.1 bt190.1).bind fun t193 => (some (t193, bt190.2.1, bt190.2.2))))) = some (q, p', s') ∧ zcD q := by
  intro p s n h0 h1 n0 n1
  rw [w64 (n := 1 + n) (by omega) (by omega)]
  obtain ⟨q, p', s', e, c1, c2, c3, c4, c5⟩ := spec_l05Parts_ok l hl k (1 + n) 16 p s (by omega) (by omega) (by omega) (by omega) h0 (by omega)
  obtain ⟨w, p3, s3, e3, w0, w1, d1, d2⟩ := ztV l hl p' s' (1 + n) (by omega) (by omega) (by omega)
  have w2 := w1 (by omega)
  obtain ⟨i, rfl⟩ : ∃ i : Nat, w = i := ⟨w.toNat, by omega⟩
  simp only [e, e3, Option.bind_some]
  rw [spec_l05Rotated_eq q i (by omega) (by omega), Option.bind_some]
  refine ⟨_, _, _, rfl, by rw [drop_take_length]; omega, fun x hx => c2 x (drop_take_mem hx), by rw [drop_take_sum, c3]⟩
 unfold ziM.f
 simp only [e1, e2, Option.bind_some]
 by_cases hb : b = true
 ·rw [if_pos hb]
  obtain ⟨w, p3, s3, e3, w0, w1, d1, d2⟩ := ztV l hl p2 s2 16 (by omega) (by omega) (by omega)
  simp only [e3, Option.bind_some]
  exact fin p3 s3 w (by omega) (by omega) w0 (w1 (by omega))
 ·rw [if_neg hb]
  have := v1 (by omega)
  exact fin p2 s2 v (by omega) (by omega) v0 (by omega)

theorem spec_A2Sectors_ok (l : List Int) (hl : Bytes l) (k : Nat) (hk : 40 ≤ k) : ∃ q, zyA.f k l = some q ∧ zcD q := by
 unfold zyA.f zqP.f
 obtain ⟨b, p1, s1, e1, b1, b2⟩ := spec_l00Src_one_ok l hl 0 0 2 (by omega) (by omega) (by omega)
 simp only [Option.bind_some, e1]
 by_cases hb : b = true
 ·rw [if_pos hb]
  obtain ⟨v, p2, s2, e2, v1, c1, c2⟩ := spec_l00Src_among_ok l hl p1 s1 [2, 4, 4, 6, 8] (by simp) (by simp) (by omega) (by omega)
  simp only [Option.bind_some, e2]
  obtain ⟨q, p3, s3, e3, h, _⟩ := spec_l05DrawFlat_ok l hl k v p2 s2 hk (by simp at v1; omega) (by omega) (by omega)
  rw [e3]
  exact ⟨q, rfl, h⟩
 ·rw [if_neg hb]
  obtain ⟨q, p3, s3, e3, h⟩ := spec_l05Draw_ok l hl k p1 s1 hk (by omega) (by omega)
  rw [e3]
  exact ⟨q, rfl, h⟩

theorem impl_sumOf_l0 (l : List Int) (hl : l.length ≤ 1048576) (hb : ∀ x ∈ l, -1048576 ≤ x ∧ x ≤ 1048576) : ∀ (d k j : Nat) (s : Int), j + d = l.length → d < k → -(1048576 * (j : Int)) ≤ s → s ≤ 1048576 * j →
  zcG.l0 k s l (l.length : Int) (j : Int) = some (s + (l.drop j).sum)
 | 0, k, j, s, hd, hk, h0, h1 => by
  obtain ⟨k, rfl⟩ : ∃ m, k = m + 1 := ⟨k - 1, by omega⟩
  simp only [zcG.l0]
  rw [if_neg (by omega), List.drop_eq_nil_of_le (by omega)]
  simp
 | d + 1, k, j, s, hd, hk, h0, h1 => by
  obtain ⟨k, rfl⟩ : ∃ m, k = m + 1 := ⟨k - 1, by omega⟩
  have h := hb l[j] (List.getElem_mem (by omega))
  simp only [zcG.l0]
  rw [if_pos (by omega), if_pos (by omega), if_pos (by omega), zcC l j (by omega), zxE l j (by omega), w64 (by omega) (by omega), succ64 (by omega),
   impl_sumOf_l0 l hl hb d k (j + 1) _ (by omega) (by omega) (by omega) (by omega), List.sum_cons, Int.add_assoc]
theorem impl_sumOf_eq (l : List Int) (hl : l.length ≤ 1048576) (hb : ∀ x ∈ l, -1048576 ≤ x ∧ x ≤ 1048576) (k : Nat) (hk : l.length < k) : zcG.f k l = some l.sum := by
 unfold zcG.f
 have := impl_sumOf_l0 l hl hb l.length k 0 0 (by omega) hk (by omega) (by omega)
 rw [show ((0 : Nat) : Int) = 0 from rfl] at this
 rw [this, List.drop_zero, Int.zero_add]

theorem impl_within_eq (a b c : Int) : zrP.f a b c = some (decide (b ≤ a ∧ a ≤ c)) := by
 unfold zrP.f
 by_cases h : b ≤ a <;> simp [h]

theorem zrQ (l : List Int) (hl : l.length ≤ 1048576) (k : Nat) (hk : l.length < k) : zfO.f k l = some (decide (zcD l)) := by
 unfold zfO.f
 rw [zjN.eq_any (fun x => !decide (1 ≤ x ∧ x ≤ 16)) l (fun x _ => by unfold zvU.f; rw [impl_within_eq, Option.bind_some]), any_not l (fun x => 1 ≤ x ∧ x ≤ 16)]
 by_cases h : l.length ≤ 16
 ·rw [if_pos (by omega), Option.bind_some]
  by_cases h2 : ∀ x ∈ l, 1 ≤ x ∧ x ≤ 16
  ·rw [decide_eq_true h2, if_neg (by simp), impl_sumOf_eq l hl (fun x hx => by have := h2 x hx; omega) k hk, Option.bind_some]
   congr 1
   by_cases h3 : l.sum = 16
   ·rw [decide_eq_true (show zcD l from ⟨h, h2, h3⟩)]; simpa using h3
   ·rw [decide_eq_false (fun c : zcD l => h3 c.2.2)]; simpa using h3
  ·rw [decide_eq_false h2, if_pos (by simp), decide_eq_false (fun c : zcD l => h2 c.2.1)]
 ·rw [if_neg (by omega), decide_eq_false (fun c : zcD l => h c.1)]

theorem impl_DirectionsOf_l0 (l : List Int) (hl : l.length ≤ 1048576) (hb : ∀ x ∈ l, 1 ≤ x ∧ x ≤ 16) : ∀ (d k j : Nat) (f : Int) (o : List Int), j + d = l.length → d < k → 0 ≤ f → f ≤ 9000000000 → o.length ≤ j →
  zkC.l0 k f o l (l.length : Int) (j : Int) = some (dirsF f o (l.drop j))
 | 0, k, j, f, o, hd, hk, h0, h1, ho => by
  obtain ⟨k, rfl⟩ : ∃ m, k = m + 1 := ⟨k - 1, by omega⟩
  simp only [zkC.l0]
  rw [if_neg (by omega), List.drop_eq_nil_of_le (by omega)]; rfl
 | d + 1, k, j, f, o, hd, hk, h0, h1, ho => by
  obtain ⟨k, rfl⟩ : ∃ m, k = m + 1 := ⟨k - 1, by omega⟩
  have h := hb l[j] (List.getElem_mem (by omega))
  simp only [zkC.l0]
  rw [if_pos (by omega), if_pos (by omega), if_pos (by omega), zxE l j (by omega)]
  by_cases hf : f ≥ 16
  ·rw [if_pos hf]; simp only [dirsF, if_pos hf]
  ·rw [if_neg hf, if_pos (by omega), zcC l j (by omega), w64 (by omega) (by omega), succ64 (by omega), impl_DirectionsOf_l0 l hl hb d k (j + 1) _ _ (by omega) (by omega) (by omega) (by omega) (by simp; omega)]
   simp only [dirsF, if_neg hf]
theorem impl_DirectionsOf_eq (f : Int) (l : List Int) (hl : l.length ≤ 1048576) (k : Nat) (hk : l.length + 1 < k) : zkC.f k f l = some (if zcD l ∧ 0 ≤ f ∧ f ≤ 15 then dirsF f [] l else ([], false)) := by
 unfold zkC.f
 rw [zrQ l hl k (by omega), Option.bind_some]
 obtain ⟨k, rfl⟩ : ∃ m, k = m + 1 := ⟨k - 1, by omega⟩
 simp only [zkC.j0, impl_within_eq, Option.bind_some]
 by_cases h : zcD l
 ·rw [if_pos (by simp [h])]
  by_cases hf : 0 ≤ f ∧ f ≤ 15
  ·rw [if_neg (by simp [hf]), if_pos ⟨h, hf⟩]
   exact impl_DirectionsOf_l0 l hl h.2.1 l.length k 0 f [] (by omega) (by omega) hf.1 (by omega) (by simp)
  ·rw [if_pos (by simp only [decide_eq_false hf, Bool.not_false]), if_neg (fun c => hf c.2)]
 ·rw [if_neg (by simp [h]), if_pos trivial, if_neg (fun c => h c.1)]

theorem impl_isRising_l0 (l : List Int) (lo hi : Int) (hl : l.length ≤ 1048576) : ∀ (d k j : Nat), j + d = l.length → d < k → zjB.l0 k l lo hi l (l.length : Int) (j : Int) = some (rises lo hi (prevOf l j) (l.drop j))
 | 0, k, j, hd, hk => by
  obtain ⟨k, rfl⟩ : ∃ m, k = m + 1 := ⟨k - 1, by omega⟩
  simp only [zjB.l0]
  rw [if_neg (by omega), List.drop_eq_nil_of_le (by omega)]; rfl
 | d + 1, k, j, hd, hk => by
  obtain ⟨k, rfl⟩ : ∃ m, k = m + 1 := ⟨k - 1, by omega⟩
  have ih := impl_isRising_l0 l lo hi hl d k (j + 1) (by omega) (by omega)
  rw [show prevOf l (j + 1) = some l[j] by unfold prevOf; rw [if_neg (by omega), Nat.add_sub_cancel, List.getElem?_eq_getElem (by omega)]] at ih
  simp only [zjB.l0]
  rw [if_pos (by omega), if_pos (by omega), if_pos (by omega), zcC l j (by omega), impl_within_eq, Option.bind_some, zxE l j (by omega), succ64 (by omega), ih]
  by_cases h : lo ≤ l[j] ∧ l[j] ≤ hi
  ·rw [if_pos (by simp [h])]
   by_cases hj : j = 0
   ·subst hj
    rw [if_neg (by omega)]
    simp [rises, prevOf, h]
   ·rw [if_pos (by omega), pred64 (by omega) (by omega), if_pos (by omega), if_pos (by omega), zcC l (j - 1) (by omega)]
    have ha : prevOf l j = some l[j - 1] := by unfold prevOf; rw [if_neg hj, List.getElem?_eq_getElem (by omega)]
    by_cases hq : l[j] ≤ l[j - 1]
    ·rw [if_pos (by omega), ha]
     have hq' : ¬ l[j - 1] < l[j] := by omega
     simp [rises, hq']
    ·rw [if_neg (by omega), ha]
     have : l[j - 1] < l[j] := by omega
     simp [rises, h, this]
  ·rw [if_neg (by simp [h])]
   simp only [rises, decide_eq_false h, Bool.false_and]
theorem impl_isRising_eq (l : List Int) (lo hi : Int) (hl : l.length ≤ 1048576) (k : Nat) (hk : l.length < k) : zjB.f k l lo hi = some (rises lo hi none l) :=
 impl_isRising_l0 l lo hi hl l.length k 0 (by omega) hk

theorem impl_sectorsOf_l0 (l : List Int) (hl : l.length ≤ 1048576) (hb : ∀ x ∈ l, 0 ≤ x ∧ x ≤ 15) : ∀ (d k j : Nat) (o : List Int), j + d = l.length → d < k → o.length ≤ j →
  znC.l0 k l o l (l.length : Int) (j : Int) = some (o ++ gaps (rd l 0) (l.drop j))
 | 0, k, j, o, hd, hk, ho => by
  obtain ⟨k, rfl⟩ : ∃ m, k = m + 1 := ⟨k - 1, by omega⟩
  simp only [znC.l0]
  rw [if_neg (by omega), List.drop_eq_nil_of_le (by omega)]
  simp [gaps]
 | d + 1, k, j, o, hd, hk, ho => by
  obtain ⟨k, rfl⟩ : ∃ m, k = m + 1 := ⟨k - 1, by omega⟩
  have h := hb l[j] (List.getElem_mem (by omega))
  have h0 := hb l[0] (List.getElem_mem (by omega))
  have e0 : rd l 0 = l[0] := zcC l 0 (by omega)
  simp only [znC.l0]
  rw [if_pos (by omega), if_pos (by omega), if_pos (by omega), if_pos (by omega), succ64 (by omega), zcC l j (by omega), zxE l j (by omega)]
  cases d with
  | zero =>
   rw [if_neg (by omega), if_pos (by omega), e0, w64 (n := l[0] + 16) (by omega) (by omega), w64 (n := l[0] + 16 - l[j]) (by omega) (by omega), ← e0, impl_sectorsOf_l0 l hl hb 0 k (j + 1) _ (by omega) (by omega) (by simp; omega), List.drop_eq_nil_of_le (by omega)]
   simp [gaps]
  | succ d =>
   have h1 := hb l[j + 1] (List.getElem_mem (by omega))
   rw [if_pos (by omega), if_pos (by omega), if_pos (by omega), zcC l (j + 1) (by omega), w64 (n := l[j + 1] - l[j]) (by omega) (by omega), impl_sectorsOf_l0 l hl hb (d + 1) k (j + 1) _ (by omega) (by omega) (by simp; omega), zxE l (j + 1) (by omega)]
   simp only [gaps, List.append_assoc, List.singleton_append]
theorem impl_sectorsOf_eq (l : List Int) (hl : l.length ≤ 1048576) (hb : ∀ x ∈ l, 0 ≤ x ∧ x ≤ 15) (k : Nat) (hk : l.length < k) : znC.f k l = some (gaps (rd l 0) l) := by
 unfold znC.f
 have := impl_sectorsOf_l0 l hl hb l.length k 0 [] (by omega) hk (by simp)
 simpa using this

theorem impl_SectorsOf_eq (l : List Int) (hl : l.length ≤ 1048576) (k : Nat) (hk : l.length + 1 < k) : zvJ.f k l = some (if l.length ≠ 0 ∧ rises 0 15 none l = true then (gaps (rd l 0) l, true) else ([], false)) := by
 unfold zvJ.f
 rw [impl_isRising_eq l 0 15 hl k (by omega), Option.bind_some]
 by_cases h0 : l.length = 0
 ·rw [if_pos (by omega), if_neg (fun c => c.1 h0)]
 ·rw [if_neg (by omega)]
  by_cases h : rises 0 15 none l = true
  ·rw [if_pos h, if_pos ⟨h0, h⟩, impl_sectorsOf_eq l hl (rises_mem h) k (by omega)]; rfl
  ·rw [if_neg h, if_neg (fun c => h c.2)]

theorem laws_a2Same_l0 (a b : List Int) (hl : a.length ≤ 1048576) (hab : a.length = b.length) : ∀ (d k j : Nat), j + d = a.length → d < k →
  zwI.l0 k a b (j : Int) = some (decide (a.drop j = b.drop j))
 | 0, k, j, hd, hk => by
  obtain ⟨k, rfl⟩ : ∃ m, k = m + 1 := ⟨k - 1, by omega⟩
  simp only [zwI.l0]
  rw [if_neg (by omega), List.drop_eq_nil_of_le (by omega), List.drop_eq_nil_of_le (by omega)]
  simp
 | d + 1, k, j, hd, hk => by
  obtain ⟨k, rfl⟩ : ∃ m, k = m + 1 := ⟨k - 1, by omega⟩
  simp only [zwI.l0]
  rw [if_pos (by omega), if_pos (by omega), if_pos (by omega), zcC a j (by omega), zcC b j (by omega), succ64 (by omega), zxE a j (by omega), zxE b j (by omega)]
  by_cases h : a[j] = b[j]
  ·rw [if_pos h, laws_a2Same_l0 a b hl hab d k (j + 1) (by omega) (by omega)]
   simp only [List.cons.injEq, h, true_and]
  ·rw [if_neg h]
   simp only [List.cons.injEq, h, false_and, decide_false]
theorem laws_a2Same_eq (a b : List Int) (hl : a.length ≤ 1048576) (k : Nat) (hk : a.length < k) : zwI.f k a b = some (decide (a = b)) := by
 unfold zwI.f
 by_cases h : a.length = b.length
 ·rw [if_pos (by omega)]
  have := laws_a2Same_l0 a b hl h a.length k 0 (by omega) hk
  rw [show ((0 : Nat) : Int) = 0 from rfl, List.drop_zero, List.drop_zero] at this
  exact this
 ·rw [if_neg (by omega), decide_eq_false (fun c => h (by rw [c]))]

theorem zeL (l : List Int) (hl : l.length ≤ 1048576) : ∀ (d k i : Nat) (o : List Int), l.length - 2 * i ≤ d → d < k → 2 * i ≤ l.length → 1 ≤ l.length → o.length = l.length →
  (∀ m, m < l.length → o[m]? = if m < i ∨ l.length - 1 - i < m then l[l.length - 1 - m]? else l[m]?) →
  zbO.l0 k o (i : Int) ((l.length : Int) - 1 - i) = some l.reverse
 | d, k, i, o, hd, hk, hi, hp, ho, h => by
  obtain ⟨k, rfl⟩ : ∃ m, k = m + 1 := ⟨k - 1, by omega⟩
  simp only [zbO.l0]
  by_cases hc : (i : Int) < (l.length : Int) - 1 - i
  ·match d, hd, hk with
   | 0, hd, _ => omega
   | d + 1, hd, hk =>
   have ej : ((l.length : Int) - 1 - i) = ((l.length - 1 - i : Nat) : Int) := by omega
   rw [if_pos hc, if_pos (by omega), if_pos (by omega), if_pos (by omega), if_pos (by omega), ej, zcC o (l.length - 1 - i) (by omega), zcC o i (by omega), succ64 (by omega), pred64 (by omega) (by omega), Int.toNat_natCast, Int.toNat_natCast]
   have e2 : ((l.length - 1 - i - 1 : Nat) : Int) = (l.length : Int) - 1 - ((i + 1 : Nat) : Int) := by omega
   rw [e2]
   refine zeL l hl d k (i + 1) _ (by omega) (by omega) (by omega) hp (by simpa using ho) (fun m hm => ?_)
   have a1 : o[i] = l[i] := by
    have := h i (by omega)
    rw [if_neg (by omega), List.getElem?_eq_getElem (by omega), List.getElem?_eq_getElem (by omega)] at this
    exact Option.some.inj this
   have a2 : o[l.length - 1 - i] = l[l.length - 1 - i] := by
    have := h (l.length - 1 - i) (by omega)
    rw [if_neg (by omega), List.getElem?_eq_getElem (by omega), List.getElem?_eq_getElem (by omega)] at this
    exact Option.some.inj this
   by_cases m1 : m = l.length - 1 - i
   ·subst m1
    rw [List.getElem?_set_self (by simp; omega), if_pos (by omega), a1, show l.length - 1 - (l.length - 1 - i) = i by omega, List.getElem?_eq_getElem (by omega)]
   ·rw [List.getElem?_set_ne (by omega)]
    by_cases m2 : m = i
    ·subst m2
     rw [List.getElem?_set_self (by omega), if_pos (by omega), a2, List.getElem?_eq_getElem (by omega)]
    ·rw [List.getElem?_set_ne (by omega), h m hm]
     by_cases m3 : m < i ∨ l.length - 1 - i < m
     ·rw [if_pos m3, if_pos (by omega)]
     ·rw [if_neg m3, if_neg (by omega)]
  ·rw [if_neg hc]
   congr 1
   refine List.ext_getElem? (fun m => ?_)
   by_cases hm : m < l.length
   ·rw [h m hm, List.getElem?_reverse hm]
    by_cases m3 : m < i ∨ l.length - 1 - i < m
    ·rw [if_pos m3]
    ·rw [if_neg m3, show l.length - 1 - m = m by omega]
   ·rw [List.getElem?_eq_none (by omega), List.getElem?_eq_none (by rw [List.length_reverse]; omega)]
theorem slices_Reverse_int64_int64_eq (l : List Int) (hl : l.length ≤ 1048576) (k : Nat) (hk : l.length + 1 < k) : zbO.f k l = some l.reverse := by
 unfold zbO.f
 rw [w64 (by omega) (by omega)]
 by_cases h : l.length = 0
 ·have : l = [] := List.length_eq_zero_iff.1 h
  subst this
  obtain ⟨k, rfl⟩ : ∃ m, k = m + 1 := ⟨k - 1, by omega⟩
  simp [zbO.l0]
 ·have := zeL l hl l.length k 0 l (by omega) (by omega) (by omega) (by omega) rfl (fun m hm => by rw [if_neg (by omega)])
  simpa using this

theorem impl_mirrored_eq (l : List Int) (hl : l.length ≤ 1048576) (k : Nat) (hk : l.length + 1 < k) : ziP.f k l = some l.reverse := by
 unfold ziP.f zzO.f
 rw [if_pos (by omega), Option.bind_some, slices_Reverse_int64_int64_eq l hl k hk]; rfl

theorem slices_Concat_int64_int64_two (a b : List Int) (hl : a.length + b.length ≤ 1048576) (k : Nat) (hk : 6 ≤ k) : zxA.f k [a, b] = some (a ++ b) := by
 obtain ⟨k, rfl⟩ : ∃ m, k = m + 6 := ⟨k - 6, by omega⟩
 have r0 : znM [a, b] 0 = a := rfl
 have r1 : znM [a, b] 1 = b := rfl
 have e0 : wrap64 (a.length : Int) = a.length := by rw [w64 (by omega) (by omega)]
 have e1 : wrap64 ((a.length : Int) + (b.length : Int)) = (a.length : Int) + b.length := w64 (by omega) (by omega)
 have e2 : wrap64 1 = 1 := w64 (n := 1) (by omega) (by omega)
 have e3 : wrap64 2 = 2 := w64 (n := 2) (by omega) (by omega)
 have n0 : ¬ ((a.length : Int) < 0) := by omega
 have n1 : ¬ ((a.length : Int) + (b.length : Int) < 0) := by omega
 have g : zkT.f ((a.length : Int) + b.length) = some [] := by unfold zkT.f; rw [if_pos (by omega)]
 have c1 : a.length < 17592186044416 := by omega
 have c2 : a.length + b.length < 17592186044416 := by omega
 unfold zxA.f
 simp [zxA.l0, zxA.l1, r0, r1, e0, e1, e2, e3, n0, n1, g, c1, c2]

theorem znB (l : List Int) (i : Nat) (hl : l.length ≤ 1048576) (hi : i ≤ l.length) (k : Nat) (hk : 6 ≤ k) : ztW.f k l (i : Int) = some (l.drop i ++ l.take i) := by
 unfold ztW.f
 rw [if_pos (by omega), if_pos (by omega), Int.toNat_natCast, slices_Concat_int64_int64_two _ _ (by rw [List.length_drop, List.length_take]; omega) k hk]
 rfl

theorem cmp_int64 (a b : Int) : cmp_Compare_int64.f a b = some (if a < b then -1 else if a > b then 1 else 0) := by
 unfold cmp_Compare_int64.f cmp_isNaN_int64.f
 simp only [bne_self_eq_false, Option.bind_some, Bool.false_eq_true, if_false]
 by_cases h : a < b
 ·simp [h]
 ·rw [if_neg h, if_neg h]; by_cases h2 : a > b <;> simp [h2]
theorem zxB (a b : List Int) (ha : a.length ≤ 1048576) (hb : b.length ≤ 1048576) : ∀ (d k j : Nat), j + d = a.length → d + 1 ≤ k → j ≤ b.length →
  zbU.l0 k a b a (a.length : Int) (j : Int) = some (lexCmp (a.drop j) (b.drop j))
 | 0, k, j, hd, hk, hj => by
  obtain ⟨k, rfl⟩ : ∃ m, k = m + 1 := ⟨k - 1, by omega⟩
  simp only [zbU.l0]
  rw [if_neg (by omega), List.drop_eq_nil_of_le (by omega : a.length ≤ j)]
  by_cases h : j < b.length
  ·rw [if_pos (by omega), zxE b j h]; rfl
  ·rw [if_neg (by omega), List.drop_eq_nil_of_le (by omega : b.length ≤ j)]; rfl
 | d + 1, k, j, hd, hk, hj => by
  obtain ⟨k, rfl⟩ : ∃ m, k = m + 1 := ⟨k - 1, by omega⟩
  simp only [zbU.l0]
  rw [if_pos (by omega), if_pos (by omega), if_pos (by omega), zxE a j (by omega)]
  by_cases h : j < b.length
  ·rw [if_neg (by omega), if_pos (by omega), zcC a j (by omega), zcC b j h, cmp_int64, Option.bind_some, zxE b j h, succ64 (by omega)]
   simp only [lexCmp]
   by_cases h2 : a[j] < b[j]
   ·simp only [if_pos h2]; rfl
   ·simp only [if_neg h2]
    by_cases h3 : a[j] > b[j]
    ·simp only [if_pos h3]; rfl
    ·simp only [if_neg h3, if_true]
     exact zxB a b ha hb d k (j + 1) (by omega) (by omega) (by omega)
  ·rw [if_pos (by omega), List.drop_eq_nil_of_le (by omega : b.length ≤ j)]; rfl
theorem zhA (a b : List Int) (ha : a.length ≤ 1048576) (hb : b.length ≤ 1048576) (k : Nat) (hk : a.length + 1 ≤ k) : zbU.f k a b = some (lexCmp a b) := by
 unfold zbU.f
 have := zxB a b ha hb a.length k 0 (by omega) hk (by omega)
 simpa using this

theorem impl_canonical_l0 (l : List Int) (hl : l.length ≤ 1048576) : ∀ (d k j : Nat) (b : List Int), j + d = l.length → 4 * d + 2 * l.length + 20 ≤ k → b.length = l.length →
  zzN.l0 k l b (l.length : Int) (j : Int) = some (least l d j b)
 | 0, k, j, b, hd, hk, hb => by
  obtain ⟨k, rfl⟩ : ∃ m, k = m + 1 := ⟨k - 1, by omega⟩
  simp only [zzN.l0]
  rw [if_neg (by omega)]; rfl
 | d + 1, k, j, b, hd, hk, hb => by
  obtain ⟨k, rfl⟩ : ∃ m, k = m + 4 := ⟨k - 4, by omega⟩
  have hr : (rot l j).length = l.length := zfX l j (by omega)
  have hr2 : (rot l.reverse j).length = l.length := by rw [zfX _ _ (by rw [List.length_reverse]; omega), List.length_reverse]
  have e0 : znM [l, l.reverse] 0 = l := rfl
  have e1 : znM [l, l.reverse] 1 = l.reverse := rfl
  have w1 : wrap64 (0 + 1) = 1 := w64 (n := 0 + 1) (by omega) (by omega)
  have w2 : wrap64 (1 + 1) = 2 := w64 (n := 1 + 1) (by omega) (by omega)
  have s2 : ∀ b : List Int, b.length = l.length → zzN.l1 (k + 1) l b (j : Int) (l.length : Int) (j : Int) [l, l.reverse] 2 2 = some (least l d (j + 1) b) := by
   intro b hb
   simp only [zzN.l1]
   rw [if_neg (by omega), succ64 (by omega)]
   exact impl_canonical_l0 l hl d k (j + 1) b (by omega) (by omega) hb
  have s1 : ∀ b : List Int, b.length = l.length → zzN.l1 (k + 2) l b (j : Int) (l.length : Int) (j : Int) [l, l.reverse] 2 1 = some (least l d (j + 1) (lesser (rot l.reverse j) b)) := by
   intro b hb
   rw [zzN.l1]
   rw [if_pos (by omega), if_pos (by omega), if_pos (by simp), e1, znB _ j (by rw [List.length_reverse]; omega) (by rw [List.length_reverse]; omega) _ (by omega), Option.bind_some, show l.reverse.drop j ++ l.reverse.take j = rot l.reverse j from rfl, zhA _ _ (by omega) (by omega) _ (by omega), Option.bind_some, w2, s2 _ hr2, s2 _ hb]
   unfold lesser
   rw [← lexCmp_lt]
   by_cases h : lexCmp (rot l.reverse j) b < 0 <;> simp [h]
  have s0 : ∀ b : List Int, b.length = l.length → zzN.l1 (k + 3) l b (j : Int) (l.length : Int) (j : Int) [l, l.reverse] 2 0 = some (least l d (j + 1) (lesser (rot l.reverse j) (lesser (rot l j) b))) := by
   intro b hb
   rw [zzN.l1]
   rw [if_pos (by omega), if_pos (by omega), if_pos (by simp), e0, znB _ j (by omega) (by omega) _ (by omega), Option.bind_some, show l.drop j ++ l.take j = rot l j from rfl, zhA _ _ (by omega) (by omega) _ (by omega), Option.bind_some, w1, s1 _ hr, s1 _ hb]
   rw [show lesser (rot l j) b = if zlU (rot l j) b = true then rot l j else b from rfl, ← lexCmp_lt]
   by_cases h : lexCmp (rot l j) b < 0 <;> simp [h]
  rw [zzN.l0]
  rw [if_pos (by omega), impl_mirrored_eq l hl _ (by omega), Option.bind_some, Option.bind_some]
  exact s0 b hb
theorem impl_canonical_eq (l : List Int) (hl : l.length ≤ 1048576) (k : Nat) (hk : 6 * l.length + 20 ≤ k) : zzN.f k l = some (least l l.length 0 l) := by
 unfold zzN.f zzO.f
 rw [if_pos (by omega), Option.bind_some]
 have := impl_canonical_l0 l hl l.length k 0 l (by omega) (by omega) rfl
 simpa using this

theorem ztZ (l : List Int) (hl : l.length ≤ 1048576) (k : Nat) (hk : 6 * l.length + 20 ≤ k) : zyD.f k l = some (if zcD l then least l l.length 0 l else []) := by
 unfold zyD.f
 rw [zrQ l hl k (by omega), Option.bind_some, impl_canonical_eq l hl k hk, Option.bind_some]
 by_cases h : zcD l <;> simp [h]

theorem impl_MirrorSectors_eq (l : List Int) (hl : l.length ≤ 1048576) (k : Nat) (hk : l.length + 1 < k) : zkV.f k l = some (if zcD l then l.reverse else []) := by
 unfold zkV.f
 rw [zrQ l hl k (by omega), Option.bind_some, impl_mirrored_eq l hl k (by omega)]
 by_cases h : zcD l <;> simp [h]

theorem impl_RotateSectors_eq (l : List Int) (i : Int) (hl : l.length ≤ 1048576) (k : Nat) (hk : l.length + 10 < k) : zaB.f k l i = some (if zcD l ∧ 0 ≤ i ∧ i ≤ (l.length : Int) - 1 then l.drop i.toNat ++ l.take i.toNat else []) := by
 unfold zaB.f zfN.f
 rw [zrQ l hl k (by omega), Option.bind_some, Option.bind_some, impl_within_eq, w64 (by omega) (by omega)]
 by_cases h : zcD l
 ·rw [if_pos (by simp [h]), Option.bind_some]
  by_cases h2 : 0 ≤ i ∧ i ≤ (l.length : Int) - 1
  ·obtain ⟨j, rfl⟩ : ∃ j : Nat, i = j := ⟨i.toNat, by omega⟩
   rw [if_pos (by simpa using h2.2), znB l j hl (by omega) k (by omega), if_pos ⟨h, h2⟩, Int.toNat_natCast]; rfl
  ·rw [if_neg (by simpa using h2), if_neg (fun c => h2 c.2)]
 ·rw [if_neg (by simp [h]), if_neg (fun c => h c.1)]

theorem laws_a2Less_l0 (a b : List Int) (hab : a.length = b.length) (hl : a.length ≤ 1024) : ∀ (d k j : Nat), j + d = a.length → 2 * d + 2 < k → zlA.l0 k a b (j : Int) = some (lexlt (a.drop j) (b.drop j))
 | 0, k, j, hd, hk => by
  obtain ⟨k, rfl⟩ : ∃ m, k = m + 2 := ⟨k - 2, by omega⟩
  simp only [zlA.l0, zlA.j1]
  rw [if_neg (by omega), if_neg (by simp), List.drop_eq_nil_of_le (by omega), List.drop_eq_nil_of_le (by omega), decide_eq_false (by omega)]
  rfl
 | d + 1, k, j, hd, hk => by
  obtain ⟨k, rfl⟩ : ∃ m, k = m + 2 := ⟨k - 2, by omega⟩
  have ih := laws_a2Less_l0 a b hab hl d k (j + 1) (by omega) (by omega)
  simp only [zlA.l0, zlA.j1]
  rw [if_pos (by omega), decide_eq_true (by omega), if_pos rfl, if_pos (by omega), if_pos (by omega), if_pos (by omega), zcC a j (by omega), zcC b j (by omega), succ64 (by omega), ih, zxE a j (by omega), zxE b j (by omega), lexlt]
  split <;> rfl
theorem laws_a2Less_eq (a b : List Int) (hab : a.length = b.length) (hl : a.length ≤ 1024) (k : Nat) (hk : 2 * a.length + 2 < k) : zlA.f k a b = some (lexlt a b) := by
 unfold zlA.f
 have := laws_a2Less_l0 a b hab hl a.length k 0 (by omega) hk
 simpa using this

theorem zrO (l : List Int) (hl : l.length ≤ 1048576) (hb : ∀ x ∈ l, -1048576 ≤ x ∧ x ≤ 1048576) : ∀ (d k j : Nat) (s : Int), j + d = l.length → d < k → -(1048576 * (j : Int)) ≤ s → s ≤ 1048576 * j →
  zaW.l0 k s l (l.length : Int) (j : Int) = some (s + (if j % 2 = 0 then alt (l.drop j) else -alt (l.drop j)))
 | 0, k, j, s, hd, hk, h0, h1 => by
  obtain ⟨k, rfl⟩ : ∃ m, k = m + 1 := ⟨k - 1, by omega⟩
  simp only [zaW.l0]
  rw [if_neg (by omega), List.drop_eq_nil_of_le (by omega)]
  simp [alt]
 | d + 1, k, j, s, hd, hk, h0, h1 => by
  obtain ⟨k, rfl⟩ : ∃ m, k = m + 1 := ⟨k - 1, by omega⟩
  have h := hb l[j] (List.getElem_mem (by omega))
  simp only [zaW.l0]
  rw [if_pos (by omega), if_pos (by omega), if_pos (by omega), zcC l j (by omega), zxE l j (by omega), succ64 (by omega)]
  by_cases hj : j % 2 = 0
  ·rw [if_pos ((tmod2 _).2 (by omega)), w64 (by omega) (by omega), zrO l hl hb d k (j + 1) _ (by omega) (by omega) (by omega) (by omega), if_neg (show ¬ (j + 1) % 2 = 0 by omega), if_pos hj]
   simp only [alt]; congr 1; omega
  ·rw [if_neg (fun c => by have := (tmod2 _).1 c; omega), w64 (by omega) (by omega), zrO l hl hb d k (j + 1) _ (by omega) (by omega) (by omega) (by omega), if_pos (show (j + 1) % 2 = 0 by omega), if_neg hj]
   simp only [alt]; congr 1; omega
theorem impl_alternating_eq (l : List Int) (hl : l.length ≤ 1048576) (hb : ∀ x ∈ l, -1048576 ≤ x ∧ x ≤ 1048576) (k : Nat) (hk : l.length < k) : zaW.f k l = some (alt l) := by
 unfold zaW.f
 have := zrO l hl hb l.length k 0 0 (by omega) hk (by omega) (by omega)
 rw [show ((0 : Nat) : Int) = 0 from rfl] at this
 rw [this, List.drop_zero]
 simp

theorem impl_AlternatingSum_eq (l : List Int) (hl : l.length ≤ 1048576) (k : Nat) (hk : l.length + 1 < k) : ztP.f k l = some (if zcD l ∧ l.length % 2 = 0 then (alt l, true) else (0, false)) := by
 unfold ztP.f
 rw [zrQ l hl k (by omega), Option.bind_some]
 by_cases h : zcD l
 ·rw [if_pos (by simp [h])]
  by_cases he : l.length % 2 = 0
  ·rw [if_neg (by omega), if_pos ⟨h, he⟩, impl_alternating_eq l hl (fun x hx => by have := h.2.1 x hx; omega) k (by omega)]
   rfl
  ·rw [if_pos (by omega), if_neg (fun c => he c.2)]
 ·rw [if_neg (by simp [h]), if_neg (fun c => h c.1)]

theorem impl_IsKawasaki_eq (l : List Int) (hl : l.length ≤ 1048576) (k : Nat) (hk : l.length + 1 < k) : zmD.f k l = some (decide (zcD l ∧ l.length % 2 = 0 ∧ alt l = 0)) := by
 unfold zmD.f
 rw [impl_AlternatingSum_eq l hl k hk, Option.bind_some]
 by_cases h : zcD l ∧ l.length % 2 = 0
 ·simp only [h, and_self, if_true, true_and]
  congr 1
 ·simp only [h, if_false]
  rw [decide_eq_false (fun c => h ⟨c.1, c.2.1⟩)]
  simp

theorem rdLL_h (l : List (List Int)) (j : Nat) (h : j < l.length) : znM l (j : Int) = l[j] := by
 unfold znM
 rw [Int.toNat_natCast, List.getD_eq_getElem?_getD, List.getElem?_eq_getElem h]
 rfl
theorem laws_a2Has_l0 (L : List (List Int)) (x : List Int) (hL : L.length ≤ 1048576) (hx : ∀ y ∈ L, y.length ≤ 1024) : ∀ (d k j : Nat), j + d = L.length → 1025 + d < k →
  zfH.l0 k L x (j : Int) = some (decide (x ∈ L.drop j))
 | 0, k, j, hd, hk => by
  obtain ⟨k, rfl⟩ : ∃ m, k = m + 1 := ⟨k - 1, by omega⟩
  simp only [zfH.l0]
  rw [if_neg (by omega), List.drop_eq_nil_of_le (by omega)]
  simp
 | d + 1, k, j, hd, hk => by
  obtain ⟨k, rfl⟩ : ∃ m, k = m + 1 := ⟨k - 1, by omega⟩
  have hj : j < L.length := by omega
  have hb := hx _ (List.getElem_mem hj)
  simp only [zfH.l0]
  rw [if_pos (by omega), if_pos (by omega), rdLL_h L j hj, laws_a2Same_eq _ _ (by omega) k (by omega), Option.bind_some, succ64 (by omega), List.drop_eq_getElem_cons hj]
  by_cases h : L[j] = x
  ·rw [decide_eq_true h, if_pos rfl, decide_eq_true (by rw [h]; exact List.mem_cons_self)]
  ·rw [decide_eq_false h, if_neg (by simp), laws_a2Has_l0 L x hL hx d k (j + 1) (by omega) (by omega)]
   congr 1
   rw [decide_eq_decide, List.mem_cons]
   exact ⟨Or.inr, fun c => c.resolve_left (fun e => h e.symm)⟩
theorem laws_a2Has_eq (L : List (List Int)) (x : List Int) (hL : L.length ≤ 1048576) (hx : ∀ y ∈ L, y.length ≤ 1024) (k : Nat) (hk : 1025 + L.length < k) : zfH.f k L x = some (decide (x ∈ L)) := by
 unfold zfH.f
 have := laws_a2Has_l0 L x hL hx L.length k 0 (by omega) (by omega)
 simpa using this

theorem zeU (a b : List Int) (hl : a.length ≤ 1048576) (hab : a.length = b.length) : ∀ (d k j : Nat), j + d = a.length → d < k →
  zdL.l0 k a b (a.length : Int) (j : Int) = some (decide (a.drop j = b.drop j))
 | 0, k, j, hd, hk => by
  obtain ⟨k, rfl⟩ : ∃ m, k = m + 1 := ⟨k - 1, by omega⟩
  simp only [zdL.l0]
  rw [if_neg (by omega), List.drop_eq_nil_of_le (by omega), List.drop_eq_nil_of_le (by omega)]
  simp
 | d + 1, k, j, hd, hk => by
  obtain ⟨k, rfl⟩ : ∃ m, k = m + 1 := ⟨k - 1, by omega⟩
  simp only [zdL.l0]
  rw [if_pos (by omega), if_pos (by omega), if_pos (by omega), if_pos (by omega), zcC a j (by omega), zcC b j (by omega), succ64 (by omega), zxE a j (by omega), zxE b j (by omega)]
  by_cases h : a[j] = b[j]
  ·rw [if_pos h, zeU a b hl hab d k (j + 1) (by omega) (by omega)]
   simp only [List.cons.injEq, h, true_and]
  ·rw [if_neg h]
   simp only [List.cons.injEq, h, false_and, decide_false]
theorem znK (a b : List Int) (hl : a.length ≤ 1048576) (k : Nat) (hk : a.length < k) : zdL.f k a b = some (decide (a = b)) := by
 unfold zdL.f
 by_cases h : a.length = b.length
 ·rw [if_pos (by omega)]
  have := zeU a b hl h a.length k 0 (by omega) hk
  rw [show ((0 : Nat) : Int) = 0 from rfl, List.drop_zero, List.drop_zero] at this
  exact this
 ·rw [if_neg (by omega), decide_eq_false (fun c => h (by rw [c]))]

theorem zrM (l : List Int) (hl : l.length ≤ 1048576) : ∀ (d k j : Nat) (a b : Int), j + d = l.length → 2 * d + 2 * l.length + 10 ≤ k → 0 ≤ a → a ≤ j → 0 ≤ b → b ≤ j →
  zzR.l0 k l a b (l.length : Int) (j : Int) = some (symm l d j a b)
 | 0, k, j, a, b, hd, hk, _, _, _, _ => by
  obtain ⟨k, rfl⟩ : ∃ m, k = m + 2 := ⟨k - 2, by omega⟩
  rw [zzR.l0, if_neg (by omega)]
  rfl
 | d + 1, k, j, a, b, hd, hk, ha, ha2, hb, hb2 => by
  obtain ⟨k, rfl⟩ : ∃ m, k = m + 2 := ⟨k - 2, by omega⟩
  have hr : (rot l j).length = l.length := zfX l j (by omega)
  have hr2 : (rot l.reverse j).length = l.length := by rw [zfX _ _ (by rw [List.length_reverse]; omega), List.length_reverse]
  rw [zzR.l0, if_pos (by omega), znB _ j (by omega) (by omega) _ (by omega), Option.bind_some,
   show l.drop j ++ l.take j = rot l j from rfl, znK _ _ (by omega) _ (by omega), Option.bind_some]
  have s : ∀ a : Int, 0 ≤ a → a ≤ j + 1 → zzR.j1 (k + 1) l a b (j : Int) (l.length : Int) (j : Int) = some (symm l d (j + 1) a (if rot l.reverse j = l then b + 1 else b)) := by
   intro a ha ha2
   rw [zzR.j1, impl_mirrored_eq l hl _ (by omega), Option.bind_some, znB _ j (by rw [List.length_reverse]; omega) (by rw [List.length_reverse]; omega) _ (by omega), Option.bind_some,
    show l.reverse.drop j ++ l.reverse.take j = rot l.reverse j from rfl, znK _ _ (by omega) _ (by omega), Option.bind_some, succ64 (by omega), w64 (n := b + 1) (by omega) (by omega)]
   by_cases h : rot l.reverse j = l
   ·rw [if_pos (by simpa using h), if_pos h, zrM l hl d k (j + 1) _ _ (by omega) (by omega) (by omega) (by omega) (by omega) (by omega)]
   ·rw [if_neg (by simpa using h), if_neg h, zrM l hl d k (j + 1) _ _ (by omega) (by omega) (by omega) (by omega) (by omega) (by omega)]
  rw [w64 (n := a + 1) (by omega) (by omega), symm]
  by_cases h : rot l j = l
  ·rw [if_pos (by simpa using h), if_pos h]; exact s _ (by omega) (by omega)
  ·rw [if_neg (by simpa using h), if_neg h]; exact s _ (by omega) (by omega)
theorem impl_SectorSymmetries_eq (l : List Int) (hl : l.length ≤ 1048576) (k : Nat) (hk : 5 * l.length + 10 ≤ k) : zzR.f k l = some (if zcD l then symm l l.length 0 0 0 else (0, 0)) := by
 unfold zzR.f
 rw [zrQ l hl k (by omega), Option.bind_some]
 by_cases h : zcD l
 ·rw [if_pos h, if_pos (by simp [h])]
  exact zrM l hl l.length k 0 0 0 (by omega) (by omega) (by omega) (by omega) (by omega) (by omega)
 ·rw [if_neg h, if_neg (by simp [h])]

theorem rev_orb (l : List Int) (h : 0 < l.length) : Orb l l.reverse := ⟨0, h, Or.inr (rot_zero _).symm⟩
theorem roundF_eq (k : Nat) (hk : 2200 ≤ k) (l lst x : List Int) (fd : Bool) (rows : List (List Int)) (hl : zcD l) (ho : Orb l x) (hlst : lst = least l l.length 0 l) (hr : rows.length ≤ 1000) (hrx : ∀ y ∈ rows, y.length ≤ 16) :
  zoX k l lst x fd rows = some (fd || decide (x = lst), if x ∈ rows then rows else rows ++ [x]) := by
 have h0 : 0 < l.length := by obtain ⟨j, hj, _⟩ := ho; omega
 have hx := ho.secOk hl
 have hx16 := hx.1
 have hl16 := hl.1
 have hxl := ho.length
 have hol : Orb l lst := by rw [hlst]; exact least_orb l h0
 have hll := hol.length
 have hcan : least x x.length 0 x = lst := by rw [hlst]; exact least_same ho
 have hless : lexlt x lst = false := by rw [lexlt_lexLt x lst (by omega), hlst]; exact least_min ho
 have hkaw : decide (zcD x ∧ x.length % 2 = 0 ∧ alt x = 0) = decide (zcD l ∧ l.length % 2 = 0 ∧ alt l = 0) := by
  rw [decide_eq_decide, hxl]
  exact ⟨fun c => ⟨hl, c.2.1, (ho.altz c.2.1).1 c.2.2⟩, fun c => ⟨hx, c.2.1, (ho.altz c.2.1).2 c.2.2⟩⟩
 unfold zoX
 rw [zrQ x (by omega) k (by omega), decide_eq_true hx, Option.bind_some, laws_a2Less_eq x lst (by omega) (by omega) k (by omega), hless, Option.bind_some, ztZ x (by omega) k (by omega), if_pos hx, hcan, Option.bind_some, laws_a2Same_eq lst lst (by omega) k (by omega), decide_eq_true rfl, Option.bind_some,
  impl_IsKawasaki_eq x (by omega) k (by omega), Option.bind_some, impl_IsKawasaki_eq l (by omega) k (by omega), Option.bind_some, laws_a2Same_eq x lst (by omega) k (by omega), Option.bind_some, laws_a2Has_eq rows x (by omega) (fun y hy => by have := hrx y hy; omega) k (by omega), Option.bind_some, if_pos ⟨hr, rfl, rfl, rfl, hkaw⟩]
 by_cases h : x ∈ rows
 ·rw [decide_eq_true h, if_pos rfl, if_pos h]
 ·rw [decide_eq_false h, if_neg (by simp), if_neg h]
theorem mem_small (l : List Int) (hl : zcD l) (rows : List (List Int)) (h : ∀ y ∈ rows, Orb l y) : ∀ y ∈ rows, y.length ≤ 16 := fun y hy => by
 have := (h y hy).length
 have := hl.1
 omega
theorem add_orb {l x : List Int} {rows : List (List Int)} (h : ∀ y ∈ rows, Orb l y) (hx : Orb l x) : ∀ y ∈ (if x ∈ rows then rows else rows ++ [x]), Orb l y := fun y hy => by
 split at hy
 ·exact h y hy
 ·rcases List.mem_append.1 hy with hy | hy
  ·exact h y hy
  ·rw [List.mem_singleton] at hy; rw [hy]; exact hx
theorem add_len (x : List Int) (rows : List (List Int)) : (if x ∈ rows then rows else rows ++ [x]).length ≤ rows.length + 1 := by
 split
 ·omega
 ·rw [List.length_append, List.length_singleton]; exact Nat.le_refl _
theorem outF_eq (k : Nat) (hk : 2200 ≤ k) (l lst : List Int) (hl : zcD l) (hlst : lst = least l l.length 0 l) : ∀ (d j : Nat) (fd : Bool) (rows : List (List Int)), j + d = l.length → rows.length ≤ 2 * j → (∀ y ∈ rows, Orb l y) →
  zsZ k l lst l.reverse d (j : Int) fd rows = some (fd || decide (lst ∈ orbE l d j), addR rows (orbE l d j))
 | 0, j, fd, rows, _, _, _ => by simp [zsZ, orbE, addR]
 | d + 1, j, fd, rows, hd, hr, hrx => by
  have hl16 := hl.1
  have lr : l.reverse.length = l.length := List.length_reverse
  have o1 : Orb l (rot l j) := ⟨j, by omega, Or.inl rfl⟩
  have o2 : Orb l (rot l.reverse j) := ⟨j, by omega, Or.inr rfl⟩
  have hrev : zcD l.reverse := (rev_orb l (by omega)).secOk hl
  have a1 := add_len (rot l j) rows
  have a2 := add_orb hrx o1
  have a3 := add_len (rot l.reverse j) (if rot l j ∈ rows then rows else rows ++ [rot l j])
  have a4 := add_orb a2 o2
  rw [zsZ, impl_RotateSectors_eq l (j : Int) (by omega) k (by omega), if_pos ⟨hl, by omega, by omega⟩, Int.toNat_natCast, Option.bind_some, impl_RotateSectors_eq l.reverse (j : Int) (by omega) k (by omega), if_pos ⟨hrev, by omega, by omega⟩, Int.toNat_natCast, Option.bind_some]
  rw [show l.drop j ++ l.take j = rot l j from rfl, show l.reverse.drop j ++ l.reverse.take j = rot l.reverse j from rfl]
  rw [roundF_eq k hk l lst _ fd rows hl o1 hlst (by omega) (mem_small l hl rows hrx), Option.bind_some]
  simp only
  rw [roundF_eq k hk l lst _ _ _ hl o2 hlst (by omega) (mem_small l hl _ a2), Option.bind_some]
  simp only
  have ih := outF_eq k hk l lst hl hlst d (j + 1) (fd || decide (rot l j = lst) || decide (rot l.reverse j = lst)) _ (by omega) (by omega) a4
  rw [show ((j + 1 : Nat) : Int) = (j : Int) + 1 from rfl] at ih
  rw [ih, orbE, addR, addR]
  congr 2
  rw [Bool.or_assoc, Bool.or_assoc]
  congr 1
  rw [Bool.eq_iff_iff]
  simp only [Bool.or_eq_true, decide_eq_true_eq, List.mem_cons]
  constructor
  ·rintro (h | h | h)
   ·exact Or.inl h.symm
   ·exact Or.inr (Or.inl h.symm)
   ·exact Or.inr (Or.inr h)
  ·rintro (h | h | h)
   ·exact Or.inl h.symm
   ·exact Or.inr (Or.inl h.symm)
   ·exact Or.inr (Or.inr h)
theorem FnAngles : laws_FnAngles.Pure := by
 intro a ⟨_, ha⟩
 refine ⟨10000, ?_⟩
 obtain ⟨K, hK⟩ : ∃ K : Nat, K = 10000 := ⟨_, rfl⟩
 rw [← hK]
 unfold laws_FnAngles.f
 rw [laws_a2Long_eq, Option.bind_some]
 by_cases hlong : a.length > 3000 ∨ ([] : List Int).length > 3000
 ·rw [if_pos (by simpa using hlong)]
 ·rw [if_neg (by simpa using hlong)]
  have hA : Bytes a := ⟨by omega, fun x hx => by have := ha x hx; simpa [Lit.wf, IntKind.min, IntKind.max, IntKind.signed, IntKind.bits] using this⟩
  obtain ⟨l, e, hl⟩ := spec_A2Sectors_ok a hA K (by omega)
  have h16 := hl.1
  have h0 : 0 < l.length := by
   cases l with
   | nil => have := hl.2.2; simp at this
   | cons x xs => simp
  have hge : ∀ x ∈ l, 1 ≤ x := fun x hx => (hl.2.1 x hx).1
  have hD := dirsF_sums l 0 [] hge (by rw [hl.2.2]; omega)
  have hsl := sumsF_length l 0
  have hrise := sumsF_rises l 0 none hge (by omega) (by rw [hl.2.2]; omega) (fun q hq => by cases hq)
  have hgap := gaps_sums l 0 (by rw [hl.2.2]; omega)
  have hrd : rd (sumsF 0 l) 0 = 0 := by
   cases l with
   | nil => simp at h0
   | cons x xs => rfl
  obtain ⟨lst, hlst⟩ : ∃ lst, lst = least l l.length 0 l := ⟨_, rfl⟩
  have hout := outF_eq K (by omega) l lst hl hlst l.length 0 false [] (by omega) (by simp) (fun y hy => by simp at hy)
  have hol : Orb l lst := by rw [hlst]; exact least_orb l h0
  have hfound : lst ∈ orbE l l.length 0 := by
   obtain ⟨i, hi, rfl | rfl⟩ := hol
   ·exact (orbE_has l i l.length 0 (by omega) (by omega)).1
   ·exact (orbE_has l i l.length 0 (by omega) (by omega)).2
  have ht := orbit_times l h0
  have hs := symm_small l
  rw [show ((0 : Nat) : Int) = 0 from rfl] at hout
  rw [e, Option.bind_some, impl_DirectionsOf_eq 0 l (by omega) K (by omega), if_pos ⟨hl, by omega, by omega⟩, hD, Option.bind_some, List.nil_append]
  simp only
  rw [impl_SectorsOf_eq (sumsF 0 l) (by omega) K (by omega), if_pos ⟨by omega, hrise⟩, hrd, hgap, Option.bind_some]
  simp only
  rw [laws_a2Same_eq l l (by omega) K (by omega), decide_eq_true rfl, Option.bind_some, ztZ l (by omega) K (by omega), if_pos hl, ← hlst, Option.bind_some, impl_MirrorSectors_eq l (by omega) K (by omega), if_pos hl, Option.bind_some, hout, Option.bind_some, impl_SectorSymmetries_eq l (by omega) K (by omega), if_pos hl, Option.bind_some]
  have hfin : wrap64 (wrap64 ((symm l l.length 0 0 0).1 + (symm l l.length 0 0 0).2) * ((addR [] (orbE l l.length 0)).length : Nat)) = wrap64 (2 * (l.length : Int)) := by
   rw [w64 (n := (symm l l.length 0 0 0).1 + _) (by omega) (by omega), ht]
  rw [if_pos ⟨by omega, by first | trivial | rfl, by first | trivial | rfl, by first | trivial | rfl, by simp [hfound], hfin⟩]

end Go.Proofs.Ytbpkbllokmplnaa.Pure
