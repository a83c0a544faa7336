/- What is proved: the little runs of every sector list that is drawn are what the law says. Conditions: none. -/
import Derived.Test.YtjldcnibdddioaaPFnLittleRunsx
import Derived.Test.YtjldcnibdddioaaMath
import Derived.Test.YtjldcnibdddioaaSecs
namespace Go.Proofs.Ytjldcnibdddioaa.Pure
open Go.RowKit Go.Proofs.Ytjldcnibdddioaa.PFnLittleRuns Go.Proofs.YtjldcnibdddioaaW.PrintWords Go.Proofs.YtjldcnibdddioaaW.PrintLast Go.Proofs.YtjldcnibdddioaaW.PrintMore Go.Proofs.Ytjldcnibdddioaa.Math

-- laws_a2Long
theorem laws_a2Long_eq (a b : List Int) : laws_a2Long.f a b = some (decide (a.length > 3000 ∨ b.length > 3000)) := by
  unfold laws_a2Long.f
  by_cases h : a.length > 3000
  · rw [if_pos (by omega), decide_eq_true (Or.inl h)]
  · rw [if_neg (by omega)]
    congr 1
    rw [decide_eq_decide]; omega

-- spec_l00Src_next
theorem and255u (n : Int) : bits .and .u64 n 255 = n % 256 := by
  have h255 : (BitVec.ofInt 64 255).toNat = 2 ^ 8 - 1 := by decide
  have key : (BitVec.ofInt 64 n &&& BitVec.ofInt 64 255).toNat = (n % ((2 ^ 64 : Nat) : Int)).toNat % 2 ^ 8 := by
    rw [BitVec.toNat_and, BitVec.toNat_ofInt, h255, Nat.and_two_pow_sub_one_eq_mod]
  show IntKind.u64.wrap ((BitVec.ofInt 64 n &&& BitVec.ofInt 64 255).toNat : Nat) = n % 256
  rw [key, wu64 (by omega) (by omega)]
  omega
/-- The bytes of a list. -/
def Bytes (l : List Int) : Prop := l.length ≤ 3000 ∧ ∀ x ∈ l, 0 ≤ x ∧ x ≤ 255
theorem spec_l00Src_next_ok (l : List Int) (hl : Bytes l) (p s : Int) (h0 : 0 ≤ p) (h1 : p ≤ 4611686018427387904) : ∃ v s', spec_l00Src_next.f l p s = some (v, p + 1, s') ∧ 0 ≤ v ∧ v ≤ 255 := by
  unfold spec_l00Src_next.f
  rw [w64 (n := p + 1) (by omega) (by omega)]
  have hL := hl.1
  by_cases h : p < (l.length : Int)
  · obtain ⟨q, rfl⟩ : ∃ q : Nat, p = q := ⟨p.toNat, by omega⟩
    rw [if_pos h, if_pos h0, if_pos (by omega), rd_nat l q (by omega)]
    have hb := hl.2 l[q] (List.getElem_mem _)
    refine ⟨_, _, rfl, ?_⟩
    rw [w64 (by omega) (by omega)]
    exact hb
  · rw [if_neg h, if_neg (by omega), and255u]
    refine ⟨_, _, rfl, ?_⟩
    rw [w64 (by omega) (by omega)]
    omega

-- spec_l00Src_pick
theorem spec_l00Src_pick_ok (l : List Int) (hl : Bytes l) (p s n : Int) (h0 : 0 ≤ p) (h1 : p ≤ 4611686018427387000) (hn : n ≤ 60000) :
    ∃ v p' s', spec_l00Src_pick.f l p s n = some (v, p', s') ∧ 0 ≤ v ∧ (1 ≤ n → v < n) ∧ p ≤ p' ∧ p' ≤ p + 2 := by
  unfold spec_l00Src_pick.f
  by_cases h : n ≤ 1
  · rw [if_pos h]
    exact ⟨0, p, s, rfl, by omega, by omega, by omega, by omega⟩
  · obtain ⟨v, s', e, v0, v1⟩ := spec_l00Src_next_ok l hl p s h0 (by omega)
    rw [if_neg h, e, Option.bind_some]
    have hz : ¬ n = 0 := by omega
    by_cases h2 : n > 200
    · obtain ⟨w, s2, e2, w0, w1⟩ := spec_l00Src_next_ok l hl (p + 1) s' (by omega) (by omega)
      rw [if_pos h2]
      simp only [e2, Option.bind_some]
      rw [if_neg hz]
      have e3 : wrap64 (wrap64 (v * 256) + w) = v * 256 + w := by rw [w64 (n := v * 256) (by omega) (by omega), w64 (by omega) (by omega)]
      rw [e3]
      exact ⟨_, _, _, rfl, Int.tmod_nonneg _ (by omega), fun _ => Int.tmod_lt_of_pos _ (by omega), by omega, by omega⟩
    · rw [if_neg h2, if_neg hz]
      exact ⟨_, _, _, rfl, Int.tmod_nonneg _ (by omega), fun _ => Int.tmod_lt_of_pos _ (by omega), by show p ≤ p + 1; omega, by show p + 1 ≤ p + 2; omega⟩

-- spec_l00Src_one
theorem spec_l00Src_one_ok (l : List Int) (hl : Bytes l) (p s n : Int) (h0 : 0 ≤ p) (h1 : p ≤ 4611686018427387000) (hn : n ≤ 60000) :
    ∃ b p' s', spec_l00Src_one.f l p s n = some (b, p', s') ∧ p ≤ p' ∧ p' ≤ p + 2 := by
  unfold spec_l00Src_one.f
  obtain ⟨v, p', s', e, _, _, hp, hp'⟩ := spec_l00Src_pick_ok l hl p s n h0 h1 hn
  rw [e]
  exact ⟨_, _, _, rfl, hp, hp'⟩

-- spec_l00Src_among
theorem spec_l00Src_among_ok (l : List Int) (hl : Bytes l) (p s : Int) (c : List Int) (hc : 1 ≤ c.length) (hc2 : c.length ≤ 60000) (h0 : 0 ≤ p) (h1 : p ≤ 4611686018427387000) :
    ∃ v p' s', spec_l00Src_among.f l p s c = some (v, p', s') ∧ v ∈ c ∧ p ≤ p' ∧ p' ≤ p + 2 := by
  unfold spec_l00Src_among.f
  obtain ⟨v, p', s', e, v0, v1, hp, hp'⟩ := spec_l00Src_pick_ok l hl p s (c.length : Int) h0 h1 (by omega)
  have := v1 (by omega)
  obtain ⟨q, rfl⟩ : ∃ q : Nat, v = q := ⟨v.toNat, by omega⟩
  rw [e, Option.bind_some, if_pos v0, if_pos this, rd_nat c q (by omega)]
  exact ⟨_, _, _, rfl, List.getElem_mem _, hp, hp'⟩

-- spec_l00Own
theorem spec_l00Own_eq (l : List Int) (hl : l.length ≤ 1048576) : spec_l00Own.f l = some l := by
  unfold spec_l00Own.f
  rw [Option.bind_some, if_pos (by simp; omega)]
  rfl

-- spec_l05Rotated
theorem spec_l05Rotated_eq (l : List Int) (i : Nat) (hl : l.length ≤ 1048576) (hi : i ≤ l.length) : spec_l05Rotated.f l (i : Int) = some (l.drop i ++ l.take i) := by
  unfold spec_l05Rotated.f
  rw [if_pos (by omega), if_pos (by omega), Int.toNat_natCast, spec_l00Own_eq _ (by rw [List.length_drop]; omega), Option.bind_some, if_pos (by rw [List.length_drop, List.length_take]; omega)]

-- spec_l00Min
theorem spec_l00Min_eq (a b : Int) : spec_l00Min.f a b = some (if a < b then a else b) := by unfold spec_l00Min.f; exact some_ite _ _ _

-- spec_l05Parts
theorem spec_l05Parts_l0 (l : List Int) (hl : Bytes l) : ∀ (n k : Nat) (t p s : Int) (o : List Int), n + 1 ≤ k → (n : Int) + 1 ≤ t → t ≤ 16 → o.length + n ≤ 1000 → 0 ≤ p → p + 4 * n ≤ 4611686018427386000 →
    ∃ q p' s', spec_l05Parts.l0 k ((n : Int) + 1) t o l p s = some (o ++ q, p', s') ∧ q.length = n + 1 ∧ (∀ x ∈ q, 1 ≤ x ∧ x ≤ t) ∧ q.sum = t ∧ p ≤ p' ∧ p' ≤ p + 4 * n
  | 0, k, t, p, s, o, hk, ht, ht2, ho, hp, hp2 => by
    obtain ⟨k, rfl⟩ : ∃ m, k = m + 1 := ⟨k - 1, by omega⟩
    simp only [spec_l05Parts.l0]
    rw [if_neg (by omega), if_pos (by omega)]
    exact ⟨[t], p, s, rfl, rfl, by simp; omega, by simp, by omega, by omega⟩
  | n + 1, k, t, p, s, o, hk, ht, ht2, ho, hp, hp2 => by
    obtain ⟨k, rfl⟩ : ∃ m, k = m + 1 := ⟨k - 1, by omega⟩
    obtain ⟨v, p1, s1, e1, v0, v1, g1, g1'⟩ := spec_l00Src_pick_ok l hl p s 6 hp (by omega) (by omega)
    have v2 := v1 (by omega)
    have ew : wrap64 (wrap64 (t - (((n + 1 : Nat) : Int) + 1)) + 1) = t - n - 1 := by rw [w64 (n := t - _) (by omega) (by omega), w64 (by omega) (by omega)]; omega
    have ew2 : wrap64 (1 + v) = 1 + v := w64 (by omega) (by omega)
    obtain ⟨r, hr⟩ : ∃ r : Int, r = if t - n - 1 < 1 + v then t - n - 1 else 1 + v := ⟨_, rfl⟩
    have hr1 : 1 ≤ r ∧ r ≤ t - n - 1 := by rw [hr]; split <;> omega
    obtain ⟨w, p2, s2, e2, w0, w1, g2, g2'⟩ := spec_l00Src_pick_ok l hl p1 s1 r (by omega) (by omega) (by omega)
    have w2 := w1 hr1.1
    have ew3 : wrap64 (1 + w) = 1 + w := w64 (by omega) (by omega)
    have ew4 : wrap64 (t - (1 + w)) = t - (1 + w) := w64 (by omega) (by omega)
    have ew5 : wrap64 (((n + 1 : Nat) : Int) + 1 - 1) = (n : Int) + 1 := by rw [w64 (by omega) (by omega)]; omega
    obtain ⟨q, p', s', e, hq, hq2, hq3, hq4, hq5⟩ := spec_l05Parts_l0 l hl n k (t - (1 + w)) p2 s2 (o ++ [1 + w]) (by omega) (by omega) (by omega) (by simp; omega) (by omega) (by omega)
    simp only [spec_l05Parts.l0]
    rw [if_pos (by omega), e1, Option.bind_some, ew, ew2, spec_l00Min_eq, ← hr, Option.bind_some]
    simp only [e2, Option.bind_some, ew3, ew4, ew5]
    rw [if_pos (by omega), e]
    refine ⟨(1 + w) :: q, p', s', by rw [List.append_assoc]; rfl, by simp [hq], ?_, by rw [List.sum_cons, hq3]; omega, by omega, by omega⟩
    intro x hx
    rcases List.mem_cons.1 hx with rfl | hx
    · omega
    · have := hq2 x hx; omega
theorem spec_l05Parts_ok (l : List Int) (hl : Bytes l) (k : Nat) (n t p s : Int) (hk : 20 ≤ k) (hn : 1 ≤ n) (hnt : n ≤ t) (ht : t ≤ 16) (hp : 0 ≤ p) (hp2 : p ≤ 4000000000000000000) :
    ∃ q p' s', spec_l05Parts.f k l p s n t = some (q, p', s') ∧ (q.length : Int) = n ∧ (∀ x ∈ q, 1 ≤ x ∧ x ≤ t) ∧ q.sum = t ∧ p ≤ p' ∧ p' ≤ p + 100 := by
  obtain ⟨m, rfl⟩ : ∃ m : Nat, n = (m : Int) + 1 := ⟨(n - 1).toNat, by omega⟩
  obtain ⟨q, p', s', e, a, b, c, d, f⟩ := spec_l05Parts_l0 l hl m k t p s [] (by omega) hnt ht (by simp; omega) hp (by omega)
  unfold spec_l05Parts.f
  exact ⟨q, p', s', e, by omega, b, c, d, by omega⟩

-- spec_l05DrawFlat
-- MATH Secs
theorem drop_take_sum (l : List Int) (i : Nat) : (l.drop i ++ l.take i).sum = l.sum := by rw [List.sum_append, Int.add_comm, ← List.sum_append, List.take_append_drop]
theorem drop_take_mem {l : List Int} {i : Nat} {x : Int} (h : x ∈ l.drop i ++ l.take i) : x ∈ l := by
  rcases List.mem_append.1 h with h | h
  · exact List.mem_of_mem_drop h
  · exact List.mem_of_mem_take h
theorem drop_take_length (l : List Int) (i : Nat) : (l.drop i ++ l.take i).length = l.length := by rw [List.length_append, List.length_drop, List.length_take]; omega
theorem spec_l05DrawFlat_l0 (a b l : List Int) (p s : Int) (hab : a.length = b.length) (ha : a.length ≤ 100) : ∀ (d k j : Nat) (o : List Int), j + d = a.length → d < k → o.length ≤ 2 * j →
    ∃ q, spec_l05DrawFlat.l0 k a b o (j : Int) l p s = some (o ++ q, p, s) ∧ q.length = 2 * d ∧ (∀ x ∈ q, x ∈ a ∨ x ∈ b) ∧ q.sum = (a.drop j).sum + (b.drop j).sum
  | 0, k, j, o, hd, hk, ho => by
    obtain ⟨k, rfl⟩ : ∃ m, k = m + 1 := ⟨k - 1, by omega⟩
    simp only [spec_l05DrawFlat.l0]
    rw [if_neg (by omega), List.drop_eq_nil_of_le (by omega), List.drop_eq_nil_of_le (by omega)]
    exact ⟨[], by simp, rfl, by simp, by simp⟩
  | d + 1, k, j, o, hd, hk, ho => by
    obtain ⟨k, rfl⟩ : ∃ m, k = m + 1 := ⟨k - 1, by omega⟩
    obtain ⟨q, e, h1, h2, h3⟩ := spec_l05DrawFlat_l0 a b l p s hab ha d k (j + 1) (o ++ [a[j], b[j]]) (by omega) (by omega) (by simp; omega)
    simp only [spec_l05DrawFlat.l0]
    rw [if_pos (by omega), if_pos (by omega), if_pos (by omega), rd_nat a j (by omega), rd_nat b j (by omega), Option.bind_some, if_pos (by simp; omega), succ64 (by omega), e, drop_at a j (by omega), drop_at b j (by omega)]
    refine ⟨a[j] :: b[j] :: q, by simp, by simp [h1]; omega, ?_, by simp only [List.sum_cons, h3]; omega⟩
    intro x hx
    rcases List.mem_cons.1 hx with rfl | hx
    · exact Or.inl (List.getElem_mem _)
    · rcases List.mem_cons.1 hx with rfl | hx
      · exact Or.inr (List.getElem_mem _)
      · exact h2 x hx
theorem spec_l05DrawFlat_ok (l : List Int) (hl : Bytes l) (k : Nat) (n p s : Int) (hk : 40 ≤ k) (hn : n = 2 ∨ n = 4 ∨ n = 6 ∨ n = 8 ∨ n = 10 ∨ n = 12 ∨ n = 14 ∨ n = 16) (hp : 0 ≤ p) (hp2 : p ≤ 1000000000000) :
    ∃ q p' s', spec_l05DrawFlat.f k l p s n = some (q, p', s') ∧ SecOk q ∧ (q.length : Int) = n ∧ p ≤ p' ∧ p' ≤ p + 300 := by
  obtain ⟨m, hm0, hm1, hm2⟩ : ∃ m : Int, wrap64 (Int.tdiv n 2) = m ∧ (1 ≤ m ∧ m ≤ 8) ∧ n = 2 * m := by
    rcases hn with rfl | rfl | rfl | rfl | rfl | rfl | rfl | rfl
    · exact ⟨1, by decide +kernel, by omega, by omega⟩
    · exact ⟨2, by decide +kernel, by omega, by omega⟩
    · exact ⟨3, by decide +kernel, by omega, by omega⟩
    · exact ⟨4, by decide +kernel, by omega, by omega⟩
    · exact ⟨5, by decide +kernel, by omega, by omega⟩
    · exact ⟨6, by decide +kernel, by omega, by omega⟩
    · exact ⟨7, by decide +kernel, by omega, by omega⟩
    · exact ⟨8, by decide +kernel, by omega, by omega⟩
  obtain ⟨a, p1, s1, e1, a1, a2, a3, a4, a5⟩ := spec_l05Parts_ok l hl k m 8 p s (by omega) hm1.1 hm1.2 (by omega) hp (by omega)
  obtain ⟨b, p2, s2, e2, b1, b2, b3, b4, b5⟩ := spec_l05Parts_ok l hl k m 8 p1 s1 (by omega) hm1.1 hm1.2 (by omega) (by omega) (by omega)
  obtain ⟨t, p3, s3, e3, c1, c2⟩ := spec_l00Src_one_ok l hl p2 s2 3 (by omega) (by omega) (by omega)
  obtain ⟨k, rfl⟩ : ∃ m, k = m + 1 := ⟨k - 1, by omega⟩
  have fin : ∀ (b' : List Int) (p s : Int), b'.length = a.length → (∀ x ∈ b', 1 ≤ x ∧ x ≤ 8) → b'.sum = 8 → ∃ q, spec_l05DrawFlat.j0 (k + 1) a b' l p s = some (q, p, s) ∧ SecOk q ∧ (q.length : Int) = n := by
    intro b' p s h1 h2 h3
    obtain ⟨q, e, g1, g2, g3⟩ := spec_l05DrawFlat_l0 a b' l p s (by omega) (by omega) a.length k 0 [] (by omega) (by omega) (by simp)
    rw [List.nil_append] at e
    simp only [spec_l05DrawFlat.j0]
    refine ⟨q, e, ⟨by omega, ?_, by rw [g3, List.drop_zero, List.drop_zero]; omega⟩, by omega⟩
    intro x hx
    rcases g2 x hx with h | h
    · have := a2 x h; omega
    · have := h2 x h; omega
  unfold spec_l05DrawFlat.f
  rw [hm0]
  simp only [e1, e2, e3, Option.bind_some]
  by_cases ht : t = true
  · rw [if_pos ht]
    obtain ⟨v, p4, s4, e4, v0, v1, d1, d2⟩ := spec_l00Src_pick_ok l hl p3 s3 m (by omega) (by omega) (by omega)
    have v2 := v1 hm1.1
    obtain ⟨i, rfl⟩ : ∃ i : Nat, v = i := ⟨v.toNat, by omega⟩
    simp only [e4, Option.bind_some]
    rw [spec_l05Rotated_eq a i (by omega) (by omega), Option.bind_some]
    obtain ⟨q, e, h, h'⟩ := fin (a.drop i ++ a.take i) p4 s4 (drop_take_length a i) (fun x hx => a2 x (drop_take_mem hx)) (by rw [drop_take_sum, a3])
    exact ⟨q, _, _, e, h, h', by omega, by omega⟩
  · rw [if_neg ht]
    obtain ⟨q, e, h, h'⟩ := fin b p3 s3 (by omega) b2 b3
    exact ⟨q, _, _, e, h, h', by omega, by omega⟩

-- spec_l05Draw
theorem spec_l05Draw_ok (l : List Int) (hl : Bytes l) (k : Nat) (p s : Int) (hk : 40 ≤ k) (hp : 0 ≤ p) (hp2 : p ≤ 1000000000000) :
    ∃ q p' s', spec_l05Draw.f k l p s = some (q, p', s') ∧ SecOk q := by
  obtain ⟨v, p1, s1, e1, v0, v1, a1, a2⟩ := spec_l00Src_pick_ok l hl p s 8 hp (by omega) (by omega)
  obtain ⟨b, p2, s2, e2, b1, b2⟩ := spec_l00Src_one_ok l hl p1 s1 8 (by omega) (by omega) (by omega)
  have fin : ∀ (p s n : Int), 0 ≤ p → p ≤ 2000000000000 → 0 ≤ n → n < 16 → ∃ q p' s', ((spec_l05Parts.f k l p s (wrap64 (1 + n)) 16).bind fun bt185 => ((spec_l00Src_pick.f l bt185.2.1 bt185.2.2 (wrap64 (1 + n))).bind fun bt190 => ((spec_l05Rotated.f bt185.1 bt190.1).bind fun t193 => (some (t193, bt190.2.1, bt190.2.2))))) = some (q, p', s') ∧ SecOk q := by
    intro p s n h0 h1 n0 n1
    rw [w64 (n := 1 + n) (by omega) (by omega)]
    obtain ⟨q, p', s', e, c1, c2, c3, c4, c5⟩ := spec_l05Parts_ok l hl k (1 + n) 16 p s (by omega) (by omega) (by omega) (by omega) h0 (by omega)
    obtain ⟨w, p3, s3, e3, w0, w1, d1, d2⟩ := spec_l00Src_pick_ok l hl p' s' (1 + n) (by omega) (by omega) (by omega)
    have w2 := w1 (by omega)
    obtain ⟨i, rfl⟩ : ∃ i : Nat, w = i := ⟨w.toNat, by omega⟩
    simp only [e, e3, Option.bind_some]
    rw [spec_l05Rotated_eq q i (by omega) (by omega), Option.bind_some]
    refine ⟨_, _, _, rfl, by rw [drop_take_length]; omega, fun x hx => c2 x (drop_take_mem hx), by rw [drop_take_sum, c3]⟩
  unfold spec_l05Draw.f
  simp only [e1, e2, Option.bind_some]
  by_cases hb : b = true
  · rw [if_pos hb]
    obtain ⟨w, p3, s3, e3, w0, w1, d1, d2⟩ := spec_l00Src_pick_ok l hl p2 s2 16 (by omega) (by omega) (by omega)
    simp only [e3, Option.bind_some]
    exact fin p3 s3 w (by omega) (by omega) w0 (w1 (by omega))
  · rw [if_neg hb]
    have := v1 (by omega)
    exact fin p2 s2 v (by omega) (by omega) v0 (by omega)

-- spec_A2Sectors
theorem spec_A2Sectors_ok (l : List Int) (hl : Bytes l) (k : Nat) (hk : 40 ≤ k) : ∃ q, spec_A2Sectors.f k l = some q ∧ SecOk q := by
  unfold spec_A2Sectors.f spec_l00From.f
  obtain ⟨b, p1, s1, e1, b1, b2⟩ := spec_l00Src_one_ok l hl 0 0 2 (by omega) (by omega) (by omega)
  simp only [Option.bind_some, e1]
  by_cases hb : b = true
  · rw [if_pos hb]
    obtain ⟨v, p2, s2, e2, v1, c1, c2⟩ := spec_l00Src_among_ok l hl p1 s1 [2, 4, 4, 6, 8] (by simp) (by simp) (by omega) (by omega)
    simp only [Option.bind_some, e2]
    obtain ⟨q, p3, s3, e3, h, _⟩ := spec_l05DrawFlat_ok l hl k v p2 s2 hk (by simp at v1; omega) (by omega) (by omega)
    rw [e3]
    exact ⟨q, rfl, h⟩
  · rw [if_neg hb]
    obtain ⟨q, p3, s3, e3, h⟩ := spec_l05Draw_ok l hl k p1 s1 hk (by omega) (by omega)
    rw [e3]
    exact ⟨q, rfl, h⟩

-- impl_within
theorem impl_within_eq (a b c : Int) : impl_within.f a b c = some (decide (b ≤ a ∧ a ≤ c)) := by
  unfold impl_within.f
  by_cases h : b ≤ a <;> simp [h]

-- impl_sumOf
theorem impl_sumOf_l0 (l : List Int) (hl : l.length ≤ 1048576) (hb : ∀ x ∈ l, -1048576 ≤ x ∧ x ≤ 1048576) : ∀ (d k j : Nat) (s : Int), j + d = l.length → d < k → -(1048576 * (j : Int)) ≤ s → s ≤ 1048576 * j →
    impl_sumOf.l0 k s l (l.length : Int) (j : Int) = some (s + (l.drop j).sum)
  | 0, k, j, s, hd, hk, h0, h1 => by
    obtain ⟨k, rfl⟩ : ∃ m, k = m + 1 := ⟨k - 1, by omega⟩
    simp only [impl_sumOf.l0]
    rw [if_neg (by omega), List.drop_eq_nil_of_le (by omega)]
    simp
  | d + 1, k, j, s, hd, hk, h0, h1 => by
    obtain ⟨k, rfl⟩ : ∃ m, k = m + 1 := ⟨k - 1, by omega⟩
    have h := hb l[j] (List.getElem_mem (by omega))
    simp only [impl_sumOf.l0]
    rw [if_pos (by omega), if_pos (by omega), if_pos (by omega), rd_nat l j (by omega), drop_at l j (by omega), w64 (by omega) (by omega), succ64 (by omega),
      impl_sumOf_l0 l hl hb d k (j + 1) _ (by omega) (by omega) (by omega) (by omega), List.sum_cons, Int.add_assoc]
theorem impl_sumOf_eq (l : List Int) (hl : l.length ≤ 1048576) (hb : ∀ x ∈ l, -1048576 ≤ x ∧ x ≤ 1048576) (k : Nat) (hk : l.length < k) : impl_sumOf.f k l = some l.sum := by
  unfold impl_sumOf.f
  have := impl_sumOf_l0 l hl hb l.length k 0 0 (by omega) hk (by omega) (by omega)
  rw [show ((0 : Nat) : Int) = 0 from rfl] at this
  rw [this, List.drop_zero, Int.zero_add]

-- impl_ValidSectors
-- MATH Secs
theorem impl_ValidSectors_eq (l : List Int) (hl : l.length ≤ 1048576) (k : Nat) (hk : l.length < k) : impl_ValidSectors.f k l = some (decide (SecOk l)) := by
  unfold impl_ValidSectors.f
  rw [slices_ContainsFunc_int64_int64_impl_ValidSectors_1.eq_any (fun x => !decide (1 ≤ x ∧ x ≤ 16)) l (fun x _ => by unfold impl_ValidSectors_1.f; rw [impl_within_eq, Option.bind_some]), any_not l (fun x => 1 ≤ x ∧ x ≤ 16)]
  by_cases h : l.length ≤ 16
  · rw [if_pos (by omega), Option.bind_some]
    by_cases h2 : ∀ x ∈ l, 1 ≤ x ∧ x ≤ 16
    · rw [decide_eq_true h2, if_neg (by simp), impl_sumOf_eq l hl (fun x hx => by have := h2 x hx; omega) k hk, Option.bind_some]
      congr 1
      by_cases h3 : l.sum = 16
      · rw [decide_eq_true (show SecOk l from ⟨h, h2, h3⟩)]; simpa using h3
      · rw [decide_eq_false (fun c : SecOk l => h3 c.2.2)]; simpa using h3
    · rw [decide_eq_false h2, if_pos (by simp), decide_eq_false (fun c : SecOk l => h2 c.2.1)]
  · rw [if_neg (by omega), decide_eq_false (fun c : SecOk l => h c.1)]

-- impl_littleRuns
-- MATH Secs
theorem tmodN (a b : Nat) : Int.tmod (a : Int) (b : Int) = ((a % b : Nat) : Int) := rfl
/-- The sector at a place, around. -/
def at' (l : List Int) (i : Nat) : Int := rd l ((i % l.length : Nat) : Int)
/-- How long the run at place i is, told from its place m on, where d places may still be looked at. -/
def runAt (l : List Int) (i : Nat) : Nat → Nat → Int
  | 0, m => m
  | d + 1, m => if at' l (i + m) = at' l i then runAt l i d (m + 1) else if at' l (i + m) < at' l i then 0 else m
theorem runAt_bd (l : List Int) (i : Nat) : ∀ d m : Nat, 0 ≤ runAt l i d m ∧ runAt l i d m ≤ m + d
  | 0, m => by simp only [runAt]; omega
  | d + 1, m => by
    have := runAt_bd l i d (m + 1)
    simp only [runAt]
    split
    · omega
    · split <;> omega
def addR (l : List Int) (i : Nat) (o : List S34) (r : Int) : List S34 := if r > 0 then o ++ [⟨i, r, at' l i⟩] else o
theorem addR_pos {l : List Int} {i : Nat} {o : List S34} {r : Int} (h : r > 0) : addR l i o r = o ++ [⟨i, r, at' l i⟩] := if_pos h
theorem addR_zero {l : List Int} {i : Nat} {o : List S34} {r : Int} (h : ¬ r > 0) : addR l i o r = o := if_neg h
def runStep (l : List Int) (i : Nat) (o : List S34) : List S34 :=
  if at' l (i + l.length - 1) ≤ at' l i then o else addR l i o (runAt l i (l.length - 2) 1)
def runsF (l : List Int) : Nat → Nat → List S34 → List S34
  | 0, _, o => o
  | d + 1, i, o => runsF l d (i + 1) (runStep l i o)
theorem runStep_length (l : List Int) (i : Nat) (o : List S34) : (runStep l i o).length ≤ o.length + 1 := by
  unfold runStep; split
  · omega
  · unfold addR; split <;> simp
theorem runsF_length (l : List Int) : ∀ (d i : Nat) (o : List S34), (runsF l d i o).length ≤ o.length + d
  | 0, _, _ => by simp [runsF]
  | d + 1, i, o => by
    have := runsF_length l d (i + 1) (runStep l i o)
    have := runStep_length l i o
    simp only [runsF]; omega
theorem at'_self (l : List Int) (i : Nat) (h : i < l.length) : rd l (i : Int) = at' l i := by unfold at'; rw [Nat.mod_eq_of_lt h]
theorem idx (l : List Int) (a : Nat) (_ : l.length ≤ 1048576) (ha : a ≤ 2097152) : Int.tmod (wrap64 (a : Int)) (l.length : Int) = ((a % l.length : Nat) : Int) := by rw [w64 (by omega) (by omega), tmodN]
theorem idx_lt (l : List Int) (a : Nat) (h : 0 < l.length) : ((a % l.length : Nat) : Int) < (l.length : Int) := by have := Nat.mod_lt a h; omega
/-- The place of the one before place i, looked at from place i on. -/
theorem at'_last (l : List Int) (i m : Nat) (_ : i < l.length) (hm : m + 1 = l.length) : at' l (i + m) = at' l (i + l.length - 1) := by rw [show i + m = i + l.length - 1 by omega]
set_option linter.unusedVariables false in
theorem impl_littleRuns_l1 (l : List Int) (hl : l.length ≤ 16) (i : Nat) (hi : i < l.length) (hp : ¬ at' l (i + l.length - 1) ≤ at' l i) (K : Nat) (o : List S34) (ho : o.length ≤ i) (res : List S34 → List S34)
    (hres : ∀ k o, K ≤ k → o.length ≤ i + 1 → impl_littleRuns.l0 k l (l.length : Int) o l (l.length : Int) ((i + 1 : Nat) : Int) = some (res o)) :
    ∀ (d k m : Nat), m + d + 1 = l.length → d + 1 + K ≤ k → impl_littleRuns.l1 k l (l.length : Int) o (i : Int) (at' l i) (m : Int) l (l.length : Int) (i : Int) =
      some (res (addR l i o (runAt l i d m)))
  | 0, k, m, hm, hk => by
    obtain ⟨k, rfl⟩ : ∃ m, k = m + 1 := ⟨k - 1, by omega⟩
    have hd := idx l (i + m) (by omega) (by omega)
    rw [show ((i + m : Nat) : Int) = (i : Int) + m by omega] at hd
    have hv : at' l (i + m) > at' l i := by rw [at'_last l i m hi (by omega)]; omega
    have hz : ¬ (l.length : Int) = 0 := by omega
    simp only [impl_littleRuns.l1]
    rw [if_pos (by omega), if_neg hz, hd, if_pos (by omega), if_pos (idx_lt l _ (by omega)), show rd l ((((i + m) % l.length : Nat)) : Int) = at' l (i + m) from rfl, if_neg (by omega), if_pos hv, if_pos (by omega), succ64 (by omega), hres _ _ (by omega) (by simp; omega)]
    simp only [runAt]
    by_cases h0 : m = 0
    · subst h0
      exfalso
      have e : i = 0 := by omega
      subst e
      rw [show (0 + l.length - 1 : Nat) = 0 by omega] at hp
      omega
    · rw [addR_pos (by omega)]
  | d + 1, k, m, hm, hk => by
    obtain ⟨k, rfl⟩ : ∃ m, k = m + 1 := ⟨k - 1, by omega⟩
    have hd := idx l (i + m) (by omega) (by omega)
    rw [show ((i + m : Nat) : Int) = (i : Int) + m by omega] at hd
    have hz : ¬ (l.length : Int) = 0 := by omega
    simp only [impl_littleRuns.l1]
    rw [if_pos (by omega), if_neg hz, hd, if_pos (by omega), if_pos (idx_lt l _ (by omega)), show rd l ((((i + m) % l.length : Nat)) : Int) = at' l (i + m) from rfl, succ64 (by omega), succ64 (by omega)]
    simp only [runAt]
    by_cases h : at' l (i + m) = at' l i
    · rw [if_pos h, if_pos h]
      exact impl_littleRuns_l1 l hl i hi hp K o ho res hres d k (m + 1) (by omega) (by omega)
    · rw [if_neg h, if_neg h]
      by_cases h2 : at' l (i + m) < at' l i
      · rw [if_neg (by omega), if_pos h2, hres _ _ (by omega) (by omega), addR_zero (by omega)]
      · rw [if_pos (by omega), if_neg h2, if_pos (by omega), hres _ _ (by omega) (by simp; omega)]
        by_cases h0 : m = 0
        · subst h0; exact absurd rfl h
        · rw [addR_pos (by omega)]
theorem impl_littleRuns_l0 (l : List Int) (hl : l.length ≤ 16) : ∀ (d k i : Nat) (o : List S34), i + d = l.length → 20 * d + 1 ≤ k → o.length ≤ i →
    impl_littleRuns.l0 k l (l.length : Int) o l (l.length : Int) (i : Int) = some (runsF l d i o)
  | 0, k, i, o, hd, hk, ho => by
    obtain ⟨k, rfl⟩ : ∃ m, k = m + 1 := ⟨k - 1, by omega⟩
    simp only [impl_littleRuns.l0]
    rw [if_neg (by omega)]; rfl
  | d + 1, k, i, o, hd, hk, ho => by
    obtain ⟨k, rfl⟩ : ∃ m, k = m + 1 := ⟨k - 1, by omega⟩
    have hdx := idx l (i + l.length - 1) (by omega) (by omega)
    have e1 : wrap64 ((i : Int) + (l.length : Int)) - 1 = ((i + l.length - 1 : Nat) : Int) := by rw [w64 (by omega) (by omega)]; omega
    have hz : ¬ (l.length : Int) = 0 := by omega
    simp only [impl_littleRuns.l0]
    rw [if_pos (by omega), if_pos (by omega), if_pos (by omega), if_neg hz, e1, hdx, if_pos (by omega), if_pos (idx_lt l _ (by omega)), show rd l ((((i + l.length - 1) % l.length : Nat)) : Int) = at' l (i + l.length - 1) from rfl, at'_self l i (by omega)]
    simp only [runsF, runStep]
    by_cases h : at' l (i + l.length - 1) ≤ at' l i
    · rw [if_pos h, if_pos h, succ64 (by omega)]
      exact impl_littleRuns_l0 l hl d k (i + 1) o (by omega) (by omega) (by omega)
    · rw [if_neg h, if_neg h]
      have h2 : 2 ≤ l.length := by
        rcases Nat.lt_or_ge l.length 2 with c | c
        · exfalso; rw [show i = 0 by omega, show l.length = 1 by omega] at h; exact h (Int.le_refl _)
        · exact c
      exact impl_littleRuns_l1 l hl i (by omega) h (20 * d + 1) o ho (runsF l d (i + 1)) (fun k o hk ho => impl_littleRuns_l0 l hl d k (i + 1) o (by omega) hk ho) (l.length - 2) k 1 (by omega) (by omega)

-- impl_LittleRuns
theorem impl_LittleRuns_eq (l : List Int) (hl : l.length ≤ 1048576) (k : Nat) (hk : l.length + 400 ≤ k) : impl_LittleRuns.f k l = some (if SecOk l then runsF l l.length 0 [] else []) := by
  unfold impl_LittleRuns.f impl_littleRuns.f
  rw [impl_ValidSectors_eq l hl k (by omega), Option.bind_some]
  by_cases h : SecOk l
  · have := impl_littleRuns_l0 l h.1 l.length k 0 [] (by omega) (by have := h.1; omega) (by simp)
    rw [show ((0 : Nat) : Int) = 0 from rfl] at this
    rw [this, if_pos h, if_pos (by simp [h])]; rfl
  · rw [if_neg h, if_neg (by simp [h])]

/-- Whether the sector at a place is smaller than both of its neighbours. -/
def single (L : List Int) (i : Nat) : Bool := decide (at' L (i + L.length - 1) > at' L i ∧ at' L (i + 1) > at' L i)
def mins (L : List Int) : Nat → Nat → Int
  | 0, _ => 0
  | d + 1, i => (if single L i = true then 1 else 0) + mins L d (i + 1)
def singles : List S34 → Int
  | [] => 0
  | r :: rs => (if r.f1 = 1 then 1 else 0) + singles rs
def runsL (L : List Int) : Nat → Nat → List S34
  | 0, _ => []
  | d + 1, i => runStep L i [] ++ runsL L d (i + 1)
theorem runStep_app (L : List Int) (i : Nat) (o : List S34) : runStep L i o = o ++ runStep L i [] := by
  unfold runStep addR; split
  · simp
  · split <;> simp
theorem runsF_app (L : List Int) : ∀ (d i : Nat) (o : List S34), runsF L d i o = o ++ runsL L d i
  | 0, _, o => by simp [runsF, runsL]
  | d + 1, i, o => by rw [runsF, runsF_app L d, runStep_app, runsL, List.append_assoc]
theorem runAt_ge (L : List Int) (i : Nat) : ∀ d m : Nat, runAt L i d m = 0 ∨ (m : Int) ≤ runAt L i d m
  | 0, m => Or.inr (Int.le_refl _)
  | d + 1, m => by
    have := runAt_ge L i d (m + 1)
    simp only [runAt]
    split
    · omega
    · split <;> omega
theorem runAt_spec (L : List Int) (i : Nat) (hi : i < L.length) (hp : at' L (i + L.length - 1) > at' L i) : ∀ (d m : Nat), m + d + 1 = L.length → (∀ m' : Nat, m' < m → at' L (i + m') = at' L i) → runAt L i d m > 0 →
    ∃ c : Nat, runAt L i d m = c ∧ c < L.length ∧ (∀ m' : Nat, m' < c → at' L (i + m') = at' L i) ∧ at' L (i + c) > at' L i
  | 0, m, hm, h, _ => ⟨m, rfl, by omega, h, by rw [at'_last L i m hi (by omega)]; exact hp⟩
  | d + 1, m, hm, h, h0 => by
    simp only [runAt] at h0 ⊢
    by_cases e : at' L (i + m) = at' L i
    · rw [if_pos e] at h0 ⊢
      exact runAt_spec L i hi hp d (m + 1) (by omega) (fun m' hm' => by
        rcases Nat.lt_or_ge m' m with c | c
        · exact h m' c
        · rw [show m' = m by omega]; exact e) h0
    · rw [if_neg e] at h0 ⊢
      by_cases e2 : at' L (i + m) < at' L i
      · rw [if_pos e2] at h0; omega
      · rw [if_neg e2] at h0 ⊢
        exact ⟨m, rfl, by omega, h, by omega⟩
theorem runAt_one (L : List Int) (i : Nat) (hi : i < L.length) (hp : at' L (i + L.length - 1) > at' L i) (hn : 2 ≤ L.length) : runAt L i (L.length - 2) 1 = 1 ↔ at' L (i + 1) > at' L i := by
  rcases hd : L.length - 2 with _ | d
  · rw [at'_last L i 1 hi (by omega)]
    exact ⟨fun _ => hp, fun _ => rfl⟩
  · simp only [runAt]
    have := runAt_ge L i d (1 + 1)
    split
    · omega
    · split <;> omega
/-- What the law asks of a run. -/
def RunOk (L : List Int) (r : S34) : Prop := ∃ i c : Nat, r.f0 = i ∧ i < L.length ∧ r.f1 = c ∧ 1 ≤ c ∧ c < L.length ∧ (∀ m : Nat, m < c → at' L (i + m) = r.f2) ∧ at' L (i + L.length - 1) > r.f2 ∧ at' L (i + c) > r.f2
theorem two_le (L : List Int) (i : Nat) (hi : i < L.length) (hp : ¬ at' L (i + L.length - 1) ≤ at' L i) : 2 ≤ L.length := by
  rcases Nat.lt_or_ge L.length 2 with c | c
  · exfalso; rw [show i = 0 by omega, show L.length = 1 by omega] at hp; exact hp (Int.le_refl _)
  · exact c
theorem runStep_spec (L : List Int) (i : Nat) (hi : i < L.length) : (∀ r ∈ runStep L i [], RunOk L r ∧ r.f0 = i) ∧ (runStep L i []).length ≤ 1 ∧ singles (runStep L i []) = (if single L i = true then 1 else 0) := by
  unfold runStep single
  by_cases h : at' L (i + L.length - 1) ≤ at' L i
  · rw [if_pos h, if_neg (by simp; omega)]
    exact ⟨by simp, by simp, rfl⟩
  · have h2 := two_le L i hi h
    have h1 := runAt_one L i hi (by omega) h2
    rw [if_neg h]
    by_cases h0 : runAt L i (L.length - 2) 1 > 0
    · rw [addR_pos h0]
      refine ⟨fun r hr => ?_, by simp, ?_⟩
      · obtain ⟨c, e, hc, h3, h4⟩ := runAt_spec L i hi (by omega) (L.length - 2) 1 (by omega) (fun m' hm' => by rw [show m' = 0 by omega, Nat.add_zero]) h0
        simp only [List.nil_append, List.mem_singleton] at hr
        subst hr
        exact ⟨⟨i, c, rfl, hi, e, by omega, hc, h3, by show at' L (i + L.length - 1) > at' L i; omega, h4⟩, rfl⟩
      · simp only [List.nil_append, singles, Int.add_zero]
        by_cases h5 : at' L (i + 1) > at' L i
        · rw [if_pos (h1.2 h5), if_pos (by simp; omega)]
        · rw [if_neg (fun c => h5 (h1.1 c)), if_neg (by simp; omega)]
    · rw [addR_zero h0]
      refine ⟨by simp, by simp, ?_⟩
      have h5 : ¬ at' L (i + 1) > at' L i := fun c => by have := h1.2 c; omega
      rw [if_neg (by simp; omega)]; rfl
theorem singles_app : ∀ a b : List S34, singles (a ++ b) = singles a + singles b
  | [], b => by simp [singles]
  | x :: xs, b => by simp only [List.cons_append, singles, singles_app xs b]; omega
theorem runsL_spec (L : List Int) : ∀ (d i : Nat), i + d = L.length → (∀ r ∈ runsL L d i, RunOk L r ∧ (i : Int) ≤ r.f0) ∧ (runsL L d i).Pairwise (fun a b => a.f0 < b.f0) ∧ (runsL L d i).length ≤ d ∧ singles (runsL L d i) = mins L d i
  | 0, i, _ => ⟨by simp [runsL], by simp [runsL], by simp [runsL], rfl⟩
  | d + 1, i, hd => by
    obtain ⟨a1, a2, a3⟩ := runStep_spec L i (by omega)
    obtain ⟨b1, b2, b3, b4⟩ := runsL_spec L d (i + 1) (by omega)
    simp only [runsL]
    refine ⟨fun r hr => ?_, ?_, by simp; omega, by rw [singles_app, a3, b4]; rfl⟩
    · rcases List.mem_append.1 hr with h | h
      · exact ⟨(a1 r h).1, by have := (a1 r h).2; omega⟩
      · exact ⟨(b1 r h).1, by have := (b1 r h).2; omega⟩
    · rw [List.pairwise_append]
      refine ⟨?_, b2, fun x hx y hy => by have := (a1 x hx).2; have := (b1 y hy).2; omega⟩
      rcases hs : runStep L i [] with _ | ⟨x, _ | ⟨y, t⟩⟩
      · simp
      · simp
      · rw [hs] at a2; simp at a2
theorem mins_bd (L : List Int) : ∀ d i : Nat, 0 ≤ mins L d i ∧ mins L d i ≤ d
  | 0, _ => by simp [mins]
  | d + 1, i => by
    have := mins_bd L d (i + 1)
    simp only [mins]
    split <;> omega
theorem law_l2 (L : List Int) (hL : L.length ≤ 16) : ∀ (d k i : Nat) (c : Int), i + d = L.length → d + 1 ≤ k → -100 ≤ c - d → c ≤ 100 → laws_FnLittleRuns.l2 k L (L.length : Int) c (i : Int) = some (decide (c = mins L d i))
  | 0, k, i, c, hd, hk, _, _ => by
    obtain ⟨k, rfl⟩ : ∃ m, k = m + 1 := ⟨k - 1, by omega⟩
    simp only [laws_FnLittleRuns.l2]
    rw [if_neg (by omega)]
    simp only [mins]
    by_cases h : c = 0 <;> simp [h]
  | d + 1, k, i, c, hd, hk, h0, h1 => by
    obtain ⟨k, rfl⟩ : ∃ m, k = m + 1 := ⟨k - 1, by omega⟩
    have hdx := idx L (i + L.length - 1) (by omega) (by omega)
    have e1 : wrap64 ((i : Int) + (L.length : Int)) - 1 = ((i + L.length - 1 : Nat) : Int) := by rw [w64 (by omega) (by omega)]; omega
    have hdy := idx L (i + 1) (by omega) (by omega)
    rw [show ((i + 1 : Nat) : Int) = (i : Int) + 1 by omega] at hdy
    have hz : ¬ (L.length : Int) = 0 := by omega
    simp only [laws_FnLittleRuns.l2]
    rw [if_pos (by omega), if_neg hz, e1, hdx, if_pos (by omega), if_pos (idx_lt L _ (by omega)), if_pos (by omega), if_pos (by omega), show rd L ((((i + L.length - 1) % L.length : Nat)) : Int) = at' L (i + L.length - 1) from rfl, at'_self L i (by omega),
      hdy, show rd L ((((i + 1) % L.length : Nat)) : Int) = at' L (i + 1) from rfl, if_pos (show (0 : Int) ≤ (((i + 1) % L.length : Nat) : Int) by omega), if_pos (idx_lt L _ (by omega)), succ64 (by omega), w64 (n := c - 1) (by omega) (by omega)]
    have m1 : single L i = true → mins L (d + 1) i = 1 + mins L d (i + 1) := fun h => by rw [mins, if_pos h]
    have m0 : single L i = false → mins L (d + 1) i = mins L d (i + 1) := fun h => by rw [mins, h]; simp
    have ih := law_l2 L hL d k (i + 1)
    by_cases h : at' L (i + L.length - 1) > at' L i
    · rw [if_pos h]
      by_cases h2 : at' L (i + 1) > at' L i
      · rw [if_pos h2, m1 (decide_eq_true ⟨h, h2⟩), ih _ (by omega) (by omega) (by omega) (by omega)]
        congr 1; rw [decide_eq_decide]; omega
      · rw [if_neg h2, m0 (decide_eq_false (fun c => h2 c.2)), ih _ (by omega) (by omega) (by omega) (by omega)]
    · rw [if_neg h, m0 (decide_eq_false (fun c => h c.1)), ih _ (by omega) (by omega) (by omega) (by omega)]
theorem law_l1 (L : List Int) (hL : L.length ≤ 16) (R : List S34) (i n : Nat) (v : Int) (hi : i < L.length) (hn : n < L.length) (hm : ∀ m : Nat, m < n → at' L (i + m) = v) (hp : at' L (i + L.length - 1) > v) (hq : at' L (i + n) > v)
    (j : Nat) (hj : j ≤ 100) (c : Int) (hc : 0 ≤ c) (hc2 : c ≤ 100) (K : Nat) (F : Int → Bool) (cont : ∀ k c', K ≤ k → 0 ≤ c' → c' ≤ c + 1 → laws_FnLittleRuns.l0 k L (L.length : Int) R c' ((j + 1 : Nat) : Int) = some (F c')) :
    ∀ (d k m : Nat), m + d = n → d + 2 + K ≤ k → laws_FnLittleRuns.l1 k L (L.length : Int) R c (j : Int) (m : Int) (i : Int) (n : Int) v = some (F (if (n : Int) = 1 then c + 1 else c))
  | 0, k, m, hd, hk => by
    obtain ⟨k, rfl⟩ : ∃ m, k = m + 2 := ⟨k - 2, by omega⟩
    have hdx := idx L (i + L.length - 1) (by omega) (by omega)
    have e1 : wrap64 ((i : Int) + (L.length : Int)) - 1 = ((i + L.length - 1 : Nat) : Int) := by rw [w64 (by omega) (by omega)]; omega
    have hdy := idx L (i + n) (by omega) (by omega)
    rw [show ((i + n : Nat) : Int) = (i : Int) + n by omega] at hdy
    have hz : ¬ (L.length : Int) = 0 := by omega
    rw [laws_FnLittleRuns.l1]
    rw [if_neg (by omega), if_neg hz, e1, hdx, if_pos (by omega), if_pos (idx_lt L _ (by omega)), show rd L ((((i + L.length - 1) % L.length : Nat)) : Int) = at' L (i + L.length - 1) from rfl, if_neg (by omega),
      hdy, if_pos (by omega), if_pos (idx_lt L _ (by omega)), show rd L ((((i + n) % L.length : Nat)) : Int) = at' L (i + n) from rfl, decide_eq_false (by omega), laws_FnLittleRuns.j3, if_neg (by simp), succ64 (by omega), w64 (n := c + 1) (by omega) (by omega)]
    by_cases h : (n : Int) = 1
    · rw [if_pos h, if_pos h, cont _ _ (by omega) (by omega) (by omega)]
    · rw [if_neg h, if_neg h, cont _ _ (by omega) (by omega) (by omega)]
  | d + 1, k, m, hd, hk => by
    obtain ⟨k, rfl⟩ : ∃ m, k = m + 1 := ⟨k - 1, by omega⟩
    have hdx := idx L (i + m) (by omega) (by omega)
    rw [show ((i + m : Nat) : Int) = (i : Int) + m by omega] at hdx
    have hz : ¬ (L.length : Int) = 0 := by omega
    rw [laws_FnLittleRuns.l1]
    rw [if_pos (by omega), if_neg hz, hdx, if_pos (by omega), if_pos (idx_lt L _ (by omega)), show rd L ((((i + m) % L.length : Nat)) : Int) = at' L (i + m) from rfl, if_pos (hm m (by omega)), succ64 (by omega)]
    exact law_l1 L hL R i n v hi hn hm hp hq j hj c hc hc2 K F cont d k (m + 1) (by omega) (by omega)
theorem rdR (l : List S34) (j : Nat) (h : j < l.length) : rd_T34 l (j : Int) = l[j] := by
  unfold rd_T34
  rw [Int.toNat_natCast, List.getD_eq_getElem?_getD, List.getElem?_eq_getElem h]
  rfl
theorem law_l0 (L : List Int) (hL : L.length ≤ 16) (R : List S34) (hR : ∀ r ∈ R, RunOk L r) (hP : R.Pairwise (fun a b => a.f0 < b.f0)) (hRl : R.length ≤ 16) :
    ∀ (d k j : Nat) (c : Int), j + d = R.length → 30 * d + 30 ≤ k → 0 ≤ c → c ≤ j → laws_FnLittleRuns.l0 k L (L.length : Int) R c (j : Int) = some (decide (c + singles (R.drop j) = mins L L.length 0))
  | 0, k, j, c, hd, hk, h0, h1 => by
    obtain ⟨k, rfl⟩ : ∃ m, k = m + 1 := ⟨k - 1, by omega⟩
    rw [laws_FnLittleRuns.l0, if_neg (by omega)]
    have := law_l2 L hL L.length k 0 c (by omega) (by omega) (by omega) (by omega)
    rw [show ((0 : Nat) : Int) = 0 from rfl] at this
    rw [this, List.drop_eq_nil_of_le (by omega)]
    simp only [singles, Int.add_zero]
  | d + 1, k, j, c, hd, hk, h0, h1 => by
    obtain ⟨k, rfl⟩ : ∃ m, k = m + 2 := ⟨k - 2, by omega⟩
    have hj : j < R.length := by omega
    obtain ⟨i, n, e0, hi, e1, hn1, hn, hm, hp, hq⟩ := hR R[j] (List.getElem_mem hj)
    have key := law_l1 L hL R i n R[j].f2 hi hn hm hp hq j (by omega) c h0 (by omega)
    have fin : laws_FnLittleRuns.j1 (k + 1) L (L.length : Int) R c (j : Int) false R[j].f0 R[j].f1 R[j].f2 = some (decide (c + singles (R.drop j) = mins L L.length 0)) := by
      rw [laws_FnLittleRuns.j1, if_neg (by simp), e0, e1]
      have ih : ∀ k c, 30 * d + 30 ≤ k → 0 ≤ c → c ≤ ((j + 1 : Nat) : Int) → laws_FnLittleRuns.l0 k L (L.length : Int) R c ((j + 1 : Nat) : Int) = some (decide (c + singles (R.drop (j + 1)) = mins L L.length 0)) := fun k c hk h0 h1 => law_l0 L hL R hR hP hRl d k (j + 1) c (by omega) hk h0 h1
      have := key (30 * d + 30) (fun c => decide (c + singles (R.drop (j + 1)) = mins L L.length 0)) (fun k c' hk h0 h1' => ih k c' hk h0 (by omega)) n k 0 (by omega) (by omega)
      rw [show ((0 : Nat) : Int) = 0 from rfl] at this
      rw [this, drop_at R j hj]
      congr 1
      rw [decide_eq_decide]
      simp only [singles, e1]
      by_cases h : (n : Int) = 1
      · rw [if_pos h, if_pos h]; omega
      · rw [if_neg h, if_neg h]; omega
    rw [laws_FnLittleRuns.l0, if_pos (by omega), if_pos (by omega)]
    rw [rdR R j hj, if_neg (by omega), if_neg (by omega), if_neg (by omega), if_neg (by omega)]
    by_cases hz : (j : Int) > 0
    · have hlt := List.pairwise_iff_getElem.1 hP (j - 1) j (by omega) hj (by omega)
      have ej : wrap64 ((j : Int) - 1) = ((j - 1 : Nat) : Int) := by rw [w64 (by omega) (by omega)]; omega
      rw [if_pos hz, ej, if_pos (by omega), if_pos (by omega), rdR R (j - 1) (by omega), decide_eq_false (by omega)]
      exact fin
    · rw [if_neg hz]
      exact fin
theorem FnLittleRuns : laws_FnLittleRuns.Pure := by
  intro l _ _ hb
  refine ⟨2000, ?_⟩
  unfold laws_FnLittleRuns.f
  rw [laws_a2Long_eq, Option.bind_some]
  by_cases hl : l.length > 3000 ∨ ([] : List Int).length > 3000
  · rw [if_pos (by simpa using hl)]
  · rw [if_neg (by simpa using hl)]
    have hB : Bytes l := ⟨by omega, fun x hx => by have := hb x hx; simpa [Lit.wf, IntKind.min, IntKind.max, IntKind.signed, IntKind.bits] using this⟩
    obtain ⟨L, e, hL⟩ := spec_A2Sectors_ok l hB 2000 (by omega)
    have hL1 := hL.1
    obtain ⟨a, b, c, s⟩ := runsL_spec L L.length 0 (by omega)
    rw [e, Option.bind_some, impl_LittleRuns_eq L (by omega) 2000 (by omega), Option.bind_some, if_pos hL, runsF_app, List.nil_append]
    have := law_l0 L hL1 (runsL L L.length 0) (fun r hr => (a r hr).1) b (by omega) (runsL L L.length 0).length 2000 0 0 (by omega) (by omega) (by omega) (by omega)
    rw [show ((0 : Nat) : Int) = 0 from rfl] at this
    rw [this, List.drop_zero, s]
    simp

end Go.Proofs.Ytjldcnibdddioaa.Pure
