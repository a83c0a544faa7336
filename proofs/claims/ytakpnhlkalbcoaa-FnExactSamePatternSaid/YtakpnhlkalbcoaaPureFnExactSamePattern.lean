/- What is proved: the program's SamePattern answers what the reference's answers, at every two patterns. Conditions: none. -/
import Derived.Test.YtakpnhlkalbcoaaPFnExactSamePatternx
import Derived.Test.YtakpnhlkalbcoaaMath
namespace Go.Proofs.Ytakpnhlkalbcoaa.Pure
open Go.RowKit Go.Proofs.Ytakpnhlkalbcoaa.PFnExactSamePattern Go.Proofs.YtakpnhlkalbcoaaW.PrintWords Go.Proofs.YtakpnhlkalbcoaaW.PrintLast Go.Proofs.YtakpnhlkalbcoaaW.PrintMore Go.Proofs.Ytakpnhlkalbcoaa.Math

-- laws_szPointS
theorem laws_szPointS_eq {l : List S76} {n : Int} (hn : 0 ≤ n) (hn1 : n ≤ 1048576) (hl : l.length ≤ maxLen) : laws_szPointS.f l n = some (if n < l.length then -1 else n - l.length) := by
  unfold laws_szPointS.f
  have : l.length ≤ 9223372036854775807 := Nat.le_trans hl (by unfold maxLen; omega)
  rw [w64 (by omega) (by omega)]
  by_cases h : n < l.length
  · rw [if_pos (by omega), if_pos h]
  · rw [if_neg (by omega), if_neg h]

-- laws_szCreaseS
theorem laws_szCreaseS_eq {l : List S78} {n : Int} (hn : 0 ≤ n) (hn1 : n ≤ 1048576) (hl : l.length ≤ maxLen) : laws_szCreaseS.f l n = some (if n < l.length then -1 else n - l.length) := by
  unfold laws_szCreaseS.f
  have : l.length ≤ 9223372036854775807 := Nat.le_trans hl (by unfold maxLen; omega)
  rw [w64 (by omega) (by omega)]
  by_cases h : n < l.length
  · rw [if_pos (by omega), if_pos h]
  · rw [if_neg (by omega), if_neg h]

-- laws_szPattern
theorem laws_szPattern_eq {a : List S76} {c : List S78} {n : Int} (hn : 0 ≤ n) (hn1 : n ≤ 1048576) (ha : a.length ≤ maxLen) (hc : c.length ≤ maxLen) : laws_szPattern.f a c n = some (if n < a.length + c.length then -1 else n - a.length - c.length) := by
  unfold laws_szPattern.f
  rw [laws_szPointS_eq hn hn1 ha, Option.bind_some]
  by_cases h : n < a.length
  · rw [if_pos h, if_pos (by omega), if_pos (by omega)]
  · rw [if_neg h, if_neg (by omega), laws_szCreaseS_eq (by omega) (by omega) hc, Option.bind_some]
    by_cases h2 : n - a.length < c.length
    · rw [if_pos h2, if_pos (by omega), if_pos (by omega)]
    · rw [if_neg h2, if_neg (by omega), if_neg (by omega)]

-- laws_toNum
theorem laws_toNum_eq (a b k : Int) : laws_toNum.f a b k = some (a, b, k) := rfl

-- laws_toPoint
theorem laws_toPoint_eq (a b k c d l : Int) : laws_toPoint.f a b k c d l = some (a, b, k, c, d, l) := rfl

-- laws_toPointS
/-- A point of the laws as the program's. -/
def toP (x : S76) : S61 := ⟨⟨x.f0.f0, x.f0.f1, x.f0.f2⟩, ⟨x.f1.f0, x.f1.f1, x.f1.f2⟩⟩
theorem rdT_lp (l : List S76) (j : Nat) (h : j < l.length) : rd_T76 l (j : Int) = l[j] := by
  unfold rd_T76
  rw [Int.toNat_natCast, List.getD_eq_getElem?_getD, List.getElem?_eq_getElem h]
  rfl
theorem rdT_ip (l : List S61) (j : Nat) (h : j < l.length) : rd_T61 l (j : Int) = l[j] := by
  unfold rd_T61
  rw [Int.toNat_natCast, List.getD_eq_getElem?_getD, List.getElem?_eq_getElem h]
  rfl
theorem laws_toPointS_l0 (l : List S76) (hl : l.length ≤ 1048576) : ∀ (d k j : Nat) (o : List S61), j + d = l.length → d < k → o.length = l.length → o.take j = (l.take j).map toP →
    laws_toPointS.l0 k l o (j : Int) = some (l.map toP)
  | 0, k, j, o, hd, hk, ho, ht => by
    obtain ⟨k, rfl⟩ : ∃ m, k = m + 1 := ⟨k - 1, by omega⟩
    simp only [laws_toPointS.l0]
    rw [if_neg (by omega)]
    rw [List.take_of_length_le (by omega), List.take_of_length_le (by omega)] at ht
    rw [ht]
  | d + 1, k, j, o, hd, hk, ho, ht => by
    obtain ⟨k, rfl⟩ : ∃ m, k = m + 1 := ⟨k - 1, by omega⟩
    simp only [laws_toPointS.l0]
    rw [if_pos (by omega), if_pos (by omega), rdT_lp l j (by omega), laws_toPoint_eq]
    simp only [Option.bind_some]
    rw [if_pos (by omega), succ64 (by omega), Int.toNat_natCast]
    refine laws_toPointS_l0 l hl d k (j + 1) _ (by omega) (by omega) (by simpa using ho) ?_
    rw [List.take_add_one, List.take_add_one, List.take_set_of_le (Nat.le_refl j), ht, List.getElem?_set_self (by omega), List.getElem?_eq_getElem (by omega), List.map_append]
    rfl
theorem laws_toPointS_eq (l : List S76) (hl : l.length ≤ 1048576) (k : Nat) (hk : l.length < k) : laws_toPointS.f k l = some (l.map toP) := by
  unfold laws_toPointS.f
  rw [if_pos (by omega), if_pos (by omega), Int.toNat_natCast]
  exact laws_toPointS_l0 l hl l.length k 0 _ (by omega) hk (by simp) (by simp)

-- laws_toCrease
theorem laws_toCrease_eq (a b c : Int) : laws_toCrease.f a b c = some (a, b, c) := rfl

-- laws_toCreaseS
/-- A crease of the laws as the program's. -/
def toC (x : S78) : S63 := ⟨x.f0, x.f1, x.f2⟩
theorem rdT_lc (l : List S78) (j : Nat) (h : j < l.length) : rd_T78 l (j : Int) = l[j] := by
  unfold rd_T78
  rw [Int.toNat_natCast, List.getD_eq_getElem?_getD, List.getElem?_eq_getElem h]
  rfl
theorem rdT_ic (l : List S63) (j : Nat) (h : j < l.length) : rd_T63 l (j : Int) = l[j] := by
  unfold rd_T63
  rw [Int.toNat_natCast, List.getD_eq_getElem?_getD, List.getElem?_eq_getElem h]
  rfl
theorem laws_toCreaseS_l0 (l : List S78) (hl : l.length ≤ 1048576) : ∀ (d k j : Nat) (o : List S63), j + d = l.length → d < k → o.length = l.length → o.take j = (l.take j).map toC →
    laws_toCreaseS.l0 k l o (j : Int) = some (l.map toC)
  | 0, k, j, o, hd, hk, ho, ht => by
    obtain ⟨k, rfl⟩ : ∃ m, k = m + 1 := ⟨k - 1, by omega⟩
    simp only [laws_toCreaseS.l0]
    rw [if_neg (by omega)]
    rw [List.take_of_length_le (by omega), List.take_of_length_le (by omega)] at ht
    rw [ht]
  | d + 1, k, j, o, hd, hk, ho, ht => by
    obtain ⟨k, rfl⟩ : ∃ m, k = m + 1 := ⟨k - 1, by omega⟩
    simp only [laws_toCreaseS.l0]
    rw [if_pos (by omega), if_pos (by omega), rdT_lc l j (by omega), laws_toCrease_eq]
    simp only [Option.bind_some]
    rw [if_pos (by omega), succ64 (by omega), Int.toNat_natCast]
    refine laws_toCreaseS_l0 l hl d k (j + 1) _ (by omega) (by omega) (by simpa using ho) ?_
    rw [List.take_add_one, List.take_add_one, List.take_set_of_le (Nat.le_refl j), ht, List.getElem?_set_self (by omega), List.getElem?_eq_getElem (by omega), List.map_append]
    rfl
theorem laws_toCreaseS_eq (l : List S78) (hl : l.length ≤ 1048576) (k : Nat) (hk : l.length < k) : laws_toCreaseS.f k l = some (l.map toC) := by
  unfold laws_toCreaseS.f
  rw [if_pos (by omega), if_pos (by omega), Int.toNat_natCast]
  exact laws_toCreaseS_l0 l hl l.length k 0 _ (by omega) hk (by simp) (by simp)

-- laws_toPattern
theorem laws_toPattern_eq (a : List S76) (c : List S78) (ha : a.length ≤ 1048576) (hc : c.length ≤ 1048576) (k : Nat) (hk : a.length < k) (hk2 : c.length < k) : laws_toPattern.f k a c = some (a.map toP, c.map toC) := by
  unfold laws_toPattern.f
  rw [laws_toPointS_eq a ha k hk, laws_toCreaseS_eq c hc k hk2]
  rfl

-- impl_Point
-- (the points' loop is told beside the law)

-- laws_eqNum
theorem laws_eqNum_eq (a b k c d l : Int) : laws_eqNum.f a b k c d l = some (decide (a = c ∧ b = d ∧ k = l)) := by
  unfold laws_eqNum.f
  by_cases h : a = c <;> by_cases h1 : b = d <;> by_cases h2 : k = l <;> simp [h, h1, h2]

-- laws_eqPoint
theorem laws_eqPoint_eq (x y : S61) : laws_eqPoint.f x.f0.f0 x.f0.f1 x.f0.f2 x.f1.f0 x.f1.f1 x.f1.f2 y.f0.f0 y.f0.f1 y.f0.f2 y.f1.f0 y.f1.f1 y.f1.f2 = some (decide ((x.f0.f0 = y.f0.f0 ∧ x.f0.f1 = y.f0.f1 ∧ x.f0.f2 = y.f0.f2) ∧ (x.f1.f0 = y.f1.f0 ∧ x.f1.f1 = y.f1.f1 ∧ x.f1.f2 = y.f1.f2))) := by
  unfold laws_eqPoint.f
  simp only [laws_eqNum_eq, Option.bind_some]
  exact dec2 _ _
theorem point_ext {x y : S61} (h : (x.f0.f0 = y.f0.f0 ∧ x.f0.f1 = y.f0.f1 ∧ x.f0.f2 = y.f0.f2) ∧ (x.f1.f0 = y.f1.f0 ∧ x.f1.f1 = y.f1.f1 ∧ x.f1.f2 = y.f1.f2)) : x = y := by
  obtain ⟨⟨a, b, c⟩, ⟨d, e, f⟩⟩ := x
  obtain ⟨⟨a', b', c'⟩, ⟨d', e', f'⟩⟩ := y
  obtain ⟨⟨rfl, rfl, rfl⟩, ⟨rfl, rfl, rfl⟩⟩ := h
  rfl

-- laws_eqPointS
theorem laws_eqPointS_l0 (a : List S61) (hl : a.length ≤ 1048576) : ∀ (d k j : Nat), j + d = a.length → d < k → laws_eqPointS.l0 k a a (j : Int) = some true
  | 0, k, j, hd, hk => by
    obtain ⟨k, rfl⟩ : ∃ m, k = m + 1 := ⟨k - 1, by omega⟩
    simp only [laws_eqPointS.l0]
    rw [if_neg (by omega)]
  | d + 1, k, j, hd, hk => by
    obtain ⟨k, rfl⟩ : ∃ m, k = m + 1 := ⟨k - 1, by omega⟩
    simp only [laws_eqPointS.l0]
    rw [if_pos (by omega), if_pos (by omega), if_pos (by omega), laws_eqPoint_eq, decide_eq_true ⟨⟨rfl, rfl, rfl⟩, ⟨rfl, rfl, rfl⟩⟩, Option.bind_some, if_pos rfl, succ64 (by omega)]
    exact laws_eqPointS_l0 a hl d k (j + 1) (by omega) (by omega)
/-- A list of points is the same as itself. -/
theorem laws_eqPointS_self (a : List S61) (hl : a.length ≤ 1048576) (k : Nat) (hk : a.length < k) : laws_eqPointS.f k a a = some true := by
  unfold laws_eqPointS.f
  rw [if_pos rfl]
  exact laws_eqPointS_l0 a hl a.length k 0 (by omega) hk

-- laws_eqCrease
theorem laws_eqCrease_self (a b c : Int) : laws_eqCrease.f a b c a b c = some true := by unfold laws_eqCrease.f; simp

-- laws_eqCreaseS
theorem laws_eqCreaseS_l0 (a : List S63) (hl : a.length ≤ 1048576) : ∀ (d k j : Nat), j + d = a.length → d < k → laws_eqCreaseS.l0 k a a (j : Int) = some true
  | 0, k, j, hd, hk => by
    obtain ⟨k, rfl⟩ : ∃ m, k = m + 1 := ⟨k - 1, by omega⟩
    simp only [laws_eqCreaseS.l0]
    rw [if_neg (by omega)]
  | d + 1, k, j, hd, hk => by
    obtain ⟨k, rfl⟩ : ∃ m, k = m + 1 := ⟨k - 1, by omega⟩
    simp only [laws_eqCreaseS.l0]
    rw [if_pos (by omega), if_pos (by omega), if_pos (by omega), laws_eqCrease_self, Option.bind_some, if_pos rfl, succ64 (by omega)]
    exact laws_eqCreaseS_l0 a hl d k (j + 1) (by omega) (by omega)
theorem laws_eqCreaseS_self (a : List S63) (hl : a.length ≤ 1048576) (k : Nat) (hk : a.length < k) : laws_eqCreaseS.f k a a = some true := by
  unfold laws_eqCreaseS.f
  rw [if_pos rfl]
  exact laws_eqCreaseS_l0 a hl a.length k 0 (by omega) hk

-- laws_eqPattern
theorem laws_eqPattern_self (a : List S61) (c : List S63) (ha : a.length ≤ 1048576) (hc : c.length ≤ 1048576) (k : Nat) (hk : a.length < k) (hk2 : c.length < k) : laws_eqPattern.f k a c a c = some true := by
  unfold laws_eqPattern.f
  rw [laws_eqPointS_self a ha k hk, Option.bind_some, if_pos rfl, laws_eqCreaseS_self c hc k hk2, Option.bind_some, if_pos rfl]

theorem pattern_points (a b : List S61) (c e : List S63) (hl : a.length ≤ 1048576) (hab : a.length = b.length) : ∀ (d j : Nat), j + d = a.length →
    ∃ r : Bool, (∀ k, d < k → impl_Point.l0 k a b (a.length : Int) (j : Int) = some r) ∧ (∀ K, spec_SamePattern.l0 (d + 1 + K) (j : Int) a c b e = if r = true then spec_SamePattern.l1 K 0 a c b e else some false)
  | 0, j, hd => by
    refine ⟨true, fun k hk => ?_, fun K => ?_⟩
    · obtain ⟨k, rfl⟩ : ∃ m, k = m + 1 := ⟨k - 1, by omega⟩
      simp only [impl_Point.l0]
      rw [if_neg (by omega)]
    · rw [show 0 + 1 + K = K + 1 by omega]
      simp only [spec_SamePattern.l0]
      rw [if_neg (by omega), if_pos trivial]
  | d + 1, j, hd => by
    obtain ⟨r, h1, h2⟩ := pattern_points a b c e hl hab d (j + 1) (by omega)
    have g1 : (j : Int) < (a.length : Int) := by omega
    have g2 : (j : Int) < (b.length : Int) := by omega
    have g3 : (0 : Int) ≤ (j : Int) := by omega
    obtain ⟨T, hT⟩ : ∃ T : Bool, T = (((!(((rd_T61 a (j : Int)).f0.f0) == ((rd_T61 b (j : Int)).f0.f0))) || ((!(((rd_T61 a (j : Int)).f0.f1) == ((rd_T61 b (j : Int)).f0.f1))) || (!(((rd_T61 a (j : Int)).f0.f2) == ((rd_T61 b (j : Int)).f0.f2))))) || ((!(((rd_T61 a (j : Int)).f1.f0) == ((rd_T61 b (j : Int)).f1.f0))) || ((!(((rd_T61 a (j : Int)).f1.f1) == ((rd_T61 b (j : Int)).f1.f1))) || (!(((rd_T61 a (j : Int)).f1.f2) == ((rd_T61 b (j : Int)).f1.f2)))))) := ⟨_, rfl⟩
    refine ⟨!T && r, fun k hk => ?_, fun K => ?_⟩
    · obtain ⟨k, rfl⟩ : ∃ m, k = m + 1 := ⟨k - 1, by omega⟩
      simp only [impl_Point.l0, if_pos g1, if_pos g2, if_pos g3]
      rw [← hT, succ64 (by omega), h1 k (by omega)]
      cases T <;> simp
    · rw [show d + 1 + 1 + K = (d + 1 + K) + 1 by omega]
      simp only [spec_SamePattern.l0, if_pos g1, if_pos g2, if_pos g3]
      rw [← hT, succ64 (by omega), h2 K]
      cases T <;> simp
theorem pattern_creases (a b : List S61) (c e : List S63) (hl : c.length ≤ 1048576) (hab : c.length = e.length) : ∀ (d j : Nat), j + d = c.length →
    ∃ r : Bool, (∀ k, d < k → impl_Crease.l0 k c e (c.length : Int) (j : Int) = some r) ∧ (∀ k, d < k → spec_SamePattern.l1 k (j : Int) a c b e = some r)
  | 0, j, hd => by
    refine ⟨true, fun k hk => ?_, fun k hk => ?_⟩
    · obtain ⟨k, rfl⟩ : ∃ m, k = m + 1 := ⟨k - 1, by omega⟩
      simp only [impl_Crease.l0]
      rw [if_neg (by omega)]
    · obtain ⟨k, rfl⟩ : ∃ m, k = m + 1 := ⟨k - 1, by omega⟩
      simp only [spec_SamePattern.l1]
      rw [if_neg (by omega)]
  | d + 1, j, hd => by
    obtain ⟨r, h1, h2⟩ := pattern_creases a b c e hl hab d (j + 1) (by omega)
    have g1 : (j : Int) < (c.length : Int) := by omega
    have g2 : (j : Int) < (e.length : Int) := by omega
    have g3 : (0 : Int) ≤ (j : Int) := by omega
    obtain ⟨T, hT⟩ : ∃ T : Bool, T = (!(((rd_T63 c (j : Int)).f0) == ((rd_T63 e (j : Int)).f0)) || (!(((rd_T63 c (j : Int)).f1) == ((rd_T63 e (j : Int)).f1)) || (!(((rd_T63 c (j : Int)).f2) == ((rd_T63 e (j : Int)).f2))))) := ⟨_, rfl⟩
    refine ⟨!T && r, fun k hk => ?_, fun k hk => ?_⟩
    · obtain ⟨k, rfl⟩ : ∃ m, k = m + 1 := ⟨k - 1, by omega⟩
      simp only [impl_Crease.l0, if_pos g1, if_pos g2, if_pos g3]
      rw [← hT, succ64 (by omega), h1 k (by omega)]
      cases T <;> simp
    · obtain ⟨k, rfl⟩ : ∃ m, k = m + 1 := ⟨k - 1, by omega⟩
      simp only [spec_SamePattern.l1, if_pos g1, if_pos g2, if_pos g3]
      rw [← hT, succ64 (by omega), h2 k (by omega)]
      cases T <;> simp
theorem SamePattern_both (a b : List S61) (c e : List S63) (hl : a.length ≤ 1048576) (hc : c.length ≤ 1048576) (k : Nat) (hk : a.length + c.length + 10 < k) : ∃ r, spec_SamePattern.f k a c b e = some r ∧ impl_SamePattern.f k a c b e = some r := by
  unfold spec_SamePattern.f impl_SamePattern.f impl_Point.f impl_Crease.f
  have jt : spec_SamePattern.j0 k true a c b e = some false := by
    obtain ⟨k, rfl⟩ : ∃ m, k = m + 1 := ⟨k - 1, by omega⟩
    simp only [spec_SamePattern.j0]
    rw [if_pos trivial]
  by_cases h : a.length = b.length
  · rw [if_pos (by omega), if_pos (by omega)]
    obtain ⟨r, h1, h2⟩ := pattern_points a b c e hl h a.length 0 (by omega)
    rw [show ((0 : Nat) : Int) = 0 from rfl] at h1 h2
    rw [h1 k (by omega), Option.bind_some]
    by_cases h3 : c.length = e.length
    · obtain ⟨r', h4, h5⟩ := pattern_creases a b c e hc h3 c.length 0 (by omega)
      rw [show ((0 : Nat) : Int) = 0 from rfl] at h4 h5
      rw [if_pos (show (c.length : Int) = e.length by omega), h4 k (by omega), show ((c.length : Int) != (e.length : Int)) = false by simp [h3]]
      obtain ⟨K, rfl⟩ : ∃ K, k = (a.length + 1 + K) + 1 := ⟨k - a.length - 2, by omega⟩
      simp only [spec_SamePattern.j0]
      rw [if_neg (by simp), h2 K, h5 K (by omega)]
      cases r
      · exact ⟨false, rfl, rfl⟩
      · exact ⟨r', rfl, rfl⟩
    · rw [show ((c.length : Int) != (e.length : Int)) = true by simp; omega, jt, if_neg (show ¬ (c.length : Int) = e.length by omega)]
      refine ⟨false, rfl, ?_⟩
      cases r <;> rfl
  · rw [if_neg (by omega), jt, if_neg (by omega)]
    exact ⟨false, rfl, rfl⟩
theorem FnExactSamePattern : laws_FnExactSamePattern.Pure := by
  intro a c b e ha hb
  refine ⟨3000000, ?_⟩
  have a1 : a.length ≤ maxLen := ha.1.1
  have a2 : c.length ≤ maxLen := ha.2.1
  have b1 : b.length ≤ maxLen := hb.1.1
  have b2 : e.length ≤ maxLen := hb.2.1
  clear ha hb
  unfold laws_FnExactSamePattern.f
  rw [laws_szPattern_eq (n := 1048576) (by omega) (by omega) a1 a2, Option.bind_some]
  by_cases h : (1048576 : Int) < a.length + c.length
  · rw [if_pos h, if_pos (by omega)]
  · have e1 : ¬ (1048576 : Int) - (a.length : Int) - (c.length : Int) < 0 := by omega
    rw [if_neg h, if_neg e1]
    rw [laws_szPattern_eq (n := 1048576 - (a.length : Int) - c.length) (by omega) (by omega) b1 b2, Option.bind_some]
    by_cases h2 : (1048576 : Int) - a.length - c.length < b.length + e.length
    · rw [if_pos h2, if_pos (by omega)]
    · have e2 : ¬ (1048576 : Int) - (a.length : Int) - (c.length : Int) - (b.length : Int) - (e.length : Int) < 0 := by omega
      rw [if_neg h2, if_neg e2]
      obtain ⟨r, hs, hi⟩ := SamePattern_both (a.map toP) (b.map toP) (c.map toC) (e.map toC) (by simp; omega) (by simp; omega) 3000000 (by simp; omega)
      rw [laws_toPattern_eq a c (by omega) (by omega) _ (by omega) (by omega), laws_toPattern_eq b e (by omega) (by omega) _ (by omega) (by omega)]
      simp only [Option.bind_some]
      rw [hs, Option.bind_some, hi, Option.bind_some, laws_eqPattern_self _ _ (by simp; omega) (by simp; omega) _ (by simp; omega) (by simp; omega), laws_eqPattern_self _ _ (by simp; omega) (by simp; omega) _ (by simp; omega) (by simp; omega)]
      simp

end Go.Proofs.Ytakpnhlkalbcoaa.Pure
