/- What is proved: the program's SamePolygon answers what the reference's answers, at every two lists. Conditions: none. -/
import Derived.Test.YtbkehpciffponaaPFnExactSamePolygonx
import Derived.Test.YtbkehpciffponaaMath
namespace Go.Proofs.Ytbkehpciffponaa.Pure
open Go.RowKit Go.Proofs.Ytbkehpciffponaa.PFnExactSamePolygon Go.Proofs.YtbkehpciffponaaW.PrintWords Go.Proofs.YtbkehpciffponaaW.PrintLast Go.Proofs.YtbkehpciffponaaW.PrintMore Go.Proofs.Ytbkehpciffponaa.Math

-- laws_szPointS
theorem laws_szPointS_eq {l : List S65} {n : Int} (hn : 0 ≤ n) (hn1 : n ≤ 1048576) (hl : l.length ≤ maxLen) : laws_szPointS.f l n = some (if n < l.length then -1 else n - l.length) := by
  unfold laws_szPointS.f
  have : l.length ≤ 9223372036854775807 := Nat.le_trans hl (by unfold maxLen; omega)
  rw [w64 (by omega) (by omega)]
  by_cases h : n < l.length
  · rw [if_pos (by omega), if_pos h]
  · rw [if_neg (by omega), if_neg h]

-- laws_toNum
theorem laws_toNum_eq (a b k : Int) : laws_toNum.f a b k = some (a, b, k) := rfl

-- laws_toPoint
theorem laws_toPoint_eq (a b k c d l : Int) : laws_toPoint.f a b k c d l = some (a, b, k, c, d, l) := rfl

-- laws_toPointS
/-- A point of the laws as the program's. -/
def toP (x : S65) : S62 := ⟨⟨x.f0.f0, x.f0.f1, x.f0.f2⟩, ⟨x.f1.f0, x.f1.f1, x.f1.f2⟩⟩
theorem rdT_lp (l : List S65) (j : Nat) (h : j < l.length) : rd_T65 l (j : Int) = l[j] := by
  unfold rd_T65
  rw [Int.toNat_natCast, List.getD_eq_getElem?_getD, List.getElem?_eq_getElem h]
  rfl
theorem rdT_ip (l : List S62) (j : Nat) (h : j < l.length) : rd_T62 l (j : Int) = l[j] := by
  unfold rd_T62
  rw [Int.toNat_natCast, List.getD_eq_getElem?_getD, List.getElem?_eq_getElem h]
  rfl
theorem laws_toPointS_l0 (l : List S65) (hl : l.length ≤ 1048576) : ∀ (d k j : Nat) (o : List S62), j + d = l.length → d < k → o.length = l.length → o.take j = (l.take j).map toP →
    laws_toPointS.l0 k l o (j : Int) = some (l.map toP)
  | 0, k, j, o, hd, hk, ho, ht => by
    obtain ⟨k, rfl⟩ : ∃ m, k = m + 1 := ⟨k - 1, by omega⟩
    simp only [laws_toPointS.l0]
    rw [if_neg (by omega)]
    rw [List.take_of_length_le (by omega), List.take_of_length_le (by omega)] at ht
    rw [ht]
  | d + 1, k, j, o, hd, hk, ho, ht => by
    obtain ⟨k, rfl⟩ : ∃ m, k = m + 1 := ⟨k - 1, by omega⟩
    simp only [laws_toPointS.l0]
    rw [if_pos (by omega), if_pos (by omega), rdT_lp l j (by omega), laws_toPoint_eq]
    simp only [Option.bind_some]
    rw [if_pos (by omega), succ64 (by omega), Int.toNat_natCast]
    refine laws_toPointS_l0 l hl d k (j + 1) _ (by omega) (by omega) (by simpa using ho) ?_
    rw [List.take_add_one, List.take_add_one, List.take_set_of_le (Nat.le_refl j), ht, List.getElem?_set_self (by omega), List.getElem?_eq_getElem (by omega), List.map_append]
    rfl
theorem laws_toPointS_eq (l : List S65) (hl : l.length ≤ 1048576) (k : Nat) (hk : l.length < k) : laws_toPointS.f k l = some (l.map toP) := by
  unfold laws_toPointS.f
  rw [if_pos (by omega), if_pos (by omega), Int.toNat_natCast]
  exact laws_toPointS_l0 l hl l.length k 0 _ (by omega) hk (by simp) (by simp)

-- impl_Point
theorem spec_l03Same_both (a b : List S62) (hl : a.length ≤ 1048576) (hab : a.length = b.length) : ∀ (d k j : Nat), j + d = a.length → d < k → ∃ r, spec_l03Same.l0 k a b (j : Int) = some r ∧ impl_Point.l0 k a b (a.length : Int) (j : Int) = some r
  | 0, k, j, hd, hk => by
    obtain ⟨k, rfl⟩ : ∃ m, k = m + 1 := ⟨k - 1, by omega⟩
    simp only [spec_l03Same.l0, impl_Point.l0]
    have h1 : ¬ (j : Int) < (a.length : Int) := by omega
    simp only [if_neg h1]
    exact ⟨true, rfl, rfl⟩
  | d + 1, k, j, hd, hk => by
    obtain ⟨k, rfl⟩ : ∃ m, k = m + 1 := ⟨k - 1, by omega⟩
    obtain ⟨r, h1, h2⟩ := spec_l03Same_both a b hl hab d k (j + 1) (by omega) (by omega)
    simp only [spec_l03Same.l0, impl_Point.l0]
    have g1 : (j : Int) < (a.length : Int) := by omega
    have g2 : (j : Int) < (b.length : Int) := by omega
    have g3 : (0 : Int) ≤ (j : Int) := by omega
    simp only [if_pos g1, if_pos g2, if_pos g3]
    rw [succ64 (by omega), h1, h2]
    split
    · exact ⟨false, rfl, rfl⟩
    · exact ⟨r, rfl, rfl⟩

-- laws_eqNum
theorem laws_eqNum_eq (a b k c d l : Int) : laws_eqNum.f a b k c d l = some (decide (a = c ∧ b = d ∧ k = l)) := by
  unfold laws_eqNum.f
  by_cases h : a = c <;> by_cases h1 : b = d <;> by_cases h2 : k = l <;> simp [h, h1, h2]

-- laws_eqPoint
theorem laws_eqPoint_eq (x y : S62) : laws_eqPoint.f x.f0.f0 x.f0.f1 x.f0.f2 x.f1.f0 x.f1.f1 x.f1.f2 y.f0.f0 y.f0.f1 y.f0.f2 y.f1.f0 y.f1.f1 y.f1.f2 = some (decide ((x.f0.f0 = y.f0.f0 ∧ x.f0.f1 = y.f0.f1 ∧ x.f0.f2 = y.f0.f2) ∧ (x.f1.f0 = y.f1.f0 ∧ x.f1.f1 = y.f1.f1 ∧ x.f1.f2 = y.f1.f2))) := by
  unfold laws_eqPoint.f
  simp only [laws_eqNum_eq, Option.bind_some]
  exact dec2 _ _
theorem point_ext {x y : S62} (h : (x.f0.f0 = y.f0.f0 ∧ x.f0.f1 = y.f0.f1 ∧ x.f0.f2 = y.f0.f2) ∧ (x.f1.f0 = y.f1.f0 ∧ x.f1.f1 = y.f1.f1 ∧ x.f1.f2 = y.f1.f2)) : x = y := by
  obtain ⟨⟨a, b, c⟩, ⟨d, e, f⟩⟩ := x
  obtain ⟨⟨a', b', c'⟩, ⟨d', e', f'⟩⟩ := y
  obtain ⟨⟨rfl, rfl, rfl⟩, ⟨rfl, rfl, rfl⟩⟩ := h
  rfl

-- laws_eqPointS
theorem laws_eqPointS_l0 (a : List S62) (hl : a.length ≤ 1048576) : ∀ (d k j : Nat), j + d = a.length → d < k → laws_eqPointS.l0 k a a (j : Int) = some true
  | 0, k, j, hd, hk => by
    obtain ⟨k, rfl⟩ : ∃ m, k = m + 1 := ⟨k - 1, by omega⟩
    simp only [laws_eqPointS.l0]
    rw [if_neg (by omega)]
  | d + 1, k, j, hd, hk => by
    obtain ⟨k, rfl⟩ : ∃ m, k = m + 1 := ⟨k - 1, by omega⟩
    simp only [laws_eqPointS.l0]
    rw [if_pos (by omega), if_pos (by omega), if_pos (by omega), laws_eqPoint_eq, decide_eq_true ⟨⟨rfl, rfl, rfl⟩, ⟨rfl, rfl, rfl⟩⟩, Option.bind_some, if_pos rfl, succ64 (by omega)]
    exact laws_eqPointS_l0 a hl d k (j + 1) (by omega) (by omega)
/-- A list of points is the same as itself. -/
theorem laws_eqPointS_self (a : List S62) (hl : a.length ≤ 1048576) (k : Nat) (hk : a.length < k) : laws_eqPointS.f k a a = some true := by
  unfold laws_eqPointS.f
  rw [if_pos rfl]
  exact laws_eqPointS_l0 a hl a.length k 0 (by omega) hk

theorem SamePolygon_both (a b : List S62) (hl : a.length ≤ 1048576) (k : Nat) (hk : a.length < k) : ∃ r, spec_SamePolygon.f k a b = some r ∧ impl_SamePolygon.f k a b = some r := by
  unfold spec_SamePolygon.f impl_SamePolygon.f spec_l03Same.f impl_Point.f
  by_cases h : a.length = b.length
  · obtain ⟨r, h1, h2⟩ := spec_l03Same_both a b hl h a.length k 0 (by omega) hk
    rw [if_pos (by omega), if_pos (by omega)]
    rw [show ((0 : Nat) : Int) = 0 from rfl] at h1 h2
    rw [h1, h2]
    exact ⟨r, rfl, rfl⟩
  · rw [if_neg (by omega), if_neg (by omega)]
    exact ⟨false, rfl, rfl⟩
theorem FnExactSamePolygon : laws_FnExactSamePolygon.Pure := by
  intro a b ha hb
  refine ⟨1048600, ?_⟩
  unfold laws_FnExactSamePolygon.f
  rw [laws_szPointS_eq (by omega) (by omega) ha.1, Option.bind_some]
  by_cases h : (1048576 : Int) < a.length
  · rw [if_pos h, if_pos (by omega)]
  · rw [if_neg h, if_neg (by omega), laws_szPointS_eq (by omega) (by omega) hb.1, Option.bind_some]
    by_cases h2 : (1048576 : Int) - a.length < b.length
    · rw [if_pos h2, if_pos (by omega)]
    · rw [if_neg h2, if_neg (by omega)]
      obtain ⟨r, hs, hi⟩ := SamePolygon_both (a.map toP) (b.map toP) (by simp; omega) 1048600 (by simp; omega)
      rw [laws_toPointS_eq a (by omega) _ (by omega), laws_toPointS_eq b (by omega) _ (by omega)]
      simp only [Option.bind_some]
      rw [hs, Option.bind_some, hi, Option.bind_some, laws_eqPointS_self _ (by simp; omega) _ (by simp; omega), laws_eqPointS_self _ (by simp; omega) _ (by simp; omega)]
      simp

end Go.Proofs.Ytbkehpciffponaa.Pure
