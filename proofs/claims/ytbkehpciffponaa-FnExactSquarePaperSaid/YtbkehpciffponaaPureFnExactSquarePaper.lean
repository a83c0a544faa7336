/- What is proved: the program's SquarePaper answers what the reference's answers, at every side. Conditions: none. -/
import Derived.Test.YtbkehpciffponaaPFnExactSquarePaperx
import Derived.Test.YtbkehpciffponaaMath
namespace Go.Proofs.Ytbkehpciffponaa.Pure
open Go.RowKit Go.Proofs.Ytbkehpciffponaa.PFnExactSquarePaper Go.Proofs.YtbkehpciffponaaW.PrintWords Go.Proofs.YtbkehpciffponaaW.PrintLast Go.Proofs.YtbkehpciffponaaW.PrintMore Go.Proofs.Ytbkehpciffponaa.Math

-- laws_eqNum
theorem laws_eqNum_eq (a b k c d l : Int) : laws_eqNum.f a b k c d l = some (decide (a = c ∧ b = d ∧ k = l)) := by
  unfold laws_eqNum.f
  by_cases h : a = c <;> by_cases h1 : b = d <;> by_cases h2 : k = l <;> simp [h, h1, h2]

-- laws_eqPoint
theorem laws_eqPoint_eq (x y : S62) : laws_eqPoint.f x.f0.f0 x.f0.f1 x.f0.f2 x.f1.f0 x.f1.f1 x.f1.f2 y.f0.f0 y.f0.f1 y.f0.f2 y.f1.f0 y.f1.f1 y.f1.f2 = some (decide ((x.f0.f0 = y.f0.f0 ∧ x.f0.f1 = y.f0.f1 ∧ x.f0.f2 = y.f0.f2) ∧ (x.f1.f0 = y.f1.f0 ∧ x.f1.f1 = y.f1.f1 ∧ x.f1.f2 = y.f1.f2))) := by
  unfold laws_eqPoint.f
  simp only [laws_eqNum_eq, Option.bind_some]
  exact dec2 _ _
theorem point_ext {x y : S62} (h : (x.f0.f0 = y.f0.f0 ∧ x.f0.f1 = y.f0.f1 ∧ x.f0.f2 = y.f0.f2) ∧ (x.f1.f0 = y.f1.f0 ∧ x.f1.f1 = y.f1.f1 ∧ x.f1.f2 = y.f1.f2)) : x = y := by
  obtain ⟨⟨a, b, c⟩, ⟨d, e, f⟩⟩ := x
  obtain ⟨⟨a', b', c'⟩, ⟨d', e', f'⟩⟩ := y
  obtain ⟨⟨rfl, rfl, rfl⟩, ⟨rfl, rfl, rfl⟩⟩ := h
  rfl

-- laws_eqPointS
theorem laws_eqPointS_l0 (a : List S62) (hl : a.length ≤ 1048576) : ∀ (d k j : Nat), j + d = a.length → d < k → laws_eqPointS.l0 k a a (j : Int) = some true
  | 0, k, j, hd, hk => by
    obtain ⟨k, rfl⟩ : ∃ m, k = m + 1 := ⟨k - 1, by omega⟩
    simp only [laws_eqPointS.l0]
    rw [if_neg (by omega)]
  | d + 1, k, j, hd, hk => by
    obtain ⟨k, rfl⟩ : ∃ m, k = m + 1 := ⟨k - 1, by omega⟩
    simp only [laws_eqPointS.l0]
    rw [if_pos (by omega), if_pos (by omega), if_pos (by omega), laws_eqPoint_eq, decide_eq_true ⟨⟨rfl, rfl, rfl⟩, ⟨rfl, rfl, rfl⟩⟩, Option.bind_some, if_pos rfl, succ64 (by omega)]
    exact laws_eqPointS_l0 a hl d k (j + 1) (by omega) (by omega)
/-- A list of points is the same as itself. -/
theorem laws_eqPointS_self (a : List S62) (hl : a.length ≤ 1048576) (k : Nat) (hk : a.length < k) : laws_eqPointS.f k a a = some true := by
  unfold laws_eqPointS.f
  rw [if_pos rfl]
  exact laws_eqPointS_l0 a hl a.length k 0 (by omega) hk

-- spec_l00In
theorem spec_l00In_eq (a b c : Int) : spec_l00In.f a b c = some (decide (b ≤ a ∧ a ≤ c)) := by
  unfold spec_l00In.f
  by_cases h : b ≤ a <;> simp [h]

-- impl_within
theorem impl_within_eq (a b c : Int) : impl_within.f a b c = some (decide (b ≤ a ∧ a ≤ c)) := by
  unfold impl_within.f
  by_cases h : b ≤ a <;> simp [h]

-- laws_markPointS
/-- The marks of a point. -/
def mkP (a : Int) : S62 := ⟨⟨a, a + 1, a + 2⟩, ⟨a + 3, a + 4, a + 5⟩⟩
def marksP (a : Int) : Nat → List S62
  | 0 => []
  | n + 1 => mkP a :: marksP (a + 6) n
theorem marksP_length : ∀ (n : Nat) (a : Int), (marksP a n).length = n
  | 0, _ => rfl
  | n + 1, a => by simp [marksP, marksP_length n]
theorem marksP_get : ∀ (n j : Nat) (a : Int) (h : j < (marksP a n).length), (marksP a n)[j] = mkP (a + 6 * j)
  | 0, j, a, h => by simp [marksP] at h
  | n + 1, 0, a, h => by simp [marksP]
  | n + 1, j + 1, a, h => by
    have := marksP_get n j (a + 6) (by simpa [marksP] using h)
    simp only [marksP, List.getElem_cons_succ]
    rw [this]
    congr 1
    omega
theorem marksP_snoc (n : Nat) (a : Int) : marksP a (n + 1) = marksP a n ++ [mkP (a + 6 * n)] := by
  refine List.ext_getElem (by simp [marksP_length]) (fun i h1 h2 => ?_)
  rw [marksP_length] at h1
  rw [marksP_get]
  by_cases hi : i < n
  · rw [List.getElem_append_left (by rw [marksP_length]; exact hi), marksP_get]
  · have : i = n := by omega
    subst this
    rw [List.getElem_append_right (by rw [marksP_length]; omega)]
    simp [marksP_length]
theorem rdT_set (l : List S62) (j : Nat) (v : S62) (h : j < l.length) : rd_T62 (l.set j v) (j : Int) = v := by
  unfold rd_T62
  rw [Int.toNat_natCast, List.getD_eq_getElem?_getD, List.getElem?_set_self h]
  rfl
theorem laws_markPointS_l0 (l : List S62) (hl : l.length ≤ 1048576) : ∀ (d k j : Nat) (o : List S62), j + d = l.length → d < k → o.length = l.length → o.take j = marksP 1 j →
    laws_markPointS.l0 k o (1 + 6 * j : Int) (j : Int) = some ((1 + 6 * l.length : Int), marksP 1 l.length)
  | 0, k, j, o, hd, hk, ho, ht => by
    obtain ⟨k, rfl⟩ : ∃ m, k = m + 1 := ⟨k - 1, by omega⟩
    simp only [laws_markPointS.l0]
    rw [if_neg (by omega)]
    obtain rfl : j = l.length := by omega
    rw [List.take_of_length_le (by omega)] at ht
    rw [ht]
  | d + 1, k, j, o, hd, hk, ho, ht => by
    obtain ⟨k, rfl⟩ : ∃ m, k = m + 1 := ⟨k - 1, by omega⟩
    simp only [laws_markPointS.l0]
    rw [if_pos (by omega), if_pos (by omega)]
    have hj : j < o.length := by omega
    have e1 := w64 (n := 1 + 6 * (j : Int) + 1) (by omega) (by omega)
    have e2 := w64 (n := 1 + 6 * (j : Int) + 1 + 1) (by omega) (by omega)
    have e3 := w64 (n := 1 + 6 * (j : Int) + 1 + 1 + 1) (by omega) (by omega)
    have e4 := w64 (n := 1 + 6 * (j : Int) + 1 + 1 + 1 + 1) (by omega) (by omega)
    have e5 := w64 (n := 1 + 6 * (j : Int) + 1 + 1 + 1 + 1 + 1) (by omega) (by omega)
    have e6 := w64 (n := 1 + 6 * (j : Int) + 1 + 1 + 1 + 1 + 1 + 1) (by omega) (by omega)
    simp only [Option.bind_some, Int.toNat_natCast, e1, e2, e3, e4, e5, e6, rdT_set _ j _ hj, List.set_set]
    rw [succ64 (by omega)]
    have := laws_markPointS_l0 l hl d k (j + 1) (o.set j (mkP (1 + 6 * j))) (by omega) (by omega) (by simpa using ho) (by
      rw [List.take_add_one, List.take_set_of_le (Nat.le_refl j), ht, List.getElem?_set_self (by omega), marksP_snoc]
      rfl)
    rw [← this]
    congr 1
theorem laws_markPointS_eq (l : List S62) (hl : l.length ≤ 1048576) (k : Nat) (hk : l.length < k) : laws_markPointS.f k l 1 = some ((1 + 6 * l.length : Int), marksP 1 l.length) := by
  unfold laws_markPointS.f
  have := laws_markPointS_l0 l hl l.length k 0 l (by omega) hk rfl (by simp [marksP])
  simpa using this

-- laws_heldPointS
theorem rdT_pt (l : List S62) (j : Nat) (h : j < l.length) : rd_T62 l (j : Int) = l[j] := by
  unfold rd_T62
  rw [Int.toNat_natCast, List.getD_eq_getElem?_getD, List.getElem?_eq_getElem h]
  rfl
theorem laws_heldPointS_l0 (n : Nat) (hn : n ≤ 1048576) : ∀ (d k j : Nat), j + d = n → d < k →
    laws_heldPointS.l0 k (marksP 1 n) (1 + 6 * j : Int) (j : Int) = some (1 + 6 * n : Int)
  | 0, k, j, hd, hk => by
    obtain ⟨k, rfl⟩ : ∃ m, k = m + 1 := ⟨k - 1, by omega⟩
    simp only [laws_heldPointS.l0]
    rw [if_neg (by rw [marksP_length]; omega)]
    obtain rfl : j = n := by omega
    rfl
  | d + 1, k, j, hd, hk => by
    obtain ⟨k, rfl⟩ : ∃ m, k = m + 1 := ⟨k - 1, by omega⟩
    have hj : j < (marksP 1 n).length := by rw [marksP_length]; omega
    have e1 := w64 (n := 1 + 6 * (j : Int) + 1) (by omega) (by omega)
    have e2 := w64 (n := 1 + 6 * (j : Int) + 1 + 1) (by omega) (by omega)
    have e3 := w64 (n := 1 + 6 * (j : Int) + 1 + 1 + 1) (by omega) (by omega)
    have e4 := w64 (n := 1 + 6 * (j : Int) + 1 + 1 + 1 + 1) (by omega) (by omega)
    have e5 := w64 (n := 1 + 6 * (j : Int) + 1 + 1 + 1 + 1 + 1) (by omega) (by omega)
    have e6 := w64 (n := 1 + 6 * (j : Int) + 1 + 1 + 1 + 1 + 1 + 1) (by omega) (by omega)
    simp only [laws_heldPointS.l0]
    rw [if_pos (by omega), if_pos (by omega), rdT_pt _ j hj, marksP_get, e1, e2, e3, e4, e5, e6]
    rw [if_pos (show (mkP (1 + 6 * (j : Int))).f0.f0 = 1 + 6 * (j : Int) from rfl), if_pos (show (mkP (1 + 6 * (j : Int))).f0.f1 = 1 + 6 * (j : Int) + 1 from rfl),
      if_pos (show (mkP (1 + 6 * (j : Int))).f0.f2 = 1 + 6 * (j : Int) + 1 + 1 by show 1 + 6 * (j : Int) + 2 = _; omega), if_pos (show (mkP (1 + 6 * (j : Int))).f1.f0 = 1 + 6 * (j : Int) + 1 + 1 + 1 by show 1 + 6 * (j : Int) + 3 = _; omega),
      if_pos (show (mkP (1 + 6 * (j : Int))).f1.f1 = 1 + 6 * (j : Int) + 1 + 1 + 1 + 1 by show 1 + 6 * (j : Int) + 4 = _; omega), if_pos (show (mkP (1 + 6 * (j : Int))).f1.f2 = 1 + 6 * (j : Int) + 1 + 1 + 1 + 1 + 1 by show 1 + 6 * (j : Int) + 5 = _; omega), succ64 (by omega)]
    rw [← laws_heldPointS_l0 n hn d k (j + 1) (by omega) (by omega)]
    congr 1
theorem laws_heldPointS_eq (n : Nat) (hn : n ≤ 1048576) (k : Nat) (hk : n < k) : laws_heldPointS.f k (marksP 1 n) 1 = some (1 + 6 * n : Int) := by
  unfold laws_heldPointS.f
  have := laws_heldPointS_l0 n hn n k 0 (by omega) hk
  simpa using this

theorem SquarePaper_both (a : Int) : ∃ (l : List S62) (b : Bool), l.length ≤ 4 ∧ spec_SquarePaper.f a = some (l, b) ∧ impl_SquarePaper.f a = some (l, b) := by
  unfold spec_SquarePaper.f impl_SquarePaper.f spec_l03Square.f impl_whole.f
  simp only [spec_l00In_eq, impl_within_eq, Option.bind_some]
  by_cases h : 1 ≤ a ∧ a ≤ 1000
  · rw [decide_eq_true h]
    exact ⟨_, true, by simp, rfl, rfl⟩
  · rw [decide_eq_false h]
    exact ⟨[], false, by simp, by simp, by simp⟩
theorem FnExactSquarePaper : laws_FnExactSquarePaper.Pure := by
  intro a _
  refine ⟨20, ?_⟩
  obtain ⟨l, b, hl, hs, hi⟩ := SquarePaper_both a
  unfold laws_FnExactSquarePaper.f
  have hneg : (1 + 6 * (l.length : Int) < 0) = False := by simp; omega
  rw [hs, Option.bind_some, hi]
  simp (disch := omega) only [Option.bind_some, laws_eqPointS_self, if_true, bne_self_eq_false]
  simp (disch := omega) only [laws_FnExactSquarePaper.j0, Option.bind_some, laws_markPointS_eq, laws_heldPointS_eq, hneg, hi, if_false, if_true, laws_eqPointS_self, bne_self_eq_false, Bool.false_eq_true]
  simp (disch := omega) only [laws_FnExactSquarePaper.j1, Option.bind_some, laws_heldPointS_eq, hneg, if_false, if_true, Bool.false_eq_true]

end Go.Proofs.Ytbkehpciffponaa.Pure
