/- What is proved: the program's KawasakiSequences answers what the reference's answers, at every number. Conditions: none. -/
import Derived.Test.YtbpkbllokmplnaaK1PFnExactKawasakiSequencesx
import Derived.Test.YtbpkbllokmplnaaK1Math
import Derived.Test.YtbpkbllokmplnaaK1Secs
import Derived.Test.YtbpkbllokmplnaaK1Lex
import Derived.Test.YtbpkbllokmplnaaK1Kawa
namespace Go.Proofs.Ytbpkbllokmplnaa.Pure
open Go.RowKit Go.Proofs.Ytbpkbllokmplnaa.PFnExactKawasakiSequences Go.Proofs.YtbpkbllokmplnaaW.PrintWords Go.Proofs.YtbpkbllokmplnaaW.PrintLast Go.Proofs.YtbpkbllokmplnaaW.PrintMore Go.Proofs.Ytbpkbllokmplnaa.Math

theorem laws_eqInt64S_l0 (a b : List Int) (hl : a.length ≤ 1048576) (hab : a.length = b.length) : ∀ (d k j : Nat), j + d = a.length → d < k →
  zsK.l0 k a b (j : Int) = some (decide (a.drop j = b.drop j))
 | 0, k, j, hd, hk => by
  obtain ⟨k, rfl⟩ : ∃ m, k = m + 1 := ⟨k - 1, by omega⟩
  simp only [zsK.l0]
  rw [if_neg (by omega), List.drop_eq_nil_of_le (by omega), List.drop_eq_nil_of_le (by omega)]
  simp
 | d + 1, k, j, hd, hk => by
  obtain ⟨k, rfl⟩ : ∃ m, k = m + 1 := ⟨k - 1, by omega⟩
  simp only [zsK.l0]
  rw [if_pos (by omega), if_pos (by omega), if_pos (by omega), rd_nat a j (by omega), rd_nat b j (by omega), succ64 (by omega), drop_at a j (by omega), drop_at b j (by omega)]
  by_cases h : a[j] = b[j]
  ·rw [if_pos h, laws_eqInt64S_l0 a b hl hab d k (j + 1) (by omega) (by omega)]
   simp only [List.cons.injEq, h, true_and]
  ·rw [if_neg h]
   simp only [List.cons.injEq, h, false_and, decide_false]
theorem laws_eqInt64S_eq (a b : List Int) (hl : a.length ≤ 1048576) (k : Nat) (hk : a.length < k) : zsK.f k a b = some (decide (a = b)) := by
 unfold zsK.f
 by_cases h : a.length = b.length
 ·rw [if_pos (by omega)]
  have := laws_eqInt64S_l0 a b hl h a.length k 0 (by omega) hk
  rw [show ((0 : Nat) : Int) = 0 from rfl, List.drop_zero, List.drop_zero] at this
  exact this
 ·rw [if_neg (by omega), decide_eq_false (fun c => h (by rw [c]))]

theorem rdLL_i (l : List (List Int)) (j : Nat) (h : j < l.length) : zrY l (j : Int) = l[j] := by
 unfold zrY
 rw [Int.toNat_natCast, List.getD_eq_getElem?_getD, List.getElem?_eq_getElem h]
 rfl
theorem laws_eqInt64SS_l0 (a : List (List Int)) (hl : a.length ≤ 1048576) (hx : ∀ x ∈ a, x.length ≤ 1024) : ∀ (d k j : Nat), j + d = a.length → 1025 + d < k → zxX.l0 k a a (j : Int) = some true
 | 0, k, j, hd, hk => by
  obtain ⟨k, rfl⟩ : ∃ m, k = m + 1 := ⟨k - 1, by omega⟩
  simp only [zxX.l0]
  rw [if_neg (by omega)]
 | d + 1, k, j, hd, hk => by
  obtain ⟨k, rfl⟩ : ∃ m, k = m + 1 := ⟨k - 1, by omega⟩
  have hj : j < a.length := by omega
  have hb := hx _ (List.getElem_mem hj)
  simp only [zxX.l0]
  rw [if_pos (by omega), if_pos (by omega), if_pos (by omega), rdLL_i a j hj, laws_eqInt64S_eq _ _ (by omega) k (by omega), decide_eq_true rfl, Option.bind_some, if_pos rfl, succ64 (by omega)]
  exact laws_eqInt64SS_l0 a hl hx d k (j + 1) (by omega) (by omega)
theorem laws_eqInt64SS_self (a : List (List Int)) (hl : a.length ≤ 1048576) (hx : ∀ x ∈ a, x.length ≤ 1024) (k : Nat) (hk : 1026 + a.length < k) : zxX.f k a a = some true := by
 unfold zxX.f
 rw [if_pos rfl]
 exact laws_eqInt64SS_l0 a hl hx a.length k 0 (by omega) (by omega)

def marks (a : Int) : Nat → List Int
 | 0 => []
 | n + 1 => a :: marks (a + 1) n
theorem marks_length : ∀ (n : Nat) (a : Int), (marks a n).length = n
 | 0, _ => rfl
 | n + 1, a => by simp [marks, marks_length n]
theorem marks_snoc : ∀ (n : Nat) (a : Int), marks a (n + 1) = marks a n ++ [a + n]
 | 0, a => by simp [marks]
 | n + 1, a => by
  rw [marks, marks_snoc n (a + 1)]
  simp only [marks, List.cons_append, List.cons.injEq, List.append_cancel_left_eq, and_true, true_and]
  omega
theorem laws_markInt64S_l0 (l : List Int) (hl : l.length ≤ 1048576) (s : Int) (h0 : 0 ≤ s) (h1 : s ≤ 1073741824) : ∀ (d k j : Nat) (o : List Int), j + d = l.length → d < k → o.length = l.length → o.take j = marks s j →
  zlH.l0 k o (s + j : Int) (j : Int) = some ((s + l.length : Int), marks s l.length)
 | 0, k, j, o, hd, hk, ho, ht => by
  obtain ⟨k, rfl⟩ : ∃ m, k = m + 1 := ⟨k - 1, by omega⟩
  simp only [zlH.l0]
  rw [if_neg (by omega)]
  obtain rfl : j = l.length := by omega
  rw [List.take_of_length_le (by omega)] at ht
  rw [ht]
 | d + 1, k, j, o, hd, hk, ho, ht => by
  obtain ⟨k, rfl⟩ : ∃ m, k = m + 1 := ⟨k - 1, by omega⟩
  simp only [zlH.l0]
  rw [if_pos (by omega), if_pos (by omega), succ64 (by omega), Int.toNat_natCast, w64 (n := s + (j : Int) + 1) (by omega) (by omega)]
  have := laws_markInt64S_l0 l hl s h0 h1 d k (j + 1) (o.set j (s + j)) (by omega) (by omega) (by simpa using ho) (by
   rw [List.take_add_one, List.take_set_of_le (Nat.le_refl j), ht, List.getElem?_set_self (by omega), marks_snoc]
   simp)
  rw [← this]
  congr 1
  omega
theorem laws_markInt64S_from (l : List Int) (hl : l.length ≤ 1048576) (s : Int) (h0 : 0 ≤ s) (h1 : s ≤ 1073741824) (k : Nat) (hk : l.length < k) : zlH.f k l s = some ((s + l.length : Int), marks s l.length) := by
 unfold zlH.f
 have := laws_markInt64S_l0 l hl s h0 h1 l.length k 0 l (by omega) hk rfl (by simp [marks])
 simpa using this
def totR : List (List Int) → Nat
 | [] => 0
 | r :: rs => r.length + totR rs
def marksR : Int → List (List Int) → List (List Int)
 | _, [] => []
 | m, r :: rs => marks m r.length :: marksR (m + r.length) rs
theorem laws_markInt64SS_eq (k : Nat) (hk : 1025 < k) : ∀ (rows : List (List Int)) (m : Int), (∀ x ∈ rows, x.length ≤ 1024) → 0 ≤ m → m + (totR rows : Nat) ≤ 1073741824 → zeR.f k rows m = some (m + (totR rows : Nat), marksR m rows)
 | [], m, _, _, _ => by simp [zeR.f, totR, marksR]
 | r :: rs, m, hx, h0, h1 => by
  have hr := hx r List.mem_cons_self
  rw [totR] at h1
  simp only [zeR.f]
  rw [laws_markInt64S_from r (by omega) m h0 (by omega) k (by omega), Option.bind_some]
  simp only
  rw [laws_markInt64SS_eq k hk rs (m + r.length) (fun x h => hx x (List.mem_cons_of_mem _ h)) (by omega) (by omega), Option.bind_some]
  rw [totR, marksR]
  congr 2
  omega
theorem totR_le : ∀ (rows : List (List Int)), (∀ x ∈ rows, x.length ≤ 1024) → totR rows ≤ 1024 * rows.length
 | [], _ => by simp [totR]
 | r :: rs, hx => by
  have hr := hx r List.mem_cons_self
  have := totR_le rs (fun x h => hx x (List.mem_cons_of_mem _ h))
  rw [totR, List.length_cons]
  omega
theorem laws_heldInt64S_l0 (n : Nat) (hn : n ≤ 1048576) (s : Int) (h0 : 0 ≤ s) (h1 : s ≤ 1073741824) : ∀ (d k j : Nat), j + d = n → d < k →
  zjF.l0 k (marks s n) (s + j : Int) (j : Int) = some (s + n : Int)
 | 0, k, j, hd, hk => by
  obtain ⟨k, rfl⟩ : ∃ m, k = m + 1 := ⟨k - 1, by omega⟩
  simp only [zjF.l0]
  rw [if_neg (by rw [marks_length]; omega)]
  obtain rfl : j = n := by omega
  rfl
 | d + 1, k, j, hd, hk => by
  obtain ⟨k, rfl⟩ : ∃ m, k = m + 1 := ⟨k - 1, by omega⟩
  have hm : ∀ (n j : Nat) (a : Int) (h : j < (marks a n).length), (marks a n)[j] = a + j := by
   intro n
   induction n with
   | zero => intro j a h; simp [marks] at h
   | succ n ih =>
    intro j a h
    cases j with
    | zero => simp [marks]
    | succ j =>
     have := ih j (a + 1) (by simpa [marks] using h)
     simp only [marks, List.getElem_cons_succ]
     rw [this]; omega
  simp only [zjF.l0]
  rw [if_pos (by rw [marks_length]; omega), if_pos (by omega), rd_nat _ j (by rw [marks_length]; omega), hm, if_pos rfl, succ64 (by omega), w64 (n := s + (j : Int) + 1) (by omega) (by omega)]
  rw [← laws_heldInt64S_l0 n hn s h0 h1 d k (j + 1) (by omega) (by omega)]
  congr 1
  omega
theorem laws_heldInt64S_from (n : Nat) (hn : n ≤ 1048576) (s : Int) (h0 : 0 ≤ s) (h1 : s ≤ 1073741824) (k : Nat) (hk : n < k) : zjF.f k (marks s n) s = some (s + n : Int) := by
 unfold zjF.f
 have := laws_heldInt64S_l0 n hn s h0 h1 n k 0 (by omega) hk
 simpa using this
theorem laws_heldInt64SS_l0 : ∀ (rows : List (List Int)) (k j : Nat) (x : Int) (pre : List (List Int)), (∀ x ∈ rows, x.length ≤ 1024) → pre.length = j → j + rows.length ≤ 1048576 → 1025 + rows.length < k → 0 ≤ x → x + (totR rows : Nat) ≤ 1073741824 →
  zgD.l0 k (pre ++ marksR x rows) x (j : Int) = some (x + (totR rows : Nat))
 | [], k, j, x, pre, _, hp, _, hk, _, _ => by
  obtain ⟨k, rfl⟩ : ∃ m, k = m + 1 := ⟨k - 1, by omega⟩
  simp only [zgD.l0, marksR, List.append_nil]
  rw [if_neg (by omega), totR]
  simp
 | r :: rs, k, j, x, pre, hx, hp, hj, hk, h0, h1 => by
  obtain ⟨k, rfl⟩ : ∃ m, k = m + 1 := ⟨k - 1, by omega⟩
  have hr := hx r List.mem_cons_self
  rw [totR] at h1
  rw [List.length_cons] at hj hk
  have hlt : j < (pre ++ marksR x (r :: rs)).length := by rw [List.length_append, marksR, List.length_cons]; omega
  simp only [zgD.l0]
  have eg : (pre ++ marksR x (r :: rs))[j] = marks x r.length := by
   rw [List.getElem_append_right (by omega)]
   simp [marksR, hp]
  rw [if_pos (by omega), if_pos (by omega), rdLL_i _ j hlt, eg, laws_heldInt64S_from r.length (by omega) x h0 (by omega) k (by omega), Option.bind_some, if_neg (by omega), succ64 (by omega)]
  have ih := laws_heldInt64SS_l0 rs k (j + 1) (x + r.length) (pre ++ [marks x r.length]) (fun y h => hx y (List.mem_cons_of_mem _ h)) (by simp; omega) (by omega) (by omega) (by omega) (by omega)
  rw [List.append_assoc, List.singleton_append] at ih
  rw [marksR, ih, totR]
  congr 1
  omega
theorem laws_heldInt64SS_eq (rows : List (List Int)) (hl : rows.length ≤ 1048576) (hx : ∀ x ∈ rows, x.length ≤ 1024) (ht : 1 + (totR rows : Nat) ≤ 1073741824) (k : Nat) (hk : 1025 + rows.length < k) : zgD.f k (marksR 1 rows) 1 = some (1 + (totR rows : Nat) : Int) := by
 unfold zgD.f
 have := laws_heldInt64SS_l0 rows k 0 1 [] hx rfl (by omega) hk (by omega) (by omega)
 simpa using this

theorem spec_l00In_eq (a b c : Int) : ziE.f a b c = some (decide (b ≤ a ∧ a ≤ c)) := by
 unfold ziE.f
 by_cases h : b ≤ a <;> simp [h]

theorem spec_l05Ok_l0 (l : List Int) (hl : l.length ≤ 1048576) : ∀ (d k j : Nat) (s : Int), j + d = l.length → d < k → 0 ≤ s → s ≤ 16 * j →
  znN.l0 k l s (j : Int) = some (decide ((∀ x ∈ l.drop j, 1 ≤ x ∧ x ≤ 16) ∧ l.length ≤ 16 ∧ s + (l.drop j).sum = 16))
 | 0, k, j, s, hd, hk, h0, h1 => by
  obtain ⟨k, rfl⟩ : ∃ m, k = m + 1 := ⟨k - 1, by omega⟩
  simp only [znN.l0]
  rw [if_neg (by omega), List.drop_eq_nil_of_le (by omega)]
  by_cases h : l.length ≤ 16
  ·rw [if_pos (by omega)]
   by_cases h2 : s = 16 <;> simp [h, h2]
  ·rw [if_neg (by omega)]
   simp [h]
 | d + 1, k, j, s, hd, hk, h0, h1 => by
  obtain ⟨k, rfl⟩ : ∃ m, k = m + 1 := ⟨k - 1, by omega⟩
  simp only [znN.l0]
  rw [if_pos (by omega), if_pos (by omega), rd_nat l j (by omega), spec_l00In_eq, Option.bind_some, drop_at l j (by omega)]
  by_cases h : 1 ≤ l[j] ∧ l[j] ≤ 16
  ·rw [if_pos (by simp [h]), w64 (by omega) (by omega), succ64 (by omega), spec_l05Ok_l0 l hl d k (j + 1) _ (by omega) (by omega) (by omega) (by omega)]
   congr 1
   rw [decide_eq_decide]
   simp only [List.forall_mem_cons, List.sum_cons, h, and_self, true_and, Int.add_assoc]
  ·rw [if_neg (by simp [h])]
   rw [decide_eq_false (by simp only [List.forall_mem_cons]; exact fun c => h c.1.1)]
theorem spec_l05Ok_eq (l : List Int) (hl : l.length ≤ 1048576) (k : Nat) (hk : l.length < k) : znN.f k l = some (decide (SecOk l)) := by
 unfold znN.f
 have := spec_l05Ok_l0 l hl l.length k 0 0 (by omega) hk (by omega) (by omega)
 rw [show ((0 : Nat) : Int) = 0 from rfl] at this
 rw [this, List.drop_zero]
 congr 1
 rw [decide_eq_decide]
 unfold SecOk
 constructor
 ·rintro ⟨a, b, c⟩; exact ⟨b, a, by omega⟩
 ·rintro ⟨b, a, c⟩; exact ⟨a, b, by omega⟩

theorem spec_AlternatingSum_l0 (l : List Int) (hl : l.length ≤ 1048576) (hb : ∀ x ∈ l, -1048576 ≤ x ∧ x ≤ 1048576) (he : l.length % 2 = 0) : ∀ (d k j : Nat) (s : Int), j + 2 * d = l.length → d < k → -(1048576 * (j : Int)) ≤ s → s ≤ 1048576 * j →
  zdC.l0 k l s (j : Int) = some (s + alt (l.drop j), true)
 | 0, k, j, s, hd, hk, h0, h1 => by
  obtain ⟨k, rfl⟩ : ∃ m, k = m + 1 := ⟨k - 1, by omega⟩
  simp only [zdC.l0]
  rw [if_neg (by omega), List.drop_eq_nil_of_le (by omega)]
  simp [alt]
 | d + 1, k, j, s, hd, hk, h0, h1 => by
  obtain ⟨k, rfl⟩ : ∃ m, k = m + 1 := ⟨k - 1, by omega⟩
  have h := hb l[j] (List.getElem_mem (by omega))
  have h' := hb l[j + 1] (List.getElem_mem (by omega))
  simp only [zdC.l0]
  rw [succ64 (by omega), if_pos (by omega), if_pos (by omega), if_pos (by omega), if_pos (by omega), rd_nat l j (by omega), rd_nat l (j + 1) (by omega), drop_at l j (by omega), drop_at l (j + 1) (by omega),
   w64 (n := l[j] - l[j + 1]) (by omega) (by omega), w64 (n := s + (l[j] - l[j + 1])) (by omega) (by omega), w64 (n := (j : Int) + 2) (by omega) (by omega)]
  have := spec_AlternatingSum_l0 l hl hb he d k (j + 2) (s + (l[j] - l[j + 1])) (by omega) (by omega) (by omega) (by omega)
  rw [show ((j + 2 : Nat) : Int) = (j : Int) + 2 by omega] at this
  rw [this, show l.drop (j + 1 + 1) = l.drop (j + 2) from rfl]
  simp only [alt]; congr 2; omega
theorem spec_AlternatingSum_eq (l : List Int) (hl : l.length ≤ 1048576) (k : Nat) (hk : l.length + 1 < k) : zdC.f k l = some (if SecOk l ∧ l.length % 2 = 0 then (alt l, true) else (0, false)) := by
 unfold zdC.f
 rw [spec_l05Ok_eq l hl k (by omega), Option.bind_some]
 obtain ⟨k, rfl⟩ : ∃ m, k = m + 1 := ⟨k - 1, by omega⟩
 by_cases h : SecOk l
 ·rw [if_pos (by simp [h])]
  simp only [zdC.j0]
  by_cases he : l.length % 2 = 0
  ·rw [if_neg (by simp; omega), if_pos ⟨h, he⟩]
   have := spec_AlternatingSum_l0 l hl (fun x hx => by have := h.2.1 x hx; omega) he (l.length / 2) k 0 0 (by omega) (by omega) (by omega) (by omega)
   simpa using this
  ·rw [if_pos (by simp; omega), if_neg (fun c => he c.2)]
 ·rw [if_neg (by simp [h])]
  simp only [zdC.j0]
  rw [if_pos trivial, if_neg (fun c => h c.1)]

theorem spec_IsKawasaki_eq (l : List Int) (hl : l.length ≤ 1048576) (k : Nat) (hk : l.length + 1 < k) : zxZ.f k l = some (decide (SecOk l ∧ l.length % 2 = 0 ∧ alt l = 0)) := by
 unfold zxZ.f
 rw [spec_AlternatingSum_eq l hl k hk, Option.bind_some]
 by_cases h : SecOk l ∧ l.length % 2 = 0
 ·simp only [h, and_self, if_true, true_and]
  congr 1
 ·simp only [h, if_false]
  rw [decide_eq_false (fun c => h ⟨c.1, c.2.1⟩)]
  simp

theorem spec_l05Less_l0 (a b : List Int) (ha : a.length ≤ 1048576) (hb : b.length ≤ 1048576) : ∀ (d k j : Nat), j + d = a.length → 2 * d + 2 ≤ k →
  zfM.l0 k a b (j : Int) = some (zlV (a.drop j) (b.drop j))
 | 0, k, j, hd, hk => by
  obtain ⟨k, rfl⟩ : ∃ m, k = m + 2 := ⟨k - 2, by omega⟩
  simp only [zfM.l0]
  rw [if_neg (by omega)]
  simp only [zfM.j1, Bool.false_eq_true, if_false]
  rw [List.drop_eq_nil_of_le (by omega)]
  simp only [zlV, List.length_drop]
  congr 1
  rw [decide_eq_decide]; omega
 | d + 1, k, j, hd, hk => by
  obtain ⟨k, rfl⟩ : ∃ m, k = m + 2 := ⟨k - 2, by omega⟩
  simp only [zfM.l0]
  rw [if_pos (by omega)]
  simp only [zfM.j1, decide_eq_true_eq]
  by_cases h : j < b.length
  ·rw [if_pos (by omega), if_pos (by omega), if_pos (by omega), if_pos (by omega), rd_nat a j (by omega), rd_nat b j h, succ64 (by omega), spec_l05Less_l0 a b ha hb d k (j + 1) (by omega) (by omega),
    drop_at a j (by omega), drop_at b j h]
   simp only [zlV]
   by_cases h2 : a[j] = b[j] <;> simp [h2]
  ·rw [if_neg (by omega), drop_at a j (by omega), List.drop_eq_nil_of_le (by omega : b.length ≤ j)]
   simp only [zlV]
   congr 1
   rw [decide_eq_false (by omega)]
theorem spec_l05Less_eq (a b : List Int) (ha : a.length ≤ 1048576) (hb : b.length ≤ 1048576) (k : Nat) (hk : 2 * a.length + 2 ≤ k) : zfM.f k a b = some (zlV a b) := by
 unfold zfM.f
 have := spec_l05Less_l0 a b ha hb a.length k 0 (by omega) hk
 simpa using this

theorem spec_l05Same_eq (a b : List Int) (ha : a.length ≤ 1048576) (hb : b.length ≤ 1048576) (k : Nat) (hk : 2 * a.length + 2 ≤ k) (hk2 : 2 * b.length + 2 ≤ k) : zlP.f k a b = some (decide (a = b)) := by
 unfold zlP.f
 rw [spec_l05Less_eq a b ha hb k hk, spec_l05Less_eq b a hb ha k hk2, ← lexLt_same a b, Option.bind_some, Option.bind_some]
 cases zlV a b <;> simp

theorem spec_l00Own_eq (l : List Int) (hl : l.length ≤ 1048576) : znA.f l = some l := by
 unfold znA.f
 rw [Option.bind_some, if_pos (by simp; omega)]
 rfl

theorem spec_l05Rotated_eq (l : List Int) (i : Nat) (hl : l.length ≤ 1048576) (hi : i ≤ l.length) : zrU.f l (i : Int) = some (l.drop i ++ l.take i) := by
 unfold zrU.f
 rw [if_pos (by omega), if_pos (by omega), Int.toNat_natCast, spec_l00Own_eq _ (by rw [List.length_drop]; omega), Option.bind_some, if_pos (by rw [List.length_drop, List.length_take]; omega)]

theorem spec_l05Mirrored_l0 (l : List Int) (hl : l.length ≤ 1048576) : ∀ (j k : Nat) (o : List Int), j < k → j ≤ l.length → o.length + j ≤ l.length → zvC.l0 k l o ((j : Int) - 1) = some (o ++ (l.take j).reverse)
 | 0, k, o, hk, hj, ho => by
  obtain ⟨k, rfl⟩ : ∃ m, k = m + 1 := ⟨k - 1, by omega⟩
  simp only [zvC.l0]
  rw [if_neg (by omega)]; simp
 | j + 1, k, o, hk, hj, ho => by
  obtain ⟨k, rfl⟩ : ∃ m, k = m + 1 := ⟨k - 1, by omega⟩
  have e : ((j + 1 : Nat) : Int) - 1 = (j : Int) := by omega
  simp only [zvC.l0]
  rw [e, if_pos (by omega), if_pos (by omega), if_pos (by omega), if_pos (by omega), rd_nat l j (by omega), w64 (by omega) (by omega), spec_l05Mirrored_l0 l hl j k _ (by omega) (by omega) (by simp; omega),
   List.take_add_one, List.getElem?_eq_getElem (by omega), Option.toList_some, List.reverse_append, List.append_assoc]
  rfl
theorem spec_l05Mirrored_eq (l : List Int) (hl : l.length ≤ 1048576) (k : Nat) (hk : l.length < k) : zvC.f k l = some l.reverse := by
 unfold zvC.f
 rw [w64 (by omega) (by omega), spec_l05Mirrored_l0 l hl l.length k [] hk (by omega) (by simp)]
 simp

theorem spec_l05Least_l0 (l : List Int) (hl : l.length ≤ 1048576) : ∀ (d k j : Nat) (b : List Int), j + d = l.length → 2 * d + 2 * l.length + 4 ≤ k → b.length = l.length →
  zeI.l0 k l b l.reverse (j : Int) = some (least l d j b)
 | 0, k, j, b, hd, hk, hb => by
  obtain ⟨k, rfl⟩ : ∃ m, k = m + 1 := ⟨k - 1, by omega⟩
  simp only [zeI.l0]
  rw [if_neg (by omega)]; rfl
 | d + 1, k, j, b, hd, hk, hb => by
  obtain ⟨k, rfl⟩ : ∃ m, k = m + 2 := ⟨k - 2, by omega⟩
  have hr : (rot l j).length = l.length := rot_length l j (by omega)
  have hr2 : (rot l.reverse j).length = l.length := by rw [rot_length _ _ (by rw [List.length_reverse]; omega), List.length_reverse]
  have step : ∀ b : List Int, b.length = l.length → zeI.j1 (k + 1) l b l.reverse (j : Int) = some (least l d (j + 1) (lesser (rot l.reverse j) b)) := by
   intro b hb
   simp only [zeI.j1]
   rw [spec_l05Rotated_eq _ j (by rw [List.length_reverse]; omega) (by rw [List.length_reverse]; omega), Option.bind_some, succ64 (by omega)]
   change (zfM.f k (rot l.reverse j) b).bind _ = _
   rw [spec_l05Less_eq _ _ (by omega) (by omega) k (by omega), Option.bind_some]
   unfold lesser
   by_cases h : zlV (rot l.reverse j) b = true
   ·rw [if_pos h, if_pos h]; exact spec_l05Least_l0 l hl d k (j + 1) _ (by omega) (by omega) hr2
   ·rw [if_neg h, if_neg h]; exact spec_l05Least_l0 l hl d k (j + 1) _ (by omega) (by omega) hb
  simp only [zeI.l0]
  rw [if_pos (by omega), spec_l05Rotated_eq _ j (by omega) (by omega), Option.bind_some]
  change (zfM.f (k + 1) (rot l j) b).bind _ = _
  rw [spec_l05Less_eq _ _ (by omega) (by omega) (k + 1) (by omega), Option.bind_some]
  simp only [least]
  rw [show lesser (rot l j) b = if zlV (rot l j) b = true then rot l j else b from rfl]
  by_cases h : zlV (rot l j) b = true
  ·rw [if_pos h, if_pos h]; exact step _ hr
  ·rw [if_neg h, if_neg h]; exact step _ hb
theorem spec_l05Least_eq (l : List Int) (hl : l.length ≤ 1048576) (k : Nat) (hk : 4 * l.length + 4 ≤ k) : zeI.f k l = some (least l l.length 0 l) := by
 unfold zeI.f
 rw [spec_l00Own_eq l hl, Option.bind_some, spec_l05Mirrored_eq l hl k (by omega), Option.bind_some]
 have := spec_l05Least_l0 l hl l.length k 0 l (by omega) (by omega) rfl
 simpa using this

theorem growE_eq (k : Nat) (hk : 200 ≤ k) (l : List Int) (rows : List (List Int)) (hl : l.length ≤ 16) (hr : rows.length ≤ 1048576) : zdT k rows l = some (rows ++ [l].filter goodS) := by
 unfold zdT
 rw [spec_IsKawasaki_eq l (by omega) k (by omega), Option.bind_some]
 by_cases h : SecOk l ∧ l.length % 2 = 0 ∧ alt l = 0
 ·have hle := least_length l l.length 0 l (by omega) rfl
  rw [decide_eq_true h, if_pos rfl, spec_l05Least_eq l (by omega) k (by omega), Option.bind_some, spec_l05Same_eq _ l (by omega) (by omega) k (by omega) (by omega), Option.bind_some]
  by_cases h2 : least l l.length 0 l = l
  ·rw [decide_eq_true h2, if_pos rfl, if_pos hr]
   rw [List.filter_cons_of_pos (by unfold goodS; rw [decide_eq_true h, decide_eq_true h2]; rfl), List.filter_nil]
  ·rw [decide_eq_false h2, if_neg (by simp)]
   rw [List.filter_cons_of_neg (by unfold goodS; rw [decide_eq_false h2]; simp), List.filter_nil, List.append_nil]
 ·rw [decide_eq_false h, if_neg (by simp)]
  rw [List.filter_cons_of_neg (by unfold goodS; rw [decide_eq_false h]; simp), List.filter_nil, List.append_nil]
theorem growLoop (f : Int → List (List Int) → Option (List (List Int))) : ∀ (d : Nat) (x : Int) (rows : List (List Int)), zhS f d x rows = loopK f d x rows
 | 0, _, _ => rfl
 | d + 1, x, rows => by rw [zhS, loopK]; exact congrArg _ (funext fun r => growLoop f d (x + 1) r)
theorem growW (k : Nat) (hk : 200 ≤ k) : ∀ (n f : Nat) (rows : List (List Int)) (l : List Int) (left : Int), 0 ≤ left → l.length + n ≤ 16 → (∀ x ∈ l, 1 ≤ x) → n < f → rows.length + 2 ^ left.toNat ≤ 1048576 →
  zlU k f rows l (n : Int) left = some (rows ++ (growP n l left).filter goodS)
 | 0, f, rows, l, left, h1, h2, h3, h4, h5 => by
  obtain ⟨f, rfl⟩ : ∃ m, f = m + 1 := ⟨f - 1, by omega⟩
  rw [zlU, if_pos (by omega)]
  exact growE_eq k hk l rows (by omega) (Nat.le_trans (Nat.le_add_right _ _) h5)
 | n + 1, f, rows, l, left, h1, h2, h3, h4, h5 => by
  obtain ⟨f, rfl⟩ : ∃ m, f = m + 1 := ⟨f - 1, by omega⟩
  have hlow := low_ge h3
  have hmul : 0 ≤ (n : Int) * l.getD 0 1 := Int.mul_nonneg (by omega) (by omega)
  rw [zlU, if_neg (by omega), growLoop, show ((n + 1 : Nat) : Int) - 1 = (n : Int) by omega, growP]
  obtain ⟨P, hP⟩ : ∃ P, P = (n : Int) * l.getD 0 1 := ⟨_, rfl⟩
  obtain ⟨L, hL⟩ : ∃ L, L = l.getD 0 1 := ⟨_, rfl⟩
  rw [← hP] at hmul ⊢
  rw [← hL] at hlow ⊢
  by_cases h0 : (left - P - L + 1).toNat = 0
  ·rw [h0]; simp [rng, loopK]
  ·have hp := Nat.pow_le_pow_right (show 0 < 2 by omega) (show (left - L + 1).toNat ≤ left.toNat by omega)
   have hy : ∀ x, L ≤ x → ∀ y ∈ l ++ [x], 1 ≤ y := fun x hx y hy => by rcases List.mem_append.1 hy with hy | hy; exact h3 y hy; rw [List.mem_singleton] at hy; omega
   refine loopK_eq _ (fun x => growP n (l ++ [x]) (left - x)) goodS left 1048576 _ L rows (by omega) (by omega) (fun x g1 g2 => growP_len n _ _ (by omega) (hy x g1)) (fun x rows g1 g2 g3 => ?_)
   exact growW k hk n f rows (l ++ [x]) (left - x) (by omega) (by simp; omega) (hy x g1) (by omega) g3
theorem spec_KawasakiSequences_eq (n : Int) (k : Nat) (hk : 200 ≤ k) : zqT.f k n = some (kawV n) := by
 unfold zqT.f
 rw [spec_l00In_eq, Option.bind_some]
 by_cases h : 2 ≤ n ∧ n ≤ 16
 ·rw [decide_eq_true h, if_pos rfl]
  have ht : Int.tmod n 2 = n % 2 := Int.tmod_eq_emod_of_nonneg (by omega)
  rw [ht]
  by_cases h1 : n % 2 = 0
  ·rw [if_pos h1, if_pos h]
   obtain ⟨m, rfl⟩ : ∃ m : Nat, n = m := ⟨n.toNat, by omega⟩
   have c : 2 ^ (16 : Int).toNat = 65536 := by decide
   rw [growW k hk m 20 [] [] 16 (by omega) (by simp; omega) (fun x hx => by simp at hx) (by omega) (by rw [c]; simp), Option.bind_some]
   unfold kawV
   rw [if_pos (by omega), List.nil_append, Int.toNat_natCast]
  ·rw [if_neg h1]
   unfold kawV
   rw [if_neg (by omega)]
 ·rw [decide_eq_false h, if_neg (by simp)]
  unfold kawV
  rw [if_neg (fun c => h ⟨c.1, c.2.1⟩)]

theorem impl_within_eq (a b c : Int) : zrP.f a b c = some (decide (b ≤ a ∧ a ≤ c)) := by
 unfold zrP.f
 by_cases h : b ≤ a <;> simp [h]

theorem zrO (l : List Int) (hl : l.length ≤ 1048576) (hb : ∀ x ∈ l, -1048576 ≤ x ∧ x ≤ 1048576) : ∀ (d k j : Nat) (s : Int), j + d = l.length → d < k → -(1048576 * (j : Int)) ≤ s → s ≤ 1048576 * j →
  zaW.l0 k s l (l.length : Int) (j : Int) = some (s + (if j % 2 = 0 then alt (l.drop j) else -alt (l.drop j)))
 | 0, k, j, s, hd, hk, h0, h1 => by
  obtain ⟨k, rfl⟩ : ∃ m, k = m + 1 := ⟨k - 1, by omega⟩
  simp only [zaW.l0]
  rw [if_neg (by omega), List.drop_eq_nil_of_le (by omega)]
  simp [alt]
 | d + 1, k, j, s, hd, hk, h0, h1 => by
  obtain ⟨k, rfl⟩ : ∃ m, k = m + 1 := ⟨k - 1, by omega⟩
  have h := hb l[j] (List.getElem_mem (by omega))
  simp only [zaW.l0]
  rw [if_pos (by omega), if_pos (by omega), if_pos (by omega), rd_nat l j (by omega), drop_at l j (by omega), succ64 (by omega)]
  by_cases hj : j % 2 = 0
  ·rw [if_pos ((tmod2 _).2 (by omega)), w64 (by omega) (by omega), zrO l hl hb d k (j + 1) _ (by omega) (by omega) (by omega) (by omega), if_neg (show ¬ (j + 1) % 2 = 0 by omega), if_pos hj]
   simp only [alt]; congr 1; omega
  ·rw [if_neg (fun c => by have := (tmod2 _).1 c; omega), w64 (by omega) (by omega), zrO l hl hb d k (j + 1) _ (by omega) (by omega) (by omega) (by omega), if_pos (show (j + 1) % 2 = 0 by omega), if_neg hj]
   simp only [alt]; congr 1; omega
theorem impl_alternating_eq (l : List Int) (hl : l.length ≤ 1048576) (hb : ∀ x ∈ l, -1048576 ≤ x ∧ x ≤ 1048576) (k : Nat) (hk : l.length < k) : zaW.f k l = some (alt l) := by
 unfold zaW.f
 have := zrO l hl hb l.length k 0 0 (by omega) hk (by omega) (by omega)
 rw [show ((0 : Nat) : Int) = 0 from rfl] at this
 rw [this, List.drop_zero]
 simp

theorem zeL (l : List Int) (hl : l.length ≤ 1048576) : ∀ (d k i : Nat) (o : List Int), l.length - 2 * i ≤ d → d < k → 2 * i ≤ l.length → 1 ≤ l.length → o.length = l.length →
  (∀ m, m < l.length → o[m]? = if m < i ∨ l.length - 1 - i < m then l[l.length - 1 - m]? else l[m]?) →
  zbO.l0 k o (i : Int) ((l.length : Int) - 1 - i) = some l.reverse
 | d, k, i, o, hd, hk, hi, hp, ho, h => by
  obtain ⟨k, rfl⟩ : ∃ m, k = m + 1 := ⟨k - 1, by omega⟩
  simp only [zbO.l0]
  by_cases hc : (i : Int) < (l.length : Int) - 1 - i
  ·match d, hd, hk with
   | 0, hd, _ => omega
   | d + 1, hd, hk =>
   have ej : ((l.length : Int) - 1 - i) = ((l.length - 1 - i : Nat) : Int) := by omega
   rw [if_pos hc, if_pos (by omega), if_pos (by omega), if_pos (by omega), if_pos (by omega), ej, rd_nat o (l.length - 1 - i) (by omega), rd_nat o i (by omega), succ64 (by omega), pred64 (by omega) (by omega), Int.toNat_natCast, Int.toNat_natCast]
   have e2 : ((l.length - 1 - i - 1 : Nat) : Int) = (l.length : Int) - 1 - ((i + 1 : Nat) : Int) := by omega
   rw [e2]
   refine zeL l hl d k (i + 1) _ (by omega) (by omega) (by omega) hp (by simpa using ho) (fun m hm => ?_)
   have a1 : o[i] = l[i] := by
    have := h i (by omega)
    rw [if_neg (by omega), List.getElem?_eq_getElem (by omega), List.getElem?_eq_getElem (by omega)] at this
    exact Option.some.inj this
   have a2 : o[l.length - 1 - i] = l[l.length - 1 - i] := by
    have := h (l.length - 1 - i) (by omega)
    rw [if_neg (by omega), List.getElem?_eq_getElem (by omega), List.getElem?_eq_getElem (by omega)] at this
    exact Option.some.inj this
   by_cases m1 : m = l.length - 1 - i
   ·subst m1
    rw [List.getElem?_set_self (by simp; omega), if_pos (by omega), a1, show l.length - 1 - (l.length - 1 - i) = i by omega, List.getElem?_eq_getElem (by omega)]
   ·rw [List.getElem?_set_ne (by omega)]
    by_cases m2 : m = i
    ·subst m2
     rw [List.getElem?_set_self (by omega), if_pos (by omega), a2, List.getElem?_eq_getElem (by omega)]
    ·rw [List.getElem?_set_ne (by omega), h m hm]
     by_cases m3 : m < i ∨ l.length - 1 - i < m
     ·rw [if_pos m3, if_pos (by omega)]
     ·rw [if_neg m3, if_neg (by omega)]
  ·rw [if_neg hc]
   congr 1
   refine List.ext_getElem? (fun m => ?_)
   by_cases hm : m < l.length
   ·rw [h m hm, List.getElem?_reverse hm]
    by_cases m3 : m < i ∨ l.length - 1 - i < m
    ·rw [if_pos m3]
    ·rw [if_neg m3, show l.length - 1 - m = m by omega]
   ·rw [List.getElem?_eq_none (by omega), List.getElem?_eq_none (by rw [List.length_reverse]; omega)]
theorem slices_Reverse_int64_int64_eq (l : List Int) (hl : l.length ≤ 1048576) (k : Nat) (hk : l.length + 1 < k) : zbO.f k l = some l.reverse := by
 unfold zbO.f
 rw [w64 (by omega) (by omega)]
 by_cases h : l.length = 0
 ·have : l = [] := List.length_eq_zero_iff.1 h
  subst this
  obtain ⟨k, rfl⟩ : ∃ m, k = m + 1 := ⟨k - 1, by omega⟩
  simp [zbO.l0]
 ·have := zeL l hl l.length k 0 l (by omega) (by omega) (by omega) (by omega) rfl (fun m hm => by rw [if_neg (by omega)])
  simpa using this

theorem impl_mirrored_eq (l : List Int) (hl : l.length ≤ 1048576) (k : Nat) (hk : l.length + 1 < k) : ziP.f k l = some l.reverse := by
 unfold ziP.f zzO.f
 rw [if_pos (by omega), Option.bind_some, slices_Reverse_int64_int64_eq l hl k hk]; rfl

theorem slices_Concat_int64_int64_two (a b : List Int) (hl : a.length + b.length ≤ 1048576) (k : Nat) (hk : 6 ≤ k) : zxA.f k [a, b] = some (a ++ b) := by
 obtain ⟨k, rfl⟩ : ∃ m, k = m + 6 := ⟨k - 6, by omega⟩
 have r0 : zrY [a, b] 0 = a := rfl
 have r1 : zrY [a, b] 1 = b := rfl
 have e0 : wrap64 (a.length : Int) = a.length := by rw [w64 (by omega) (by omega)]
 have e1 : wrap64 ((a.length : Int) + (b.length : Int)) = (a.length : Int) + b.length := w64 (by omega) (by omega)
 have e2 : wrap64 1 = 1 := w64 (n := 1) (by omega) (by omega)
 have e3 : wrap64 2 = 2 := w64 (n := 2) (by omega) (by omega)
 have n0 : ¬ ((a.length : Int) < 0) := by omega
 have n1 : ¬ ((a.length : Int) + (b.length : Int) < 0) := by omega
 have g : zkT.f ((a.length : Int) + b.length) = some [] := by unfold zkT.f; rw [if_pos (by omega)]
 have c1 : a.length < 17592186044416 := by omega
 have c2 : a.length + b.length < 17592186044416 := by omega
 unfold zxA.f
 simp [zxA.l0, zxA.l1, r0, r1, e0, e1, e2, e3, n0, n1, g, c1, c2]

theorem impl_turnedList_eq (l : List Int) (i : Nat) (hl : l.length ≤ 1048576) (hi : i ≤ l.length) (k : Nat) (hk : 6 ≤ k) : ztW.f k l (i : Int) = some (l.drop i ++ l.take i) := by
 unfold ztW.f
 rw [if_pos (by omega), if_pos (by omega), Int.toNat_natCast, slices_Concat_int64_int64_two _ _ (by rw [List.length_drop, List.length_take]; omega) k hk]
 rfl

theorem cmp_int64 (a b : Int) : cmp_Compare_int64.f a b = some (if a < b then -1 else if a > b then 1 else 0) := by
 unfold cmp_Compare_int64.f cmp_isNaN_int64.f
 simp only [bne_self_eq_false, Option.bind_some, Bool.false_eq_true, if_false]
 by_cases h : a < b
 ·simp [h]
 ·rw [if_neg h, if_neg h]; by_cases h2 : a > b <;> simp [h2]
theorem zxB (a b : List Int) (ha : a.length ≤ 1048576) (hb : b.length ≤ 1048576) : ∀ (d k j : Nat), j + d = a.length → d + 1 ≤ k → j ≤ b.length →
  zbU.l0 k a b a (a.length : Int) (j : Int) = some (lexCmp (a.drop j) (b.drop j))
 | 0, k, j, hd, hk, hj => by
  obtain ⟨k, rfl⟩ : ∃ m, k = m + 1 := ⟨k - 1, by omega⟩
  simp only [zbU.l0]
  rw [if_neg (by omega), List.drop_eq_nil_of_le (by omega : a.length ≤ j)]
  by_cases h : j < b.length
  ·rw [if_pos (by omega), drop_at b j h]; rfl
  ·rw [if_neg (by omega), List.drop_eq_nil_of_le (by omega : b.length ≤ j)]; rfl
 | d + 1, k, j, hd, hk, hj => by
  obtain ⟨k, rfl⟩ : ∃ m, k = m + 1 := ⟨k - 1, by omega⟩
  simp only [zbU.l0]
  rw [if_pos (by omega), if_pos (by omega), if_pos (by omega), drop_at a j (by omega)]
  by_cases h : j < b.length
  ·rw [if_neg (by omega), if_pos (by omega), rd_nat a j (by omega), rd_nat b j h, cmp_int64, Option.bind_some, drop_at b j h, succ64 (by omega)]
   simp only [lexCmp]
   by_cases h2 : a[j] < b[j]
   ·simp only [if_pos h2]; rfl
   ·simp only [if_neg h2]
    by_cases h3 : a[j] > b[j]
    ·simp only [if_pos h3]; rfl
    ·simp only [if_neg h3, if_true]
     exact zxB a b ha hb d k (j + 1) (by omega) (by omega) (by omega)
  ·rw [if_pos (by omega), List.drop_eq_nil_of_le (by omega : b.length ≤ j)]; rfl
theorem zhA (a b : List Int) (ha : a.length ≤ 1048576) (hb : b.length ≤ 1048576) (k : Nat) (hk : a.length + 1 ≤ k) : zbU.f k a b = some (lexCmp a b) := by
 unfold zbU.f
 have := zxB a b ha hb a.length k 0 (by omega) hk (by omega)
 simpa using this

theorem impl_canonical_l0 (l : List Int) (hl : l.length ≤ 1048576) : ∀ (d k j : Nat) (b : List Int), j + d = l.length → 4 * d + 2 * l.length + 20 ≤ k → b.length = l.length →
  zzN.l0 k l b (l.length : Int) (j : Int) = some (least l d j b)
 | 0, k, j, b, hd, hk, hb => by
  obtain ⟨k, rfl⟩ : ∃ m, k = m + 1 := ⟨k - 1, by omega⟩
  simp only [zzN.l0]
  rw [if_neg (by omega)]; rfl
 | d + 1, k, j, b, hd, hk, hb => by
  obtain ⟨k, rfl⟩ : ∃ m, k = m + 4 := ⟨k - 4, by omega⟩
  have hr : (rot l j).length = l.length := rot_length l j (by omega)
  have hr2 : (rot l.reverse j).length = l.length := by rw [rot_length _ _ (by rw [List.length_reverse]; omega), List.length_reverse]
  have e0 : zrY [l, l.reverse] 0 = l := rfl
  have e1 : zrY [l, l.reverse] 1 = l.reverse := rfl
  have w1 : wrap64 (0 + 1) = 1 := w64 (n := 0 + 1) (by omega) (by omega)
  have w2 : wrap64 (1 + 1) = 2 := w64 (n := 1 + 1) (by omega) (by omega)
  have s2 : ∀ b : List Int, b.length = l.length → zzN.l1 (k + 1) l b (j : Int) (l.length : Int) (j : Int) [l, l.reverse] 2 2 = some (least l d (j + 1) b) := by
   intro b hb
   simp only [zzN.l1]
   rw [if_neg (by omega), succ64 (by omega)]
   exact impl_canonical_l0 l hl d k (j + 1) b (by omega) (by omega) hb
  have s1 : ∀ b : List Int, b.length = l.length → zzN.l1 (k + 2) l b (j : Int) (l.length : Int) (j : Int) [l, l.reverse] 2 1 = some (least l d (j + 1) (lesser (rot l.reverse j) b)) := by
   intro b hb
   rw [zzN.l1]
   rw [if_pos (by omega), if_pos (by omega), if_pos (by simp), e1, impl_turnedList_eq _ j (by rw [List.length_reverse]; omega) (by rw [List.length_reverse]; omega) _ (by omega), Option.bind_some, show l.reverse.drop j ++ l.reverse.take j = rot l.reverse j from rfl, zhA _ _ (by omega) (by omega) _ (by omega), Option.bind_some, w2, s2 _ hr2, s2 _ hb]
   unfold lesser
   rw [← lexCmp_lt]
   by_cases h : lexCmp (rot l.reverse j) b < 0 <;> simp [h]
  have s0 : ∀ b : List Int, b.length = l.length → zzN.l1 (k + 3) l b (j : Int) (l.length : Int) (j : Int) [l, l.reverse] 2 0 = some (least l d (j + 1) (lesser (rot l.reverse j) (lesser (rot l j) b))) := by
   intro b hb
   rw [zzN.l1]
   rw [if_pos (by omega), if_pos (by omega), if_pos (by simp), e0, impl_turnedList_eq _ j (by omega) (by omega) _ (by omega), Option.bind_some, show l.drop j ++ l.take j = rot l j from rfl, zhA _ _ (by omega) (by omega) _ (by omega), Option.bind_some, w1, s1 _ hr, s1 _ hb]
   rw [show lesser (rot l j) b = if zlV (rot l j) b = true then rot l j else b from rfl, ← lexCmp_lt]
   by_cases h : lexCmp (rot l j) b < 0 <;> simp [h]
  rw [zzN.l0]
  rw [if_pos (by omega), impl_mirrored_eq l hl _ (by omega), Option.bind_some, Option.bind_some]
  exact s0 b hb
theorem impl_canonical_eq (l : List Int) (hl : l.length ≤ 1048576) (k : Nat) (hk : 6 * l.length + 20 ≤ k) : zzN.f k l = some (least l l.length 0 l) := by
 unfold zzN.f zzO.f
 rw [if_pos (by omega), Option.bind_some]
 have := impl_canonical_l0 l hl l.length k 0 l (by omega) (by omega) rfl
 simpa using this

theorem zeU (a b : List Int) (hl : a.length ≤ 1048576) (hab : a.length = b.length) : ∀ (d k j : Nat), j + d = a.length → d < k →
  zdL.l0 k a b (a.length : Int) (j : Int) = some (decide (a.drop j = b.drop j))
 | 0, k, j, hd, hk => by
  obtain ⟨k, rfl⟩ : ∃ m, k = m + 1 := ⟨k - 1, by omega⟩
  simp only [zdL.l0]
  rw [if_neg (by omega), List.drop_eq_nil_of_le (by omega), List.drop_eq_nil_of_le (by omega)]
  simp
 | d + 1, k, j, hd, hk => by
  obtain ⟨k, rfl⟩ : ∃ m, k = m + 1 := ⟨k - 1, by omega⟩
  simp only [zdL.l0]
  rw [if_pos (by omega), if_pos (by omega), if_pos (by omega), if_pos (by omega), rd_nat a j (by omega), rd_nat b j (by omega), succ64 (by omega), drop_at a j (by omega), drop_at b j (by omega)]
  by_cases h : a[j] = b[j]
  ·rw [if_pos h, zeU a b hl hab d k (j + 1) (by omega) (by omega)]
   simp only [List.cons.injEq, h, true_and]
  ·rw [if_neg h]
   simp only [List.cons.injEq, h, false_and, decide_false]
theorem slices_Equal_int64_int64_eq (a b : List Int) (hl : a.length ≤ 1048576) (k : Nat) (hk : a.length < k) : zdL.f k a b = some (decide (a = b)) := by
 unfold zdL.f
 by_cases h : a.length = b.length
 ·rw [if_pos (by omega)]
  have := zeU a b hl h a.length k 0 (by omega) hk
  rw [show ((0 : Nat) : Int) = 0 from rfl, List.drop_zero, List.drop_zero] at this
  exact this
 ·rw [if_neg (by omega), decide_eq_false (fun c => h (by rw [c]))]

theorem kawD_eq (k : Nat) (hk : 200 ≤ k) (row : List Int) (rows : List (List Int)) (hl : row.length ≤ 16) (hx : ∀ x ∈ row, 1 ≤ x ∧ x ≤ 16) (hr : rows.length ≤ 1048576) : ztK k row rows = some (rows ++ [row].filter goodB) := by
 unfold ztK
 rw [impl_alternating_eq row (by omega) (fun x h => by have := hx x h; omega) k (by omega), Option.bind_some]
 by_cases h : alt row = 0
 ·have hle := least_length row row.length 0 row (by omega) rfl
  rw [if_pos h, impl_canonical_eq row (by omega) k (by omega), Option.bind_some, slices_Equal_int64_int64_eq _ row (by omega) k (by omega), Option.bind_some]
  by_cases h2 : least row row.length 0 row = row
  ·rw [decide_eq_true h2, if_pos rfl, if_pos hr]
   rw [List.filter_cons_of_pos (by unfold goodB; rw [decide_eq_true h, decide_eq_true h2]; rfl), List.filter_nil]
  ·rw [decide_eq_false h2, if_neg (by simp)]
   rw [List.filter_cons_of_neg (by unfold goodB; rw [decide_eq_false h2]; simp), List.filter_nil, List.append_nil]
 ·rw [if_neg h]
  rw [List.filter_cons_of_neg (by unfold goodB; rw [decide_eq_false h]; simp), List.filter_nil, List.append_nil]
theorem kawLoop (f : Int → List (List Int) → Option (List (List Int))) : ∀ (d : Nat) (x : Int) (rows : List (List Int)), zsB f d x rows = loopK f d x rows
 | 0, _, _ => rfl
 | d + 1, x, rows => by rw [zsB, loopK]; exact congrArg _ (funext fun r => kawLoop f d (x + 1) r)
theorem kawW (k : Nat) (hk : 200 ≤ k) (n : Nat) (hn : n ≤ 16) : ∀ (m f : Nat) (pre : List Int) (left : Int) (rows : List (List Int)), (m : Int) + 1 ≤ left → left ≤ 16 → pre.length + m + 1 = n → (∀ x ∈ pre, 1 ≤ x ∧ x ≤ 16) → m < f → rows.length + 2 ^ left.toNat ≤ 1048576 →
  zqL k n f pre left rows = some (rows ++ (compsP m pre left).filter goodB)
 | 0, f, pre, left, rows, h1, h2, h3, h4, h5, h6 => by
  obtain ⟨f, rfl⟩ : ∃ m, f = m + 1 := ⟨f - 1, by omega⟩
  rw [zqL, if_pos (by omega)]
  exact kawD_eq k hk (pre ++ [left]) rows (by simp; omega) (fun x hx => by rcases List.mem_append.1 hx with hx | hx; exact h4 x hx; rw [List.mem_singleton] at hx; omega) (Nat.le_trans (Nat.le_add_right _ _) h6)
 | m + 1, f, pre, left, rows, h1, h2, h3, h4, h5, h6 => by
  obtain ⟨f, rfl⟩ : ∃ m, f = m + 1 := ⟨f - 1, by omega⟩
  rw [zqL, if_neg (by omega), kawLoop, show left - ((n : Int) - 1 - (pre.length : Int)) = left - (m + 1 : Nat) by omega, compsP]
  refine loopK_eq _ (fun x => compsP m (pre ++ [x]) (left - x)) goodB left 1048576 _ 1 rows (by omega) (by rw [show left - 1 + 1 = left by omega]; exact h6) (fun x g1 g2 => compsP_len m _ _ (by omega)) (fun x rows g1 g2 g3 => ?_)
  exact kawW k hk n hn m f (pre ++ [x]) (left - x) rows (by omega) (by omega) (by simp; omega) (fun y hy => by rcases List.mem_append.1 hy with hy | hy; exact h4 y hy; rw [List.mem_singleton] at hy; omega) (by omega) g3
theorem zxN (n : Int) (k : Nat) (hk : 200 ≤ k) : zeK.f k n = some (kawV n) := by
 unfold zeK.f
 rw [impl_within_eq, Option.bind_some]
 by_cases h : 2 ≤ n ∧ n ≤ 16
 ·rw [decide_eq_true h, if_pos rfl]
  have ht : Int.tmod n 2 = n % 2 := Int.tmod_eq_emod_of_nonneg (by omega)
  rw [ht]
  by_cases h1 : n % 2 = 1
  ·rw [if_pos h1]
   unfold kawV
   rw [if_neg (by omega)]
  ·rw [if_neg h1, if_pos h]
   obtain ⟨m, rfl⟩ : ∃ m : Nat, n = m := ⟨n.toNat, by omega⟩
   have c : 2 ^ (16 : Int).toNat = 65536 := by decide
   rw [kawW k hk m (by omega) (m - 1) 20 [] 16 [] (by omega) (by omega) (by simp; omega) (fun x hx => by simp at hx) (by omega) (by rw [c]; simp), Option.bind_some, comps_both m (by omega) (by omega) (by omega)]
   unfold kawV
   rw [if_pos (by omega), List.nil_append, Int.toNat_natCast]
 ·rw [decide_eq_false h, if_neg (by simp)]
  unfold kawV
  rw [if_neg (fun c => h ⟨c.1, c.2.1⟩)]

theorem FnExactKawasakiSequences : laws_FnExactKawasakiSequences.Pure := by
 intro n _
 refine ⟨70000, ?_⟩
 obtain ⟨K, hK⟩ : ∃ K, K = 70000 := ⟨_, rfl⟩
 rw [← hK]
 unfold laws_FnExactKawasakiSequences.f
 obtain ⟨h2, h3⟩ := kawV_small n
 have h3 : ∀ x ∈ (kawV n).1, x.length ≤ 1024 := fun x hx => by have := h3 x hx; omega
 have h4 := totR_le (kawV n).1 h3
 rw [spec_KawasakiSequences_eq n K (by omega), Option.bind_some, zxN n K (by omega), Option.bind_some, laws_eqInt64SS_self _ (by omega) h3 K (by omega), Option.bind_some, laws_markInt64SS_eq K (by omega) _ 1 h3 (by omega) (by omega), Option.bind_some, laws_heldInt64SS_eq _ (by omega) h3 (by omega) K (by omega), Option.bind_some]
 rw [if_pos ⟨rfl, rfl, by omega, rfl⟩]

end Go.Proofs.Ytbpkbllokmplnaa.Pure
