/- Plain lemmas of this session on the number of kinds with which a cone can be folded. Conditions: none. -/
import Derived.Test.YtbpkbllokmplnaaV2Crimp
namespace Go.Proofs.Ytbpkbllokmplnaa.Math
open Go.RowKit Go.Proofs.YtbpkbllokmplnaaW.PrintWords Go.Proofs.YtbpkbllokmplnaaW.PrintMore

/-! A sum over all kinds of n zyR. -/
def ksum : Nat → (List Int → Nat) → Nat
  | 0, F => F []
  | n + 1, F => ksum n (fun r => F (2 :: r)) + ksum n (fun r => F (3 :: r))
theorem ksum_one (F : List Int → Nat) : ksum 1 F = F [2] + F [3] := rfl
theorem ksum_succ (n : Nat) (F : List Int → Nat) : ksum (n + 1) F = ksum n (fun r => F (2 :: r)) + ksum n (fun r => F (3 :: r)) := rfl
theorem znN.cons {x : Int} {r : List Int} (hx : x = 2 ∨ x = 3) (hr : znN r) : znN (x :: r) := by
  intro y hy
  rcases List.mem_cons.1 hy with rfl | h
  · exact hx
  · exact hr y h
theorem znN.nil : znN [] := fun _ h => by cases h
theorem znN.append {a b : List Int} (ha : znN a) (hb : znN b) : znN (a ++ b) := fun y hy => (List.mem_append.1 hy).elim (ha y) (hb y)
theorem znN.drop {a : List Int} (ha : znN a) (n : Nat) : znN (a.drop n) := fun y hy => ha y (List.mem_of_mem_drop hy)
theorem znN.rot {a : List Int} (ha : znN a) (b : Nat) : znN (rot a b) := fun y hy => ha y (mem_rot hy)
theorem zxU : ∀ (n : Nat) {F G : List Int → Nat}, (∀ r, znN r → r.length = n → F r = G r) → ksum n F = ksum n G
  | 0, F, G, h => h [] znN.nil rfl
  | n + 1, F, G, h => by
    simp only [ksum]
    rw [zxU n (F := fun r => F (2 :: r)) (G := fun r => G (2 :: r)) (fun r hr hl => h _ (hr.cons (.inl rfl)) (by simp [hl])), zxU n (F := fun r => F (3 :: r)) (G := fun r => G (3 :: r)) (fun r hr hl => h _ (hr.cons (.inr rfl)) (by simp [hl]))]
theorem ksum_add : ∀ (n : Nat) (F G : List Int → Nat), ksum n (fun r => F r + G r) = ksum n F + ksum n G
  | 0, _, _ => rfl
  | n + 1, F, G => by
    simp only [ksum]
    rw [ksum_add n (fun r => F (2 :: r)) (fun r => G (2 :: r)), ksum_add n (fun r => F (3 :: r)) (fun r => G (3 :: r))]; omega
theorem ksum_mul : ∀ (n : Nat) (c : Nat) (F : List Int → Nat), ksum n (fun r => c * F r) = c * ksum n F
  | 0, _, _ => rfl
  | n + 1, c, F => by
    simp only [ksum]
    rw [ksum_mul n c (fun r => F (2 :: r)), ksum_mul n c (fun r => F (3 :: r)), Nat.mul_add]
theorem ksum_mul_right (n : Nat) (c : Nat) (F : List Int → Nat) : ksum n (fun r => F r * c) = ksum n F * c := by
  rw [Nat.mul_comm, ← ksum_mul]; congr 1; funext r; rw [Nat.mul_comm]
theorem ksum_swap : ∀ (a b : Nat) (F : List Int → List Int → Nat), ksum a (fun x => ksum b (fun y => F x y)) = ksum b (fun y => ksum a (fun x => F x y))
  | 0, _, _ => rfl
  | a + 1, b, F => by
    simp only [ksum]
    rw [ksum_swap a b (fun x y => F (2 :: x) y), ksum_swap a b (fun x y => F (3 :: x) y), ksum_add]
theorem ksum_append : ∀ (a b : Nat) (F : List Int → Nat), ksum (a + b) F = ksum a (fun x => ksum b (fun y => F (x ++ y)))
  | 0, b, F => by rw [Nat.zero_add]; rfl
  | a + 1, b, F => by
    rw [show a + 1 + b = (a + b) + 1 by omega]
    simp only [ksum]
    rw [ksum_append a b (fun r => F (2 :: r)), ksum_append a b (fun r => F (3 :: r))]; rfl
theorem ksum_rot (n b : Nat) (hb : b ≤ n) (F : List Int → Nat) : ksum n (fun r => F (rot r b)) = ksum n F := by
  obtain ⟨c, rfl⟩ : ∃ c, n = b + c := ⟨n - b, by omega⟩
  rw [ksum_append]
  have e : ksum b (fun x => ksum c (fun y => F (rot (x ++ y) b))) = ksum b (fun x => ksum c (fun y => F (y ++ x))) := by
    refine zxU b fun x _ hx => zxU c fun y _ _ => ?_
    unfold rot
    rw [← hx, List.drop_left, List.take_left]
  rw [e, ksum_swap, ← ksum_append, Nat.add_comm c b]
/-- How many kinds of n zyR have a tally. -/
def ways (n : Nat) (t : Int) : Nat := ksum n (fun q => if tal q = t then 1 else 0)
def waysF : Nat → Int → Nat
  | 0, t => if t = 0 then 1 else 0
  | n + 1, t => waysF n (t - 1) + waysF n (t + 1)
theorem ways_eq : ∀ (n : Nat) (t : Int), ways n t = waysF n t
  | 0, t => by unfold ways waysF ksum; simp only [tal]; by_cases h : t = 0 <;> simp [h, eq_comm]
  | n + 1, t => by
    rw [waysF, ← ways_eq n, ← ways_eq n]
    unfold ways
    simp only [ksum]
    congr 1
    · refine zxU n fun r _ _ => ?_
      have e : tal (2 :: r) = 1 + tal r := by simp [tal]
      by_cases h : tal r = t - 1
      · rw [if_pos h, if_pos (by omega)]
      · rw [if_neg h, if_neg (by omega)]
    · refine zxU n fun r _ _ => ?_
      have e : tal (3 :: r) = -1 + tal r := by simp [tal]
      by_cases h : tal r = t + 1
      · rw [if_pos h, if_pos (by omega)]
      · rw [if_neg h, if_neg (by omega)]
/-! Folding a cone crimp by crimp. -/
def foldF : Nat → List Int → List Int → Bool
  | 0, _, _ => false
  | d + 1, l, q => if (zdQ l q).2.2 = 6 then decide (tal q = 2 ∨ tal q = -2) else if (zdQ l q).2.2 = 0 then foldF d (zdQ l q).1 (zdQ l q).2.1 else false
/-- The cone that a crimp leaves, whatever the kinds. -/
def nextR (c : Nat) (L : List Int) : List Int := if c % 2 = 1 then (rd L 0 - rd L 1 + rd L ((c + 1 : Nat) : Int)) :: L.drop (c + 2) else rd L 0 :: L.drop (c + 1)
theorem crimpR_next {c : Nat} {L Q : List Int} (h : (zuU c L Q).2.2 = 0) : (zuU c L Q).1 = nextR c L := by
  unfold zuU at h ⊢
  unfold nextR
  by_cases hodd : c % 2 = 1
  · rw [if_pos hodd] at h ⊢
    rw [if_pos hodd]
    split
    · rfl
    · rename_i ht; rw [if_neg ht] at h; simp at h
  · rw [if_neg hodd] at h ⊢
    rw [if_neg hodd]
    split
    · rfl
    · rename_i ht; rw [if_neg ht] at h; simp at h
theorem nextR_length {c : Nat} {L : List Int} (h : c + 2 ≤ L.length) : (nextR c L).length = if c % 2 = 1 then L.length - c - 1 else L.length - c := by
  unfold nextR
  split <;> simp <;> omega
/-- What a crimp leaves of rotated lists is a smaller cone. -/
theorem nextR_ok {c : Nat} {L : List Int} (R : RunR c L) : zzZ (nextR c L) ∧ (nextR c L).length + 2 ≤ L.length + (if c % 2 = 1 then 0 else 1) ∧ (nextR c L).length + c ≤ L.length := by
  have R1 := R.one
  have R2 := R.two
  have R3 := R.len
  have R4 := R.even
  have hs := split_run (c := c) (L := L) (by omega) R.eq
  have hd := R.hd
  have tl := R.tl
  have e0 := rd_eq L (j := 0) (by omega)
  have e1 := rd_eq L (j := 1) (by omega)
  have e2 := rd_eq L (j := c + 1) (by omega)
  have b0 := R.big _ (List.getElem_mem (show 0 < L.length by omega))
  have b1 := R.big _ (List.getElem_mem (show 1 < L.length by omega))
  have b2 := R.big _ (List.getElem_mem (show c + 1 < L.length by omega))
  rw [← e0] at b0
  rw [← e1] at b1
  rw [← e2] at b2
  have b0 : 1 ≤ rd L 0 ∧ rd L 0 ≤ 16 := b0
  have b1 : 1 ≤ rd L 1 ∧ rd L 1 ≤ 16 := b1
  have hdr : L.drop (c + 1) = rd L ((c + 1 : Nat) : Int) :: L.drop (c + 2) := by rw [drop_at L (c + 1) (by omega), e2]
  have hsum : L.sum = rd L 0 + (c * rd L 1 + (L.drop (c + 1)).sum) := by
    conv => lhs; rw [hs]
    rw [List.sum_cons, List.sum_append, sum_replicate]
  have halt : alt L = rd L 0 - (if c % 2 = 0 then alt (L.drop (c + 1)) else rd L 1 - alt (L.drop (c + 1))) := by
    conv => lhs; rw [hs]
    rw [alt, alt_append, alt_replicate, List.length_replicate]
    by_cases hc : c % 2 = 0
    · simp only [if_pos hc]; omega
    · simp only [if_neg hc]; omega
  have R5 := R.sum
  have R6 := R.alt
  have hcs : (c : Int) * rd L 1 ≥ rd L 1 := by
    have := Int.mul_le_mul_of_nonneg_right (show (1 : Int) ≤ c by omega) (show 0 ≤ rd L 1 by omega)
    omega
  have hbig : ∀ x ∈ L.drop (c + 2), 1 ≤ x ∧ x ≤ 16 := fun x hx => R.big x (List.mem_of_mem_drop hx)
  have hbig1 : ∀ x ∈ L.drop (c + 1), 1 ≤ x ∧ x ≤ 16 := fun x hx => R.big x (List.mem_of_mem_drop hx)
  have hnn : 0 ≤ (L.drop (c + 2)).sum := by
    have := (sum_bd (l := L.drop (c + 2)) (a := 0) (b := 16) (fun x hx => by have := hbig x hx; omega)).1
    omega
  unfold nextR
  by_cases hodd : c % 2 = 1
  · rw [if_pos hodd, if_pos hodd]
    rw [if_neg (by omega)] at halt
    rw [hdr] at halt hsum
    rw [alt] at halt
    rw [List.sum_cons] at hsum
    refine ⟨⟨?_, ?_, ?_, ?_, ?_, ?_⟩, ?_, ?_⟩
    · simp; omega
    · simp; omega
    · simp; omega
    · intro x hx
      rcases List.mem_cons.1 hx with rfl | hx
      · omega
      · exact hbig x hx
    · simp only [List.sum_cons]; omega
    · simp only [alt]; omega
    · simp; omega
    · simp; omega
  · rw [if_neg hodd, if_neg hodd]
    rw [if_pos (by omega)] at halt
    refine ⟨⟨?_, ?_, ?_, ?_, ?_, ?_⟩, ?_, ?_⟩
    · simp; omega
    · simp; omega
    · simp; omega
    · intro x hx
      rcases List.mem_cons.1 hx with rfl | hx
      · omega
      · exact hbig1 x hx
    · simp only [List.sum_cons]; omega
    · simp only [alt]; omega
    · simp; omega
    · simp; omega
/-- What a crimp of rotated lists leaves is a smaller cone, and its kinds. -/
theorem crimpR_ok {c : Nat} {L Q : List Int} (R : RunR c L) (hq : znN Q) (hl : Q.length = L.length) (h : (zuU c L Q).2.2 = 0) :
    zzZ (zuU c L Q).1 ∧ znN (zuU c L Q).2.1 ∧ (zuU c L Q).2.1.length = (zuU c L Q).1.length ∧ (zuU c L Q).1.length + 2 ≤ L.length := by
  have R1 := R.one
  have R2 := R.two
  have R4 := R.even
  obtain ⟨n1, n2, n3⟩ := nextR_ok R
  have n4 := nextR_length R2
  have hq0 : rd Q 0 = 2 ∨ rd Q 0 = 3 := by
    rw [show rd Q 0 = Q[0]'(by omega) from rd_eq Q (j := 0) (by omega)]
    exact hq _ (List.getElem_mem _)
  have hn := crimpR_next h
  rw [hn]
  have e : znN (zuU c L Q).2.1 ∧ (zuU c L Q).2.1.length = if c % 2 = 1 then L.length - c - 1 else L.length - c := by
    unfold zuU at h ⊢
    by_cases hodd : c % 2 = 1
    · simp only [if_pos hodd] at h ⊢
      by_cases ht : tal (zlR c Q) = 0
      · rw [if_pos ht]; exact ⟨znN.cons hq0 (hq.drop _), by simp; omega⟩
      · rw [if_neg ht] at h; simp at h
    · simp only [if_neg hodd] at h ⊢
      by_cases ht : tal (zlR c Q) = 1 ∨ tal (zlR c Q) = -1
      · rw [if_pos ht]; exact ⟨znN.cons hq0 (znN.cons (by split <;> simp) (hq.drop _)), by simp; omega⟩
      · rw [if_neg ht] at h; simp at h
  refine ⟨n1, e.1, by rw [e.2, n4], ?_⟩
  rw [n4]
  split <;> omega
/-- What a crimp leaves is a smaller cone, and its kinds. -/
theorem crimpF_ok {l q : List Int} (hl : zzZ l) (hq : znN q) (hn : q.length = l.length) (h : (zdQ l q).2.2 = 0) :
    zzZ (zdQ l q).1 ∧ znN (zdQ l q).2.1 ∧ (zdQ l q).2.1.length = (zdQ l q).1.length ∧ (zdQ l q).1.length + 2 ≤ l.length := by
  unfold zdQ at h ⊢
  cases hf : zpQ l l.length 0 with
  | none => rw [hf] at h; simp at h
  | some i =>
    rw [hf] at h
    obtain ⟨_, hi, hr⟩ := zwE l _ _ _ hf
    have hb : (i + l.length - 1) % l.length < l.length := Nat.mod_lt _ (by omega)
    have R := runR_of hl (by omega : i < l.length) hr
    have := crimpR_ok R (hq.rot ((i + l.length - 1) % l.length)) (by rw [zfX _ _ (by omega), zfX _ _ (by omega), hn]) h
    rw [zfX l _ (by omega)] at this
    exact this
theorem crimpF_code (l q : List Int) : (zdQ l q).2.2 = 6 ∨ (zdQ l q).2.2 = 8 ∨ (zdQ l q).2.2 = 0 := by
  unfold zdQ
  split
  · exact .inl rfl
  · unfold zuU
    split
    · split
      · exact .inr (.inr rfl)
      · exact .inr (.inl rfl)
    · split
      · exact .inr (.inr rfl)
      · exact .inr (.inl rfl)
/-- More rounds than sectors tell the same. -/
theorem foldF_more : ∀ (d e : Nat) {l q : List Int}, zzZ l → znN q → q.length = l.length → l.length ≤ d → l.length ≤ e → foldF d l q = foldF e l q
  | 0, e, l, q, hl, _, _, h1, _ => by have := hl.1; omega
  | d + 1, 0, l, q, hl, _, _, _, h2 => by have := hl.1; omega
  | d + 1, e + 1, l, q, hl, hq, hn, h1, h2 => by
    simp only [foldF]
    by_cases h6 : (zdQ l q).2.2 = 6
    · rw [if_pos h6, if_pos h6]
    · rw [if_neg h6, if_neg h6]
      by_cases h0 : (zdQ l q).2.2 = 0
      · rw [if_pos h0, if_pos h0]
        obtain ⟨a1, a2, a3, a4⟩ := crimpF_ok hl hq hn h0
        exact foldF_more d e a1 a2 a3 (by omega) (by omega)
      · rw [if_neg h0, if_neg h0]
/-- Whether a cone can be folded with some kinds. -/
def folds (l q : List Int) : Bool := foldF l.length l q
theorem foldF_eq {d : Nat} {l q : List Int} (hl : zzZ l) (hq : znN q) (hn : q.length = l.length) (hd : l.length ≤ d) : foldF d l q = folds l q := foldF_more d l.length hl hq hn hd (Nat.le_refl _)
theorem folds_eq {l q : List Int} (hl : zzZ l) (hq : znN q) (hn : q.length = l.length) : folds l q = if (zdQ l q).2.2 = 6 then decide (tal q = 2 ∨ tal q = -2) else if (zdQ l q).2.2 = 0 then folds (zdQ l q).1 (zdQ l q).2.1 else false := by
  have h1 := hl.1
  obtain ⟨d, hd⟩ : ∃ d, l.length = d + 1 := ⟨l.length - 1, by omega⟩
  unfold folds
  rw [hd, foldF]
  by_cases h6 : (zdQ l q).2.2 = 6
  · rw [if_pos h6, if_pos h6]
  · rw [if_neg h6, if_neg h6]
    by_cases h0 : (zdQ l q).2.2 = 0
    · rw [if_pos h0, if_pos h0]
      obtain ⟨a1, a2, a3, a4⟩ := crimpF_ok hl hq hn h0
      exact foldF_eq a1 a2 a3 (by omega)
    · rw [if_neg h0, if_neg h0]
/-! The number of kinds. -/
def b01 (b : Bool) : Nat := if b = true then 1 else 0
/-- The number of kinds with which a cone can be folded. -/
def nfold (l : List Int) : Nat := ksum l.length (fun q => b01 (folds l q))
theorem inner_mid (c : Nat) (k0 : Int) (x y : List Int) (hx : x.length = c + 1) : zlR c (k0 :: (x ++ y)) = x := by
  unfold zlR
  rw [show c + 2 = (c + 1) + 1 by omega, List.take_succ_cons, List.drop_one, List.tail_cons, ← hx, List.take_left]
theorem drop_mid (c : Nat) (k0 : Int) (x y : List Int) (hx : x.length = c + 1) : (k0 :: (x ++ y)).drop (c + 2) = y := by
  rw [show c + 2 = (c + 1) + 1 by omega, List.drop_succ_cons, ← hx, List.drop_left]
/-- The kinds, crimp by crimp. -/
theorem sum_crimp {c : Nat} {L : List Int} (R : RunR c L) (H : List Int → Nat) :
    ksum L.length (fun Q => if (zuU c L Q).2.2 = 0 then H (zuU c L Q).2.1 else 0) = waysF (c + 1) (if c % 2 = 1 then 0 else 1) * ksum (nextR c L).length H := by
  have R2 := R.two
  obtain ⟨m, hm⟩ : ∃ m, L.length = 1 + ((c + 1) + m) := ⟨L.length - (c + 2), by omega⟩
  rw [hm, ksum_append, zxU 1 (G := fun k => ksum (c + 1) (fun x => ksum m (fun y => if (zuU c L (k ++ (x ++ y))).2.2 = 0 then H (zuU c L (k ++ (x ++ y))).2.1 else 0))) (fun k _ _ => ksum_append _ _ _), nextR_length R2]
  have hrd : ∀ (k : Int) (r : List Int), rd (k :: r) 0 = k := fun k r => rfl
  by_cases hodd : c % 2 = 1
  · rw [if_pos hodd, if_pos hodd, show L.length - c - 1 = m + 1 by omega]
    have key : ∀ k0 : Int, ksum (c + 1) (fun x => ksum m (fun y => if (zuU c L (k0 :: (x ++ y))).2.2 = 0 then H (zuU c L (k0 :: (x ++ y))).2.1 else 0)) = waysF (c + 1) 0 * ksum m (fun y => H (k0 :: y)) := by
      intro k0
      rw [← ways_eq, ways, ← ksum_mul_right]
      refine zxU _ fun x _ hx => ?_
      rw [← ksum_mul]
      refine zxU _ fun y _ _ => ?_
      unfold zuU
      rw [if_pos hodd, inner_mid c k0 x y hx, drop_mid c k0 x y hx, hrd]
      by_cases ht : tal x = 0
      · simp [ht]
      · simp [ht]
    rw [ksum_one, ksum_succ]
    exact (congr (congrArg HAdd.hAdd (key 2)) (key 3)).trans (Nat.mul_add _ _ _).symm
  · rw [if_neg hodd, if_neg hodd, show L.length - c = m + 1 + 1 by omega]
    have hw : waysF (c + 1) (-1) = waysF (c + 1) 1 := by
      have : ∀ (n : Nat) (t : Int), waysF n (-t) = waysF n t := by
        intro n
        induction n with
        | zero => intro t; simp only [waysF]; by_cases h : t = 0 <;> simp [h]
        | succ n ih => intro t; simp only [waysF]; rw [show -t - 1 = -(t + 1) by omega, show -t + 1 = -(t - 1) by omega, ih, ih]; omega
      exact this _ 1
    have key : ∀ k0 : Int, ksum (c + 1) (fun x => ksum m (fun y => if (zuU c L (k0 :: (x ++ y))).2.2 = 0 then H (zuU c L (k0 :: (x ++ y))).2.1 else 0)) = waysF (c + 1) 1 * (ksum m (fun y => H (k0 :: 2 :: y)) + ksum m (fun y => H (k0 :: 3 :: y))) := by
      intro k0
      rw [Nat.mul_add]
      conv => rhs; lhs; rw [← ways_eq]
      conv => rhs; rhs; rw [← hw, ← ways_eq]
      rw [ways, ways, ← ksum_mul_right, ← ksum_mul_right, ← ksum_add]
      refine zxU _ fun x _ hx => ?_
      rw [← ksum_mul, ← ksum_mul, ← ksum_add]
      refine zxU _ fun y _ _ => ?_
      unfold zuU
      rw [if_neg hodd, inner_mid c k0 x y hx, drop_mid c k0 x y hx, hrd]
      by_cases ht : tal x = 1
      · simp [ht]
      · by_cases ht2 : tal x = -1
        · simp [ht2]
        · simp [ht, ht2]
    rw [ksum_one, ksum_succ, ksum_succ, ksum_succ]
    exact (congr (congrArg HAdd.hAdd (key 2)) (key 3)).trans (Nat.mul_add _ _ _).symm
/-- The number of kinds, as a formula. -/
theorem nfold_eq {l : List Int} (hl : zzZ l) : nfold l = match zpQ l l.length 0 with
    | none => waysF l.length 2 + waysF l.length (-2)
    | some i => waysF ((zfG l i).toNat + 1) (if (zfG l i).toNat % 2 = 1 then 0 else 1) * nfold (nextR (zfG l i).toNat (rot l ((i + l.length - 1) % l.length))) := by
  unfold nfold
  cases hf : zpQ l l.length 0 with
  | none =>
    simp only
    rw [← ways_eq, ← ways_eq, ways, ways, ← ksum_add]
    refine zxU _ fun q hq hn => ?_
    have e6 : (zdQ l q).2.2 = 6 := by unfold zdQ; rw [hf]
    rw [folds_eq hl hq hn, if_pos e6]
    by_cases h2 : tal q = 2
    · simp [b01, h2]
    · by_cases h3 : tal q = -2
      · simp [b01, h3]
      · simp [b01, h2, h3]
  | some i =>
    simp only
    obtain ⟨_, hi, hr⟩ := zwE l _ _ _ hf
    have hb : (i + l.length - 1) % l.length < l.length := Nat.mod_lt _ (by omega)
    have R := runR_of hl (by omega : i < l.length) hr
    have e : ∀ q, zdQ l q = zuU (zfG l i).toNat (rot l ((i + l.length - 1) % l.length)) (rot q ((i + l.length - 1) % l.length)) := fun q => by unfold zdQ; rw [hf]
    generalize (zfG l i).toNat = c at R e ⊢
    have hL := zfX l ((i + l.length - 1) % l.length) (by omega)
    have key := sum_crimp R (fun q => b01 (folds (nextR c (rot l ((i + l.length - 1) % l.length))) q))
    rw [hL] at key
    rw [← key]
    refine Eq.trans ?_ (ksum_rot l.length ((i + l.length - 1) % l.length) (by omega) _)
    refine zxU _ fun q hq hn => ?_
    rw [folds_eq hl hq hn, e q]
    by_cases h0 : (zuU c (rot l ((i + l.length - 1) % l.length)) (rot q ((i + l.length - 1) % l.length))).2.2 = 0
    · rw [if_pos h0, if_neg (by omega), if_pos h0, crimpR_next h0]
    · rw [if_neg h0]
      have hc := crimpF_code l q
      rw [e q] at hc
      rw [if_neg (fun h6 => by
        have : (zuU c (rot l ((i + l.length - 1) % l.length)) (rot q ((i + l.length - 1) % l.length))).2.2 ≠ 6 := by
          unfold zuU; split <;> split <;> simp
        exact this h6), if_neg h0]; rfl
/-- What FoldsAround answers. -/
def foldsV (l q : List Int) : Bool := decide (zzZ l ∧ znN q ∧ q.length = l.length) && folds l q
/-- What CountAssignments answers. -/
def cntV (l : List Int) : Int × Int := if zzZ l then (((nfold l : Nat) : Int), 0) else (0, 1)
end Go.Proofs.Ytbpkbllokmplnaa.Math
