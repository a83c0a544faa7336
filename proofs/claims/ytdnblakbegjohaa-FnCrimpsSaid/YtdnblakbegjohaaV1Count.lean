/- Plain lemmas of this session on the number of kinds with which a cone can be folded. Conditions: none. -/
import Derived.Test.YtdnblakbegjohaaV1Crimp
namespace Go.Proofs.Ytdnblakbegjohaa.Math
open Go.RowKit Go.Proofs.YtdnblakbegjohaaW.PrintWords Go.Proofs.YtdnblakbegjohaaW.PrintMore

/-! A sum over all kinds of n zyR. -/
theorem znM.cons {x : Int} {r : List Int} (hx : x = 2 ∨ x = 3) (hr : znM r) : znM (x :: r) := by
  intro y hy
  rcases List.mem_cons.1 hy with rfl | h
  · exact hx
  · exact hr y h
theorem znM.nil : znM [] := fun _ h => by cases h
theorem znM.tail {x : Int} {r : List Int} (h : znM (x :: r)) : znM r := fun y hy => h y (List.mem_cons_of_mem _ hy)
theorem znM.append {a b : List Int} (ha : znM a) (hb : znM b) : znM (a ++ b) := fun y hy => (List.mem_append.1 hy).elim (ha y) (hb y)
theorem znM.drop {a : List Int} (ha : znM a) (n : Nat) : znM (a.drop n) := fun y hy => ha y (List.mem_of_mem_drop hy)
theorem znM.rot {a : List Int} (ha : znM a) (b : Nat) : znM (rot a b) := fun y hy => ha y (mem_rot hy)
/-! Folding a cone crimp by crimp. -/
def foldF : Nat → List Int → List Int → Bool
  | 0, _, _ => false
  | d + 1, l, q => if (zdQ l q).2.2 = 6 then decide (tal q = 2 ∨ tal q = -2) else if (zdQ l q).2.2 = 0 then foldF d (zdQ l q).1 (zdQ l q).2.1 else false
/-- The cone that a crimp leaves, whatever the kinds. -/
def nextR (c : Nat) (L : List Int) : List Int := if c % 2 = 1 then (rd L 0 - rd L 1 + rd L ((c + 1 : Nat) : Int)) :: L.drop (c + 2) else rd L 0 :: L.drop (c + 1)
theorem crimpR_next {c : Nat} {L Q : List Int} (h : (zuU c L Q).2.2 = 0) : (zuU c L Q).1 = nextR c L := by
  unfold zuU at h ⊢
  unfold nextR
  by_cases hodd : c % 2 = 1
  · rw [if_pos hodd] at h ⊢
    rw [if_pos hodd]
    split
    · rfl
    · rename_i ht; rw [if_neg ht] at h; simp at h
  · rw [if_neg hodd] at h ⊢
    rw [if_neg hodd]
    split
    · rfl
    · rename_i ht; rw [if_neg ht] at h; simp at h
theorem nextR_length {c : Nat} {L : List Int} (h : c + 2 ≤ L.length) : (nextR c L).length = if c % 2 = 1 then L.length - c - 1 else L.length - c := by
  unfold nextR
  split <;> simp <;> omega
/-- What a crimp leaves of rotated lists is a smaller cone. -/
theorem nextR_ok {c : Nat} {L : List Int} (R : RunR c L) : zzZ (nextR c L) ∧ (nextR c L).length + 2 ≤ L.length + (if c % 2 = 1 then 0 else 1) ∧ (nextR c L).length + c ≤ L.length := by
  have R1 := R.one
  have R2 := R.two
  have R3 := R.len
  have R4 := R.even
  have hs := split_run (c := c) (L := L) (by omega) R.eq
  have hd := R.hd
  have tl := R.tl
  have e0 := rd_eq L (j := 0) (by omega)
  have e1 := rd_eq L (j := 1) (by omega)
  have e2 := rd_eq L (j := c + 1) (by omega)
  have b0 := R.big _ (List.getElem_mem (show 0 < L.length by omega))
  have b1 := R.big _ (List.getElem_mem (show 1 < L.length by omega))
  have b2 := R.big _ (List.getElem_mem (show c + 1 < L.length by omega))
  rw [← e0] at b0
  rw [← e1] at b1
  rw [← e2] at b2
  have b0 : 1 ≤ rd L 0 ∧ rd L 0 ≤ 16 := b0
  have b1 : 1 ≤ rd L 1 ∧ rd L 1 ≤ 16 := b1
  have hdr : L.drop (c + 1) = rd L ((c + 1 : Nat) : Int) :: L.drop (c + 2) := by rw [drop_at L (c + 1) (by omega), e2]
  have hsum : L.sum = rd L 0 + (c * rd L 1 + (L.drop (c + 1)).sum) := by
    conv => lhs; rw [hs]
    rw [List.sum_cons, List.sum_append, sum_replicate]
  have halt : alt L = rd L 0 - (if c % 2 = 0 then alt (L.drop (c + 1)) else rd L 1 - alt (L.drop (c + 1))) := by
    conv => lhs; rw [hs]
    rw [alt, alt_append, alt_replicate, List.length_replicate]
    by_cases hc : c % 2 = 0
    · simp only [if_pos hc]; omega
    · simp only [if_neg hc]; omega
  have R5 := R.sum
  have R6 := R.alt
  have hcs : (c : Int) * rd L 1 ≥ rd L 1 := by
    have := Int.mul_le_mul_of_nonneg_right (show (1 : Int) ≤ c by omega) (show 0 ≤ rd L 1 by omega)
    omega
  have hbig : ∀ x ∈ L.drop (c + 2), 1 ≤ x ∧ x ≤ 16 := fun x hx => R.big x (List.mem_of_mem_drop hx)
  have hbig1 : ∀ x ∈ L.drop (c + 1), 1 ≤ x ∧ x ≤ 16 := fun x hx => R.big x (List.mem_of_mem_drop hx)
  have hnn : 0 ≤ (L.drop (c + 2)).sum := by
    have := (sum_bd (l := L.drop (c + 2)) (a := 0) (b := 16) (fun x hx => by have := hbig x hx; omega)).1
    omega
  unfold nextR
  by_cases hodd : c % 2 = 1
  · rw [if_pos hodd, if_pos hodd]
    rw [if_neg (by omega)] at halt
    rw [hdr] at halt hsum
    rw [alt] at halt
    rw [List.sum_cons] at hsum
    refine ⟨⟨?_, ?_, ?_, ?_, ?_, ?_⟩, ?_, ?_⟩
    · simp; omega
    · simp; omega
    · simp; omega
    · intro x hx
      rcases List.mem_cons.1 hx with rfl | hx
      · omega
      · exact hbig x hx
    · simp only [List.sum_cons]; omega
    · simp only [alt]; omega
    · simp; omega
    · simp; omega
  · rw [if_neg hodd, if_neg hodd]
    rw [if_pos (by omega)] at halt
    refine ⟨⟨?_, ?_, ?_, ?_, ?_, ?_⟩, ?_, ?_⟩
    · simp; omega
    · simp; omega
    · simp; omega
    · intro x hx
      rcases List.mem_cons.1 hx with rfl | hx
      · omega
      · exact hbig1 x hx
    · simp only [List.sum_cons]; omega
    · simp only [alt]; omega
    · simp; omega
    · simp; omega
/-- What a crimp of rotated lists leaves is a smaller cone, and its kinds. -/
theorem crimpR_ok {c : Nat} {L Q : List Int} (R : RunR c L) (hq : znM Q) (hl : Q.length = L.length) (h : (zuU c L Q).2.2 = 0) :
    zzZ (zuU c L Q).1 ∧ znM (zuU c L Q).2.1 ∧ (zuU c L Q).2.1.length = (zuU c L Q).1.length ∧ (zuU c L Q).1.length + 2 ≤ L.length := by
  have R1 := R.one
  have R2 := R.two
  have R4 := R.even
  obtain ⟨n1, n2, n3⟩ := nextR_ok R
  have n4 := nextR_length R2
  have hq0 : rd Q 0 = 2 ∨ rd Q 0 = 3 := by
    rw [show rd Q 0 = Q[0]'(by omega) from rd_eq Q (j := 0) (by omega)]
    exact hq _ (List.getElem_mem _)
  have hn := crimpR_next h
  rw [hn]
  have e : znM (zuU c L Q).2.1 ∧ (zuU c L Q).2.1.length = if c % 2 = 1 then L.length - c - 1 else L.length - c := by
    unfold zuU at h ⊢
    by_cases hodd : c % 2 = 1
    · simp only [if_pos hodd] at h ⊢
      by_cases ht : tal (zlR c Q) = 0
      · rw [if_pos ht]; exact ⟨znM.cons hq0 (hq.drop _), by simp; omega⟩
      · rw [if_neg ht] at h; simp at h
    · simp only [if_neg hodd] at h ⊢
      by_cases ht : tal (zlR c Q) = 1 ∨ tal (zlR c Q) = -1
      · rw [if_pos ht]; exact ⟨znM.cons hq0 (znM.cons (by split <;> simp) (hq.drop _)), by simp; omega⟩
      · rw [if_neg ht] at h; simp at h
  refine ⟨n1, e.1, by rw [e.2, n4], ?_⟩
  rw [n4]
  split <;> omega
/-- What a crimp leaves is a smaller cone, and its kinds. -/
theorem crimpF_ok {l q : List Int} (hl : zzZ l) (hq : znM q) (hn : q.length = l.length) (h : (zdQ l q).2.2 = 0) :
    zzZ (zdQ l q).1 ∧ znM (zdQ l q).2.1 ∧ (zdQ l q).2.1.length = (zdQ l q).1.length ∧ (zdQ l q).1.length + 2 ≤ l.length := by
  unfold zdQ at h ⊢
  cases hf : zpQ l l.length 0 with
  | none => rw [hf] at h; simp at h
  | some i =>
    rw [hf] at h
    obtain ⟨_, hi, hr⟩ := zwE l _ _ _ hf
    have hb : (i + l.length - 1) % l.length < l.length := Nat.mod_lt _ (by omega)
    have R := runR_of hl (by omega : i < l.length) hr
    have := crimpR_ok R (hq.rot ((i + l.length - 1) % l.length)) (by rw [zfX _ _ (by omega), zfX _ _ (by omega), hn]) h
    rw [zfX l _ (by omega)] at this
    exact this
theorem crimpF_code (l q : List Int) : (zdQ l q).2.2 = 6 ∨ (zdQ l q).2.2 = 8 ∨ (zdQ l q).2.2 = 0 := by
  unfold zdQ
  split
  · exact .inl rfl
  · unfold zuU
    split
    · split
      · exact .inr (.inr rfl)
      · exact .inr (.inl rfl)
    · split
      · exact .inr (.inr rfl)
      · exact .inr (.inl rfl)
/-- More rounds than sectors tell the same. -/
theorem foldF_more : ∀ (d e : Nat) {l q : List Int}, zzZ l → znM q → q.length = l.length → l.length ≤ d → l.length ≤ e → foldF d l q = foldF e l q
  | 0, e, l, q, hl, _, _, h1, _ => by have := hl.1; omega
  | d + 1, 0, l, q, hl, _, _, _, h2 => by have := hl.1; omega
  | d + 1, e + 1, l, q, hl, hq, hn, h1, h2 => by
    simp only [foldF]
    by_cases h6 : (zdQ l q).2.2 = 6
    · rw [if_pos h6, if_pos h6]
    · rw [if_neg h6, if_neg h6]
      by_cases h0 : (zdQ l q).2.2 = 0
      · rw [if_pos h0, if_pos h0]
        obtain ⟨a1, a2, a3, a4⟩ := crimpF_ok hl hq hn h0
        exact foldF_more d e a1 a2 a3 (by omega) (by omega)
      · rw [if_neg h0, if_neg h0]
/-- Whether a cone can be folded with some kinds. -/
def folds (l q : List Int) : Bool := foldF l.length l q
theorem foldF_eq {d : Nat} {l q : List Int} (hl : zzZ l) (hq : znM q) (hn : q.length = l.length) (hd : l.length ≤ d) : foldF d l q = folds l q := foldF_more d l.length hl hq hn hd (Nat.le_refl _)
theorem folds_eq {l q : List Int} (hl : zzZ l) (hq : znM q) (hn : q.length = l.length) : folds l q = if (zdQ l q).2.2 = 6 then decide (tal q = 2 ∨ tal q = -2) else if (zdQ l q).2.2 = 0 then folds (zdQ l q).1 (zdQ l q).2.1 else false := by
  have h1 := hl.1
  obtain ⟨d, hd⟩ : ∃ d, l.length = d + 1 := ⟨l.length - 1, by omega⟩
  unfold folds
  rw [hd, foldF]
  by_cases h6 : (zdQ l q).2.2 = 6
  · rw [if_pos h6, if_pos h6]
  · rw [if_neg h6, if_neg h6]
    by_cases h0 : (zdQ l q).2.2 = 0
    · rw [if_pos h0, if_pos h0]
      obtain ⟨a1, a2, a3, a4⟩ := crimpF_ok hl hq hn h0
      exact foldF_eq a1 a2 a3 (by omega)
    · rw [if_neg h0, if_neg h0]
/-! The number of kinds. -/
/-- What FoldsAround answers. -/
def foldsV (l q : List Int) : Bool := decide (zzZ l ∧ znM q ∧ q.length = l.length) && folds l q
/-- A crimp, asked of any two lists. -/
def crimpV (l q : List Int) : List Int × List Int × Int := if zzZ l ∧ znM q ∧ q.length = l.length then zdQ l q else ([], [], 1)
end Go.Proofs.Ytdnblakbegjohaa.Math
