/- Plain lemmas of this session on all rotations of a list and of its mirror image: their least, their alternating sums; and on the order of the lists grown. Conditions: none. -/
import Derived.Test.YtbpkbllokmplnaaA1Kawa
import Derived.Test.YtbpkbllokmplnaaA1Cones
namespace Go.Proofs.Ytbpkbllokmplnaa.Math
open Go.RowKit Go.Proofs.YtbpkbllokmplnaaW.PrintWords Go.Proofs.YtbpkbllokmplnaaW.PrintMore

theorem rot_zero (l : List Int) : rot l 0 = l := by unfold rot; simp
theorem rot_all (l : List Int) : rot l l.length = l := by unfold rot; simp
theorem rot_split (a b : List Int) : rot (a ++ b) a.length = b ++ a := by unfold rot; simp
theorem zhT (l : List Int) (i : Nat) (hi : i ≤ l.length) : ∃ a b, l = a ++ b ∧ a.length = i ∧ rot l i = b ++ a :=
  ⟨l.take i, l.drop i, (List.take_append_drop i l).symm, by rw [List.length_take]; omega, rfl⟩
theorem rot_of (l a b : List Int) (h : l = a ++ b) : rot l a.length = b ++ a := by rw [h, rot_split]
theorem rot_rot (l : List Int) (i j : Nat) (hi : i ≤ l.length) (hj : j ≤ l.length) (h0 : 0 < l.length) : ∃ r, r < l.length ∧ rot (rot l i) j = rot l r := by
  obtain ⟨a, b, e, ha, hr⟩ := zhT l i hi
  have hn : l.length = a.length + b.length := by rw [e, List.length_append]
  have key : ∃ r, r ≤ l.length ∧ rot (rot l i) j = rot l r := by
    rw [hr]
    by_cases hc : j ≤ b.length
    · obtain ⟨c, d, e2, hc2, _⟩ := zhT b j hc
      refine ⟨i + j, by omega, ?_⟩
      have h1 := rot_of (b ++ a) c (d ++ a) (by rw [e2, List.append_assoc])
      have h2 := rot_of l (a ++ c) d (by rw [e, e2, List.append_assoc])
      rw [hc2] at h1
      rw [List.length_append, ha, hc2] at h2
      rw [h1, h2, List.append_assoc]
    · obtain ⟨c, d, e2, hc2, _⟩ := zhT a (j - b.length) (by omega)
      refine ⟨j - b.length, by omega, ?_⟩
      have h1 := rot_of (b ++ a) (b ++ c) d (by rw [e2, List.append_assoc])
      have h2 := rot_of l c (d ++ b) (by rw [e, e2, List.append_assoc])
      rw [List.length_append, hc2, show b.length + (j - b.length) = j by omega] at h1
      rw [hc2] at h2
      rw [h1, h2, List.append_assoc]
  obtain ⟨r, hr, e⟩ := key
  by_cases h : r = l.length
  · subst h; exact ⟨0, h0, by rw [e, rot_all, rot_zero]⟩
  · exact ⟨r, by omega, e⟩
theorem rot_back (l : List Int) (i : Nat) (hi : i ≤ l.length) : rot (rot l i) (l.length - i) = l := by
  obtain ⟨a, b, e, ha, hr⟩ := zhT l i hi
  have hn : l.length = a.length + b.length := by rw [e, List.length_append]
  rw [hr, show l.length - i = b.length by omega, rot_split, e]
theorem rot_reverse (l : List Int) (i : Nat) (hi : i ≤ l.length) : (rot l i).reverse = rot l.reverse (l.length - i) := by
  obtain ⟨a, b, e, ha, hr⟩ := zhT l i hi
  have hn : l.length = a.length + b.length := by rw [e, List.length_append]
  have h1 := rot_of l.reverse b.reverse a.reverse (by rw [e, List.reverse_append])
  rw [List.length_reverse, show b.length = l.length - i by omega] at h1
  rw [hr, List.reverse_append, h1]
def Orb (l m : List Int) : Prop := ∃ j, j < l.length ∧ (m = rot l j ∨ m = rot l.reverse j)
theorem Orb.length {l m : List Int} (h : Orb l m) : m.length = l.length := by
  obtain ⟨j, hj, rfl | rfl⟩ := h
  · exact zfX l j (by omega)
  · rw [zfX _ _ (by rw [List.length_reverse]; omega), List.length_reverse]
theorem Orb.trans {l m p : List Int} (h1 : Orb l m) (h2 : Orb m p) : Orb l p := by
  have hl := h1.length
  obtain ⟨i, hi, e⟩ := h1
  obtain ⟨j, hj, g⟩ := h2
  rw [hl] at hj
  have lr := List.length_reverse (as := l)
  rcases e with rfl | rfl <;> rcases g with rfl | rfl
  · obtain ⟨r, hr, e⟩ := rot_rot l i j (by omega) (by omega) (by omega)
    exact ⟨r, hr, Or.inl e⟩
  · rw [rot_reverse l i (by omega)]
    obtain ⟨r, hr, e⟩ := rot_rot l.reverse (l.length - i) j (by omega) (by omega) (by omega)
    exact ⟨r, by omega, Or.inr e⟩
  · obtain ⟨r, hr, e⟩ := rot_rot l.reverse i j (by omega) (by omega) (by omega)
    exact ⟨r, by omega, Or.inr e⟩
  · rw [rot_reverse l.reverse i (by omega), List.reverse_reverse, lr]
    obtain ⟨r, hr, e⟩ := rot_rot l (l.length - i) j (by omega) (by omega) (by omega)
    exact ⟨r, by omega, Or.inl e⟩
theorem Orb.refl {l : List Int} (h : 0 < l.length) : Orb l l := ⟨0, h, Or.inl (rot_zero l).symm⟩
theorem Orb.symm {l m : List Int} (h : Orb l m) : Orb m l := by
  have hl := h.length
  obtain ⟨i, hi, rfl | rfl⟩ := h
  · by_cases h0 : i = 0
    · subst h0; rw [rot_zero]; exact Orb.refl hi
    · exact ⟨l.length - i, by omega, Or.inl (rot_back l i (by omega)).symm⟩
  · refine ⟨i, by omega, Or.inr ?_⟩
    have lr := List.length_reverse (as := l)
    rw [rot_reverse l.reverse i (by omega), List.reverse_reverse, lr]
    have := rot_back l (l.length - i) (by omega)
    rw [show l.length - (l.length - i) = i by omega] at this
    exact this.symm
theorem lesser_orb {l a b : List Int} (ha : Orb l a) (hb : Orb l b) : Orb l (lesser a b) := by unfold lesser; split <;> assumption
theorem least_orb_from (l : List Int) : ∀ (d j : Nat) (b : List Int), j + d ≤ l.length → Orb l b → Orb l (least l d j b)
  | 0, _, _, _, h => h
  | d + 1, j, b, hd, h => least_orb_from l d (j + 1) _ (by omega) (lesser_orb ⟨j, by omega, Or.inr rfl⟩ (lesser_orb ⟨j, by omega, Or.inl rfl⟩ h))
theorem least_orb (l : List Int) (h : 0 < l.length) : Orb l (least l l.length 0 l) := least_orb_from l _ _ _ (by omega) (Orb.refl h)
theorem least_min {l m : List Int} (h : Orb l m) : zlU m (least l l.length 0 l) = false := by
  obtain ⟨j, hj, rfl | rfl⟩ := h
  · exact least_le_rot l _ _ _ _ (by omega) (by omega)
  · exact least_le_mirror l _ _ _ _ (by omega) (by omega)
theorem least_same {l m : List Int} (h : Orb l m) : least m m.length 0 m = least l l.length 0 l := by
  have h0 : 0 < l.length := by obtain ⟨j, hj, _⟩ := h; omega
  have hm : 0 < m.length := by rw [h.length]; exact h0
  exact lexLt_total _ _ (least_min (h.trans (least_orb m hm))) (least_min (h.symm.trans (least_orb l h0)))
theorem rot_sum (l : List Int) (j : Nat) : (rot l j).sum = l.sum := by unfold rot; rw [List.sum_append, Int.add_comm, ← List.sum_append, List.take_append_drop]
theorem rot_mem {l : List Int} {j : Nat} {x : Int} (h : x ∈ rot l j) : x ∈ l := by
  rcases List.mem_append.1 h with h | h
  · exact List.mem_of_mem_drop h
  · exact List.mem_of_mem_take h
theorem sum_rev : ∀ l : List Int, l.reverse.sum = l.sum
  | [] => rfl
  | x :: xs => by rw [List.reverse_cons, List.sum_append, List.sum_singleton, sum_rev xs, List.sum_cons]; omega
theorem Orb.sum {l m : List Int} (h : Orb l m) : m.sum = l.sum := by
  obtain ⟨j, hj, rfl | rfl⟩ := h
  · exact rot_sum l j
  · rw [rot_sum, sum_rev]
theorem Orb.mem {l m : List Int} (h : Orb l m) {x : Int} (hx : x ∈ m) : x ∈ l := by
  obtain ⟨j, hj, rfl | rfl⟩ := h
  · exact rot_mem hx
  · exact List.mem_reverse.1 (rot_mem hx)
theorem Orb.secOk {l m : List Int} (h : Orb l m) (hl : zcD l) : zcD m := ⟨by rw [h.length]; exact hl.1, fun x hx => hl.2.1 x (h.mem hx), by rw [h.sum]; exact hl.2.2⟩
theorem alt_app2 : ∀ a b : List Int, alt (a ++ b) = if a.length % 2 = 0 then alt a + alt b else alt a - alt b
  | [], b => by simp [alt]
  | x :: xs, b => by
    have ih := alt_app2 xs b
    rw [List.cons_append, alt, ih, alt, List.length_cons]
    by_cases h : xs.length % 2 = 0
    · rw [if_pos h, if_neg (by omega)]; omega
    · rw [if_neg h, if_pos (by omega)]; omega
theorem alt_reverse : ∀ l : List Int, alt l.reverse = if l.length % 2 = 0 then -alt l else alt l
  | [] => rfl
  | x :: xs => by
    have ih := alt_reverse xs
    rw [List.reverse_cons, alt_app2, ih, List.length_reverse, List.length_cons]
    simp only [alt]
    by_cases h : xs.length % 2 = 0
    · rw [if_pos h, if_pos h, if_neg (by omega)]; omega
    · rw [if_neg h, if_neg h, if_pos (by omega)]; omega
theorem alt_rot2 (l : List Int) (j : Nat) (hj : j ≤ l.length) (he : l.length % 2 = 0) : alt (rot l j) = alt l ∨ alt (rot l j) = -alt l := by
  obtain ⟨a, b, e, ha, hr⟩ := zhT l j hj
  have hn : l.length = a.length + b.length := by rw [e, List.length_append]
  rw [hr, alt_app2, e, alt_app2]
  by_cases h : a.length % 2 = 0
  · rw [if_pos h, if_pos (by omega)]; omega
  · rw [if_neg h, if_neg (by omega)]; omega
theorem Orb.altz {l m : List Int} (h : Orb l m) (he : l.length % 2 = 0) : alt m = 0 ↔ alt l = 0 := by
  have lr := List.length_reverse (as := l)
  obtain ⟨j, hj, rfl | rfl⟩ := h
  · rcases alt_rot2 l j (by omega) he with e | e <;> rw [e] <;> omega
  · have e2 := alt_reverse l
    rw [if_pos he] at e2
    rcases alt_rot2 l.reverse j (by omega) (by omega) with e | e <;> rw [e, e2] <;> omega
end Go.Proofs.Ytbpkbllokmplnaa.Math
