/- The pure part of the law FnExactIsName. -/
import Derived.Test.YtkbobbhecgmgpaaDoorPFnExactIsNamex
import Derived.Test.YtkbobbhecgmgpaaDoorMath
import Derived.Test.YtkbobbhecgmgpaaDoorTxt
namespace Go.Proofs.YtkbobbhecgmgpaaDoor.Pure
open Go.RowKit Go.Proofs.YtkbobbhecgmgpaaDoor.PFnExactIsName Go.Proofs.YtkbobbhecgmgpaaDoorW.PrintWords Go.Proofs.YtkbobbhecgmgpaaDoorW.PrintLast Go.Proofs.YtkbobbhecgmgpaaDoorW.PrintMore Go.Proofs.YtkbobbhecgmgpaaDoor.Math

-- impl_within
theorem impl_within_eq (a b c : Int) : impl_within.f a b c = some (decide (b ≤ a ∧ a ≤ c)) := by
  unfold impl_within.f
  by_cases h : b ≤ a <;> simp [h]

-- MATH Txt
/- What is proved: the program's IsName answers what the reference's answers, at every text. Conditions: none. -/
def isL (n : Nat) : Bool := (decide (65 ≤ n) && decide (n ≤ 90)) || (decide (97 ≤ n) && decide (n ≤ 122))
def isW (n : Nat) : Bool := isL n || (decide (48 ≤ n) && decide (n ≤ 57)) || n == 95
def nameCut : List UInt8 := [97, 98, 99, 100, 101, 102, 103, 104, 105, 106, 107, 108, 109, 110, 111, 112, 113, 114, 115, 116, 117, 118, 119, 120, 121, 122, 65, 66, 67, 68, 69, 70, 71, 72, 73, 74, 75, 76, 77, 78, 79, 80, 81, 82, 83, 84, 85, 86, 87, 88, 89, 90, 48, 49, 50, 51, 52, 53, 54, 55, 56, 57, 95]
def nameLet : List UInt8 := [97, 98, 99, 100, 101, 102, 103, 104, 105, 106, 107, 108, 109, 110, 111, 112, 113, 114, 115, 116, 117, 118, 119, 120, 121, 122, 65, 66, 67, 68, 69, 70, 71, 72, 73, 74, 75, 76, 77, 78, 79, 80, 81, 82, 83, 84, 85, 86, 87, 88, 89, 90]
theorem nameCut_all : (List.range 256).all (fun n => nameCut.contains (UInt8.ofNat n) == isW n) = true := by decide +kernel
theorem nameLet_all : (List.range 256).all (fun n => decide (Lib.indexByte nameLet (UInt8.ofNat n) ≥ 0) == isL n) = true := by decide +kernel
theorem nameCut_has (b : UInt8) : nameCut.contains b = isW b.toNat := by
  have h := List.all_eq_true.1 nameCut_all b.toNat (List.mem_range.2 b.toNat_lt)
  rw [UInt8.ofNat_toNat] at h
  exact eq_of_beq h
theorem nameLet_has (b : UInt8) : decide (Lib.indexByte nameLet b ≥ 0) = isL b.toNat := by
  have h := List.all_eq_true.1 nameLet_all b.toNat (List.mem_range.2 b.toNat_lt)
  rw [UInt8.ofNat_toNat] at h
  exact eq_of_beq h
theorem spec_l01Letter_eq (n : Nat) : spec_l01Letter.f (n : Int) = some (isL n) := by
  unfold spec_l01Letter.f isL
  simp only [ge_iff_le, show ((65 : Int) ≤ n) ↔ 65 ≤ n by omega, show ((n : Int) ≤ 90) ↔ n ≤ 90 by omega, show ((97 : Int) ≤ n) ↔ 97 ≤ n by omega, show ((n : Int) ≤ 122) ↔ n ≤ 122 by omega]
  by_cases h1 : 65 ≤ n <;> by_cases h2 : n ≤ 90 <;> by_cases h3 : 97 ≤ n <;> simp [h1, h2, h3]
theorem spec_l01Digit_eq (n : Nat) : spec_l01Digit.f (n : Int) = some (decide (48 ≤ n) && decide (n ≤ 57)) := by
  unfold spec_l01Digit.f
  simp only [ge_iff_le, show ((48 : Int) ≤ n) ↔ 48 ≤ n by omega, show ((n : Int) ≤ 57) ↔ n ≤ 57 by omega]
  by_cases h1 : 48 ≤ n <;> simp [h1]
theorem bt_list (l : List UInt8) (j : Nat) (h : j < l.length) : bt (sb l) (j : Int) = (l[j].toNat : Int) := by
  have hs : (j : Int).toNat < (sb l).size := by rw [sb_size]; omega
  rw [← bt_at (sb l) j hs]
  rfl
theorem name_loop (l : List UInt8) (hl : l.length ≤ 1048576) : ∀ (d j : Nat), j + d = l.length → ∀ k, d < k → spec_IsName.l0 k (sb l) (j : Int) = some ((l.drop j).all (fun b => isW b.toNat))
  | 0, j, hd => by
    intro k hk
    obtain ⟨k, rfl⟩ : ∃ m, k = m + 1 := ⟨k - 1, by omega⟩
    simp only [spec_IsName.l0]
    rw [if_neg (by rw [sb_size]; omega), List.drop_eq_nil_of_le (by omega)]
    rfl
  | d + 1, j, hd => by
    intro k hk
    obtain ⟨k, rfl⟩ : ∃ m, k = m + 1 := ⟨k - 1, by omega⟩
    have hj : j < l.length := by omega
    have ih := name_loop l hl d (j + 1) (by omega) k (by omega)
    simp only [spec_IsName.l0]
    rw [if_pos (by rw [sb_size]; omega), if_pos (by omega), bt_list l j hj, spec_l01Letter_eq, Option.bind_some, spec_l01Digit_eq, Option.bind_some, succ64 (by omega), ih, List.drop_eq_getElem_cons hj, List.all_cons]
    by_cases h1 : isL l[j].toNat = true
    · rw [if_pos h1]
      have : isW l[j].toNat = true := by unfold isW; rw [h1]; rfl
      rw [this, Bool.true_and]
    · rw [if_neg h1]
      have h1' : isL l[j].toNat = false := by simpa using h1
      by_cases h2 : (decide (48 ≤ l[j].toNat) && decide (l[j].toNat ≤ 57)) = true
      · rw [if_pos h2]
        have : isW l[j].toNat = true := by unfold isW; rw [h1', h2]; rfl
        rw [this, Bool.true_and]
      · rw [if_neg h2]
        have h2' : (decide (48 ≤ l[j].toNat) && decide (l[j].toNat ≤ 57)) = false := by simpa using h2
        by_cases h3 : l[j].toNat = 95
        · rw [if_pos (by omega)]
          have : isW l[j].toNat = true := by unfold isW; rw [h1', h2', h3]; rfl
          rw [this, Bool.true_and]
        · rw [if_neg (by omega)]
          have : isW l[j].toNat = false := by unfold isW; rw [h1', h2']; simpa using h3
          rw [this, Bool.false_and]
theorem dropWhile_nil {α} (p : α → Bool) : ∀ l : List α, l.dropWhile p = [] ↔ l.all p = true
  | [] => by simp
  | x :: xs => by
    rw [List.dropWhile_cons, List.all_cons]
    cases h : p x
    · simp
    · simp only [if_true, Bool.true_and]; exact dropWhile_nil p xs
theorem trimS_nil (l cs : List UInt8) : Lib.trimS l cs = [] ↔ l.all (fun b => cs.contains b) = true := by
  unfold Lib.trimS Lib.trimLeftS Lib.trimRightS
  rw [dropWhile_nil, List.all_reverse]
  constructor
  · intro h
    have : (l.reverse.dropWhile (cs.contains ·)) = [] := by
      cases hx : l.reverse.dropWhile (cs.contains ·) with
      | nil => rfl
      | cons x xs =>
        have h2 := List.head_dropWhile_not (p := (cs.contains ·)) (w := by rw [hx]; simp)
        rw [hx, List.all_cons] at h
        simp only [hx, List.head_cons] at h2
        simp only [h2] at h
        simp at h
    rw [dropWhile_nil, List.all_reverse] at this
    exact this
  · intro h
    have : l.reverse.dropWhile (cs.contains ·) = [] := by rw [dropWhile_nil, List.all_reverse]; exact h
    rw [this]; rfl
theorem loop_len (s : ByteArray) : ∀ (d i : Nat) (r : List UInt8), i + d = s.size → (ByteArray.toList.loop s i r).length = r.length + d
  | 0, i, r, h => by rw [ByteArray.toList.loop, if_neg (by omega), List.length_reverse]; rfl
  | d + 1, i, r, h => by rw [ByteArray.toList.loop, if_pos (by omega), loop_len s d (i + 1) _ (by omega), List.length_cons]; omega
theorem toList_nil (l : List UInt8) : (sb l).toList = [] ↔ l = [] := by
  have h := loop_len (sb l) (sb l).size 0 [] (by omega)
  rw [sb_size] at h
  constructor
  · intro h2
    have h3 : (ByteArray.toList.loop (sb l) 0 []) = [] := h2
    rw [h3] at h
    simp at h
    exact List.length_eq_zero_iff.1 h.symm
  · rintro rfl
    have h3 : (ByteArray.toList.loop (sb []) 0 []).length = 0 := by simpa using h
    exact List.length_eq_zero_iff.1 h3
theorem FnExactIsName : laws_FnExactIsName.Pure := by
  intro s hs
  refine ⟨3000000, ?_⟩
  clear hs
  rw [sb_of s]
  obtain ⟨l, hl⟩ : ∃ l, l = s.data.toList := ⟨_, rfl⟩
  rw [← hl]
  unfold laws_FnExactIsName.f
  by_cases hb : ((sb l).size : Int) > 1048576
  · rw [if_pos hb]
  rw [if_neg hb]
  rw [sb_size] at hb
  have j0 : ∀ b, spec_IsName.j0 3000000 (sb l) b = if b = true then some false else some (l.all (fun b => isW b.toNat)) := by
    intro b
    rw [show (3000000 : Nat) = 2999999 + 1 from rfl]
    simp only [spec_IsName.j0]
    cases b
    · rw [if_neg (by simp), if_neg (by simp)]
      have := name_loop l (by omega) l.length 0 (by omega) 2999999 (by omega)
      rw [show ((0 : Nat) : Int) = 0 from rfl] at this
      rw [this]; rfl
    · rfl
  have key : ∀ r, spec_IsName.f 3000000 (sb l) = some r → impl_IsName.f (sb l) = some r → ((spec_IsName.f 3000000 (sb l)).bind fun t107 => ((impl_IsName.f (sb l)).bind fun t108 => (if (t108 != t107) = true then (none) else (some true)))) = some true := by
    intro r h1 h2
    rw [h1, Option.bind_some, h2, Option.bind_some]
    simp
  unfold spec_IsName.f impl_IsName.f impl_within.f at key
  unfold spec_IsName.f impl_IsName.f impl_within.f
  rw [sb_size] at key ⊢
  by_cases h0 : l = []
  · subst h0
    refine key false ?_ ?_
    · rw [if_pos (by rw [toList_nil]), j0]; rfl
    · rfl
  have hp : 0 < l.length := List.length_pos_iff.2 h0
  by_cases h1 : (l.length : Int) > 12
  · refine key false ?_ ?_
    · rw [if_neg (by rw [toList_nil]; exact h0), if_pos h1, j0]; rfl
    · rw [if_pos (by omega), Option.bind_some, if_neg (by simp; omega)]
  · have hc : ∀ b : UInt8, l[0].toNat < 256 := fun _ => l[0].toNat_lt
    refine key (isL l[0].toNat && l.all (fun b => isW b.toNat)) ?_ ?_
    · rw [if_neg (by rw [toList_nil]; exact h0), if_neg h1, if_pos (by omega), show (0 : Int) = ((0 : Nat) : Int) from rfl, bt_list l 0 hp, spec_l01Letter_eq, Option.bind_some, j0]
      cases isL l[0].toNat <;> rfl
    · rw [if_pos (by omega), Option.bind_some, if_pos (by simp; omega)]
      have e : strings_Trim.f (sb l) ⟨nameCut.toArray⟩ = some (sb (Lib.trimS l nameCut)) := by
        unfold strings_Trim.f
        rw [if_pos ⟨by rw [sb_size]; omega, by decide, by decide⟩]
        simp [sb]
      have e2 : (Lib.trimS l nameCut = []) ↔ l.all (fun b => isW b.toNat) = true := by
        rw [trimS_nil]
        have : (fun b => nameCut.contains b) = (fun b : UInt8 => isW b.toNat) := funext nameCut_has
        rw [this]
      show ((strings_Trim.f (sb l) ⟨nameCut.toArray⟩).bind _) = _
      rw [e, Option.bind_some]
      by_cases h2 : l.all (fun b => isW b.toNat) = true
      · rw [if_pos (by rw [toList_nil]; exact e2.2 h2), if_pos (by omega), h2, Bool.and_true]
        have e3 : strings_IndexByte.f ⟨nameLet.toArray⟩ (bt (sb l) 0) = some (Lib.indexByte nameLet l[0]) := by
          unfold strings_IndexByte.f
          rw [show (0 : Int) = ((0 : Nat) : Int) from rfl, bt_list l 0 hp]
          simp
        show ((strings_IndexByte.f ⟨nameLet.toArray⟩ (bt (sb l) 0)).bind _) = _
        rw [e3, Option.bind_some, nameLet_has]
      · rw [if_neg (by rw [toList_nil]; exact fun h => h2 (e2.1 h))]
        have : l.all (fun b => isW b.toNat) = false := by simpa using h2
        rw [this, Bool.and_false]

end Go.Proofs.YtkbobbhecgmgpaaDoor.Pure
