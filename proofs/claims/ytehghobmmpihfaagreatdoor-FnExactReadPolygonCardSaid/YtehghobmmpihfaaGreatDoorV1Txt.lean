/- Plain lemmas of this session on texts: lists of bytes as strings, decimal numerals. Conditions: none. -/
import Derived.Lib.ItoaNum
import Derived.Test.YtehghobmmpihfaaGreatDoorV1Math
namespace Go.Proofs.YtehghobmmpihfaaGreatDoor.Math
open Go.RowKit Go.Proofs.YtehghobmmpihfaaGreatDoorW.PrintWords Go.Proofs.YtehghobmmpihfaaGreatDoorW.PrintMore

def sb (l : List UInt8) : ByteArray := ⟨l.toArray⟩
theorem zjA (l : List UInt8) : (sb l).size = l.length := by show l.toArray.size = l.length; simp
theorem sb_ext {a b : ByteArray} (h : a.data = b.data) : a = b := by cases a; cases b; cases h; rfl
theorem sb_append (a b : List UInt8) : sb a ++ sb b = sb (a ++ b) := by
  apply sb_ext
  simp [sb, ByteArray.data_append]
theorem sb_one (x : UInt8) : (⟨#[x]⟩ : ByteArray) = sb [x] := rfl
theorem sb_of (s : ByteArray) : s = sb s.data.toList := by cases s; simp [sb]
theorem strOf_one (x : Int) (_ : 0 ≤ x) (_ : x < 256) : strOfNums [x] = sb [UInt8.ofNat x.toNat] := by
  unfold strOfNums sb
  simp
theorem itoa_len {n : Int} (h : n.natAbs < 1000000000000000000) : (Lib.itoa n).length ≤ 19 := by
  have hd : ∀ (m u : Nat), u < 10 ^ m → 1 ≤ m → Lib.nDigits u ≤ m := by
    intro m
    induction m with
    | zero => intro u _ h; omega
    | succ m ih =>
      intro u hu _
      by_cases h10 : u < 10
      · rw [Lib.nDigits_small h10]; omega
      · rw [Lib.nDigits_big h10]
        have h2 : u / 10 < 10 ^ m := by rw [Nat.pow_succ] at hu; omega
        by_cases hm : 1 ≤ m
        · have := ih (u / 10) h2 hm; omega
        · obtain rfl : m = 0 := by omega
          simp at h2; omega
  unfold Lib.itoa
  split
  · rw [List.length_cons, Lib.decDigits_length]; have := hd 18 n.natAbs (by simpa using h) (by omega); omega
  · rw [Lib.decDigits_length]; have := hd 18 n.toNat (by have : n.toNat = n.natAbs := by omega
                                                         rw [this]; simpa using h) (by omega); omega
theorem dec_small {n : Int} (h0 : 0 ≤ n) (h1 : n < 10) : Lib.itoa n = [UInt8.ofNat (48 + n.toNat)] := by
  unfold Lib.itoa
  rw [if_neg (by omega), Lib.decDigits_one (by omega)]
theorem dec_step {n : Int} (h0 : 10 ≤ n) : Lib.itoa n = Lib.itoa (n / 10) ++ [UInt8.ofNat (48 + (n % 10).toNat)] := by
  unfold Lib.itoa
  rw [if_neg (by omega), if_neg (by omega), Lib.decDigits, dif_neg (by omega), show n.toNat / 10 = (n / 10).toNat by omega, show n.toNat % 10 = (n % 10).toNat by omega]
theorem dec_neg {n : Int} (h0 : n < 0) : Lib.itoa n = 45 :: Lib.itoa (-n) := by
  unfold Lib.itoa
  rw [if_pos h0, if_neg (by omega), show (-n).toNat = n.natAbs by omega]
theorem shl_bd {k : Int} (h0 : 0 ≤ k) (h1 : k ≤ 10) : 1 ≤ shl .i64 1 k ∧ shl .i64 1 k ≤ 1024 := by
  have : k = 0 ∨ k = 1 ∨ k = 2 ∨ k = 3 ∨ k = 4 ∨ k = 5 ∨ k = 6 ∨ k = 7 ∨ k = 8 ∨ k = 9 ∨ k = 10 := by omega
  rcases this with rfl | rfl | rfl | rfl | rfl | rfl | rfl | rfl | rfl | rfl | rfl <;> decide
def zuQ (a b k : Int) : List UInt8 :=
  let body := if b = 0 then Lib.itoa a else if a = 0 then Lib.itoa b ++ [114] else if b > 0 then Lib.itoa a ++ (43 :: (Lib.itoa b ++ [114])) else Lib.itoa a ++ (Lib.itoa b ++ [114])
  if k = 0 then body else if a = 0 ∨ b = 0 then body ++ (47 :: Lib.itoa (shl .i64 1 k)) else 40 :: (body ++ (41 :: 47 :: Lib.itoa (shl .i64 1 k)))
theorem itoa_numTxt_len {a b k : Int} (h : znX a b k) : (Lib.itoa a).length ≤ 19 ∧ (Lib.itoa b).length ≤ 19 ∧ (Lib.itoa (shl .i64 1 k)).length ≤ 19 := by
  obtain ⟨ha, hb, hk, _⟩ := h
  have hs := shl_bd hk.1 hk.2
  exact ⟨itoa_len (by omega), itoa_len (by omega), itoa_len (by omega)⟩
def pntTxt (a b c d e f : Int) : List UInt8 := 40 :: (zuQ a b c ++ (44 :: (zuQ d e f ++ [41])))
end Go.Proofs.YtehghobmmpihfaaGreatDoor.Math
