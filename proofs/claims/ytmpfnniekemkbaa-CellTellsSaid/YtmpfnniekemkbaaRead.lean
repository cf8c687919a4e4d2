/-
  What word.Read, word.Four, and the document's, come to, in plain words.
-/
import Derived.Test.YtmpfnniekemkbaaGet
namespace Go.Proofs.Ytmpfnniekemkbaa.Pure
open Go.RowKit Go.Proofs.Ytmpfnniekemkbaa.Q Go.Proofs.YtmpfnniekemkbaaW.PrintWords Go.Proofs.YtmpfnniekemkbaaW.PrintLast Go.Proofs.YtmpfnniekemkbaaW.PrintMore

theorem u32_nat {a : Int} (h : (Lit.int .u32 a).wf = true) : ∃ n : Nat, a = n ∧ n < 4294967296 := by
  simp [Lit.wf, IntKind.min, IntKind.max, IntKind.signed, IntKind.bits] at h
  exact ⟨a.toNat, by omega, by omega⟩

/-- a number's four bytes -/
def four4 (n : Nat) : List UInt8 := [UInt8.ofNat (n % 256), UInt8.ofNat (n / 256 % 256), UInt8.ofNat (n / 65536 % 256), UInt8.ofNat (n / 16777216 % 256)]
def F (n : Nat) : ByteArray := strOfNums (nums (four4 n))
theorem L_F (n : Nat) : L (F n) = four4 n := nums_str _
theorem F_size (n : Nat) : (F n).size = 4 := by rw [← L_length, L_F]; rfl
theorem nums_four4 (n : Nat) : nums (four4 n) = [((n % 256 : Nat) : Int), ((n / 256 % 256 : Nat) : Int), ((n / 65536 % 256 : Nat) : Int), ((n / 16777216 % 256 : Nat) : Int)] := by
  simp [nums, four4]
theorem four_some (n : Nat) (hn : n < 4294967296) : word_Four.f n = some (F n) := by
  unfold word_Four.f Hand.word_Four.f F
  have h : four n 4 = [((n % 256 : Nat) : Int), ((n / 256 % 256 : Nat) : Int), ((n / 65536 % 256 : Nat) : Int), ((n / 16777216 % 256 : Nat) : Int)] := by
    simp [four, byteOf, List.range_succ]
  rw [if_pos ⟨by omega, by omega⟩, Int.toNat_natCast, nums_four4, h]
/-- the number of four bytes at a place -/
def rd4 (l : List UInt8) (j : Nat) : Nat := (l.getD j 0).toNat + 256 * (l.getD (j + 1) 0).toNat + 65536 * (l.getD (j + 2) 0).toNat + 16777216 * (l.getD (j + 3) 0).toNat
theorem rd4_lt (l : List UInt8) (j : Nat) : rd4 l j < 4294967296 := by
  have h0 := UInt8.toNat_lt (l.getD j 0)
  have h1 := UInt8.toNat_lt (l.getD (j + 1) 0)
  have h2 := UInt8.toNat_lt (l.getD (j + 2) 0)
  have h3 := UInt8.toNat_lt (l.getD (j + 3) 0)
  unfold rd4
  omega
def readS (l : List UInt8) (a : Int) : Int × Int :=
  if a < 0 ∨ (l.length : Int) < a then (0, 4) else if (l.length : Int) - a < 4 then (0, 7) else ((rd4 l a.toNat : Nat), 0)

theorem u32_shl (b i : Nat) (hb : b < 256) (hi : i ≤ 3) : shl .u32 ((b : Int) % 4294967296) ((8 * i : Nat) : Int) = ((b * 256 ^ i : Nat) : Int) := by
  unfold shl
  have e : min ((8 * i : Nat) : Int).toNat IntKind.u32.bits = 8 * i := by rw [Int.toNat_natCast]; simp [IntKind.bits]; omega
  have h1 : (2 : Nat) ^ (8 * i) = 256 ^ i := by rw [Nat.pow_mul]
  have h2 : (2 : Int) ^ (8 * i) = ((2 ^ (8 * i) : Nat) : Int) := by simp
  rw [e, h2, h1, IntKind.wrap_u32]
  rcases (show i = 0 ∨ i = 1 ∨ i = 2 ∨ i = 3 by omega) with rfl | rfl | rfl | rfl <;> simp <;> omega
theorem u32_or (a b i : Nat) (ha : a < 256 ^ i) (hb : b < 256) (hi : i ≤ 3) : bits .or .u32 (a : Int) ((b * 256 ^ i : Nat) : Int) = ((a + b * 256 ^ i : Nat) : Int) := by
  have h3 : 256 ^ i ≤ 256 ^ 3 := Nat.pow_le_pow_right (by decide) hi
  have h4 : b * 256 ^ i ≤ 255 * 256 ^ 3 := Nat.mul_le_mul (by omega) h3
  have h5 : (256 : Nat) ^ 3 = 16777216 := by decide
  have h := (bits_nat .u32 32 (by decide) (fun n h0 h1 => by rw [IntKind.wrap_u32]; simp at h1; omega) a (b * 256 ^ i) (by simp; omega) (by simp; omega)).2
  rw [h]
  have h1 : (256 : Nat) ^ i = 2 ^ (8 * i) := by rw [Nat.pow_mul]
  have e := Nat.two_pow_add_eq_or_of_lt (i := 8 * i) (b := a) (by rw [← h1]; exact ha) b
  rw [Nat.or_comm, h1, Nat.mul_comm b, ← e, Nat.add_comm]

theorem w_8 (i : Nat) (h : i ≤ 10) : wrap64 (8 * (i : Int)) = ((8 * i : Nat) : Int) := by unfold wrap64; omega
theorem w_sum (j i : Nat) (h : j + i ≤ 5000) : wrap64 ((j : Int) + (i : Int)) = ((j + i : Nat) : Int) := by unfold wrap64; omega
theorem w_sub (n j : Nat) (h : j ≤ n) (hn : n ≤ 5000) : wrap64 ((n : Int) - (j : Int)) = ((n - j : Nat) : Int) := by unfold wrap64; omega

theorem read_step (s : ByteArray) (hsz : s.size ≤ 1000) (j i a k : Nat) (hi : i ≤ 3) (hs : j + i < s.size) (ha : a < 256 ^ i) :
    word_Read.l0 (k + 1) s j (a : Int) (i : Int) = word_Read.l0 k s j ((a + ((L s).getD (j + i) 0).toNat * 256 ^ i : Nat) : Int) ((i + 1 : Nat) : Int) := by
  have q1 : (i : Int) < 4 := by omega
  have q3 : ((j + i : Nat) : Int) < (s.size : Int) := by omega
  have e0 := u32_or a ((L s).getD (j + i) 0).toNat i ha (UInt8.toNat_lt _) hi
  have e1 := u32_shl ((L s).getD (j + i) 0).toNat i (UInt8.toNat_lt _) hi
  have e2 := bt_getD s (j + i) hs
  simp only [word_Read.l0]
  rw [if_pos q1, w_sum j i (by omega), if_pos (Int.natCast_nonneg _), if_pos q3, w_8 i (by omega), if_pos (Int.natCast_nonneg _), e2, e1, e0, w_one i (by omega)]

theorem read_some (k : Nat) (s : ByteArray) (hsz : s.size ≤ 1000) (a : Int) (ha : (Lit.int .i64 a).wf = true) (hk : 60 < k) : word_Read.f k s a = some (readS (L s) a) := by
  have hw : -9223372036854775808 ≤ a ∧ a ≤ 9223372036854775807 := by simpa [Lit.wf, IntKind.min, IntKind.max, IntKind.signed, IntKind.bits] using ha
  obtain ⟨k, rfl⟩ : ∃ q, k = q + 6 := ⟨k - 6, by omega⟩
  unfold word_Read.f readS
  by_cases h0 : a < 0
  · rw [if_pos h0, if_pos (.inl h0)]
    simp [word_Read.j0]
  by_cases h1 : a > (s.size : Int)
  · rw [if_neg h0, if_pos (.inr (by rw [L_length]; omega)), decide_eq_true h1]
    simp [word_Read.j0]
  rw [if_neg h0, if_neg (by rw [L_length]; omega), decide_eq_false h1]
  obtain ⟨j, rfl⟩ := Int.eq_ofNat_of_zero_le (Int.not_lt.1 h0)
  rw [Int.toNat_natCast, L_length]
  simp only [word_Read.j0]
  rw [if_neg (by simp), w_sub s.size j (by omega) (by omega)]
  by_cases h2 : (s.size : Int) - (j : Int) < 4
  · rw [if_pos (by omega), if_pos h2]
  have h4 : j + 4 ≤ s.size := by omega
  rw [if_neg (by omega), if_neg h2]
  have b0 := UInt8.toNat_lt ((L s).getD j 0)
  have b1 := UInt8.toNat_lt ((L s).getD (j + 1) 0)
  have b2 := UInt8.toNat_lt ((L s).getD (j + 2) 0)
  have s0 := read_step s hsz j 0 0 (k + 4) (by omega) (by omega) (by simp)
  have s1 := read_step s hsz j 1 (0 + ((L s).getD (j + 0) 0).toNat * 256 ^ 0) (k + 3) (by omega) (by omega) (by rw [Nat.add_zero]; omega)
  have s2 := read_step s hsz j 2 (0 + ((L s).getD (j + 0) 0).toNat * 256 ^ 0 + ((L s).getD (j + 1) 0).toNat * 256 ^ 1) (k + 2) (by omega) (by omega) (by rw [Nat.add_zero]; omega)
  have s3 := read_step s hsz j 3 (0 + ((L s).getD (j + 0) 0).toNat * 256 ^ 0 + ((L s).getD (j + 1) 0).toNat * 256 ^ 1 + ((L s).getD (j + 2) 0).toNat * 256 ^ 2) (k + 1) (by omega) (by omega) (by rw [Nat.add_zero]; omega)
  have e : word_Read.l0 (k + 5) s (j : Int) 0 0 = word_Read.l0 (k + 4 + 1) s (j : Int) ((0 : Nat) : Int) ((0 : Nat) : Int) := rfl
  rw [e, s0, s1, s2, s3]
  simp only [word_Read.l0]
  rw [if_neg (by omega)]
  unfold rd4
  congr 3
  simp only [Nat.add_zero]
  omega

/-- a text, cut to at most m bytes, as the print has it -/
theorem cut_tells (a : ByteArray) (m : Int) (hm : 0 ≤ m) : ∃ s : ByteArray, a.extract 0 (mn (a.size : Int) m).toNat = s ∧ (s.size : Int) ≤ m ∧ 0 ≤ mn (a.size : Int) m ∧ mn (a.size : Int) m ≤ (a.size : Int) := by
  have h0 : 0 ≤ mn (a.size : Int) m := by unfold mn; split <;> omega
  have h1 : mn (a.size : Int) m ≤ (a.size : Int) := by unfold mn; split <;> omega
  have h2 : mn (a.size : Int) m ≤ m := by unfold mn; split <;> omega
  exact ⟨_, rfl, by rw [ByteArray.size_extract]; omega, h0, h1⟩
end Go.Proofs.Ytmpfnniekemkbaa.Pure
