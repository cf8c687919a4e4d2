/-
  WordGrows, in plain words: the bytes of a greater number are no fewer; they are one more at eight places.
-/
import Derived.Test.YtnjfgmabalmgnaaRead
import Derived.Test.YtnjfgmabalmgnaaQx11
namespace Go.Proofs.Ytnjfgmabalmgnaa.Pure
open Go.RowKit Go.Proofs.Ytnjfgmabalmgnaa.Q Go.Proofs.YtnjfgmabalmgnaaW.PrintWords Go.Proofs.YtnjfgmabalmgnaaW.PrintLast Go.Proofs.YtnjfgmabalmgnaaW.PrintMore

/-- how many bytes a number has -/
def len (n : Nat) : Nat := if n ≤ 240 then 1 else if n ≤ 2287 then 2 else if n ≤ 67823 then 3 else 1 + Wm.width n
theorem size_len (n : Nat) : (B n).size = len n := by
  have hw := Wm.width_3 n
  rw [B_size, Wm.enc_length]
  unfold len Wm.hd Wm.fol
  (repeat' split) <;> omega
theorem len_mono {a b : Nat} (h : a ≤ b) : len a ≤ len b := by
  have hw := Wm.width_mono h
  have h1 := Wm.width_3 a
  have h2 := Wm.width_3 b
  unfold len
  (repeat' split) <;> omega
theorem len_le (n : Nat) : len n ≤ 9 := by
  have h1 := Wm.width_3 n
  unfold len
  (repeat' split) <;> omega

def LL : List Int := [241, 2288, 67824, 16777216, 4294967296, 1099511627776, 281474976710656, 72057594037927936]
theorem w_two (i : Nat) (h : i ≤ 5000) : wrap64 ((i : Int) + 2) = ((i + 2 : Nat) : Int) := by unfold wrap64; omega

theorem grows_step (a i c m k : Nat) (hi : i < 8) (hc : rd LL (i : Int) = (c : Int)) (hc0 : 1 ≤ c) (hc1 : c < 18446744073709551616) (hl : len c = i + 2) (hl1 : len (c - 1) = i + 1) (hk : 40 < k) :
    withylaw01_WordGrows.l0 (k + 2) a LL (m : Int) (i : Int) = withylaw01_WordGrows.l0 k a LL ((if c ≤ a then i + 2 else m : Nat) : Int) ((i + 1 : Nat) : Int) := by
  have q1 : (i : Int) < (LL.length : Int) := by have : LL.length = 8 := rfl; omega
  have hu : IntKind.u64.wrap ((c : Int) - 1) = ((c - 1 : Nat) : Int) := by rw [u64_wrap (by omega) (by omega)]; omega
  have hne : ((((len (c - 1) : Nat) : Int)) != ((i + 1 : Nat) : Int)) = false := by rw [hl1]; simp
  simp only [withylaw01_WordGrows.l0]
  rw [if_pos q1, if_pos (Int.natCast_nonneg _), hc, size_some (k + 1) c hc1 (by omega), Option.bind_some, size_len, hl, w_two i (by omega), if_pos rfl, hu, size_some (k + 1) (c - 1) (by omega) (by omega), Option.bind_some, size_len, w_one i (by omega), hne]
  simp only [withylaw01_WordGrows.j1]
  rw [if_neg (by simp), if_pos (Int.natCast_nonneg _), if_pos q1, hc]
  by_cases h : c ≤ a
  · rw [if_pos (by omega), if_pos h, w_one i (by omega), w_two i (by omega)]
  · rw [if_neg (by omega), if_neg h, w_one i (by omega)]

theorem len_steps (a : Nat) : len a = if 72057594037927936 ≤ a then 7 + 2 else if 281474976710656 ≤ a then 6 + 2 else if 1099511627776 ≤ a then 5 + 2 else if 4294967296 ≤ a then 4 + 2 else if 16777216 ≤ a then 3 + 2 else if 67824 ≤ a then 2 + 2 else if 2288 ≤ a then 1 + 2 else if 241 ≤ a then 0 + 2 else 1 := by
  by_cases h0 : 72057594037927936 ≤ a
  · rw [if_pos h0]; unfold len Wm.width; rw [if_neg (by omega), if_neg (by omega), if_neg (by omega), if_neg (by omega), if_neg (by omega), if_neg (by omega), if_neg (by omega), if_neg (by omega)]
  by_cases h1 : 281474976710656 ≤ a
  · rw [if_neg h0, if_pos h1]; unfold len Wm.width; rw [if_neg (by omega), if_neg (by omega), if_neg (by omega), if_neg (by omega), if_neg (by omega), if_neg (by omega), if_neg (by omega), if_pos (by omega)]
  by_cases h2 : 1099511627776 ≤ a
  · rw [if_neg h0, if_neg h1, if_pos h2]; unfold len Wm.width; rw [if_neg (by omega), if_neg (by omega), if_neg (by omega), if_neg (by omega), if_neg (by omega), if_neg (by omega), if_pos (by omega)]
  by_cases h3 : 4294967296 ≤ a
  · rw [if_neg h0, if_neg h1, if_neg h2, if_pos h3]; unfold len Wm.width; rw [if_neg (by omega), if_neg (by omega), if_neg (by omega), if_neg (by omega), if_neg (by omega), if_pos (by omega)]
  by_cases h4 : 16777216 ≤ a
  · rw [if_neg h0, if_neg h1, if_neg h2, if_neg h3, if_pos h4]; unfold len Wm.width; rw [if_neg (by omega), if_neg (by omega), if_neg (by omega), if_neg (by omega), if_pos (by omega)]
  by_cases h5 : 67824 ≤ a
  · rw [if_neg h0, if_neg h1, if_neg h2, if_neg h3, if_neg h4, if_pos h5]; unfold len Wm.width; rw [if_neg (by omega), if_neg (by omega), if_neg (by omega), if_pos (by omega)]
  by_cases h6 : 2288 ≤ a
  · rw [if_neg h0, if_neg h1, if_neg h2, if_neg h3, if_neg h4, if_neg h5, if_pos h6]; unfold len; rw [if_neg (by omega), if_neg (by omega), if_pos (by omega)]
  by_cases h7 : 241 ≤ a
  · rw [if_neg h0, if_neg h1, if_neg h2, if_neg h3, if_neg h4, if_neg h5, if_neg h6, if_pos h7]; unfold len; rw [if_neg (by omega), if_pos (by omega)]
  · rw [if_neg h0, if_neg h1, if_neg h2, if_neg h3, if_neg h4, if_neg h5, if_neg h6, if_neg h7]; unfold len; rw [if_pos (by omega)]

theorem WordGrows : withylaw01_WordGrows.Pure := by
  intro a0 a1 h0 h1
  obtain ⟨a, rfl, ha⟩ := u64_nat h0
  obtain ⟨b, rfl, hb⟩ := u64_nat h1
  have hmn : mn (a : Int) (b : Int) = ((min a b : Nat) : Int) := by unfold mn; split <;> omega
  have hmx : mx (a : Int) (b : Int) = ((max a b : Nat) : Int) := by unfold mx; split <;> omega
  have hle := len_mono (show min a b ≤ max a b by omega)
  refine ⟨100, ?_⟩
  unfold withylaw01_WordGrows.f
  rw [hmn, hmx, size_some 100 _ (by omega) (by decide), Option.bind_some, size_some 100 _ (by omega) (by decide), Option.bind_some, size_len, size_len, if_neg (by omega)]
  clear hmn hmx hle h0 h1
  have s0 := grows_step a 0 241 1 98 (by decide) rfl (by decide) (by decide) (by decide) (by decide) (by decide)
  have s1 := fun m => grows_step a 1 2288 m 96 (by decide) rfl (by decide) (by decide) (by decide) (by decide) (by decide)
  have s2 := fun m => grows_step a 2 67824 m 94 (by decide) rfl (by decide) (by decide) (by decide) (by decide) (by decide)
  have s3 := fun m => grows_step a 3 16777216 m 92 (by decide) rfl (by decide) (by decide) (by decide) (by decide) (by decide)
  have s4 := fun m => grows_step a 4 4294967296 m 90 (by decide) rfl (by decide) (by decide) (by decide) (by decide) (by decide)
  have s5 := fun m => grows_step a 5 1099511627776 m 88 (by decide) rfl (by decide) (by decide) (by decide) (by decide) (by decide)
  have s6 := fun m => grows_step a 6 281474976710656 m 86 (by decide) rfl (by decide) (by decide) (by decide) (by decide) (by decide)
  have s7 := fun m => grows_step a 7 72057594037927936 m 84 (by decide) rfl (by decide) (by decide) (by decide) (by decide) (by decide)
  have e : withylaw01_WordGrows.l0 100 (a : Int) [241, 2288, 67824, 16777216, 4294967296, 1099511627776, 281474976710656, 72057594037927936] 1 0 = withylaw01_WordGrows.l0 (98 + 2) (a : Int) LL ((1 : Nat) : Int) ((0 : Nat) : Int) := rfl
  rw [e, s0, s1, s2, s3, s4, s5, s6, s7]
  clear s0 s1 s2 s3 s4 s5 s6 s7 e
  simp only [withylaw01_WordGrows.l0]
  have q1 : ¬ (((7 + 1 : Nat) : Int) < (LL.length : Int)) := by decide
  rw [if_neg q1, size_some 83 a ha (by decide), Option.bind_some, size_len]
  rw [len_steps, if_pos rfl, fixed_some]
  rfl
end Go.Proofs.Ytnjfgmabalmgnaa.Pure
