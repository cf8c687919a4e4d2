/-
  What the printed functions of the sum come to, in plain words: the sum's functions, the document's functions, the fixed calls.
-/
import Derived.Test.YtlplhnfaohbkcaaQx1
namespace Go.Proofs.Ytlplhnfaohbkcaa.Pure
open Go.RowKit Go.Proofs.Ytlplhnfaohbkcaa.Q Go.Proofs.YtlplhnfaohbkcaaW.PrintWords Go.Proofs.YtlplhnfaohbkcaaW.PrintLast Go.Proofs.YtlplhnfaohbkcaaW.PrintMore

theorem u32_nat {a : Int} (h : (Lit.int .u32 a).wf = true) : ∃ n : Nat, a = n ∧ n < 4294967296 := by
  simp [Lit.wf, IntKind.min, IntKind.max, IntKind.signed, IntKind.bits] at h
  exact ⟨a.toNat, by omega, by omega⟩

/-- a text, cut to at most m bytes, as the print has it -/
theorem cut_tells (a : ByteArray) (m : Int) (hm : 0 ≤ m) : ∃ s : ByteArray, a.extract 0 (mn (a.size : Int) m).toNat = s ∧ (s.size : Int) ≤ m ∧ 0 ≤ mn (a.size : Int) m ∧ mn (a.size : Int) m ≤ (a.size : Int) := by
  have h0 : 0 ≤ mn (a.size : Int) m := by unfold mn; split <;> omega
  have h1 : mn (a.size : Int) m ≤ (a.size : Int) := by unfold mn; split <;> omega
  have h2 : mn (a.size : Int) m ≤ m := by unfold mn; split <;> omega
  exact ⟨_, rfl, by rw [ByteArray.size_extract]; omega, h0, h1⟩

abbrev L (s : ByteArray) : List UInt8 := s.data.toList
theorem L_append (s t : ByteArray) : L (s ++ t) = L s ++ L t := by simp [L]
theorem L_length (s : ByteArray) : (L s).length = s.size := by simp [L]

theorem bits_some (s : ByteArray) (h : s.size ≤ 100000) : sum_Bits.f s = some ((Sm.more 0 (L s) : Nat) : Int) := by
  unfold sum_Bits.f Hand.sum_Bits.f
  rw [if_pos (by omega)]
theorem more_some (c : Nat) (hc : c < 4294967296) (s : ByteArray) (h : s.size ≤ 100000) : sum_More.f c s = some ((Sm.more c (L s) : Nat) : Int) := by
  unfold sum_More.f Hand.sum_More.f
  rw [if_pos ⟨by omega, by omega⟩, Int.toNat_natCast]
theorem table_some (s : ByteArray) (h : s.size ≤ 100000) : sum_Table.f s = some ((Sm.more 0 (L s) : Nat) : Int) := by
  unfold sum_Table.f
  have := more_some 0 (by decide) s h
  rw [show ((0 : Nat) : Int) = 0 from rfl] at this
  rw [this]; rfl
theorem join_some (a b : Nat) (ha : a < 4294967296) (hb : b < 4294967296) (n : Int) : sum_Join.f a b n = some ((Sm.roll (Hand.cap n) a ^^^ b : Nat) : Int) := by
  unfold sum_Join.f Hand.sum_Join.f
  rw [if_pos ⟨by omega, by omega⟩, Int.toNat_natCast, Int.toNat_natCast]
theorem cap_nat (n : Nat) (h : n ≤ 100000) : Hand.cap (n : Int) = n := by unfold Hand.cap; omega

theorem fixed_some : withylaw02_fixed.f = some true := by decide +kernel

/-! the document's functions -/
/-- d bits out of a register -/
def shM : Nat → Nat → Nat
  | 0, r => r
  | d + 1, r => shM d (Sm.sh r)

theorem ref_one_l (d : Nat) : ∀ (k R : Nat) (i : Int), R < 4294967296 → 0 ≤ i → i + d = 8 → d < k → withyref02_one.l0 k R i = some ((shM d R : Nat) : Int) := by
  induction d with
  | zero =>
    intro k R i hR h0 hi hk
    obtain ⟨k, rfl⟩ : ∃ m, k = m + 1 := ⟨k - 1, by omega⟩
    simp only [withyref02_one.l0]
    rw [if_neg (by omega)]; rfl
  | succ d ih =>
    intro k R i hR h0 hi hk
    obtain ⟨k, rfl⟩ : ∃ m, k = m + 1 := ⟨k - 1, by omega⟩
    have hw : wrap64 (i + 1) = i + 1 := by unfold wrap64; omega
    have hm : Int.tmod (R : Int) 2 = ((R % 2 : Nat) : Int) := rfl
    have hd : Int.tdiv (R : Int) 2 % 4294967296 = ((R / 2 : Nat) : Int) := by
      have : Int.tdiv (R : Int) 2 = ((R / 2 : Nat) : Int) := rfl
      omega
    simp only [withyref02_one.l0]
    rw [if_pos (by omega), hm, hd, hw]
    by_cases ho : R % 2 = 1
    · rw [if_pos (by omega)]
      have hx : bits .xor .u32 ((R / 2 : Nat) : Int) 2197175160 = ((R / 2 ^^^ 2197175160 : Nat) : Int) := u32_xor (R / 2) 2197175160 (by omega) (by decide)
      rw [hx]
      have hs : Sm.sh R = R / 2 ^^^ 2197175160 := by unfold Sm.sh; rw [if_pos ho]
      rw [← hs]
      exact ih k (Sm.sh R) (i + 1) (Sm.sh_lt hR) (by omega) (by omega) (by omega)
    · rw [if_neg (by omega)]
      have hs : Sm.sh R = R / 2 := by unfold Sm.sh; rw [if_neg ho]
      rw [← hs]
      exact ih k (Sm.sh R) (i + 1) (Sm.sh_lt hR) (by omega) (by omega) (by omega)

theorem ref_one (k R c : Nat) (hR : R < 4294967296) (hc : c < 256) (hk : 8 < k) : withyref02_one.f k R c = some ((Sm.one R c : Nat) : Int) := by
  unfold withyref02_one.f
  have h1 : (c : Int) % 4294967296 = c := by omega
  rw [h1, u32_xor R c hR (by omega)]
  exact ref_one_l 8 k (R ^^^ c) 0 (Sm.xor_lt hR (by omega)) (by omega) (by omega) hk

theorem bt_nat (s : ByteArray) (i : Nat) (h : i < s.size) : bt s (i : Int) = (s[i].toNat : Int) := by
  unfold bt
  simp [h]

theorem ref_More_l (s : ByteArray) (d : Nat) : ∀ (k i R : Nat), s.size ≤ 100000 → R < 4294967296 → i + d = s.size → d + 9 < k → withyref02_More.l0 k s R (i : Int) = some ((Sm.inv (Sm.run R ((L s).drop i)) : Nat) : Int) := by
  induction d with
  | zero =>
    intro k i R hs hR hi hk
    obtain ⟨k, rfl⟩ : ∃ m, k = m + 1 := ⟨k - 1, by omega⟩
    simp only [withyref02_More.l0]
    rw [if_neg (by omega), List.drop_of_length_le (by rw [L_length]; omega), Sm.run_nil]
    unfold Sm.inv
    congr 1
    omega
  | succ d ih =>
    intro k i R hs hR hi hk
    obtain ⟨k, rfl⟩ : ∃ m, k = m + 1 := ⟨k - 1, by omega⟩
    have hw : wrap64 ((i : Int) + 1) = ((i + 1 : Nat) : Int) := by unfold wrap64; omega
    have hlt : i < s.size := by omega
    simp only [withyref02_More.l0]
    rw [if_pos (by omega), if_pos (by omega), bt_nat s i hlt, ref_one k R _ hR (Sm.byte_lt _) (by omega)]
    simp only [Option.bind_some]
    rw [hw, ih k (i + 1) _ hs (Sm.one_lt hR (Sm.byte_lt _)) (by omega) (by omega)]
    have hd : (L s).drop i = s[i] :: (L s).drop (i + 1) := by
      rw [List.drop_eq_getElem_cons (by rw [L_length]; exact hlt)]
      rfl
    rw [hd, Sm.run_cons]

theorem ref_More (k c : Nat) (hc : c < 4294967296) (s : ByteArray) (hs : s.size ≤ 100000) (hk : s.size + 9 < k) : withyref02_More.f k c s = some ((Sm.more c (L s) : Nat) : Int) := by
  unfold withyref02_More.f
  have h : (4294967295 - (c : Int)) % 4294967296 = ((Sm.inv c : Nat) : Int) := by unfold Sm.inv; omega
  rw [h]
  have := ref_More_l s s.size k 0 (Sm.inv c) hs (Sm.inv_lt c) (by omega) hk
  exact this
end Go.Proofs.Ytlplhnfaohbkcaa.Pure
