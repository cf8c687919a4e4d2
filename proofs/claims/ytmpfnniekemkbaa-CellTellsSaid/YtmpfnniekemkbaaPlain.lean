/-
  What the printed functions of word, and of the document, come to, in plain words.
-/
import Derived.Test.YtmpfnniekemkbaaMath
import Derived.Test.YtmpfnniekemkbaaQx1
import Derived.Test.YtmpfnniekemkbaaQx12
import Derived.Test.YtmpfnniekemkbaaQx13
namespace Go.Proofs.Ytmpfnniekemkbaa.Pure
open Go.RowKit Go.Proofs.Ytmpfnniekemkbaa.Q Go.Proofs.YtmpfnniekemkbaaW.PrintWords Go.Proofs.YtmpfnniekemkbaaW.PrintLast Go.Proofs.YtmpfnniekemkbaaW.PrintMore

theorem u64_nat {a : Int} (h : (Lit.int .u64 a).wf = true) : ∃ n : Nat, a = n ∧ n < 18446744073709551616 := by
  simp [Lit.wf, IntKind.min, IntKind.max, IntKind.signed, IntKind.bits] at h
  exact ⟨a.toNat, by omega, by omega⟩
theorem u64_wrap {x : Int} (h0 : 0 ≤ x) (h : x < 18446744073709551616) : IntKind.u64.wrap x = x := by
  simp [IntKind.wrap, IntKind.bits, IntKind.signed]
  omega

abbrev L (s : ByteArray) : List UInt8 := s.data.toList
theorem L_append (s t : ByteArray) : L (s ++ t) = L s ++ L t := by simp [L]
theorem L_length (s : ByteArray) : (L s).length = s.size := by simp [L]
theorem L_toList (s : ByteArray) : s.toList = L s := Go.ByteArray.toList_eq s
theorem L_inj {s t : ByteArray} (h : L s = L t) : s = t := ByteArray.ext (Array.toList_inj.1 h)
theorem L_extract (s : ByteArray) (i j : Nat) : L (s.extract i j) = ((L s).drop i).take (j - i) := by
  simp [L, ByteArray.data_extract, Array.toList_extract, List.extract]

/-- bytes as the print's numbers -/
def nums (l : List UInt8) : List Int := l.map fun b => (b.toNat : Int)
theorem nums_str (l : List UInt8) : L (strOfNums (nums l)) = l := by
  unfold nums strOfNums L
  have h : ((fun n : Int => UInt8.ofNat n.toNat) ∘ fun b : UInt8 => (b.toNat : Int)) = id := by
    funext b
    simp
  simp only [List.map_map]
  rw [h]
  simp
theorem nums_append (l k : List UInt8) : nums l ++ nums k = nums (l ++ k) := by simp [nums]
theorem nums_length (l : List UInt8) : (nums l).length = l.length := by simp [nums]
theorem nums_one (c : Nat) (h : c < 256) : [(c : Int)] = nums [UInt8.ofNat c] := by simp [nums]; omega
theorem nums_nil : ([] : List Int) = nums [] := rfl

theorem bt_nat (s : ByteArray) (i : Nat) (h : i < s.size) : bt s (i : Int) = (s[i].toNat : Int) := by
  unfold bt
  simp [h]
theorem bt_getD (s : ByteArray) (i : Nat) (h : i < s.size) : bt s (i : Int) = (((L s).getD i 0).toNat : Int) := by
  rw [bt_nat s i h]
  have : (L s).getD i 0 = s[i] := by
    rw [List.getD_eq_getElem?_getD, List.getElem?_eq_getElem (by rw [L_length]; exact h)]; rfl
  rw [this]

/-! word.Put -/
theorem shr_nat (n j : Nat) (h : j ≤ 8) : shr .u64 (n : Int) ((8 * j : Nat) : Int) = ((n / 256 ^ j : Nat) : Int) := by
  unfold shr
  have e : min ((8 * j : Nat) : Int).toNat IntKind.u64.bits = 8 * j := by
    rw [Int.toNat_natCast]; simp [IntKind.bits]; omega
  have h1 : (2 : Nat) ^ (8 * j) = 256 ^ j := by rw [Nat.pow_mul]
  have h2 : (2 : Int) ^ (8 * j) = ((2 ^ (8 * j) : Nat) : Int) := by simp
  rw [e, h2, h1]
  exact (Int.natCast_ediv _ _).symm

theorem put_l1 (n m : Nat) (hm : m ≤ 8) (d : Nat) : ∀ (k i : Nat) (pre : List UInt8), pre.length ≤ 100 → i + d = m → d < k → word_Put.l1 k n m (nums (pre ++ (Wm.be m n).take i)) m (i : Int) = some (strOfNums (nums (pre ++ Wm.be m n))) := by
  induction d with
  | zero =>
    intro k i pre hp hi hk
    obtain ⟨k, rfl⟩ : ∃ q, k = q + 1 := ⟨k - 1, by omega⟩
    simp only [word_Put.l1]
    rw [if_neg (by omega), List.take_of_length_le (by rw [Wm.be_length]; omega)]
  | succ d ih =>
    intro k i pre hp hi hk
    obtain ⟨k, rfl⟩ : ∃ q, k = q + 1 := ⟨k - 1, by omega⟩
    have hw : wrap64 ((i : Int) + 1) = ((i + 1 : Nat) : Int) := by unfold wrap64; omega
    have hs : wrap64 (8 * wrap64 (wrap64 ((m : Int) - 1) - (i : Int))) = ((8 * (m - 1 - i) : Nat) : Int) := by unfold wrap64; omega
    have hb : shr .u64 (n : Int) ((8 * (m - 1 - i) : Nat) : Int) % 256 = ((n / 256 ^ (m - 1 - i) % 256 : Nat) : Int) := by
      rw [shr_nat _ _ (by omega)]; rfl
    have hl : (nums (pre ++ (Wm.be m n).take i)).length ≤ 200 := by
      rw [nums_length, List.length_append, List.length_take, Wm.be_length]; omega
    simp only [word_Put.l1]
    rw [if_pos (by omega), hs, if_pos (by omega), if_pos (by omega), hb, nums_one _ (Nat.mod_lt _ (by decide)), nums_append, List.append_assoc, Wm.be_take m n i (by omega), hw]
    exact ih k (i + 1) pre hp (by omega) (by omega)

theorem put_l0 (n : Nat) (d : Nat) : ∀ (k j : Nat), 3 ≤ j → j + d = Wm.width n → d + 12 < k → word_Put.l0 k n (j : Int) = some (strOfNums (nums (UInt8.ofNat (247 + Wm.width n) :: Wm.be (Wm.width n) n))) := by
  have hw := Wm.width_3 n
  have hj1 : ∀ k, 10 < k → word_Put.j1 k n (Wm.width n : Nat) = some (strOfNums (nums (UInt8.ofNat (247 + Wm.width n) :: Wm.be (Wm.width n) n))) := by
    intro k hk
    obtain ⟨k, rfl⟩ : ∃ q, k = q + 1 := ⟨k - 1, by omega⟩
    have h1 : wrap64 (247 + (Wm.width n : Int)) % 256 = ((247 + Wm.width n : Nat) : Int) := by unfold wrap64; omega
    simp only [word_Put.j1]
    rw [h1, nums_one _ (by omega)]
    have := put_l1 n (Wm.width n) (by omega) (Wm.width n) k 0 [UInt8.ofNat (247 + Wm.width n)] (by simp) (by omega) (by omega)
    exact this
  induction d with
  | zero =>
    intro k j h3 hj hk
    obtain ⟨k, rfl⟩ : ∃ q, k = q + 1 := ⟨k - 1, by omega⟩
    obtain rfl : j = Wm.width n := by omega
    simp only [word_Put.l0]
    by_cases h8 : Wm.width n < 8
    · have hs : wrap64 (8 * (Wm.width n : Int)) = ((8 * Wm.width n : Nat) : Int) := by unfold wrap64; omega
      have h0 : ¬ 0 < n / 256 ^ Wm.width n := fun h => by
        have := (Wm.width_iff hw.1 h8).2 h
        omega
      rw [if_pos (by omega), hs, if_pos (by omega), shr_nat _ _ (by omega), if_neg (by omega)]
      exact hj1 k (by omega)
    · rw [if_neg (by omega)]
      exact hj1 k (by omega)
  | succ d ih =>
    intro k j h3 hj hk
    obtain ⟨k, rfl⟩ : ∃ q, k = q + 1 := ⟨k - 1, by omega⟩
    have hs : wrap64 (8 * (j : Int)) = ((8 * j : Nat) : Int) := by unfold wrap64; omega
    have hp : wrap64 ((j : Int) + 1) = ((j + 1 : Nat) : Int) := by unfold wrap64; omega
    have h0 : 0 < n / 256 ^ j := (Wm.width_iff h3 (by omega)).1 (by omega)
    simp only [word_Put.l0]
    rw [if_pos (by omega), hs, if_pos (by omega), shr_nat _ _ (by omega), if_pos (by omega), hp]
    exact ih k (j + 1) (by omega) (by omega) (by omega)

/-- the bytes of a number, as a text -/
def B (n : Nat) : ByteArray := strOfNums (nums (Wm.enc n))
theorem L_B (n : Nat) : L (B n) = Wm.enc n := nums_str _
theorem B_size (n : Nat) : (B n).size = (Wm.enc n).length := by rw [← L_length, L_B]
theorem B_size_le (n : Nat) : 1 ≤ (B n).size ∧ (B n).size ≤ 9 := by
  rw [B_size, Wm.enc_length]
  have := Wm.fol_hd_le n
  omega

theorem put_some (k n : Nat) (hn : n < 18446744073709551616) (hk : 30 < k) : word_Put.f k n = some (B n) := by
  unfold word_Put.f B Wm.enc
  by_cases h1 : n ≤ 240
  · rw [if_pos (by omega), if_pos h1, show (n : Int) % 256 = n by omega, nums_one n (by omega)]
  by_cases h2 : n ≤ 2287
  · have e1 : IntKind.u64.wrap ((n : Int) - 240) = ((n - 240 : Nat) : Int) := by rw [u64_wrap (by omega) (by omega)]; omega
    have e2 : IntKind.u64.wrap (241 + ((n - 240 : Nat) : Int) / 256) % 256 = ((241 + (n - 240) / 256 : Nat) : Int) := by rw [u64_wrap (by omega) (by omega)]; omega
    have e3 : ((n - 240 : Nat) : Int) % 256 = (((n - 240) % 256 : Nat) : Int) := by omega
    rw [if_neg (by omega), if_pos (by omega), if_neg h1, if_pos h2, e1, e2, e3]
    have := nums_append [UInt8.ofNat (241 + (n - 240) / 256)] [UInt8.ofNat ((n - 240) % 256)]
    rw [← nums_one _ (by omega), ← nums_one _ (by omega)] at this
    rw [List.singleton_append, List.singleton_append] at this
    rw [this]
  by_cases h3 : n ≤ 67823
  · have e1 : IntKind.u64.wrap (IntKind.u64.wrap ((n : Int) - 2287) - 1) = ((n - 2288 : Nat) : Int) := by
      rw [u64_wrap (x := (n : Int) - 2287) (by omega) (by omega), u64_wrap (by omega) (by omega)]; omega
    rw [if_neg (by omega), if_neg (by omega), if_pos (by omega), if_neg h1, if_neg h2, if_pos h3, e1]
    have e2 : ((n - 2288 : Nat) : Int) / 256 % 256 = (((n - 2288) / 256 % 256 : Nat) : Int) := by omega
    have e3 : ((n - 2288 : Nat) : Int) % 256 = (((n - 2288) % 256 : Nat) : Int) := by omega
    rw [e2, e3]
    have a1 := nums_one ((n - 2288) / 256 % 256) (by omega)
    have a2 := nums_one ((n - 2288) % 256) (by omega)
    have : nums (249 :: Wm.be 2 (n - 2288)) = [249, (((n - 2288) / 256 % 256 : Nat) : Int), (((n - 2288) % 256 : Nat) : Int)] := by
      simp only [Wm.be, List.nil_append, List.singleton_append]
      simp [nums]
    rw [this]
  · rw [if_neg (by omega), if_neg (by omega), if_neg (by omega), if_neg h1, if_neg h2, if_neg h3]
    have hw := Wm.width_3 n
    exact put_l0 n (Wm.width n - 3) k 3 (by omega) (by omega) (by omega)

/-! the document's Put -/
end Go.Proofs.Ytmpfnniekemkbaa.Pure
