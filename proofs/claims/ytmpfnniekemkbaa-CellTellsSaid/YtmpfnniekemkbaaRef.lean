/-
  What the document's functions come to, in plain words.
-/
import Derived.Test.YtmpfnniekemkbaaPut
import Derived.Test.YtmpfnniekemkbaaQx3
import Derived.Test.YtmpfnniekemkbaaQx5
import Derived.Test.YtmpfnniekemkbaaQx9
import Derived.Test.YtmpfnniekemkbaaQx10
import Derived.Test.YtmpfnniekemkbaaQx15
namespace Go.Proofs.Ytmpfnniekemkbaa.Pure
open Go.RowKit Go.Proofs.Ytmpfnniekemkbaa.Q Go.Proofs.YtmpfnniekemkbaaW.PrintWords Go.Proofs.YtmpfnniekemkbaaW.PrintLast Go.Proofs.YtmpfnniekemkbaaW.PrintMore

theorem digits_l (m : Nat) : ∀ (k n : Nat) (out : List UInt8), m ≤ 8 → out.length + m ≤ 100 → n < 256 ^ m → (0 < m → 256 ^ (m - 1) ≤ n) → m < k → withyref01_digits.l0 k n (nums out) = some (nums (Wm.be m n ++ out)) := by
  induction m with
  | zero =>
    intro k n out _ _ hn _ hk
    obtain ⟨k, rfl⟩ : ∃ q, k = q + 1 := ⟨k - 1, by omega⟩
    simp at hn
    subst hn
    simp only [withyref01_digits.l0]
    rw [if_neg (by omega)]; rfl
  | succ m ih =>
    intro k n out hm ho hn hge hk
    obtain ⟨k, rfl⟩ : ∃ q, k = q + 1 := ⟨k - 1, by omega⟩
    have hp : 0 < 256 ^ m := Nat.pow_pos (by decide)
    have hg := hge (by omega)
    rw [Nat.add_sub_cancel] at hg
    rw [Nat.pow_succ] at hn
    have h8 : 256 ^ m ≤ 256 ^ 7 := Nat.pow_le_pow_right (by decide) (by omega)
    have h7 : (256 : Nat) ^ 7 = 72057594037927936 := by decide
    have hn0 : (n : Int) > 0 := by omega
    have e1 : Int.tmod (n : Int) 256 % 256 = ((n % 256 : Nat) : Int) := by
      have : Int.tmod (n : Int) 256 = ((n % 256 : Nat) : Int) := rfl
      omega
    have e2 : IntKind.u64.wrap (Int.tdiv (n : Int) 256) = ((n / 256 : Nat) : Int) := by
      have : Int.tdiv (n : Int) 256 = ((n / 256 : Nat) : Int) := rfl
      rw [this, u64_wrap (by omega) (by omega)]
    have hl : [((n % 256 : Nat) : Int)].length + (nums out).length < 140737488355328 := by
      rw [nums_length]; simp; omega
    simp only [withyref01_digits.l0]
    rw [if_pos hn0, e1, Option.bind_some, if_pos hl, e2, nums_one _ (Nat.mod_lt _ (by decide)), nums_append, Wm.be]
    have hlast : 0 < m → 256 ^ (m - 1) ≤ n / 256 := fun h0 => by
      have : 256 ^ m = 256 ^ (m - 1) * 256 := by rw [← Nat.pow_succ]; congr 1; omega
      omega
    have hdiv : n / 256 < 256 ^ m := by omega
    have hrec := ih k (n / 256) ([UInt8.ofNat (n % 256)] ++ out) (by omega) (by rw [List.length_append, List.length_singleton]; clear ih; omega) hdiv hlast (by omega)
    rw [hrec]
    simp

theorem rput_some (k n : Nat) (hn : n < 18446744073709551616) (hk : 30 < k) : withyref01_Put.f k n = some (B n) := by
  unfold withyref01_Put.f B Wm.enc
  by_cases h1 : n ≤ 240
  · rw [if_pos (by omega), if_pos h1, show (n : Int) % 256 = n by omega, nums_one n (by omega)]
  by_cases h2 : n ≤ 2287
  · have e1 : IntKind.u64.wrap ((n : Int) - 240) = ((n - 240 : Nat) : Int) := by rw [u64_wrap (by omega) (by omega)]; omega
    have e0 : Int.tdiv ((n - 240 : Nat) : Int) 256 = (((n - 240) / 256 : Nat) : Int) := rfl
    have e4 : Int.tmod ((n - 240 : Nat) : Int) 256 = (((n - 240) % 256 : Nat) : Int) := rfl
    have e5 : IntKind.u64.wrap (((n - 240) / 256 : Nat) : Int) = (((n - 240) / 256 : Nat) : Int) := u64_wrap (by omega) (by omega)
    have e2 : IntKind.u64.wrap (241 + (((n - 240) / 256 : Nat) : Int)) % 256 = ((241 + (n - 240) / 256 : Nat) : Int) := by rw [u64_wrap (by omega) (by omega)]; omega
    have e3 : (((n - 240) % 256 : Nat) : Int) % 256 = (((n - 240) % 256 : Nat) : Int) := by omega
    rw [if_neg (by omega), if_pos (by omega), if_neg h1, if_pos h2, e1, e0, e4, e5, e2, e3]
    have := nums_append [UInt8.ofNat (241 + (n - 240) / 256)] [UInt8.ofNat ((n - 240) % 256)]
    rw [← nums_one _ (by omega), ← nums_one _ (by omega)] at this
    rw [List.singleton_append, List.singleton_append] at this
    rw [this]
  by_cases h3 : n ≤ 67823
  · have e1 : IntKind.u64.wrap ((n : Int) - 2288) = ((n - 2288 : Nat) : Int) := by rw [u64_wrap (by omega) (by omega)]; omega
    have e0 : Int.tdiv ((n - 2288 : Nat) : Int) 256 = (((n - 2288) / 256 : Nat) : Int) := rfl
    have e4 : Int.tmod ((n - 2288 : Nat) : Int) 256 = (((n - 2288) % 256 : Nat) : Int) := rfl
    have e5 : IntKind.u64.wrap (((n - 2288) / 256 : Nat) : Int) % 256 = (((n - 2288) / 256 % 256 : Nat) : Int) := by rw [u64_wrap (by omega) (by omega)]; omega
    have e3 : (((n - 2288) % 256 : Nat) : Int) % 256 = (((n - 2288) % 256 : Nat) : Int) := by omega
    rw [if_neg (by omega), if_neg (by omega), if_pos (by omega), if_neg h1, if_neg h2, if_pos h3, e1, e0, e4, e5, e3]
    have : nums (249 :: Wm.be 2 (n - 2288)) = [249, (((n - 2288) / 256 % 256 : Nat) : Int), (((n - 2288) % 256 : Nat) : Int)] := by
      simp only [Wm.be, List.nil_append, List.singleton_append]
      simp [nums]
    rw [this]
  · rw [if_neg (by omega), if_neg (by omega), if_neg (by omega), if_neg h1, if_neg h2, if_neg h3]
    have hw := Wm.width_3 n
    have hd : withyref01_digits.f k n = some (nums (Wm.be (Wm.width n) n)) := by
      have := digits_l (Wm.width n) k n [] (by omega) (by simp; omega) (Wm.width_lt hn) (fun _ => Wm.width_ge (by omega)) (by omega)
      rw [List.append_nil] at this
      exact this
    have hl : (nums (Wm.be (Wm.width n) n)).length = Wm.width n := by rw [nums_length, Wm.be_length]
    have h1 : wrap64 (247 + (Wm.width n : Int)) % 256 = ((247 + Wm.width n : Nat) : Int) := by unfold wrap64; omega
    have z1 : (strOfNums (nums [UInt8.ofNat (247 + Wm.width n)])).size = 1 := by rw [← L_length, nums_str]; rfl
    have z2 : (strOfNums (nums (Wm.be (Wm.width n) n))).size = Wm.width n := by rw [← L_length, nums_str, Wm.be_length]
    rw [hd, Option.bind_some, hl, h1, Option.bind_some, nums_one _ (by omega), if_pos (by omega)]
    refine congrArg some (L_inj ?_)
    rw [L_append, nums_str, nums_str, nums_str]
    rfl

theorem follow_some (c : Nat) (h : c < 256) : withyref01_follow.f c = some ((Wm.fol c : Nat) : Int) := by
  unfold withyref01_follow.f Wm.fol
  have hw : wrap64 (wrap64 (c : Int) - 247) = (c : Int) - 247 := by unfold wrap64; omega
  rw [hw]
  by_cases h1 : c ≤ 240
  · rw [if_pos (by omega), if_pos h1]; rfl
  by_cases h2 : c ≤ 248
  · rw [if_neg (by omega), if_pos (by omega), if_neg h1, if_pos h2]; rfl
  by_cases h3 : c = 249
  · subst h3; rfl
  · rw [if_neg (by omega), if_neg (by omega), if_neg (by omega), if_neg h1, if_neg h2]; congr 1; omega

theorem rget_l0 (s : ByteArray) (hsz : s.size ≤ 1000) (j c : Nat) (hc : c = ((L s).getD j 0).toNat) (hs : j + 1 + Wm.fol c ≤ s.size) (d : Nat) : ∀ (k i : Nat), i + d = Wm.fol c → d + 40 < k →
    withyref01_Get.l0 k s j ((j + 1 + Wm.fol c : Nat) : Int) (Wm.val ((((L s).drop (j + 1)).take (Wm.fol c)).take i) : Nat) ((j + 1 + i : Nat) : Int)
      = some (if Wm.enc (Wm.dec c (((L s).drop (j + 1)).take (Wm.fol c))) = ((L s).drop j).take (1 + Wm.fol c) then (((Wm.dec c (((L s).drop (j + 1)).take (Wm.fol c)) : Nat) : Int), ((j + 1 + Wm.fol c : Nat) : Int), (0 : Int)) else (0, 0, 3)) := by
  have hc256 : c < 256 := by rw [hc]; exact UInt8.toNat_lt _
  have hK8 := Wm.fol_le c hc256
  have hlen : (((L s).drop (j + 1)).take (Wm.fol c)).length = Wm.fol c := by rw [List.length_take, List.length_drop, L_length]; omega
  have HDL := Lib.hid (Wm.dec_lt hc256 hlen)
  induction d with
  | zero =>
    intro k i hi hk
    obtain ⟨k, rfl⟩ : ∃ q, k = q + 1 := ⟨k - 1, by omega⟩
    obtain rfl : i = Wm.fol c := by omega
    have hb : bt s (j : Int) = (c : Int) := by rw [bt_getD s j (by omega), hc]
    have ht : (((L s).drop (j + 1)).take (Wm.fol c)).take (Wm.fol c) = ((L s).drop (j + 1)).take (Wm.fol c) := List.take_of_length_le (by omega)
    simp only [withyref01_Get.l0]
    rw [if_neg (by omega), if_pos (by omega), if_pos (by omega), ht, hb]
    generalize hV : ((L s).drop (j + 1)).take (Wm.fol c) = t at *
    have hv := Wm.val_lt t
    have hdl := HDL.out
    by_cases h1 : c ≤ 240
    · have hd : Wm.dec c t = c := by unfold Wm.dec; rw [if_pos h1]
      have hw : IntKind.u64.wrap (c : Int) = (c : Int) := u64_wrap (by omega) (by omega)
      rw [if_pos (by omega), hw, hd]
      exact fin_some _ c s j (Wm.fol c) _ (rput_some k c (by omega) (by omega)) rfl hs
    by_cases h2 : c ≤ 248
    · have hf : Wm.fol c = 1 := by unfold Wm.fol; rw [if_neg h1, if_pos h2]
      have hd : Wm.dec c t = 240 + 256 * (c - 241) + Wm.val t := by unfold Wm.dec; rw [if_neg h1, if_pos h2]
      rw [hlen, hf] at hv
      have w1 : IntKind.u64.wrap (c : Int) = (c : Int) := u64_wrap (by omega) (by omega)
      have w2 : IntKind.u64.wrap ((c : Int) - 241) = (c : Int) - 241 := u64_wrap (by omega) (by omega)
      have w3 : IntKind.u64.wrap (256 * ((c : Int) - 241)) = 256 * ((c : Int) - 241) := u64_wrap (by omega) (by omega)
      have w4 : IntKind.u64.wrap (240 + 256 * ((c : Int) - 241)) = 240 + 256 * ((c : Int) - 241) := u64_wrap (by omega) (by omega)
      have w5 : IntKind.u64.wrap (240 + 256 * ((c : Int) - 241) + (Wm.val t : Int)) = ((Wm.dec c t : Nat) : Int) := by rw [u64_wrap (by omega) (by omega), hd]; omega
      rw [if_neg (by omega), if_pos (by omega), w1, w2, w3, w4, w5]
      exact fin_some _ _ s j (Wm.fol c) _ (rput_some k _ hdl (by omega)) rfl hs
    by_cases h3 : c = 249
    · have hf : Wm.fol c = 2 := by subst h3; rfl
      have hd : Wm.dec c t = 2288 + Wm.val t := by unfold Wm.dec; rw [if_neg h1, if_neg h2, if_pos h3]
      rw [hlen, hf] at hv
      have hw : IntKind.u64.wrap (2288 + (Wm.val t : Int)) = ((Wm.dec c t : Nat) : Int) := by rw [u64_wrap (by omega) (by omega), hd]; omega
      rw [if_neg (by omega), if_neg (by omega), if_pos (by omega), hw]
      exact fin_some _ _ s j (Wm.fol c) _ (rput_some k _ hdl (by omega)) rfl hs
    · have hd : Wm.dec c t = Wm.val t := by unfold Wm.dec; rw [if_neg h1, if_neg h2, if_neg h3]
      rw [if_neg (by omega), if_neg (by omega), if_neg (by omega), ← hd]
      exact fin_some _ _ s j (Wm.fol c) _ (rput_some k _ hdl (by omega)) rfl hs
  | succ d ih =>
    intro k i hi hk
    obtain ⟨k, rfl⟩ : ∃ q, k = q + 1 := ⟨k - 1, by omega⟩
    have q1 : ((j + 1 + i : Nat) : Int) < ((j + 1 + Wm.fol c : Nat) : Int) := by omega
    have q2 : 0 ≤ ((j + 1 + i : Nat) : Int) := Int.natCast_nonneg _
    have q3 : ((j + 1 + i : Nat) : Int) < (s.size : Int) := by omega
    have hj : j + i ≤ 5000 := by omega
    have hrec := ih k (i + 1) (by omega) (by omega)
    have hw := w_one (j + 1 + i) (by omega)
    rw [show j + 1 + i + 1 = j + 1 + (i + 1) by omega] at hw
    have hb := bt_getD s (j + 1 + i) (by omega)
    have hlt := rest_lt s j (Wm.fol c) i (by omega) hK8 ((L s).getD (j + 1 + i) 0).toNat (UInt8.toNat_lt _)
    have hr := rest_take s j (Wm.fol c) i (by omega) hs
    have hb8 := UInt8.toNat_lt ((L s).getD (j + 1 + i) 0)
    generalize ((L s).getD (j + 1 + i) 0).toNat = bb at *
    have he : IntKind.u64.wrap (IntKind.u64.wrap ((Wm.val ((((L s).drop (j + 1)).take (Wm.fol c)).take i) : Int) * 256) + IntKind.u64.wrap (bb : Int)) = ((Wm.val ((((L s).drop (j + 1)).take (Wm.fol c)).take (i + 1)) : Nat) : Int) := by
      rw [hr, u64_wrap (x := (bb : Int)) (by omega) (by omega), u64_wrap (x := _ * 256) (by omega) (by omega), u64_wrap (by omega) (by omega)]; omega
    simp only [withyref01_Get.l0]
    rw [if_pos q1, if_pos q2, if_pos q3, hb, he, hw]
    exact hrec

theorem rget_some (k : Nat) (s : ByteArray) (hsz : s.size ≤ 1000) (a : Int) (ha : (Lit.int .i64 a).wf = true) (hk : 60 < k) : withyref01_Get.f k s a = some (getS (L s) a) := by
  have hw : -9223372036854775808 ≤ a ∧ a ≤ 9223372036854775807 := by simpa [Lit.wf, IntKind.min, IntKind.max, IntKind.signed, IntKind.bits] using ha
  obtain ⟨k, rfl⟩ : ∃ q, k = q + 2 := ⟨k - 2, by omega⟩
  unfold withyref01_Get.f getS
  by_cases h0 : a < 0
  · rw [if_pos h0, if_pos (.inl h0)]
    simp [withyref01_Get.j0]
  by_cases h1 : a > (s.size : Int)
  · rw [if_neg h0, if_pos (.inr (by rw [L_length]; omega)), decide_eq_true h1]
    simp [withyref01_Get.j0]
  rw [if_neg h0, if_neg (by rw [L_length]; omega), decide_eq_false h1]
  obtain ⟨j, rfl⟩ := Int.eq_ofNat_of_zero_le (Int.not_lt.1 h0)
  rw [Int.toNat_natCast]
  simp only [withyref01_Get.j0]
  rw [if_neg (by simp)]
  by_cases h2 : j = s.size
  · rw [if_pos (by omega), if_pos (.inl (by rw [L_length]; exact h2))]
    simp [withyref01_Get.j1]
  have hlt : j < s.size := by omega
  rw [if_neg (by omega), if_pos (by omega), if_pos (by omega), bt_getD s j hlt, follow_some _ (UInt8.toNat_lt _), Option.bind_some]
  have hf8 := Wm.fol_le ((L s).getD j 0).toNat (UInt8.toNat_lt _)
  have e1 := w_plus j (Wm.fol ((L s).getD j 0).toNat) (by omega)
  have e2 := w_one j (by omega)
  rw [e1]
  simp only [withyref01_Get.j1]
  by_cases h3 : s.size < j + 1 + Wm.fol ((L s).getD j 0).toNat
  · rw [if_pos (decide_eq_true (by omega)), if_pos (.inr (by rw [L_length]; exact h3))]
  · rw [if_neg (fun h => by have := of_decide_eq_true h; omega), if_pos (by omega), if_pos (by omega), bt_getD s j hlt, follow_some _ (UInt8.toNat_lt _), Option.bind_some, e1, e2, if_neg (by rw [L_length]; omega)]
    exact rget_l0 s hsz j _ rfl (by omega) (Wm.fol ((L s).getD j 0).toNat) k 0 (by omega) (by omega)

theorem rfour_some (n : Nat) : withyref01_Four.f n = some (F n) := by
  unfold withyref01_Four.f F
  have e0 : Int.tmod (n : Int) 256 % 256 = ((n % 256 : Nat) : Int) := by
    have : Int.tmod (n : Int) 256 = ((n % 256 : Nat) : Int) := rfl
    omega
  have e1 : Int.tdiv (n : Int) 256 % 4294967296 % 256 = ((n / 256 % 256 : Nat) : Int) := by
    have : Int.tdiv (n : Int) 256 = ((n / 256 : Nat) : Int) := rfl
    omega
  have e2 : Int.tdiv (n : Int) 65536 % 4294967296 % 256 = ((n / 65536 % 256 : Nat) : Int) := by
    have : Int.tdiv (n : Int) 65536 = ((n / 65536 : Nat) : Int) := rfl
    omega
  have e3 : Int.tdiv (n : Int) 16777216 % 4294967296 % 256 = ((n / 16777216 % 256 : Nat) : Int) := by
    have : Int.tdiv (n : Int) 16777216 = ((n / 16777216 : Nat) : Int) := rfl
    omega
  rw [nums_four4, e0, e1, e2, e3]

theorem rread_step (s : ByteArray) (hsz : s.size ≤ 1000) (j i a k : Nat) (hi : i ≤ 3) (hs : j + i < s.size) (ha : a < 16777216) :
    withyref01_Read.l0 (k + 1) s j (a : Int) (i : Int) = withyref01_Read.l0 k s j ((a * 256 + ((L s).getD (j + i) 0).toNat : Nat) : Int) ((i : Int) - 1) := by
  have q1 : (i : Int) ≥ 0 := by omega
  have q3 : ((j + i : Nat) : Int) < (s.size : Int) := by omega
  have hb := UInt8.toNat_lt ((L s).getD (j + i) 0)
  have e2 := bt_getD s (j + i) hs
  have e1 : ((((a : Int) * 256) % 4294967296) + ((((L s).getD (j + i) 0).toNat : Int) % 4294967296)) % 4294967296 = ((a * 256 + ((L s).getD (j + i) 0).toNat : Nat) : Int) := by
    clear e2
    omega
  have e3 : wrap64 ((i : Int) - 1) = (i : Int) - 1 := by clear e1 e2; unfold wrap64; omega
  simp only [withyref01_Read.l0]
  rw [if_pos q1, w_sum j i (by omega), if_pos (Int.natCast_nonneg _), if_pos q3, e2, e1, e3]

theorem rread_some (k : Nat) (s : ByteArray) (hsz : s.size ≤ 1000) (a : Int) (ha : (Lit.int .i64 a).wf = true) (hk : 60 < k) : withyref01_Read.f k s a = some (readS (L s) a) := by
  have hw : -9223372036854775808 ≤ a ∧ a ≤ 9223372036854775807 := by simpa [Lit.wf, IntKind.min, IntKind.max, IntKind.signed, IntKind.bits] using ha
  obtain ⟨k, rfl⟩ : ∃ q, k = q + 6 := ⟨k - 6, by omega⟩
  unfold withyref01_Read.f readS
  by_cases h0 : a < 0
  · rw [if_pos h0, if_pos (.inl h0)]
    simp [withyref01_Read.j0]
  by_cases h1 : a > (s.size : Int)
  · rw [if_neg h0, if_pos (.inr (by rw [L_length]; omega)), decide_eq_true h1]
    simp [withyref01_Read.j0]
  rw [if_neg h0, if_neg (by rw [L_length]; omega), decide_eq_false h1]
  obtain ⟨j, rfl⟩ := Int.eq_ofNat_of_zero_le (Int.not_lt.1 h0)
  rw [Int.toNat_natCast, L_length]
  have w4 := w_sum j 4 (by omega)
  rw [show ((4 : Nat) : Int) = 4 from rfl] at w4
  simp only [withyref01_Read.j0]
  rw [if_neg (by simp), w4]
  clear w4
  by_cases h2 : (s.size : Int) - (j : Int) < 4
  · rw [if_pos (by omega), if_pos h2]
  have h4 : j + 4 ≤ s.size := by omega
  rw [if_neg (by omega), if_neg h2]
  have b1 := UInt8.toNat_lt ((L s).getD (j + 1) 0)
  have b2 := UInt8.toNat_lt ((L s).getD (j + 2) 0)
  have b3 := UInt8.toNat_lt ((L s).getD (j + 3) 0)
  have s3 := rread_step s hsz j 3 0 (k + 4) (by omega) (by omega) (by omega)
  have s2 := rread_step s hsz j 2 (0 * 256 + ((L s).getD (j + 3) 0).toNat) (k + 3) (by omega) (by omega) (by omega)
  have s1 := rread_step s hsz j 1 ((0 * 256 + ((L s).getD (j + 3) 0).toNat) * 256 + ((L s).getD (j + 2) 0).toNat) (k + 2) (by omega) (by omega) (by omega)
  have s0 := rread_step s hsz j 0 (((0 * 256 + ((L s).getD (j + 3) 0).toNat) * 256 + ((L s).getD (j + 2) 0).toNat) * 256 + ((L s).getD (j + 1) 0).toNat) (k + 1) (by omega) (by omega) (by omega)
  have e : withyref01_Read.l0 (k + 5) s (j : Int) 0 3 = withyref01_Read.l0 (k + 4 + 1) s (j : Int) ((0 : Nat) : Int) ((3 : Nat) : Int) := rfl
  rw [e, s3]
  rw [show ((3 : Nat) : Int) - 1 = ((2 : Nat) : Int) from rfl, s2]
  rw [show ((2 : Nat) : Int) - 1 = ((1 : Nat) : Int) from rfl, s1]
  rw [show ((1 : Nat) : Int) - 1 = ((0 : Nat) : Int) from rfl, s0]
  simp only [withyref01_Read.l0]
  rw [if_neg (by omega)]
  unfold rd4
  congr 3
  simp only [Nat.add_zero]
  omega

theorem rright_some (o : Bool) (S : ByteArray) (l p : Int) : withyref09_Right.f o S l p = some (right o S l p) := by
  unfold withyref09_Right.f right
  cases o
  · by_cases h1 : l = 0 <;> by_cases h2 : p = 0 <;> by_cases h3 : S.size ≤ 256 <;> simp [h1, h2, h3] <;> omega
  · simp only [toList_nil, if_true]
    by_cases h1 : S.size = 0 <;> by_cases h2 : l ≥ 1 <;> by_cases h3 : l ≤ 4096 <;> by_cases h4 : p ≥ 1 <;> simp [h1, h2, h3, h4] <;> omega

theorem rputValue_some (k : Nat) (hk : 60 < k) (s : ByteArray) (o : Bool) (S : ByteArray) (l p : Int) : withyref09_PutValue.f k s o S l p = some (putV s o S l p) := by
  unfold withyref09_PutValue.f putV
  obtain ⟨j, rfl⟩ : ∃ j, k = j + 1 := ⟨k - 1, by omega⟩
  by_cases hs : s.size ≤ 128
  · rw [if_neg (by omega), rright_some]
    simp only [Option.bind_some]
    unfold withyref09_PutValue.j0
    cases hr : right o S l p with
    | false => simp
    | true =>
      have hB := B_size_le s.size
      have e5 : (⟨#[1]⟩ : ByteArray).size = 1 := rfl
      have e6 : (⟨#[0]⟩ : ByteArray).size = 1 := rfl
      simp only [Bool.not_true, Bool.false_eq_true, if_false, wrap_size s.size (by omega), rput_some j s.size (by omega) (by omega), Option.bind_some]
      rw [if_pos (by omega)]
      cases o with
      | true =>
        obtain ⟨h1, h2, h3, h4, h5⟩ := right_over hr
        have hb := B_size_le l.toNat
        have hf := F_size p.toNat
        have e1 : IntKind.u64.wrap l = ((l.toNat : Nat) : Int) := by rw [u64_wrap (by omega) (by omega)]; omega
        have e2 : p % 4294967296 = ((p.toNat : Nat) : Int) := by omega
        simp only [if_true, e1, e2, rput_some j l.toNat (by omega) (by omega), rfour_some p.toNat, Option.bind_some]
        rw [if_pos (by rw [ByteArray.size_append]; omega), if_pos (by rw [ByteArray.size_append, ByteArray.size_append, e5]; omega), if_pos (by rw [ByteArray.size_append, ByteArray.size_append, ByteArray.size_append, e5]; omega)]
        simp only [hs, true_and, if_true, body, T, ByteArray.append_assoc]
      | false =>
        obtain ⟨h1, h2, h3⟩ := right_here hr
        have hb := B_size_le S.size
        simp only [Bool.false_eq_true, if_false, wrap_size S.size (by omega), rput_some j S.size (by omega) (by omega), Option.bind_some]
        rw [if_pos (by rw [ByteArray.size_append]; omega), if_pos (by rw [ByteArray.size_append, ByteArray.size_append, e6]; omega), if_pos (by rw [ByteArray.size_append, ByteArray.size_append, ByteArray.size_append, e6]; omega)]
        simp only [hs, true_and, if_true, body, T, ByteArray.append_assoc, Bool.false_eq_true, if_false]
  · rw [if_pos (by omega), if_neg (by omega)]
    unfold withyref09_PutValue.j0
    rfl

theorem rputKid_some (k : Nat) (hk : 60 < k) (kid : Int) (s : ByteArray) : withyref09_PutKid.f k kid s = some (putK kid s) := by
  unfold withyref09_PutKid.f putK
  obtain ⟨j, rfl⟩ : ∃ j, k = j + 1 := ⟨k - 1, by omega⟩
  by_cases h1 : kid < 1
  · rw [if_pos h1, if_neg (by omega)]
    unfold withyref09_PutKid.j0
    rfl
  · rw [if_neg h1]
    by_cases h2 : kid > 4095
    · rw [if_pos h2, if_neg (by omega)]
      unfold withyref09_PutKid.j0
      rfl
    · rw [if_neg h2]
      rw [withyref09_PutKid.j0]
      by_cases hs : s.size ≤ 128
      · have hB := B_size_le s.size
        have hf := F_size kid.toNat
        have e2 : kid % 4294967296 = ((kid.toNat : Nat) : Int) := by omega
        rw [if_neg (by simp; omega), e2]
        simp only [rfour_some kid.toNat, wrap_size s.size (by omega), rput_some j s.size (by omega) (by omega), Option.bind_some]
        rw [if_pos (by omega), if_pos (by rw [ByteArray.size_append]; omega), if_pos ⟨by omega, by omega, hs⟩]
        simp only [T, ByteArray.append_assoc]
      · rw [if_pos (by simp; omega), if_neg (by omega)]
end Go.Proofs.Ytmpfnniekemkbaa.Pure
