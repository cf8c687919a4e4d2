/-
  What word.Get, word.Read, word.Four, and the document's, come to, in plain words.
-/
import Derived.Test.YtmpfnniekemkbaaPlain
namespace Go.Proofs.Ytmpfnniekemkbaa.Pure
open Go.RowKit Go.Proofs.Ytmpfnniekemkbaa.Q Go.Proofs.YtmpfnniekemkbaaW.PrintWords Go.Proofs.YtmpfnniekemkbaaW.PrintLast Go.Proofs.YtmpfnniekemkbaaW.PrintMore

theorem w_plus (j i : Nat) (h : j + i ≤ 5000) : wrap64 (wrap64 ((j : Int) + 1) + (i : Int)) = ((j + 1 + i : Nat) : Int) := by unfold wrap64; omega
theorem w_one (i : Nat) (h : i ≤ 5000) : wrap64 ((i : Int) + 1) = ((i + 1 : Nat) : Int) := by unfold wrap64; omega
theorem w_left (n j : Nat) (h : j ≤ n) (hn : n ≤ 5000) : wrap64 (wrap64 ((n : Int) - (j : Int)) - 1) = (n : Int) - j - 1 := by unfold wrap64; omega

/-- the number that stands at a place, the place behind it, and what is wrong -/
def getS (l : List UInt8) (at_ : Int) : Int × Int × Int :=
  if at_ < 0 ∨ (l.length : Int) < at_ then (0, 0, 4)
  else if at_.toNat = l.length ∨ l.length < at_.toNat + 1 + Wm.fol (l.getD at_.toNat 0).toNat then (0, 0, 7)
  else if Wm.enc (Wm.dec (l.getD at_.toNat 0).toNat ((l.drop (at_.toNat + 1)).take (Wm.fol (l.getD at_.toNat 0).toNat))) = (l.drop at_.toNat).take (1 + Wm.fol (l.getD at_.toNat 0).toNat) then
    (((Wm.dec (l.getD at_.toNat 0).toNat ((l.drop (at_.toNat + 1)).take (Wm.fol (l.getD at_.toNat 0).toNat)) : Nat) : Int), ((at_.toNat + 1 + Wm.fol (l.getD at_.toNat 0).toNat : Nat) : Int), 0)
  else (0, 0, 3)

theorem more_some (c : Nat) (h : c < 256) : word_more.f c = some ((Wm.fol c : Nat) : Int) := by
  unfold word_more.f Wm.fol
  have hw : wrap64 (wrap64 (c : Int) - 247) = (c : Int) - 247 := by unfold wrap64; omega
  rw [hw]
  by_cases h1 : c > 249
  · rw [if_pos (by omega), if_neg (by omega), if_neg (by omega)]; congr 1; omega
  by_cases h2 : c = 249
  · subst h2; rfl
  by_cases h3 : c ≥ 241
  · rw [if_neg (by omega), if_neg (by omega), if_pos (by omega), if_neg (by omega), if_pos (by omega)]; rfl
  · rw [if_neg (by omega), if_neg (by omega), if_neg (by omega), if_pos (by omega)]; rfl
theorem u64_or (a b : Nat) (hb : b < 256) (h : a * 256 + b < 18446744073709551616) : bits .or .u64 (IntKind.u64.wrap ((a : Int) * 256)) (IntKind.u64.wrap (b : Int)) = ((a * 256 + b : Nat) : Int) := by
  rw [u64_wrap (by omega) (by omega), u64_wrap (by omega) (by omega)]
  rw [bits_join .u64 64 (by decide) (fun n h0 h1 => by rw [u64_wrap h0 (by simpa using h1)]) 8 ((a : Int) * 256) (b : Int) (by omega) (by simp) (by simp; omega) (by omega) (by simp; omega) (by simp; omega)]
  omega

/-- the end: are these just the number's bytes -/
theorem fin_some (r : Option ByteArray) (N : Nat) (s : ByteArray) (j K : Nat) (tp : Int) (hr : r = some (B N)) (ht : tp = ((j + 1 + K : Nat) : Int)) (hs : j + 1 + K ≤ s.size) :
    (r.bind fun t => (if (j : Int) ≤ tp then (if tp ≤ (s.size : Int) then (if t.toList = (s.extract (j : Int).toNat tp.toNat).toList then (some ((N : Int), tp, (0 : Int))) else (some (0, 0, 3))) else (none)) else (none)))
      = some (if Wm.enc N = ((L s).drop j).take (1 + K) then ((N : Int), ((j + 1 + K : Nat) : Int), (0 : Int)) else (0, 0, 3)) := by
  subst hr
  subst ht
  rw [Option.bind_some, if_pos (by omega), if_pos (by omega), L_toList, L_toList, L_B, L_extract, Int.toNat_natCast, Int.toNat_natCast, show j + 1 + K - j = 1 + K by omega]
  split <;> rfl

/-- the bytes behind the first one, one more -/
theorem rest_take (s : ByteArray) (j K i : Nat) (hi : i < K) (hs : j + 1 + K ≤ s.size) :
    Wm.val ((((L s).drop (j + 1)).take K).take (i + 1)) = Wm.val ((((L s).drop (j + 1)).take K).take i) * 256 + ((L s).getD (j + 1 + i) 0).toNat := by
  have hl : (((L s).drop (j + 1)).take K).length = K := by rw [List.length_take, List.length_drop, L_length]; omega
  rw [List.take_add_one, List.getElem?_take_of_lt hi, List.getElem?_drop, List.getElem?_eq_getElem (by rw [L_length]; omega)]
  simp only [Option.toList]
  rw [Wm.val_snoc, List.getD_eq_getElem?_getD, List.getElem?_eq_getElem (by rw [L_length]; omega)]
  rfl
theorem rest_lt (s : ByteArray) (j K i : Nat) (hi : i < K) (hK : K ≤ 8) (b : Nat) (hb : b < 256) :
    Wm.val ((((L s).drop (j + 1)).take K).take i) * 256 + b < 18446744073709551616 := by
  have h := Wm.val_lt ((((L s).drop (j + 1)).take K).take i)
  have h1 : 256 ^ ((((L s).drop (j + 1)).take K).take i).length ≤ 256 ^ 7 := Nat.pow_le_pow_right (by decide) (by rw [List.length_take]; omega)
  have h2 : (256 : Nat) ^ 7 = 72057594037927936 := by decide
  omega

theorem get_l0 (s : ByteArray) (hsz : s.size ≤ 1000) (j c : Nat) (hc : c = ((L s).getD j 0).toNat) (hs : j + 1 + Wm.fol c ≤ s.size) (d : Nat) : ∀ (k i : Nat), i + d = Wm.fol c → d + 40 < k →
    word_Get.l0 k s j (Wm.fol c : Nat) (Wm.val ((((L s).drop (j + 1)).take (Wm.fol c)).take i) : Nat) (Wm.fol c : Nat) (i : Int)
      = some (if Wm.enc (Wm.dec c (((L s).drop (j + 1)).take (Wm.fol c))) = ((L s).drop j).take (1 + Wm.fol c) then (((Wm.dec c (((L s).drop (j + 1)).take (Wm.fol c)) : Nat) : Int), ((j + 1 + Wm.fol c : Nat) : Int), (0 : Int)) else (0, 0, 3)) := by
  have hc256 : c < 256 := by rw [hc]; exact UInt8.toNat_lt _
  have hK8 := Wm.fol_le c hc256
  have hlen : (((L s).drop (j + 1)).take (Wm.fol c)).length = Wm.fol c := by rw [List.length_take, List.length_drop, L_length]; omega
  have HDL := Lib.hid (Wm.dec_lt hc256 hlen)
  induction d with
  | zero =>
    intro k i hi hk
    obtain ⟨k, rfl⟩ : ∃ q, k = q + 1 := ⟨k - 1, by omega⟩
    obtain rfl : i = Wm.fol c := by omega
    have hto := w_plus j (Wm.fol c) (by omega)
    have hb : bt s (j : Int) = (c : Int) := by rw [bt_getD s j (by omega), hc]
    have ht : (((L s).drop (j + 1)).take (Wm.fol c)).take (Wm.fol c) = ((L s).drop (j + 1)).take (Wm.fol c) := List.take_of_length_le (by omega)
    simp only [word_Get.l0]
    rw [if_neg (by omega), if_pos (by omega), if_pos (by omega), ht, hto, hb]
    generalize hV : ((L s).drop (j + 1)).take (Wm.fol c) = t at *
    have hv := Wm.val_lt t
    have hdl := HDL.out
    by_cases h1 : c ≤ 240
    · have hf : Wm.fol c = 0 := by unfold Wm.fol; rw [if_pos h1]
      have hd : Wm.dec c t = c := by unfold Wm.dec; rw [if_pos h1]
      have hw : IntKind.u64.wrap (c : Int) = (c : Int) := u64_wrap (by omega) (by omega)
      rw [if_pos (by omega), hw, hd]
      exact fin_some _ c s j (Wm.fol c) _ (put_some k c (by omega) (by omega)) rfl hs
    by_cases h2 : c ≤ 248
    · have hf : Wm.fol c = 1 := by unfold Wm.fol; rw [if_neg h1, if_pos h2]
      have hd : Wm.dec c t = 240 + 256 * (c - 241) + Wm.val t := by unfold Wm.dec; rw [if_neg h1, if_pos h2]
      rw [hlen, hf] at hv
      have hw : IntKind.u64.wrap ((Wm.val t : Int) + (240 + (((c : Int) - 241) % 256) * 256)) = ((Wm.dec c t : Nat) : Int) := by rw [u64_wrap (by omega) (by omega), hd]; omega
      rw [if_neg (by omega), if_pos (by omega), hw]
      exact fin_some _ _ s j (Wm.fol c) _ (put_some k _ hdl (by omega)) rfl hs
    by_cases h3 : c = 249
    · have hf : Wm.fol c = 2 := by subst h3; rfl
      have hd : Wm.dec c t = 2288 + Wm.val t := by unfold Wm.dec; rw [if_neg h1, if_neg h2, if_pos h3]
      rw [hlen, hf] at hv
      have hw : IntKind.u64.wrap ((Wm.val t : Int) + 2288) = ((Wm.dec c t : Nat) : Int) := by rw [u64_wrap (by omega) (by omega), hd]; omega
      rw [if_neg (by omega), if_neg (by omega), if_pos (by omega), hw]
      exact fin_some _ _ s j (Wm.fol c) _ (put_some k _ hdl (by omega)) rfl hs
    · have hf : Wm.fol c = c - 247 := by unfold Wm.fol; rw [if_neg h1, if_neg h2]
      have hd : Wm.dec c t = Wm.val t := by unfold Wm.dec; rw [if_neg h1, if_neg h2, if_neg h3]
      rw [if_neg (by omega), if_neg (by omega), if_neg (by omega), ← hd]
      exact fin_some _ _ s j (Wm.fol c) _ (put_some k _ hdl (by omega)) rfl hs
  | succ d ih =>
    intro k i hi hk
    obtain ⟨k, rfl⟩ : ∃ q, k = q + 1 := ⟨k - 1, by omega⟩
    have q1 : (i : Int) < (Wm.fol c : Int) := by omega
    have q2 : 0 ≤ ((j + 1 + i : Nat) : Int) := Int.natCast_nonneg _
    have q3 : ((j + 1 + i : Nat) : Int) < (s.size : Int) := by omega
    have hj : j + i ≤ 5000 := by omega
    have hrec := ih k (i + 1) (by omega) (by omega)
    have hi1 : i < Wm.fol c := by omega
    have hi2 : j + 1 + i < s.size := by omega
    have hi3 : i ≤ 5000 := by omega
    have hp := w_plus j i hj
    have hw := w_one i hi3
    have hb := bt_getD s (j + 1 + i) hi2
    have hrt := rest_take s j (Wm.fol c) i hi1 hs
    have hlt := rest_lt s j (Wm.fol c) i hi1 hK8 ((L s).getD (j + 1 + i) 0).toNat (UInt8.toNat_lt _)
    have hor := u64_or _ _ (UInt8.toNat_lt _) hlt
    rw [← hrt] at hor
    simp only [word_Get.l0]
    rw [if_pos q1, hp, if_pos q2, if_pos q3, hb, hor, hw]
    exact hrec

theorem get_some (k : Nat) (s : ByteArray) (hsz : s.size ≤ 1000) (a : Int) (ha : (Lit.int .i64 a).wf = true) (hk : 60 < k) : word_Get.f k s a = some (getS (L s) a) := by
  have hw : -9223372036854775808 ≤ a ∧ a ≤ 9223372036854775807 := by simpa [Lit.wf, IntKind.min, IntKind.max, IntKind.signed, IntKind.bits] using ha
  obtain ⟨k, rfl⟩ : ∃ q, k = q + 2 := ⟨k - 2, by omega⟩
  unfold word_Get.f getS
  by_cases h0 : a < 0
  · rw [if_pos h0, if_pos (.inl h0)]
    simp [word_Get.j0]
  by_cases h1 : a > (s.size : Int)
  · rw [if_neg h0, if_pos (.inr (by rw [L_length]; omega)), decide_eq_true h1]
    simp [word_Get.j0]
  rw [if_neg h0, if_neg (by rw [L_length]; omega), decide_eq_false h1]
  obtain ⟨j, rfl⟩ := Int.eq_ofNat_of_zero_le (Int.not_lt.1 h0)
  rw [Int.toNat_natCast]
  simp only [word_Get.j0]
  rw [if_neg (by simp)]
  by_cases h2 : j = s.size
  · rw [if_pos (by omega), if_pos (.inl (by rw [L_length]; exact h2))]
    simp [word_Get.j1]
  have hlt : j < s.size := by omega
  rw [if_neg (by omega), if_pos (by omega), if_pos (by omega), bt_getD s j hlt, more_some _ (UInt8.toNat_lt _), Option.bind_some]
  have hf8 := Wm.fol_le ((L s).getD j 0).toNat (UInt8.toNat_lt _)
  have e1 := w_left s.size j (by omega) (by omega)
  rw [e1]
  simp only [word_Get.j1]
  by_cases h3 : s.size < j + 1 + Wm.fol ((L s).getD j 0).toNat
  · rw [if_pos (decide_eq_true (by omega)), if_pos (.inr (by rw [L_length]; exact h3))]
  · rw [if_neg (fun h => by have := of_decide_eq_true h; omega), if_pos (by omega), if_pos (by omega), bt_getD s j hlt, more_some _ (UInt8.toNat_lt _), Option.bind_some, if_neg (by rw [L_length]; omega)]
    exact get_l0 s hsz j _ rfl (by omega) (Wm.fol ((L s).getD j 0).toNat) k 0 (by omega) (by omega)

end Go.Proofs.Ytmpfnniekemkbaa.Pure
