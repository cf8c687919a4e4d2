/-
  What stands where a number was put: it is got; its bytes without the last one end too early; four bytes are read as they were put.
-/
import Derived.Test.YtmpfnniekemkbaaRead
namespace Go.Proofs.Ytmpfnniekemkbaa.Pure
open Go.RowKit Go.Proofs.Ytmpfnniekemkbaa.Q Go.Proofs.YtmpfnniekemkbaaW.PrintWords Go.Proofs.YtmpfnniekemkbaaW.PrintLast Go.Proofs.YtmpfnniekemkbaaW.PrintMore

theorem getS_at (p t : List UInt8) (c : UInt8) : (p ++ c :: t).getD p.length 0 = c := by
  rw [List.getD_eq_getElem?_getD, List.getElem?_append_right (Nat.le_refl _)]; simp
theorem getS_enc (p q : List UInt8) (n : Nat) (hn : n < 18446744073709551616) : getS (p ++ Wm.enc n ++ q) (p.length : Nat) = ((n : Int), ((p.length + (Wm.enc n).length : Nat) : Int), 0) := by
  have he := Wm.enc_eq n
  have hh := Wm.hd_lt n
  have hlen := Wm.enc_length n
  have htl := Wm.tl_length n
  have e1 : p ++ Wm.enc n ++ q = p ++ UInt8.ofNat (Wm.hd n) :: (Wm.tl n ++ q) := by rw [he]; simp
  have hg : ((p ++ Wm.enc n ++ q).getD p.length 0).toNat = Wm.hd n := by rw [e1, getS_at, Wm.toNat_ofNat hh]
  have hd1 : ((p ++ Wm.enc n ++ q).drop (p.length + 1)).take (Wm.fol (Wm.hd n)) = Wm.tl n := by
    rw [e1, ← List.drop_drop, List.drop_left, List.drop_one, List.tail_cons, ← htl, List.take_left]
  have hd0 : ((p ++ Wm.enc n ++ q).drop p.length).take (1 + Wm.fol (Wm.hd n)) = Wm.enc n := by
    rw [List.append_assoc, List.drop_left, ← hlen, List.take_left]
  have hl : (p ++ Wm.enc n ++ q).length = p.length + (1 + Wm.fol (Wm.hd n)) + q.length := by rw [List.length_append, List.length_append, hlen]
  unfold getS
  rw [if_neg (by rw [hl]; omega), Int.toNat_natCast, hg, if_neg (by rw [hl]; omega), hd1, hd0, Wm.dec_enc hn, if_pos rfl, hlen]
  rw [show p.length + 1 + Wm.fol (Wm.hd n) = p.length + (1 + Wm.fol (Wm.hd n)) by omega]
theorem getS_short (p : List UInt8) (n : Nat) : getS (p ++ (Wm.enc n).take ((Wm.enc n).length - 1)) (p.length : Nat) = (0, 0, 7) := by
  have he := Wm.enc_eq n
  have hh := Wm.hd_lt n
  have hlen := Wm.enc_length n
  have hl : (p ++ (Wm.enc n).take ((Wm.enc n).length - 1)).length = p.length + Wm.fol (Wm.hd n) := by rw [List.length_append, List.length_take, hlen]; omega
  unfold getS
  rw [if_neg (by rw [hl]; omega), Int.toNat_natCast]
  rw [if_pos]
  by_cases h0 : Wm.fol (Wm.hd n) = 0
  · left; rw [hl, h0]; rfl
  · right
    have e1 : p ++ (Wm.enc n).take ((Wm.enc n).length - 1) = p ++ UInt8.ofNat (Wm.hd n) :: (Wm.tl n).take (Wm.fol (Wm.hd n) - 1) := by
      rw [hlen, he, show 1 + Wm.fol (Wm.hd n) - 1 = (Wm.fol (Wm.hd n) - 1) + 1 by omega, List.take_succ_cons]
    rw [hl, e1, getS_at, Wm.toNat_ofNat hh]
    omega

/-- what getS tells: nothing, or a number that stands there -/
theorem getS_cases (l : List UInt8) (a : Int) : (∃ e : Int, e ≠ 0 ∧ getS l a = (0, 0, e)) ∨
    ∃ (j K n : Nat), a = (j : Int) ∧ j + 1 + K ≤ l.length ∧ K ≤ 8 ∧ n < 18446744073709551616 ∧ getS l a = ((n : Int), ((j + 1 + K : Nat) : Int), 0) ∧ Wm.enc n = (l.drop j).take (1 + K) := by
  unfold getS
  by_cases h0 : a < 0 ∨ (l.length : Int) < a
  · rw [if_pos h0]; exact .inl ⟨4, by decide, rfl⟩
  rw [if_neg h0]
  by_cases h1 : a.toNat = l.length ∨ l.length < a.toNat + 1 + Wm.fol (l.getD a.toNat 0).toNat
  · rw [if_pos h1]; exact .inl ⟨7, by decide, rfl⟩
  rw [if_neg h1]
  have hc := UInt8.toNat_lt (l.getD a.toNat 0)
  have h8 := Wm.fol_le _ hc
  have hlt := Wm.dec_lt hc (l := (l.drop (a.toNat + 1)).take (Wm.fol (l.getD a.toNat 0).toNat)) (by rw [List.length_take, List.length_drop]; omega)
  generalize hK : Wm.fol (l.getD a.toNat 0).toNat = K at *
  generalize hD : Wm.dec (l.getD a.toNat 0).toNat ((l.drop (a.toNat + 1)).take K) = n at *
  by_cases h2 : Wm.enc n = (l.drop a.toNat).take (1 + K)
  · rw [if_pos h2]; exact .inr ⟨a.toNat, K, n, by omega, by omega, h8, hlt, rfl, h2⟩
  · rw [if_neg h2]; exact .inl ⟨3, by decide, rfl⟩

/-! four bytes -/
theorem rd4_four (p q : List UInt8) (n : Nat) (hn : n < 4294967296) : rd4 (p ++ four4 n ++ q) p.length = n := by
  have e : ∀ j, (p ++ four4 n ++ q).getD (p.length + j) 0 = (four4 n ++ q).getD j 0 := by
    intro j
    rw [List.append_assoc, List.getD_eq_getElem?_getD, List.getElem?_append_right (by omega), List.getD_eq_getElem?_getD]
    congr 2
    omega
  have e0 := e 0
  rw [Nat.add_zero] at e0
  unfold rd4
  rw [e0, e 1, e 2, e 3]
  have g0 : (four4 n ++ q).getD 0 0 = UInt8.ofNat (n % 256) := rfl
  have g1 : (four4 n ++ q).getD 1 0 = UInt8.ofNat (n / 256 % 256) := rfl
  have g2 : (four4 n ++ q).getD 2 0 = UInt8.ofNat (n / 65536 % 256) := rfl
  have g3 : (four4 n ++ q).getD 3 0 = UInt8.ofNat (n / 16777216 % 256) := rfl
  rw [g0, g1, g2, g3, Wm.toNat_ofNat (Nat.mod_lt _ (by decide)), Wm.toNat_ofNat (Nat.mod_lt _ (by decide)), Wm.toNat_ofNat (Nat.mod_lt _ (by decide)), Wm.toNat_ofNat (Nat.mod_lt _ (by decide))]
  omega
theorem readS_four (p q : List UInt8) (n : Nat) (hn : n < 4294967296) : readS (p ++ four4 n ++ q) (p.length : Nat) = ((n : Int), 0) := by
  have hl : (p ++ four4 n ++ q).length = p.length + 4 + q.length := by simp [four4]; omega
  unfold readS
  rw [if_neg (by rw [hl]; omega), if_neg (by rw [hl]; omega), Int.toNat_natCast, rd4_four p q n hn]
theorem four_rd4 (l : List UInt8) (j : Nat) (h : j + 4 ≤ l.length) : four4 (rd4 l j) = (l.drop j).take 4 := by
  have h0 := UInt8.toNat_lt (l.getD j 0)
  have h1 := UInt8.toNat_lt (l.getD (j + 1) 0)
  have h2 := UInt8.toNat_lt (l.getD (j + 2) 0)
  have h3 := UInt8.toNat_lt (l.getD (j + 3) 0)
  have e0 : rd4 l j % 256 = (l.getD j 0).toNat := by unfold rd4; omega
  have e1 : rd4 l j / 256 % 256 = (l.getD (j + 1) 0).toNat := by unfold rd4; omega
  have e2 : rd4 l j / 65536 % 256 = (l.getD (j + 2) 0).toNat := by unfold rd4; omega
  have e3 : rd4 l j / 16777216 % 256 = (l.getD (j + 3) 0).toNat := by unfold rd4; omega
  unfold four4
  rw [e0, e1, e2, e3, UInt8.ofNat_toNat, UInt8.ofNat_toNat, UInt8.ofNat_toNat, UInt8.ofNat_toNat]
  have g : ∀ i, i < 4 → l.getD (j + i) 0 = l[j + i]?.getD 0 := fun i _ => by rw [List.getD_eq_getElem?_getD]
  rw [List.drop_eq_getElem_cons (by omega), List.take_succ_cons, List.drop_eq_getElem_cons (by omega), List.take_succ_cons, List.drop_eq_getElem_cons (by omega), List.take_succ_cons, List.drop_eq_getElem_cons (by omega), List.take_succ_cons, List.take_zero]
  simp only [List.getD_eq_getElem?_getD]
  rw [List.getElem?_eq_getElem (by omega), List.getElem?_eq_getElem (by omega), List.getElem?_eq_getElem (by omega), List.getElem?_eq_getElem (by omega)]
  rfl
end Go.Proofs.Ytmpfnniekemkbaa.Pure
