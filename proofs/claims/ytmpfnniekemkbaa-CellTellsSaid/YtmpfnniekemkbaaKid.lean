/-
  What GetKid comes to; and no cell is the beginning of another.
-/
import Derived.Test.YtmpfnniekemkbaaParse
namespace Go.Proofs.Ytmpfnniekemkbaa.Pure
open Go.RowKit Go.Proofs.Ytmpfnniekemkbaa.Q Go.Proofs.YtmpfnniekemkbaaW.PrintWords Go.Proofs.YtmpfnniekemkbaaW.PrintLast Go.Proofs.YtmpfnniekemkbaaW.PrintMore
open Go.Proofs.Ytmpfnniekemkbaa.Hand (numF valueF getValueF getKidF)

def GotKid (s : ByteArray) (r : Int × ByteArray × Int) : Prop := r = (0, ⟨#[]⟩, 3) ∨ (r.2.2 = 0 ∧ putK r.1 r.2.1 = (s, 0))
theorem getKid_tot (s : ByteArray) (hsz : s.size ≤ 1000) : ∃ r, getKidF 100 s = some r ∧ GotKid s r := by
  unfold Hand.getKidF
  obtain ⟨q, a1, b1, e1, i1, j1⟩ := four_tot 100 (by omega) s hsz 0 (by omega) (by omega) false
  rw [e1]
  simp only [Option.bind_some]
  obtain ⟨n, a2, b2, e2, m2, m2', i2, j2⟩ := num_tot 100 (by omega) s hsz a1 i1 j1 b1
  rw [e2]
  simp only [Option.bind_some]
  obtain ⟨y, a3, b3, e3, i3, j3⟩ := take_tot s hsz a2 i2 j2 b2 n m2 m2'
  rw [e3]
  simp only [Option.bind_some, putKid_some 100 (by omega)]
  by_cases hb : b3 = true
  · rw [if_pos hb]; exact ⟨_, rfl, .inl rfl⟩
  · rw [if_neg hb]
    by_cases he : (putK q y).2 = 0
    · rw [if_pos he]
      by_cases hu : (putK q y).1.toList = s.toList
      · rw [if_pos hu]
        refine ⟨_, rfl, .inr ⟨rfl, ?_⟩⟩
        rw [L_toList, L_toList] at hu
        exact Prod.ext (L_inj hu) he
      · rw [if_neg hu]; exact ⟨_, rfl, .inl rfl⟩
    · rw [if_neg he]; exact ⟨_, rfl, .inl rfl⟩

theorem putK_ok {kid : Int} {t s : ByteArray} (h : putK kid t = (s, 0)) : 1 ≤ kid ∧ kid ≤ 4095 ∧ t.size ≤ 128 ∧ s = F kid.toNat ++ T t := by
  unfold putK at h
  split at h
  · rename_i hc
    injection h with h1 h2
    exact ⟨hc.1, hc.2.1, hc.2.2, h1.symm⟩
  · injection h with h1 h2
    exact absurd h2 (by decide)
theorem kid_size (kid : Int) (t : ByteArray) (ht : t.size ≤ 128) : (F kid.toNat ++ T t).size ≤ 200 := by
  have h1 := T_size t
  have h4 := F_size kid.toNat
  rw [ByteArray.size_append]
  omega
theorem getKid_put {kid : Int} {t s : ByteArray} (h : putK kid t = (s, 0)) : getKidF 100 s = some (kid, t, 0) := by
  obtain ⟨h1, h2, ht, hs⟩ := putK_ok h
  have hsz : s.size ≤ 1000 := by have := kid_size kid t ht; rw [hs]; omega
  have e0 : (⟨#[]⟩ : ByteArray).size = 0 := rfl
  unfold Hand.getKidF
  rw [four_at 100 (by omega) s ⟨#[]⟩ (T t) kid.toNat 0 (by rw [hs]; apply L_inj; simp) hsz (by rw [e0]; rfl) (by omega)]
  simp only [Option.bind_some]
  rw [num_at 100 (by omega) s (F kid.toNat) t t.size _ (by rw [hs]; apply L_inj; simp [T]) hsz (by rw [e0, F_size]) (by omega)]
  simp only [Option.bind_some]
  rw [take_at s (F kid.toNat ++ B t.size) t ⟨#[]⟩ _ _ (by rw [hs]; apply L_inj; simp [T]) hsz (by rw [ByteArray.size_append]) rfl]
  simp only [Option.bind_some, putKid_some 100 (by omega), show ((kid.toNat : Nat) : Int) = kid by omega, h]
  simp

/-! no cell is the beginning of another -/
theorem enc_cancel {n m : Nat} (hn : n < 18446744073709551616) (hm : m < 18446744073709551616) {u v : List UInt8} (h : Wm.enc n ++ u = Wm.enc m ++ v) : n = m ∧ u = v := by
  rcases Nat.lt_trichotomy n m with hl | he | hg
  · exact absurd h ((Wm.enc_part hl hm).behind u v).ne
  · subst he
    exact ⟨rfl, List.append_cancel_left h⟩
  · exact absurd h.symm ((Wm.enc_part hg hn).behind v u).ne
theorem T_list (s : ByteArray) : L (T s) = Wm.enc s.size ++ L s := by unfold T; rw [L_append, L_B]
theorem T_cancel {s t : ByteArray} (hs : s.size ≤ 1000) (ht : t.size ≤ 1000) {u v : List UInt8} (h : L (T s) ++ u = L (T t) ++ v) : s = t ∧ u = v := by
  rw [T_list, T_list, List.append_assoc, List.append_assoc] at h
  obtain ⟨h1, h2⟩ := enc_cancel (by omega) (by omega) h
  obtain ⟨h3, h4⟩ := List.append_inj h2 (by rw [L_length, L_length]; exact h1)
  exact ⟨L_inj h3, h4⟩
theorem F_cancel {n m : Nat} (hn : n < 4294967296) (hm : m < 4294967296) {u v : List UInt8} (h : four4 n ++ u = four4 m ++ v) : n = m ∧ u = v := by
  obtain ⟨h3, h4⟩ := List.append_inj h rfl
  refine ⟨?_, h4⟩
  have e1 := rd4_four [] [] n hn
  have e2 := rd4_four [] [] m hm
  rw [h3] at e1
  exact e1.symm.trans e2

theorem body_prefix {t t' : ByteArray} {o o' : Bool} {S S' : ByteArray} {l l' p p' : Int} {y : List UInt8} (ht : t.size ≤ 128) (hr : right o S l p = true) (ht' : t'.size ≤ 128) (hr' : right o' S' l' p' = true)
    (h : L (body t o S l p) ++ y = L (body t' o' S' l' p')) : y = [] ∧ t = t' ∧ o = o' ∧ S = S' ∧ l = l' ∧ p = p' := by
  have e1 : L (⟨#[1]⟩ : ByteArray) = [1] := rfl
  have e0 : L (⟨#[0]⟩ : ByteArray) = [0] := rfl
  have nil : ∀ S : ByteArray, S.size = 0 → S = ⟨#[]⟩ := fun S hS => by
    apply L_inj
    have : (L S).length = 0 := by rw [L_length]; exact hS
    rw [List.length_eq_zero_iff.mp this]
  cases o with
  | true =>
    obtain ⟨hS, h2, h3, h4, h5⟩ := right_over hr
    cases o' with
    | true =>
      obtain ⟨hS', h2', h3', h4', h5'⟩ := right_over hr'
      simp only [body, if_true, L_append, L_B, L_F, List.append_assoc, e1] at h
      obtain ⟨h6, h7⟩ := T_cancel (by omega) (by omega) h
      obtain ⟨hl, h8⟩ := enc_cancel (n := l.toNat) (m := l'.toNat) (by omega) (by omega) (List.append_cancel_left h7)
      have h' : four4 p.toNat ++ y = four4 p'.toNat ++ [] := by rw [h8, List.append_nil]
      obtain ⟨hp, hy⟩ := F_cancel (by omega) (by omega) h'
      exact ⟨hy, h6, rfl, by rw [nil S hS, nil S' hS'], by omega, by omega⟩
    | false =>
      simp only [body, if_true, Bool.false_eq_true, if_false, L_append, List.append_assoc, e1, e0] at h
      obtain ⟨_, h⟩ := T_cancel (by omega) (by omega) h
      injection h with h _
      exact absurd h (by decide)
  | false =>
    obtain ⟨h2, h3, h4⟩ := right_here hr
    cases o' with
    | true =>
      simp only [body, if_true, Bool.false_eq_true, if_false, L_append, List.append_assoc, e1, e0] at h
      obtain ⟨_, h⟩ := T_cancel (by omega) (by omega) h
      injection h with h _
      exact absurd h (by decide)
    | false =>
      obtain ⟨h2', h3', h4'⟩ := right_here hr'
      simp only [body, Bool.false_eq_true, if_false, L_append, List.append_assoc, e0] at h
      obtain ⟨h6, h7⟩ := T_cancel (by omega) (by omega) h
      have h' : L (T S) ++ y = L (T S') ++ [] := by rw [List.append_cancel_left h7, List.append_nil]
      obtain ⟨h8, hy⟩ := T_cancel (by omega) (by omega) h'
      exact ⟨hy, h6, rfl, h8, by omega, by omega⟩
theorem kid_prefix {kid kid' : Int} {t t' : ByteArray} {y : List UInt8} (h1 : 1 ≤ kid) (h2 : kid ≤ 4095) (ht : t.size ≤ 128) (h1' : 1 ≤ kid') (h2' : kid' ≤ 4095) (ht' : t'.size ≤ 128)
    (h : L (F kid.toNat ++ T t) ++ y = L (F kid'.toNat ++ T t')) : y = [] ∧ kid = kid' ∧ t = t' := by
  rw [L_append, L_append, L_F, L_F, List.append_assoc] at h
  obtain ⟨hk, h⟩ := F_cancel (by omega) (by omega) h
  have h' : L (T t) ++ y = L (T t') ++ [] := by rw [h, List.append_nil]
  obtain ⟨rfl, hy⟩ := T_cancel (by omega) (by omega) h'
  exact ⟨hy, by omega, rfl⟩
end Go.Proofs.Ytmpfnniekemkbaa.Pure
