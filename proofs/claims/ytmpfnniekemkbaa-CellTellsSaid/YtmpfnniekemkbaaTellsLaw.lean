/-
  CellTells: the walk joined with what its calls come to: the program's answers are the document's.
-/
import Derived.Test.YtmpfnniekemkbaaTells
import Derived.Test.YtmpfnniekemkbaaRef
namespace Go.Proofs.Ytmpfnniekemkbaa.Pure
open Go.RowKit Go.Proofs.Ytmpfnniekemkbaa.Q Go.Proofs.YtmpfnniekemkbaaW.PrintWords Go.Proofs.YtmpfnniekemkbaaW.PrintLast Go.Proofs.YtmpfnniekemkbaaW.PrintMore
open Go.Proofs.Ytmpfnniekemkbaa.Hand (getValueF getKidF)
set_option linter.unusedVariables false

theorem rtext_tot (k : Nat) (hk : 60 < k) (s : ByteArray) (hsz : s.size ≤ 1000) (a : Int) (h0 : 0 ≤ a) (h1 : a ≤ 5000) :
    ∃ y i, withyref09_text.f k s a = some (y, i) ∧ (i = -1 ∨ (0 ≤ i ∧ i ≤ s.size)) := by
  unfold withyref09_text.f
  rw [rget_some k s hsz a (wf_small (by omega) (by omega)) hk]
  simp only [Option.bind_some]
  rcases getS_cases (L s) a with ⟨e, he, h⟩ | ⟨j, K, n, ha, hl, hK, hn, h, _⟩
  · rw [h]
    simp only [if_neg he]
    exact ⟨_, _, rfl, .inl rfl⟩
  · rw [h]
    simp only [if_true]
    rw [L_length] at hl
    have e1 : wrap64 ((s.size : Int) - ((j + 1 + K : Nat) : Int)) = ((s.size - (j + 1 + K) : Nat) : Int) := by rw [wrap_small (by omega) (by omega)]; omega
    rw [e1, wrap_size _ (by omega)]
    by_cases h4 : (n : Int) > ((s.size - (j + 1 + K) : Nat) : Int)
    · rw [if_pos h4]
      exact ⟨_, _, rfl, .inl rfl⟩
    · rw [if_neg h4, wrap_small (a := (n : Int)) (by omega) (by omega), wrap_small (a := ((j + 1 + K : Nat) : Int) + n) (by omega) (by omega), if_pos (by omega), if_pos (by omega), if_pos (by omega)]
      exact ⟨_, _, rfl, .inr ⟨by omega, by omega⟩⟩

theorem rtext_at (k : Nat) (hk : 60 < k) (s p t q : ByteArray) (a : Int) (hs : s = p ++ T t ++ q) (hsz : s.size ≤ 1000) (ha : a = (p.size : Int)) :
    withyref09_text.f k s a = some (t, ((p.size + (T t).size : Nat) : Int)) := by
  have hz : s.size = p.size + (T t).size + q.size := by rw [hs, ByteArray.size_append, ByteArray.size_append]
  have hT := T_size t
  have hT2 : (T t).size = (B t.size).size + t.size := by unfold T; rw [ByteArray.size_append]
  unfold withyref09_text.f
  rw [rget_some k s hsz a (wf_small (by omega) (by omega)) hk]
  have e : getS (L s) a = ((t.size : Int), ((p.size + (B t.size).size : Nat) : Int), 0) := by
    have hx : L s = L p ++ Wm.enc t.size ++ (L t ++ L q) := by rw [hs, L_append, L_append, T_list]; simp
    rw [hx, ha, ← L_length p, getS_enc _ _ t.size (by omega), B_size]
  rw [e]
  simp only [Option.bind_some, if_true]
  have e1 : wrap64 ((s.size : Int) - ((p.size + (B t.size).size : Nat) : Int)) = ((s.size - (p.size + (B t.size).size) : Nat) : Int) := by rw [wrap_small (by omega) (by omega)]; omega
  rw [e1, wrap_size _ (by omega), if_neg (by omega), wrap_small (a := (t.size : Int)) (by omega) (by omega), wrap_small (a := ((p.size + (B t.size).size : Nat) : Int) + t.size) (by omega) (by omega), if_pos (by omega), if_pos (by omega), if_pos (by omega)]
  have e2 : s.extract ((p.size + (B t.size).size : Nat) : Int).toNat (((p.size + (B t.size).size : Nat) : Int) + t.size).toNat = t := by
    apply L_inj
    have hx : L s = (L p ++ L (B t.size)) ++ (L t ++ L q) := by rw [hs, L_append, L_append]; unfold T; rw [L_append]; simp
    rw [L_extract, hx, show ((p.size + (B t.size).size : Nat) : Int).toNat = (L p ++ L (B t.size)).length by rw [List.length_append, L_length, L_length]; omega, show (((p.size + (B t.size).size : Nat) : Int) + t.size).toNat - (L p ++ L (B t.size)).length = (L t).length by rw [List.length_append, L_length, L_length, L_length]; omega, List.drop_left, List.take_left]
  rw [e2, show ((p.size + (B t.size).size : Nat) : Int) + t.size = ((p.size + (T t).size : Nat) : Int) by omega]

theorem rput_got (k : Nat) (hk : 60 < k) (s y : ByteArray) (o : Bool) (S : ByteArray) (l p : Int) :
    ∃ r, ((withyref09_PutValue.f k y o S l p).bind fun bt => (if bt.2 = 0 then (if bt.1.toList = s.toList then (some (y, o, S, l, p, (0 : Int))) else (some ((⟨#[]⟩ : ByteArray), false, (⟨#[]⟩ : ByteArray), (0 : Int), (0 : Int), (3 : Int)))) else (some ((⟨#[]⟩ : ByteArray), false, (⟨#[]⟩ : ByteArray), 0, 0, 3)))) = some r ∧ Got s r := by
  rw [rputValue_some k hk]
  simp only [Option.bind_some]
  by_cases he : (putV y o S l p).2 = 0
  · rw [if_pos he]
    by_cases hu : (putV y o S l p).1.toList = s.toList
    · rw [if_pos hu]
      refine ⟨_, rfl, .inr ⟨rfl, ?_⟩⟩
      rw [L_toList, L_toList] at hu
      exact Prod.ext (L_inj hu) he
    · rw [if_neg hu]; exact ⟨_, rfl, .inl rfl⟩
  · rw [if_neg he]; exact ⟨_, rfl, .inl rfl⟩
theorem rj1_tot (k : Nat) (hk : 61 < k) (s y : ByteArray) (n q : Int) (b : Bool) : ∃ r, withyref09_GetValue.j1 k s y n q b = some r ∧ Got s r := by
  obtain ⟨k, rfl⟩ : ∃ j, k = j + 1 := ⟨k - 1, by omega⟩
  rw [withyref09_GetValue.j1]
  by_cases hb : b = true
  · rw [if_pos hb]; exact ⟨_, rfl, .inl rfl⟩
  · rw [if_neg hb]; exact rput_got k (by omega) s y true ⟨#[]⟩ (wrap64 n) (wrap64 q)
theorem getS_pos (s : ByteArray) (hsz : s.size ≤ 1000) (a : Int) : 0 ≤ (getS (L s) a).2.1 ∧ (getS (L s) a).2.1 ≤ 1000 := by
  rcases getS_cases (L s) a with ⟨e, he, h⟩ | ⟨j, K, n, ha, hl, hK, hn, h, _⟩
  · rw [h]; exact ⟨Int.le_refl 0, show (0 : Int) ≤ 1000 by decide⟩
  · rw [h]
    rw [L_length] at hl
    exact ⟨by show (0 : Int) ≤ ((j + 1 + K : Nat) : Int); omega, by show ((j + 1 + K : Nat) : Int) ≤ 1000; omega⟩

theorem rgetValue_tot (s : ByteArray) (hsz : s.size ≤ 1000) : ∃ r, withyref09_GetValue.f 100 s = some r ∧ Got s r := by
  unfold withyref09_GetValue.f
  obtain ⟨y, i, e1, hi⟩ := rtext_tot 100 (by omega) s hsz 0 (by omega) (by omega)
  rw [e1]
  simp only [Option.bind_some]
  rcases hi with rfl | ⟨hi0, hi1⟩
  · rw [if_pos (by decide), withyref09_GetValue.j0, if_pos rfl]
    exact ⟨_, rfl, .inl rfl⟩
  · rw [if_neg (by omega)]
    by_cases hx : i = (s.size : Int)
    · rw [show (i == (s.size : Int)) = true by simp [hx], withyref09_GetValue.j0, if_pos rfl]
      exact ⟨_, rfl, .inl rfl⟩
    · rw [show (i == (s.size : Int)) = false by simp [hx], withyref09_GetValue.j0, if_neg (by decide), if_pos hi0, if_pos (by omega), wrap_small (a := i + 1) (by omega) (by omega)]
      by_cases hb : bt s i = 1
      · have hp := getS_pos s hsz (i + 1)
        rw [if_pos hb, rget_some 99 s hsz _ (wf_small (by omega) (by omega)) (by omega)]
        simp only [Option.bind_some]
        rw [rread_some 99 s hsz _ (wf_small (by omega) (by omega)) (by omega)]
        simp only [Option.bind_some]
        split <;> (try split) <;> (try split) <;> exact rj1_tot 99 (by omega) s _ _ _ _
      · rw [if_neg hb]
        obtain ⟨z, m, e2, hm⟩ := rtext_tot 99 (by omega) s hsz (i + 1) (by omega) (by omega)
        rw [e2]
        simp only [Option.bind_some]
        by_cases hm0 : m < 0
        · rw [if_pos hm0]; exact ⟨_, rfl, .inl rfl⟩
        · rw [if_neg hm0]; exact rput_got 99 (by omega) s y false z 0 0

theorem bt_at (s p q : ByteArray) (c : UInt8) (hs : L s = L p ++ c :: L q) : bt s (p.size : Int) = (c.toNat : Int) := by
  have hz : p.size < s.size := by rw [← L_length s, hs, List.length_append, List.length_cons, L_length]; omega
  rw [bt_getD s p.size hz, hs, ← L_length p, getS_at]

theorem rgetValue_put {t : ByteArray} {o : Bool} {S : ByteArray} {l p : Int} {s : ByteArray} (h : putV t o S l p = (s, 0)) : withyref09_GetValue.f 100 s = some (t, o, S, l, p, 0) := by
  obtain ⟨ht, hr, hs⟩ := putV_ok h
  have hsz : s.size ≤ 1000 := by have := body_size t o S l p ht hr; rw [hs]; omega
  have e5 : (⟨#[1]⟩ : ByteArray).size = 1 := rfl
  have e6 : (⟨#[0]⟩ : ByteArray).size = 1 := rfl
  have e0 : (⟨#[]⟩ : ByteArray).size = 0 := rfl
  have l1 : L (⟨#[1]⟩ : ByteArray) = [1] := rfl
  have l0 : L (⟨#[0]⟩ : ByteArray) = [0] := rfl
  have em : ∀ x : ByteArray, (⟨#[]⟩ : ByteArray) ++ x = x := fun x => by apply L_inj; rw [L_append]; rfl
  have hT := T_size t
  unfold withyref09_GetValue.f
  cases o with
  | true =>
    obtain ⟨hS, h2, h3, h4, h5⟩ := right_over hr
    have hs' : s = T t ++ ⟨#[1]⟩ ++ (B l.toNat ++ F p.toNat) := by rw [hs]; rfl
    have hz : s.size = (T t).size + 1 + ((B l.toNat).size + 4) := by rw [hs']; simp only [ByteArray.size_append, e5, F_size]
    rw [rtext_at 100 (by omega) s ⟨#[]⟩ t (⟨#[1]⟩ ++ (B l.toNat ++ F p.toNat)) 0 (by rw [hs', em]; simp only [ByteArray.append_assoc]) hsz (by rw [e0]; rfl), e0]
    simp only [Option.bind_some, Nat.zero_add]
    have hb := bt_at s (T t) (B l.toNat ++ F p.toNat) 1 (by rw [hs', L_append, L_append, l1]; simp)
    rw [if_neg (by omega), show ((((T t).size : Nat) : Int) == (s.size : Int)) = false by simp; omega, withyref09_GetValue.j0, if_neg (by decide), if_pos (by omega), if_pos (by omega), if_pos (by rw [hb]; rfl), wrap_small (a := (((T t).size : Nat) : Int) + 1) (by omega) (by omega), rget_some 99 s hsz _ (wf_small (by omega) (by omega)) (by omega)]
    have eg : getS (L s) ((((T t).size : Nat) : Int) + 1) = ((l.toNat : Int), (((T t).size + 1 + (B l.toNat).size : Nat) : Int), 0) := by
      have hx : L s = (L (T t) ++ [1]) ++ Wm.enc l.toNat ++ L (F p.toNat) := by rw [hs', L_append, L_append, L_append, l1, L_B]; simp
      have hy : (L (T t) ++ [1]).length = (T t).size + 1 := by rw [List.length_append, L_length]; rfl
      rw [hx, show (((T t).size : Nat) : Int) + 1 = (((L (T t) ++ [1]).length : Nat) : Int) by rw [hy]; rfl, getS_enc _ _ l.toNat (by omega), B_size, hy]
    rw [eg]
    simp only [Option.bind_some]
    have er : readS (L s) (((T t).size + 1 + (B l.toNat).size : Nat) : Int) = ((p.toNat : Int), 0) := by
      have hx : L s = (L (T t) ++ [1] ++ L (B l.toNat)) ++ four4 p.toNat ++ [] := by rw [hs', L_append, L_append, L_append, l1, L_F]; simp
      have hy : (L (T t) ++ [1] ++ L (B l.toNat)).length = (T t).size + 1 + (B l.toNat).size := by rw [List.length_append, List.length_append, L_length, L_length]; rfl
      rw [hx, ← hy, readS_four _ _ p.toNat (by omega)]
    rw [rread_some 99 s hsz _ (wf_small (by omega) (by omega)) (by omega), er]
    simp only [Option.bind_some, if_true]
    rw [if_neg (by omega), decide_eq_false (by omega), withyref09_GetValue.j1, if_neg (by decide), wrap_small (a := (l.toNat : Int)) (by omega) (by omega), wrap_small (a := (p.toNat : Int)) (by omega) (by omega), rputValue_some 98 (by omega)]
    have eS : (⟨#[]⟩ : ByteArray) = S := by apply L_inj; have : (L S).length = 0 := by rw [L_length]; exact hS
                                            rw [List.length_eq_zero_iff.mp this]
    rw [eS, show ((l.toNat : Nat) : Int) = l by omega, show ((p.toNat : Nat) : Int) = p by omega, h]
    simp
  | false =>
    obtain ⟨h2, h3, h4⟩ := right_here hr
    have hs' : s = T t ++ ⟨#[0]⟩ ++ T S := by rw [hs]; rfl
    have hz : s.size = (T t).size + 1 + (T S).size := by rw [hs']; simp only [ByteArray.size_append, e6]
    rw [rtext_at 100 (by omega) s ⟨#[]⟩ t (⟨#[0]⟩ ++ T S) 0 (by rw [hs', em]; simp only [ByteArray.append_assoc]) hsz (by rw [e0]; rfl), e0]
    simp only [Option.bind_some, Nat.zero_add]
    have hb := bt_at s (T t) (T S) 0 (by rw [hs', L_append, L_append, l0]; simp)
    rw [if_neg (by omega), show ((((T t).size : Nat) : Int) == (s.size : Int)) = false by simp; omega, withyref09_GetValue.j0, if_neg (by decide), if_pos (by omega), if_pos (by omega), if_neg (by rw [hb]; decide), wrap_small (a := (((T t).size : Nat) : Int) + 1) (by omega) (by omega),
      rtext_at 99 (by omega) s (T t ++ ⟨#[0]⟩) S ⟨#[]⟩ _ (by rw [hs']; apply L_inj; simp) hsz (by rw [ByteArray.size_append, e6]; rfl)]
    simp only [Option.bind_some]
    rw [if_neg (by omega), rputValue_some 99 (by omega)]
    rw [h2, h3] at h
    rw [h, h2, h3]
    simp

theorem rj0_tot (k : Nat) (hk : 61 < k) (s : ByteArray) (hsz : s.size ≤ 1000) (n : Int) (b : Bool) : ∃ r, withyref09_GetKid.j0 k s n b = some r ∧ GotKid s r := by
  obtain ⟨k, rfl⟩ : ∃ j, k = j + 1 := ⟨k - 1, by omega⟩
  rw [withyref09_GetKid.j0]
  by_cases hb : b = true
  · rw [if_pos hb]; exact ⟨_, rfl, .inl rfl⟩
  · rw [if_neg hb]
    obtain ⟨y, i, e1, hi⟩ := rtext_tot k (by omega) s hsz 4 (by omega) (by omega)
    rw [e1]
    simp only [Option.bind_some, rputKid_some k (by omega)]
    by_cases hm : i < 0
    · rw [if_pos hm]; exact ⟨_, rfl, .inl rfl⟩
    · rw [if_neg hm]
      by_cases he : (putK (wrap64 n) y).2 = 0
      · rw [if_pos he]
        by_cases hu : (putK (wrap64 n) y).1.toList = s.toList
        · rw [if_pos hu]
          refine ⟨_, rfl, .inr ⟨rfl, ?_⟩⟩
          rw [L_toList, L_toList] at hu
          exact Prod.ext (L_inj hu) he
        · rw [if_neg hu]; exact ⟨_, rfl, .inl rfl⟩
      · rw [if_neg he]; exact ⟨_, rfl, .inl rfl⟩
theorem rgetKid_tot (s : ByteArray) (hsz : s.size ≤ 1000) : ∃ r, withyref09_GetKid.f 100 s = some r ∧ GotKid s r := by
  unfold withyref09_GetKid.f
  rw [rread_some 100 s hsz 0 (wf_small (by omega) (by omega)) (by omega)]
  simp only [Option.bind_some]
  split <;> exact rj0_tot 100 (by omega) s hsz _ _
theorem kid_read {kid : Int} {t s : ByteArray} (h1 : 1 ≤ kid) (h2 : kid ≤ 4095) (hs : s = F kid.toNat ++ T t) : readS (L s) 0 = ((kid.toNat : Int), 0) := by
  have hx : L s = [] ++ four4 kid.toNat ++ L (T t) := by rw [hs, L_append, L_F, List.nil_append]
  have hy := readS_four [] (L (T t)) kid.toNat (by omega)
  rw [hx]
  rw [List.length_nil, Int.natCast_zero] at hy
  exact hy
theorem kid_text (k : Nat) (hk : 60 < k) {kid : Int} {t s : ByteArray} (ht : t.size ≤ 128) (hsz : s.size ≤ 1000) (hs : s = F kid.toNat ++ T t) : withyref09_text.f k s 4 = some (t, (((F kid.toNat).size + (T t).size : Nat) : Int)) := by
  rw [rtext_at k hk s (F kid.toNat) t ⟨#[]⟩ 4 (by rw [hs]; apply L_inj; simp) hsz (by rw [F_size]; rfl)]
theorem kid_j0 (k : Nat) (hk : 60 < k) {kid : Int} {t s : ByteArray} (h1 : 1 ≤ kid) (h2 : kid ≤ 4095) (ht : t.size ≤ 128) (h : putK kid t = (s, 0)) (hsz : s.size ≤ 1000) (hs : s = F kid.toNat ++ T t) : withyref09_GetKid.j0 (k + 1) s (kid.toNat : Int) false = some (kid, t, 0) := by
  have e : wrap64 (kid.toNat : Int) = kid := by rw [wrap_small (by omega) (by omega)]; omega
  rw [withyref09_GetKid.j0, if_neg (by decide), kid_text k hk ht hsz hs, Option.bind_some, e, rputKid_some k hk, h, Option.bind_some, if_neg (Int.not_lt.2 (Int.natCast_nonneg _)), if_pos rfl, if_pos rfl]
theorem rgetKid_put (k : Nat) (hk : 61 < k) {kid : Int} {t s : ByteArray} (h : putK kid t = (s, 0)) : withyref09_GetKid.f k s = some (kid, t, 0) := by
  obtain ⟨k, rfl⟩ : ∃ j, k = j + 1 := ⟨k - 1, by omega⟩
  obtain ⟨h1, h2, ht, hs⟩ := putK_ok h
  have hsz : s.size ≤ 1000 := by have := kid_size kid t ht; rw [hs]; omega
  unfold withyref09_GetKid.f
  rw [rread_some (k + 1) s hsz 0 (wf_small (by omega) (by omega)) (by omega), kid_read h1 h2 hs]
  simp only [Option.bind_some, if_true]
  rw [decide_eq_false (by omega)]
  exact kid_j0 k (by omega) h1 h2 ht h hsz hs

/-! the document gets what the program gets -/
theorem same_value (s : ByteArray) (hsz : s.size ≤ 1000) : ∃ r, getValueF 100 s = some r ∧ withyref09_GetValue.f 100 s = some r := by
  obtain ⟨r, e, h⟩ := getValue_tot s hsz
  obtain ⟨q, e', h'⟩ := rgetValue_tot s hsz
  rcases h with rfl | ⟨h0, hp⟩
  · rcases h' with rfl | ⟨h0', hp'⟩
    · exact ⟨_, e, e'⟩
    · rw [getValue_put hp'] at e
      injection e with e
      simp only [Prod.mk.injEq] at e
      exact absurd e.2.2.2.2.2 (by decide)
  · refine ⟨r, e, ?_⟩
    rw [rgetValue_put hp, ← h0]
theorem same_kid (s : ByteArray) (hsz : s.size ≤ 1000) : ∃ r, getKidF 100 s = some r ∧ withyref09_GetKid.f 100 s = some r := by
  obtain ⟨r, e, h⟩ := getKid_tot s hsz
  obtain ⟨q, e', h'⟩ := rgetKid_tot s hsz
  rcases h with rfl | ⟨h0, hp⟩
  · rcases h' with rfl | ⟨h0', hp'⟩
    · exact ⟨_, e, e'⟩
    · rw [getKid_put hp'] at e
      injection e with e
      simp only [Prod.mk.injEq] at e
      exact absurd e.2.2 (by decide)
  · refine ⟨r, e, ?_⟩
    rw [rgetKid_put 100 (by omega) hp, ← h0]
end Go.Proofs.Ytmpfnniekemkbaa.Pure
namespace Go.Proofs.Ytmpfnniekemkbaa.Tells
open Go.RowKit Go.Proofs.Ytmpfnniekemkbaa.Q Go.Proofs.Ytmpfnniekemkbaa.Pure
open Go.Proofs.YtmpfnniekemkbaaW.PrintWords Go.Proofs.YtmpfnniekemkbaaW.PrintMore
set_option linter.unusedVariables false

theorem walk (a0 : ByteArray) (o : Bool) (S : ByteArray) (l p : Int) (X : ByteArray) (kid : Int) (hl : (Lit.int .i64 l).wf = true) (hp : (Lit.int .i64 p).wf = true) (hk : (Lit.int .i64 kid).wf = true) (W : World) :
    Calls Try.prog 3 #[.string a0, .agg #[.bool o, .string S, .int .i64 l, .int .i64 p], .agg #[.string X, .int .i64 kid]] W fun e w' => e = .returned (.bool true) ∧ Below W.heap.size W w' := by
  obtain ⟨S', e2, h4, h5, h6⟩ := cut_tells S 300 (by omega)
  obtain ⟨j, hj, hjs, hj2⟩ : ∃ j : Nat, (if 140 < (a0.size : Int) then 140 else (a0.size : Int)) = (j : Int) ∧ j ≤ a0.size ∧ j ≤ 140 := by
    by_cases h : 140 < (a0.size : Int)
    · exact ⟨140, by rw [if_pos h]; rfl, by omega, by omega⟩
    · exact ⟨a0.size, by rw [if_neg h], by omega, by omega⟩
  obtain ⟨jx, hx, hxs, hx2⟩ : ∃ j : Nat, (if 500 < (X.size : Int) then 500 else (X.size : Int)) = (j : Int) ∧ j ≤ X.size ∧ j ≤ 500 := by
    by_cases h : 500 < (X.size : Int)
    · exact ⟨500, by rw [if_pos h]; rfl, by omega, by omega⟩
    · exact ⟨X.size, by rw [if_neg h], by omega, by omega⟩
  obtain ⟨u, hu⟩ : ∃ u, a0.extract 0 j = u := ⟨_, rfl⟩
  obtain ⟨y, hy⟩ : ∃ y, X.extract 0 jx = y := ⟨_, rfl⟩
  have hu2 : u.size ≤ 140 := by rw [← hu, ByteArray.size_extract]; omega
  have hy2 : y.size ≤ 500 := by rw [← hy, ByteArray.size_extract]; omega
  have c9 := fun W => withylaw09_Cut.calls o S l p o S' l p W (by unfold withylaw09_Cut.f; rw [if_pos h5, if_pos h6, e2])
  have cF := fun W => Hand.withylaw09_fixed.calls true W rfl
  have c10 := fun W => cell_PutValue.calls 100 u o S' l p _ _ W (putValue_some 100 (by omega) u o S' l p)
  have c11 := fun W => withyref09_PutValue.calls 100 u o S' l p _ _ W (rputValue_some 100 (by omega) u o S' l p)
  have c13 := fun W => cell_PutKid.calls 100 kid u _ _ W (putKid_some 100 (by omega) kid u)
  have c14 := fun W => withyref09_PutKid.calls 100 kid u _ _ W (rputKid_some 100 (by omega) kid u)
  have c19 := fun W => cell_Right.calls o S' l p _ W (right_some o S' l p)
  have c20 := fun W => withyref09_Right.calls o S' l p _ W (rright_some o S' l p)
  have c12 := fun W => withylaw09_Ref.calls o S' l p o S' l p W rfl
  obtain ⟨⟨t, o2, S2, l2, p2, h⟩, e15, e16⟩ := same_value y (by omega)
  obtain ⟨⟨n, q, i⟩, e17, e18⟩ := same_kid y (by omega)
  have c15 := fun W => Hand.cell_GetValue.calls y t o2 S2 l2 p2 h W e15
  have c16 := fun W => withyref09_GetValue.calls 100 y t o2 S2 l2 p2 h W e16
  have c17 := fun W => Hand.cell_GetKid.calls y n q i W e17
  have c18 := fun W => withyref09_GetKid.calls 100 y n q i W e18
  have c12b := fun W => withylaw09_Ref.calls o2 S2 l2 p2 o2 S2 l2 p2 W rfl
  exact tells_walk a0 u S S' X y o l p kid j jx (Lib.hid hj) hjs (Lib.hid hu) hu2 (Lib.hid hx) hxs (Lib.hid hy) _ _ t q S2 _ _ h i n l2 p2 o2 _
    (Lib.hid c9) (Lib.hid c10) (Lib.hid c12) (Lib.hid c11) (Lib.hid c13) (Lib.hid c14) (Lib.hid c15) (Lib.hid c16) (Lib.hid c17) (Lib.hid c18) (Lib.hid c19) (Lib.hid c20) (Lib.hid c12b) (Lib.hid cF) W
end Go.Proofs.Ytmpfnniekemkbaa.Tells
