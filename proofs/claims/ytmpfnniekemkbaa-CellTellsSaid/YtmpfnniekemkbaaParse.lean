/-
  What GetValue and GetKid come to: what is got is what is put.
-/
import Derived.Test.YtmpfnniekemkbaaPut
import Derived.Test.YtmpfnniekemkbaaReader
namespace Go.Proofs.Ytmpfnniekemkbaa.Pure
open Go.RowKit Go.Proofs.Ytmpfnniekemkbaa.Q Go.Proofs.YtmpfnniekemkbaaW.PrintWords Go.Proofs.YtmpfnniekemkbaaW.PrintLast Go.Proofs.YtmpfnniekemkbaaW.PrintMore
open Go.Proofs.Ytmpfnniekemkbaa.Hand (numF valueF getValueF getKidF)

theorem wf_small {a : Int} (h0 : -10000 ≤ a) (h1 : a ≤ 10000) : (Lit.int .i64 a).wf = true := by
  simp [Lit.wf, IntKind.min, IntKind.max, IntKind.signed, IntKind.bits]
  omega
theorem wrap_small {a : Int} (h0 : -10000 ≤ a) (h1 : a ≤ 10000) : wrap64 a = a := by unfold wrap64; omega

theorem num_eq (k : Nat) (hk : 60 < k) (s : ByteArray) (hsz : s.size ≤ 1000) (a : Int) (h0 : -10000 ≤ a) (h1 : a ≤ 10000) (b : Bool) :
    numF k s a b = some (if (getS (L s) a).2.2 = 0 then (if 4096 < (getS (L s) a).1 then (0, a, true) else (wrap64 (getS (L s) a).1, (getS (L s) a).2.1, b)) else (0, a, true)) := by
  unfold Hand.numF
  rw [get_some k s hsz a (wf_small h0 h1) hk]
  simp only [Option.bind_some]
  split <;> (try split) <;> rfl

theorem num_tot (k : Nat) (hk : 60 < k) (s : ByteArray) (hsz : s.size ≤ 1000) (a : Int) (h0 : 0 ≤ a) (h1 : a ≤ s.size) (b : Bool) :
    ∃ n a' b', numF k s a b = some (n, a', b') ∧ 0 ≤ n ∧ n ≤ 4096 ∧ 0 ≤ a' ∧ a' ≤ s.size := by
  rw [num_eq k hk s hsz a (by omega) (by omega) b]
  rcases getS_cases (L s) a with ⟨e, he, h⟩ | ⟨j, K, n, ha, hl, hK, hn, h, _⟩
  · rw [h]
    simp only [if_neg he]
    exact ⟨0, a, true, rfl, by omega, by omega, h0, h1⟩
  · rw [h]
    simp only [if_true]
    rw [L_length] at hl
    by_cases h4 : 4096 < (n : Int)
    · rw [if_pos h4]
      exact ⟨0, a, true, rfl, by omega, by omega, h0, h1⟩
    · rw [if_neg h4]
      exact ⟨_, _, _, rfl, by rw [wrap_small (by omega) (by omega)]; omega, by rw [wrap_small (by omega) (by omega)]; omega, by omega, by omega⟩

theorem take_tot (s : ByteArray) (hsz : s.size ≤ 1000) (a : Int) (h0 : 0 ≤ a) (h1 : a ≤ s.size) (b : Bool) (n : Int) (h2 : 0 ≤ n) (h3 : n ≤ 4096) :
    ∃ y a' b', cell_reader_take.f s a b n = some (y, s, a', b') ∧ 0 ≤ a' ∧ a' ≤ s.size := by
  unfold cell_reader_take.f
  by_cases hb : b = true
  · rw [if_pos hb]
    exact ⟨_, _, _, rfl, h0, h1⟩
  · rw [if_neg hb, wrap_small (a := (s.size : Int) - a) (by omega) (by omega)]
    by_cases hn : n > (s.size : Int) - a
    · rw [if_pos hn]
      exact ⟨_, _, _, rfl, h0, h1⟩
    · rw [if_neg hn, wrap_small (a := a + n) (by omega) (by omega), wrap_small (a := a + n - n) (by omega) (by omega), if_pos (by omega), if_pos (by omega), if_pos (by omega)]
      exact ⟨_, _, _, rfl, by omega, by omega⟩

theorem readS_cases (l : List UInt8) (a : Int) : (∃ e : Int, e ≠ 0 ∧ readS l a = (0, e)) ∨ ∃ j : Nat, a = j ∧ j + 4 ≤ l.length ∧ readS l a = (((rd4 l j : Nat) : Int), (0 : Int)) := by
  unfold readS
  by_cases h1 : a < 0 ∨ (l.length : Int) < a
  · rw [if_pos h1]; exact .inl ⟨4, by decide, rfl⟩
  · rw [if_neg h1]
    by_cases h2 : (l.length : Int) - a < 4
    · rw [if_pos h2]; exact .inl ⟨7, by decide, rfl⟩
    · rw [if_neg h2]; exact .inr ⟨a.toNat, by omega, by omega, rfl⟩

theorem four_tot (k : Nat) (hk : 60 < k) (s : ByteArray) (hsz : s.size ≤ 1000) (a : Int) (h0 : 0 ≤ a) (h1 : a ≤ s.size) (b : Bool) :
    ∃ n a' b', cell_reader_four.f k s a b = some (n, s, a', b') ∧ 0 ≤ a' ∧ a' ≤ s.size := by
  unfold cell_reader_four.f
  rw [read_some k s hsz a (wf_small (by omega) (by omega)) hk]
  simp only [Option.bind_some]
  rcases readS_cases (L s) a with ⟨e, he, h⟩ | ⟨j, ha, hl, h⟩
  · rw [h]
    simp only [if_neg he]
    exact ⟨_, _, _, rfl, h0, h1⟩
  · rw [h]
    simp only [if_true]
    rw [L_length] at hl
    split
    · exact ⟨_, _, _, rfl, h0, h1⟩
    · exact ⟨_, _, _, rfl, by rw [wrap_small (by omega) (by omega)]; omega, by rw [wrap_small (by omega) (by omega)]; omega⟩

theorem value_tot (k : Nat) (hk : 60 < k) (s : ByteArray) (hsz : s.size ≤ 1000) (a : Int) (h0 : 0 ≤ a) (h1 : a ≤ s.size) (b o : Bool) (S : ByteArray) (l p : Int) :
    ∃ a' b' o' S' l' p', valueF k s a b o S l p = some (s, a', b', o', S', l', p') := by
  unfold Hand.valueF
  obtain ⟨x, a1, b1, e1, i1, j1⟩ := take_tot s hsz a h0 h1 b 1 (by omega) (by omega)
  rw [e1]
  simp only [Option.bind_some]
  obtain ⟨n, a2, b2, e2, m2, m2', i2, j2⟩ := num_tot k hk s hsz a1 i1 j1 b1
  by_cases hx : x.toList = [1]
  · rw [if_pos hx, e2]
    simp only [Option.bind_some]
    obtain ⟨q, a3, b3, e3, i3, j3⟩ := four_tot k hk s hsz a2 i2 j2 b2
    rw [e3]
    exact ⟨_, _, _, _, _, _, rfl⟩
  · rw [if_neg hx]
    by_cases hy : x.toList = [0]
    · rw [if_pos hy, e2]
      simp only [Option.bind_some]
      obtain ⟨y, a3, b3, e3, i3, j3⟩ := take_tot s hsz a2 i2 j2 b2 n m2 m2'
      rw [e3]
      exact ⟨_, _, _, _, _, _, rfl⟩
    · rw [if_neg hy]
      exact ⟨_, _, _, _, _, _, rfl⟩

/-- what GetValue answers of bytes: a value whose cell they are, or none -/
def Got (s : ByteArray) (r : ByteArray × Bool × ByteArray × Int × Int × Int) : Prop :=
  r = (⟨#[]⟩, false, ⟨#[]⟩, 0, 0, 3) ∨ (r.2.2.2.2.2 = 0 ∧ putV r.1 r.2.1 r.2.2.1 r.2.2.2.1 r.2.2.2.2.1 = (s, 0))
theorem getValue_tot (s : ByteArray) (hsz : s.size ≤ 1000) : ∃ r, getValueF 100 s = some r ∧ Got s r := by
  unfold Hand.getValueF
  obtain ⟨n, a1, b1, e1, m1, m1', i1, j1⟩ := num_tot 100 (by omega) s hsz 0 (by omega) (by omega) false
  rw [e1]
  simp only [Option.bind_some]
  obtain ⟨y, a2, b2, e2, i2, j2⟩ := take_tot s hsz a1 i1 j1 b1 n m1 m1'
  rw [e2]
  simp only [Option.bind_some]
  obtain ⟨a3, b3, o, S, l, p, e3⟩ := value_tot 100 (by omega) s hsz a2 i2 j2 b2 false ⟨#[]⟩ 0 0
  rw [e3]
  simp only [Option.bind_some, putValue_some 100 (by omega)]
  by_cases hb : b3 = true
  · rw [if_pos hb]; exact ⟨_, rfl, .inl rfl⟩
  · rw [if_neg hb]
    by_cases he : (putV y o S l p).2 = 0
    · rw [if_pos he]
      by_cases hu : (putV y o S l p).1.toList = s.toList
      · rw [if_pos hu]
        refine ⟨_, rfl, .inr ⟨rfl, ?_⟩⟩
        rw [L_toList, L_toList] at hu
        exact Prod.ext (L_inj hu) he
      · rw [if_neg hu]; exact ⟨_, rfl, .inl rfl⟩
    · rw [if_neg he]; exact ⟨_, rfl, .inl rfl⟩

/-! what is put is got -/
theorem num_at (k : Nat) (hk : 60 < k) (s p q : ByteArray) (n : Nat) (a : Int) (hs : s = p ++ B n ++ q) (hsz : s.size ≤ 1000) (ha : a = (p.size : Int)) (hn : n ≤ 4096) :
    numF k s a false = some ((n : Int), ((p.size + (B n).size : Nat) : Int), false) := by
  have hp : p.size ≤ 1000 := by rw [hs, ByteArray.size_append, ByteArray.size_append] at hsz; omega
  rw [num_eq k hk s hsz a (by omega) (by omega) false]
  have e : getS (L s) a = ((n : Int), ((p.size + (B n).size : Nat) : Int), 0) := by
    rw [hs, L_append, L_append, L_B, ha, ← L_length p, getS_enc _ _ n (by omega), B_size]
  rw [e]
  simp only [if_true]
  rw [if_neg (by omega), wrap_small (by omega) (by omega)]
theorem take_at (s p t q : ByteArray) (a n : Int) (hs : s = p ++ t ++ q) (hsz : s.size ≤ 1000) (ha : a = (p.size : Int)) (hn : n = (t.size : Int)) :
    cell_reader_take.f s a false n = some (t, s, ((p.size + t.size : Nat) : Int), false) := by
  have hz : s.size = p.size + t.size + q.size := by rw [hs, ByteArray.size_append, ByteArray.size_append]
  unfold cell_reader_take.f
  rw [if_neg (by decide), wrap_small (a := (s.size : Int) - a) (by omega) (by omega), if_neg (by omega), wrap_small (a := a + n) (by omega) (by omega), wrap_small (a := a + n - n) (by omega) (by omega), if_pos (by omega), if_pos (by omega), if_pos (by omega)]
  have e : s.extract (a + n - n).toNat (a + n).toNat = t := by
    apply L_inj
    rw [L_extract, hs, L_append, L_append, show (a + n - n).toNat = (L p).length by rw [L_length]; omega, show (a + n).toNat - (L p).length = (L t).length by rw [L_length, L_length]; omega, List.append_assoc, List.drop_left, List.take_left]
  rw [e, show a + n = ((p.size + t.size : Nat) : Int) by omega]
theorem four_at (k : Nat) (hk : 60 < k) (s p q : ByteArray) (n : Nat) (a : Int) (hs : s = p ++ F n ++ q) (hsz : s.size ≤ 1000) (ha : a = (p.size : Int)) (hn : n < 4096) :
    cell_reader_four.f k s a false = some ((n : Int), s, ((p.size + 4 : Nat) : Int), false) := by
  have hp : p.size ≤ 1000 := by rw [hs, ByteArray.size_append, ByteArray.size_append] at hsz; omega
  unfold cell_reader_four.f
  rw [read_some k s hsz a (wf_small (by omega) (by omega)) hk]
  have e : readS (L s) a = ((n : Int), 0) := by
    rw [hs, L_append, L_append, L_F, ha, ← L_length p, readS_four _ _ n (by omega)]
  rw [e]
  simp only [Option.bind_some, if_true]
  rw [if_neg (by omega), wrap_small (by omega) (by omega), wrap_small (by omega) (by omega), show a + 4 = ((p.size + 4 : Nat) : Int) by omega]

theorem putV_ok {t : ByteArray} {o : Bool} {S : ByteArray} {l p : Int} {s : ByteArray} (h : putV t o S l p = (s, 0)) : t.size ≤ 128 ∧ right o S l p = true ∧ s = body t o S l p := by
  unfold putV at h
  split at h
  · rename_i hc
    injection h with h1 h2
    exact ⟨hc.1, hc.2, h1.symm⟩
  · injection h with h1 h2
    exact absurd h2 (by decide)
theorem body_size (t : ByteArray) (o : Bool) (S : ByteArray) (l p : Int) (ht : t.size ≤ 128) (hr : right o S l p = true) : (body t o S l p).size ≤ 500 := by
  have h1 := T_size t
  have h2 := T_size S
  have h3 := B_size_le l.toNat
  have h4 := F_size p.toNat
  have e5 : (⟨#[1]⟩ : ByteArray).size = 1 := rfl
  have e6 : (⟨#[0]⟩ : ByteArray).size = 1 := rfl
  cases o
  · have := right_here hr
    simp only [body, Bool.false_eq_true, if_false, ByteArray.size_append, e6]
    omega
  · simp only [body, if_true, ByteArray.size_append, e5]
    omega

theorem getValue_put {t : ByteArray} {o : Bool} {S : ByteArray} {l p : Int} {s : ByteArray} (h : putV t o S l p = (s, 0)) : getValueF 100 s = some (t, o, S, l, p, 0) := by
  obtain ⟨ht, hr, hs⟩ := putV_ok h
  have hsz : s.size ≤ 1000 := by have := body_size t o S l p ht hr; rw [hs]; omega
  have e5 : (⟨#[1]⟩ : ByteArray).size = 1 := rfl
  have e6 : (⟨#[0]⟩ : ByteArray).size = 1 := rfl
  have e0 : (⟨#[]⟩ : ByteArray).size = 0 := rfl
  have l1 : (⟨#[1]⟩ : ByteArray).toList = [1] := by rw [L_toList]
  have l0 : (⟨#[0]⟩ : ByteArray).toList = [0] := by rw [L_toList]
  have em : ∀ x : ByteArray, (⟨#[]⟩ : ByteArray) ++ x = x := fun x => by apply L_inj; rw [L_append]; rfl
  unfold Hand.getValueF
  cases o with
  | true =>
    obtain ⟨hS, h2, h3, h4, h5⟩ := right_over hr
    have hs' : s = T t ++ ⟨#[1]⟩ ++ (B l.toNat ++ F p.toNat) := by rw [hs]; rfl
    rw [num_at 100 (by omega) s ⟨#[]⟩ (t ++ ⟨#[1]⟩ ++ (B l.toNat ++ F p.toNat)) t.size 0 (by rw [hs', em]; simp only [T, ByteArray.append_assoc]) hsz (by rw [e0]; rfl) (by omega)]
    simp only [Option.bind_some]
    rw [take_at s (B t.size) t (⟨#[1]⟩ ++ (B l.toNat ++ F p.toNat)) _ _ (by rw [hs']; simp only [T, ByteArray.append_assoc]) hsz (by rw [e0]; omega) rfl]
    simp only [Option.bind_some]
    unfold Hand.valueF
    rw [take_at s (T t) ⟨#[1]⟩ (B l.toNat ++ F p.toNat) _ 1 (by rw [hs']) hsz (by unfold T; rw [ByteArray.size_append]) (by rw [e5]; rfl)]
    simp only [Option.bind_some, l1, if_true]
    rw [num_at 100 (by omega) s (T t ++ ⟨#[1]⟩) (F p.toNat) l.toNat _ (by rw [hs']; simp only [ByteArray.append_assoc]) hsz (by rw [ByteArray.size_append]) (by omega)]
    simp only [Option.bind_some]
    rw [four_at 100 (by omega) s (T t ++ ⟨#[1]⟩ ++ B l.toNat) ⟨#[]⟩ p.toNat _ (by rw [hs']; apply L_inj; simp) hsz (by simp only [ByteArray.size_append]) (by omega)]
    simp only [Option.bind_some, putValue_some 100 (by omega)]
    have eS : (⟨#[]⟩ : ByteArray) = S := by apply L_inj; have : (L S).length = 0 := by rw [L_length]; exact hS
                                            rw [List.length_eq_zero_iff.mp this]
    rw [eS, show ((l.toNat : Nat) : Int) = l by omega, show ((p.toNat : Nat) : Int) = p by omega, h]
    simp
  | false =>
    obtain ⟨h2, h3, h4⟩ := right_here hr
    have hs' : s = T t ++ ⟨#[0]⟩ ++ T S := by rw [hs]; rfl
    rw [num_at 100 (by omega) s ⟨#[]⟩ (t ++ ⟨#[0]⟩ ++ T S) t.size 0 (by rw [hs', em]; simp only [T, ByteArray.append_assoc]) hsz (by rw [e0]; rfl) (by omega)]
    simp only [Option.bind_some]
    rw [take_at s (B t.size) t (⟨#[0]⟩ ++ T S) _ _ (by rw [hs']; simp only [T, ByteArray.append_assoc]) hsz (by rw [e0]; omega) rfl]
    simp only [Option.bind_some]
    unfold Hand.valueF
    rw [take_at s (T t) ⟨#[0]⟩ (T S) _ 1 (by rw [hs']) hsz (by unfold T; rw [ByteArray.size_append]) (by rw [e6]; rfl)]
    simp only [Option.bind_some, l0]
    rw [if_neg (by decide), if_pos trivial]
    rw [num_at 100 (by omega) s (T t ++ ⟨#[0]⟩) S S.size _ (by rw [hs']; simp only [T, ByteArray.append_assoc]) hsz (by rw [ByteArray.size_append]) (by omega)]
    simp only [Option.bind_some]
    rw [take_at s (T t ++ ⟨#[0]⟩ ++ B S.size) S ⟨#[]⟩ _ _ (by rw [hs']; apply L_inj; simp [T]) hsz (by simp only [ByteArray.size_append]) rfl]
    simp only [Option.bind_some, putValue_some 100 (by omega)]
    rw [h2, h3] at h
    rw [h, h2, h3]
    simp
end Go.Proofs.Ytmpfnniekemkbaa.Pure
