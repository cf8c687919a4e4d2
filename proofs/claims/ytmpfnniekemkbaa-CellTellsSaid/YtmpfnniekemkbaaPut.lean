/-
  What PutValue and PutKid (and the document's) come to, in plain words.
-/
import Derived.Test.YtmpfnniekemkbaaFacts
import Derived.Test.YtmpfnniekemkbaaQx2
import Derived.Test.YtmpfnniekemkbaaQx4
namespace Go.Proofs.Ytmpfnniekemkbaa.Pure
open Go.RowKit Go.Proofs.Ytmpfnniekemkbaa.Q Go.Proofs.YtmpfnniekemkbaaW.PrintWords Go.Proofs.YtmpfnniekemkbaaW.PrintLast Go.Proofs.YtmpfnniekemkbaaW.PrintMore

/-- may the value be? -/
def right (o : Bool) (S : ByteArray) (l p : Int) : Bool :=
  if o then decide (S.size = 0 ∧ 1 ≤ l ∧ l ≤ 4096 ∧ 1 ≤ p ∧ p ≤ 4095) else decide (l = 0 ∧ p = 0 ∧ S.size ≤ 256)

theorem toList_nil (S : ByteArray) : S.toList = ([] : List UInt8) ↔ S.size = 0 := by
  rw [L_toList, ← L_length]
  exact List.length_eq_zero_iff.symm

theorem right_some (o : Bool) (S : ByteArray) (l p : Int) : cell_Right.f o S l p = some (right o S l p) := by
  unfold cell_Right.f right
  cases o
  · by_cases h1 : l = 0 <;> by_cases h2 : p = 0 <;> simp [h1, h2] <;> omega
  · simp only [toList_nil, cell_page.f, if_true]
    by_cases h1 : S.size = 0 <;> by_cases h2 : l ≥ 1 <;> by_cases h3 : l ≤ 4096 <;> by_cases h4 : p ≥ 1 <;> simp [h1, h2, h3, h4] <;> omega
/-- a text with its length ahead -/
def T (s : ByteArray) : ByteArray := B s.size ++ s
/-- a value's cell -/
def body (s : ByteArray) (o : Bool) (S : ByteArray) (l p : Int) : ByteArray :=
  if o then T s ++ ⟨#[1]⟩ ++ (B l.toNat ++ F p.toNat) else T s ++ ⟨#[0]⟩ ++ T S
def putV (s : ByteArray) (o : Bool) (S : ByteArray) (l p : Int) : ByteArray × Int :=
  if s.size ≤ 128 ∧ right o S l p = true then (body s o S l p, 0) else (⟨#[]⟩, 3)
def putK (kid : Int) (s : ByteArray) : ByteArray × Int :=
  if 1 ≤ kid ∧ kid ≤ 4095 ∧ s.size ≤ 128 then (F kid.toNat ++ T s, 0) else (⟨#[]⟩, 3)

theorem wrap_size (n : Nat) (h : n ≤ 100000) : IntKind.u64.wrap (n : Int) = (n : Int) := u64_wrap (by omega) (by omega)
theorem T_size (s : ByteArray) : 1 + s.size ≤ (T s).size ∧ (T s).size ≤ 9 + s.size := by
  have := B_size_le s.size
  unfold T
  rw [ByteArray.size_append]
  omega
theorem text_some (k : Nat) (hk : 40 < k) (s : ByteArray) (hs : s.size ≤ 1000) : cell_text.f k s = some (T s) := by
  unfold cell_text.f
  have hb := B_size_le s.size
  rw [wrap_size _ (by omega), put_some k s.size (by omega) (by omega)]
  simp only [Option.bind_some]
  rw [if_pos (by omega)]
  rfl

theorem right_over {S : ByteArray} {l p : Int} (h : right true S l p = true) : S.size = 0 ∧ 1 ≤ l ∧ l ≤ 4096 ∧ 1 ≤ p ∧ p ≤ 4095 := by
  simpa [right] using h
theorem right_here {S : ByteArray} {l p : Int} (h : right false S l p = true) : l = 0 ∧ p = 0 ∧ S.size ≤ 256 := by
  simpa [right] using h

theorem putValue_some (k : Nat) (hk : 60 < k) (s : ByteArray) (o : Bool) (S : ByteArray) (l p : Int) : cell_PutValue.f k s o S l p = some (putV s o S l p) := by
  unfold cell_PutValue.f putV
  obtain ⟨j, rfl⟩ : ∃ j, k = j + 1 := ⟨k - 1, by omega⟩
  by_cases hs : s.size ≤ 128
  · rw [if_neg (by omega), right_some]
    simp only [Option.bind_some]
    unfold cell_PutValue.j0
    cases hr : right o S l p with
    | false => simp
    | true =>
      have hT := T_size s
      have ht := text_some j (by omega) s (by omega)
      cases o with
      | true =>
        obtain ⟨h1, h2, h3, h4, h5⟩ := right_over hr
        have hb := B_size_le l.toNat
        have hf := F_size p.toNat
        have e1 : IntKind.u64.wrap l = ((l.toNat : Nat) : Int) := by rw [u64_wrap (by omega) (by omega)]; omega
        have e2 : p % 4294967296 = ((p.toNat : Nat) : Int) := by omega
        have e3 : (strOfNums [1]).size = 1 := by rfl
        have e4 : strOfNums [1] = (⟨#[1]⟩ : ByteArray) := by rfl
        simp only [Bool.not_true, Bool.false_eq_true, if_false, if_true, ht, Option.bind_some, e1, e2, put_some j l.toNat (by omega) (by omega), four_some p.toNat (by omega)]
        rw [if_pos (by rw [e3]; omega), if_pos (by rw [ByteArray.size_append, e3]; omega), if_pos (by rw [ByteArray.size_append, ByteArray.size_append, e3]; omega)]
        simp only [hs, true_and, if_true, body, e4, ByteArray.append_assoc]
      | false =>
        obtain ⟨h1, h2, h3⟩ := right_here hr
        have hT2 := T_size S
        have e3 : (strOfNums [0]).size = 1 := by rfl
        have e4 : strOfNums [0] = (⟨#[0]⟩ : ByteArray) := by rfl
        simp only [Bool.not_true, Bool.false_eq_true, if_false, ht, Option.bind_some, text_some j (by omega) S (by omega)]
        rw [if_pos (by rw [e3]; omega), if_pos (by rw [ByteArray.size_append, e3]; omega)]
        simp only [hs, true_and, if_true, body, e4, Bool.false_eq_true, if_false]
  · rw [if_pos (by omega), if_neg (by omega)]
    unfold cell_PutValue.j0
    rfl
theorem putKid_some (k : Nat) (hk : 60 < k) (kid : Int) (s : ByteArray) : cell_PutKid.f k kid s = some (putK kid s) := by
  unfold cell_PutKid.f putK cell_page.f
  obtain ⟨j, rfl⟩ : ∃ j, k = j + 1 := ⟨k - 1, by omega⟩
  by_cases hr : 1 ≤ kid ∧ kid ≤ 4095
  · rw [if_pos (show kid ≥ 1 from hr.1)]
    simp only [Option.bind_some, show kid < 4096 by omega, decide_true, if_true]
    rw [cell_PutKid.j0]
    by_cases hs : s.size ≤ 128
    · have hT := T_size s
      have hf := F_size kid.toNat
      have e2 : kid % 4294967296 = ((kid.toNat : Nat) : Int) := by omega
      rw [if_neg (by simp; omega), e2]
      simp only [four_some kid.toNat (by omega), text_some j (by omega) s (by omega), Option.bind_some]
      rw [if_pos (by omega), if_pos ⟨hr.1, hr.2, hs⟩]
    · rw [if_pos (by simp; omega), if_neg (by omega)]
  · rw [if_neg (show ¬ (1 ≤ kid ∧ kid ≤ 4095 ∧ s.size ≤ 128) by omega)]
    by_cases h1 : kid ≥ 1
    · rw [if_pos h1]
      simp only [Option.bind_some, show ¬ kid < 4096 by omega, decide_false, Bool.false_eq_true, if_false]
      unfold cell_PutKid.j0
      rfl
    · rw [if_neg h1]
      simp only [Option.bind_some, Bool.false_eq_true, if_false]
      unfold cell_PutKid.j0
      rfl
end Go.Proofs.Ytmpfnniekemkbaa.Pure
