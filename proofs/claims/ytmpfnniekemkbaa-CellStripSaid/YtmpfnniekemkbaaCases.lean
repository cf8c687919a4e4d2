/-
  The answers of PutValue and PutKid, case by case.
-/
import Derived.Test.YtmpfnniekemkbaaKid
namespace Go.Proofs.Ytmpfnniekemkbaa.Pure
open Go.RowKit Go.Proofs.Ytmpfnniekemkbaa.Q Go.Proofs.YtmpfnniekemkbaaW.PrintWords Go.Proofs.YtmpfnniekemkbaaW.PrintLast Go.Proofs.YtmpfnniekemkbaaW.PrintMore
open Go.Proofs.Ytmpfnniekemkbaa.Hand (numF valueF getValueF getKidF)
set_option linter.unusedVariables false

theorem putV_size {t : ByteArray} {o : Bool} {S : ByteArray} {l p : Int} {a : ByteArray} (h : putV t o S l p = (a, 0)) : 0 < a.size ∧ a.size ≤ 500 := by
  obtain ⟨ht, hr, ha⟩ := putV_ok h
  have hz := body_size t o S l p ht hr
  have h1 := T_size t
  rw [ha]
  refine ⟨?_, hz⟩
  unfold body
  cases o <;> simp only [Bool.false_eq_true, if_false, if_true, ByteArray.size_append] <;> omega
theorem putK_size {kid : Int} {t a : ByteArray} (h : putK kid t = (a, 0)) : 4 < a.size ∧ a.size ≤ 200 := by
  obtain ⟨h1, h2, ht, ha⟩ := putK_ok h
  have hz := kid_size kid t ht
  have h3 := T_size t
  have h4 := F_size kid.toNat
  rw [ha]
  refine ⟨?_, hz⟩
  rw [ByteArray.size_append]
  omega
theorem putV_cases (t : ByteArray) (o : Bool) (S : ByteArray) (l p : Int) (ht : t.size ≤ 128) : (right o S l p = true ∧ ∃ a, putV t o S l p = (a, 0)) ∨ (right o S l p = false ∧ putV t o S l p = (⟨#[]⟩, 3)) := by
  unfold putV
  cases right o S l p
  · exact .inr ⟨rfl, by simp⟩
  · exact .inl ⟨rfl, _, by rw [if_pos ⟨ht, rfl⟩]⟩
theorem putK_cases (kid : Int) (t : ByteArray) (ht : t.size ≤ 128) : ((1 ≤ kid ∧ kid ≤ 4095) ∧ ∃ a, putK kid t = (a, 0)) ∨ (¬ (1 ≤ kid ∧ kid ≤ 4095) ∧ putK kid t = (⟨#[]⟩, 3)) := by
  unfold putK
  by_cases h : 1 ≤ kid ∧ kid ≤ 4095
  · exact .inl ⟨h, _, by rw [if_pos ⟨h.1, h.2, ht⟩]⟩
  · exact .inr ⟨h, by rw [if_neg (by omega)]⟩

theorem tmod_small (x : Int) (hx : (Lit.int .u16 x).wf = true) (n : Nat) (hn : 0 < n) : Int.tmod (wrap64 x) (n : Int) = ((x.toNat % n : Nat) : Int) := by
  simp [Lit.wf, IntKind.min, IntKind.max, IntKind.signed, IntKind.bits] at hx
  have e : wrap64 x = ((x.toNat : Nat) : Int) := by unfold wrap64; omega
  rw [e, Int.tmod_eq_emod_of_nonneg (by omega)]
  rfl
end Go.Proofs.Ytmpfnniekemkbaa.Pure
