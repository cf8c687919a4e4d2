/-
  SumFirst, in plain words: unlike sums ahead of the same bytes lead to unlike ones.
-/
import Derived.Test.YtlplhnfaohbkcaaPlain
import Derived.Test.YtlplhnfaohbkcaaQx2
namespace Go.Proofs.Ytlplhnfaohbkcaa.Pure
open Go.RowKit Go.Proofs.Ytlplhnfaohbkcaa.Q Go.Proofs.YtlplhnfaohbkcaaW.PrintWords Go.Proofs.YtlplhnfaohbkcaaW.PrintLast Go.Proofs.YtlplhnfaohbkcaaW.PrintMore

theorem eq_iff_beq {a b c d : Nat} (h : a = b ↔ c = d) : (((a : Int) == (b : Int)) == ((c : Int) == (d : Int))) = true := by
  by_cases e : a = b
  · have e2 := h.1 e
    subst e; subst e2; simp
  · have e2 : ¬ c = d := fun x => e (h.2 x)
    have h1 : ((a : Int) == (b : Int)) = false := by rw [beq_eq_false_iff_ne]; omega
    have h2 : ((c : Int) == (d : Int)) = false := by rw [beq_eq_false_iff_ne]; omega
    rw [h1, h2]; rfl

theorem SumFirst : withylaw02_SumFirst.Pure := by
  intro a0 a1 a2 h0 h1 h2
  obtain ⟨a, rfl, ha⟩ := u32_nat h0
  obtain ⟨b, rfl, hb⟩ := u32_nat h1
  obtain ⟨s, hs, hsz, c0, c1⟩ := cut_tells a2 400 (by decide)
  unfold withylaw02_SumFirst.f
  rw [if_pos c0, if_pos c1, hs, table_some s (by omega), more_some a ha s (by omega), more_some b hb s (by omega)]
  simp only [Option.bind_some]
  have e1 : Sm.more a (L s) = Sm.more b (L s) ↔ a = b := ⟨fun h => Sm.more_inj ha hb h, fun h => by rw [h]⟩
  have e2 : Sm.roll s.size a ^^^ Sm.more 0 (L s) = Sm.roll s.size b ^^^ Sm.more 0 (L s) ↔ a = b := ⟨fun h => Sm.join_inj ha hb h, fun h => by rw [h]⟩
  rw [if_pos (eq_iff_beq e1), join_some a _ ha (Sm.more_lt _ _), join_some b _ hb (Sm.more_lt _ _), cap_nat s.size (by omega)]
  simp only [Option.bind_some]
  rw [if_pos (eq_iff_beq e2), more_some a ha _ (by decide)]
  simp only [Option.bind_some]
  have e3 : Sm.more a (L ⟨#[]⟩) = a := Sm.more_nil ha
  rw [e3, if_pos rfl, fixed_some]; rfl

end Go.Proofs.Ytlplhnfaohbkcaa.Pure
