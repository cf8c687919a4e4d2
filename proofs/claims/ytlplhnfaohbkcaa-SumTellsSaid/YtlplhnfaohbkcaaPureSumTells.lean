/-
  SumTells, in plain words: Bits, Table, More and Join of the program are the document's.
-/
import Derived.Test.YtlplhnfaohbkcaaPlain
import Derived.Test.YtlplhnfaohbkcaaQx1
namespace Go.Proofs.Ytlplhnfaohbkcaa.Pure
open Go.RowKit Go.Proofs.Ytlplhnfaohbkcaa.Q Go.Proofs.YtlplhnfaohbkcaaW.PrintWords Go.Proofs.YtlplhnfaohbkcaaW.PrintLast Go.Proofs.YtlplhnfaohbkcaaW.PrintMore

theorem ref_Join_l (n : Nat) : ∀ (k a b c : Nat), n ≤ 100000 → a < 4294967296 → b < 4294967296 → c < 4294967296 → n * 3 + 1100 < k →
    withyref02_Join.l0 k c a b (n : Int) = some (((Sm.more a (List.replicate n 0) ^^^ c) ^^^ Sm.more b (List.replicate n 0) : Nat) : Int) := by
  induction n using Nat.strongRecOn with
  | _ n ih =>
  intro k a b c hn ha hb hc hk
  obtain ⟨k, rfl⟩ : ∃ m, k = m + 1 := ⟨k - 1, by omega⟩
  simp only [withyref02_Join.l0]
  by_cases h0 : n = 0
  · subst h0
    rw [if_neg (by omega), u32_xor a c ha hc, u32_xor _ b (Sm.xor_lt ha hc) hb]
    simp only [List.replicate_zero]
    rw [Sm.more_nil ha, Sm.more_nil hb]
  · rw [if_pos (by omega)]
    obtain ⟨T, hT⟩ : ∃ T : Nat, T = min n 1000 := ⟨_, rfl⟩
    have inner : ∀ (d k z : Nat) (s : ByteArray), L s = List.replicate z 0 → z + d = T → d + 1 + (n - T) * 3 + 1100 < k →
        withyref02_Join.l1 k c s a b (n : Int) = some (((Sm.more a (List.replicate n 0) ^^^ c) ^^^ Sm.more b (List.replicate n 0) : Nat) : Int) := by
      intro d
      induction d with
      | zero =>
        intro k z s hs hz hk
        obtain ⟨k, rfl⟩ : ∃ m, k = m + 1 := ⟨k - 1, by omega⟩
        have hsz : s.size = z := by rw [← L_length, hs, List.length_replicate]
        have hw : wrap64 ((n : Int) - (s.size : Int)) = ((n - T : Nat) : Int) := by unfold wrap64; omega
        have hrest : withyref02_Join.l0 k c (Sm.more a (L s) : Nat) (Sm.more b (L s) : Nat) ((n - T : Nat) : Int) = some (((Sm.more a (List.replicate n 0) ^^^ c) ^^^ Sm.more b (List.replicate n 0) : Nat) : Int) := by
          rw [ih (n - T) (by omega) k _ _ c (by omega) (Sm.more_lt _ _) (Sm.more_lt _ _) hc (by omega), hs, ← Sm.more_append, ← Sm.more_append, List.replicate_append_replicate]
          have : z + (n - T) = n := by omega
          rw [this]
        simp only [withyref02_Join.l1]
        by_cases h1 : (s.size : Int) < (n : Int)
        · rw [if_pos h1, if_neg (by omega), ref_More k a ha s (by omega) (by omega), ref_More k b hb s (by omega) (by omega)]
          simp only [Option.bind_some]
          rw [hw]; exact hrest
        · rw [if_neg h1, ref_More k a ha s (by omega) (by omega), ref_More k b hb s (by omega) (by omega)]
          simp only [Option.bind_some]
          rw [hw]; exact hrest
      | succ d ihd =>
        intro k z s hs hz hk
        obtain ⟨k, rfl⟩ : ∃ m, k = m + 1 := ⟨k - 1, by omega⟩
        have hsz : s.size = z := by rw [← L_length, hs, List.length_replicate]
        simp only [withyref02_Join.l1]
        rw [if_pos (by omega), if_pos (by omega), if_pos (by omega)]
        refine ihd k (z + 1) _ ?_ (by omega) (by omega)
        rw [L_append, hs]
        exact List.replicate_append_replicate (n := z) (m := 1)
    exact inner T k 0 _ rfl (by omega) (by omega)

theorem ref_Join (k a b : Nat) (n : Int) (ha : a < 4294967296) (hb : b < 4294967296) (hn : n ≤ 2000) (hk : 8000 < k) :
    withyref02_Join.f k a b n = some ((Sm.roll (Hand.cap n) a ^^^ b : Nat) : Int) := by
  unfold withyref02_Join.f
  have h : mx 0 (mn n 100000) = ((Hand.cap n : Nat) : Int) := by unfold mx mn Hand.cap; split <;> split <;> omega
  have hc : Hand.cap n ≤ 2000 := by unfold Hand.cap; omega
  rw [h]
  have := ref_Join_l (Hand.cap n) k a 0 b (by omega) ha (by decide) hb (by omega)
  rw [show ((0 : Nat) : Int) = 0 from rfl] at this
  rw [this, Sm.join_ref ha]

theorem SumTells : withylaw02_SumTells.Pure := by
  intro a0 a1 a2 h0 h1 h2
  obtain ⟨c, rfl, hc⟩ := u32_nat h1
  obtain ⟨s, hs, hsz, c0, c1⟩ := cut_tells a0 400 (by decide)
  refine ⟨10000, ?_⟩
  have hn : mn a2 2000 ≤ 2000 := by unfold mn; split <;> omega
  unfold withylaw02_SumTells.f withyref02_Sum.f
  rw [if_pos c0, if_pos c1, hs]
  have r0 := ref_More 10000 0 (by decide) s (by omega) (by omega)
  rw [show ((0 : Nat) : Int) = 0 from rfl] at r0
  rw [r0]
  simp only [Option.bind_some]
  rw [bits_some s (by omega)]
  simp only [Option.bind_some, if_true]
  rw [table_some s (by omega)]
  simp only [Option.bind_some, if_true]
  rw [more_some c hc s (by omega), ref_More 10000 c hc s (by omega) (by omega)]
  simp only [Option.bind_some, if_true]
  rw [join_some _ c (Sm.more_lt _ _) hc, ref_Join 10000 _ c _ (Sm.more_lt _ _) hc hn (by omega)]
  simp only [Option.bind_some, if_true]
  rw [fixed_some]; rfl

end Go.Proofs.Ytlplhnfaohbkcaa.Pure
