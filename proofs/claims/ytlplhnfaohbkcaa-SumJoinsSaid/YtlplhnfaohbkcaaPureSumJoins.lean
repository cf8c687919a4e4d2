/-
  SumJoins, in plain words: the sum of two texts is told by both sums and the second one's length.
-/
import Derived.Test.YtlplhnfaohbkcaaPlain
import Derived.Test.YtlplhnfaohbkcaaQx2
namespace Go.Proofs.Ytlplhnfaohbkcaa.Pure
open Go.RowKit Go.Proofs.Ytlplhnfaohbkcaa.Q Go.Proofs.YtlplhnfaohbkcaaW.PrintWords Go.Proofs.YtlplhnfaohbkcaaW.PrintLast Go.Proofs.YtlplhnfaohbkcaaW.PrintMore

theorem SumJoins : withylaw02_SumJoins.Pure := by
  intro a0 a1 h0 h1
  obtain ⟨s, hs, hsz, c0, c1⟩ := cut_tells a0 400 (by decide)
  obtain ⟨t, ht, htz, d0, d1⟩ := cut_tells a1 400 (by decide)
  have hst : (s ++ t).size = s.size + t.size := ByteArray.size_append
  unfold withylaw02_SumJoins.f
  rw [if_pos c0, if_pos c1, if_pos d0, if_pos d1, hs, ht, table_some s (by omega), table_some t (by omega)]
  simp only [Option.bind_some]
  rw [if_pos (by omega), bits_some (s ++ t) (by omega), table_some (s ++ t) (by omega)]
  simp only [Option.bind_some, if_true]
  have j0 : Sm.more (Sm.more 0 (L s)) (L t) = Sm.more 0 (L (s ++ t)) := by rw [L_append, Sm.more_append]
  have j1 : Sm.roll t.size (Sm.more 0 (L s)) ^^^ Sm.more 0 (L t) = Sm.more 0 (L (s ++ t)) := by rw [L_append, ← L_length, Sm.join_tells]
  have j2 : Sm.roll t.size 0 ^^^ Sm.more 0 (L t) = Sm.more 0 (L t) := by
    have := Sm.join_tells [] (L t)
    rw [Sm.more_nil (by decide), L_length] at this
    exact this
  have j3 : Sm.roll 0 (Sm.more 0 (L s)) ^^^ 0 = Sm.more 0 (L s) := by simp [Sm.roll]
  rw [more_some _ (Sm.more_lt _ _) t (by omega), j0]
  simp only [Option.bind_some, if_true]
  rw [join_some _ _ (Sm.more_lt _ _) (Sm.more_lt _ _), cap_nat t.size (by omega), j1]
  simp only [Option.bind_some, if_true]
  have k0 := join_some 0 _ (by decide) (Sm.more_lt 0 (L t)) (t.size : Int)
  rw [cap_nat t.size (by omega), j2, show ((0 : Nat) : Int) = 0 from rfl] at k0
  rw [k0]
  simp only [Option.bind_some, if_true]
  have k1 := join_some _ 0 (Sm.more_lt 0 (L s)) (by decide) 0
  rw [show Hand.cap 0 = 0 from rfl, j3, show ((0 : Nat) : Int) = 0 from rfl] at k1
  rw [k1]
  simp only [Option.bind_some, if_true]
  rw [fixed_some]; rfl

end Go.Proofs.Ytlplhnfaohbkcaa.Pure
