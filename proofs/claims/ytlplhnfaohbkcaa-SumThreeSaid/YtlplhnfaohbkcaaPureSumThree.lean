/-
  SumThree, in plain words: in which order three texts are joined makes no difference.
-/
import Derived.Test.YtlplhnfaohbkcaaPlain
import Derived.Test.YtlplhnfaohbkcaaQx2
namespace Go.Proofs.Ytlplhnfaohbkcaa.Pure
open Go.RowKit Go.Proofs.Ytlplhnfaohbkcaa.Q Go.Proofs.YtlplhnfaohbkcaaW.PrintWords Go.Proofs.YtlplhnfaohbkcaaW.PrintLast Go.Proofs.YtlplhnfaohbkcaaW.PrintMore

theorem SumThree : withylaw02_SumThree.Pure := by
  intro a0 a1 a2 h0 h1 h2
  obtain ⟨s, hs, hsz, c0, c1⟩ := cut_tells a0 200 (by decide)
  obtain ⟨t, ht, htz, d0, d1⟩ := cut_tells a1 200 (by decide)
  obtain ⟨u, hu, huz, e0, e1⟩ := cut_tells a2 200 (by decide)
  have hst : (s ++ t).size = s.size + t.size := ByteArray.size_append
  have hstu : (s ++ t ++ u).size = s.size + t.size + u.size := by rw [ByteArray.size_append, hst]
  have hw : wrap64 ((t.size : Int) + (u.size : Int)) = ((t.size + u.size : Nat) : Int) := by unfold wrap64; omega
  unfold withylaw02_SumThree.f
  rw [if_pos c0, if_pos c1, if_pos d0, if_pos d1, if_pos e0, if_pos e1, hs, ht, hu, hw]
  clear hw
  have hB := bits_some
  have hT := table_some
  have hJ := join_some
  have hF := fixed_some
  generalize sum_Bits.f = fB at hB ⊢
  generalize sum_Table.f = fT at hT ⊢
  generalize sum_Join.f = fJ at hJ ⊢
  generalize withylaw02_fixed.f = fF at hF ⊢
  rw [hB s (by omega)]
  rw [Option.bind_some]
  rw [hB t (by omega)]
  rw [Option.bind_some]
  rw [hB u (by omega)]
  rw [Option.bind_some]
  have j1 : Sm.roll t.size (Sm.more 0 (L s)) ^^^ Sm.more 0 (L t) = Sm.more 0 (L (s ++ t)) := by rw [L_append, ← L_length, Sm.join_tells]
  have j2 : Sm.roll u.size (Sm.more 0 (L (s ++ t))) ^^^ Sm.more 0 (L u) = Sm.more 0 (L (s ++ t ++ u)) := by rw [L_append (s ++ t) u, ← L_length u, Sm.join_tells]
  have j3 : Sm.roll u.size (Sm.more 0 (L t)) ^^^ Sm.more 0 (L u) = Sm.more 0 (L (t ++ u)) := by rw [L_append, ← L_length, Sm.join_tells]
  have j4 : Sm.roll (t.size + u.size) (Sm.more 0 (L s)) ^^^ Sm.more 0 (L (t ++ u)) = Sm.more 0 (L (s ++ t ++ u)) := by
    rw [← ByteArray.size_append, ← L_length, L_append (s ++ t) u, L_append s t, List.append_assoc, ← L_append t u, Sm.join_tells]
  rw [hJ _ _ (Sm.more_lt _ _) (Sm.more_lt _ _), cap_nat t.size (by omega), j1]
  rw [Option.bind_some]
  rw [hJ _ _ (Sm.more_lt _ _) (Sm.more_lt _ _), cap_nat u.size (by omega), j2]
  rw [Option.bind_some]
  rw [hJ _ _ (Sm.more_lt _ _) (Sm.more_lt _ _), cap_nat u.size (by omega), j3]
  rw [Option.bind_some]
  rw [hJ _ _ (Sm.more_lt _ _) (Sm.more_lt _ _), cap_nat _ (by omega), j4]
  rw [Option.bind_some]
  rw [if_pos rfl, if_pos (by omega), if_pos (by omega), hT (s ++ t ++ u) (by omega)]
  rw [Option.bind_some, if_pos rfl]
  rw [hF]; rfl

end Go.Proofs.Ytlplhnfaohbkcaa.Pure
