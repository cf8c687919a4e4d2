/-
  WordOnce, in plain words: bytes that are a number are just the bytes of that number.
-/
import Derived.Test.YtnjfgmabalmgnaaFacts
import Derived.Test.YtnjfgmabalmgnaaQx9
namespace Go.Proofs.Ytnjfgmabalmgnaa.Pure
open Go.RowKit Go.Proofs.Ytnjfgmabalmgnaa.Q Go.Proofs.YtnjfgmabalmgnaaW.PrintWords Go.Proofs.YtnjfgmabalmgnaaW.PrintLast Go.Proofs.YtnjfgmabalmgnaaW.PrintMore

theorem WordOnce : withylaw01_WordOnce.Pure := by
  intro a0 a h0 h1
  obtain ⟨s, hs, hsz, c0, c1⟩ := cut_tells a0 60 (by decide)
  have hz : s.size ≤ 1000 := by omega
  refine ⟨100, ?_⟩
  unfold withylaw01_WordOnce.f
  rw [if_pos c0, if_pos c1, hs, get_some 100 s hz a h1 (by decide), Option.bind_some]
  rcases getS_cases (L s) a with ⟨e, he, hg⟩ | ⟨j, K, n, rfl, hjK, hK, hn, hg, henc⟩
  · rw [hg, if_neg he, if_pos rfl, if_pos rfl, fixed_some]; rfl
  · rw [L_length] at hjK
    rw [hg, if_pos rfl, if_pos (by omega), if_pos (by show ((j + 1 + K : Nat) : Int) > (j : Int); omega), if_pos (by show ((j + 1 + K : Nat) : Int) ≤ (s.size : Int); omega), put_some 100 n hn (by decide), Option.bind_some,
      if_pos (by omega), if_pos (by show (j : Int) ≤ ((j + 1 + K : Nat) : Int); omega), if_pos, fixed_some]
    · rfl
    · show (B n).toList = (s.extract (j : Int).toNat ((j + 1 + K : Nat) : Int).toNat).toList
      rw [L_toList, L_toList, L_B, L_extract, Int.toNat_natCast, Int.toNat_natCast, henc, show j + 1 + K - j = 1 + K by omega]
end Go.Proofs.Ytnjfgmabalmgnaa.Pure
