/-
  WordTells, in plain words: Put, Size, Four, Get and Read of the program are the document's.
-/
import Derived.Test.YtnjfgmabalmgnaaRead
import Derived.Test.YtnjfgmabalmgnaaQx7
namespace Go.Proofs.Ytnjfgmabalmgnaa.Pure
open Go.RowKit Go.Proofs.Ytnjfgmabalmgnaa.Q Go.Proofs.YtnjfgmabalmgnaaW.PrintWords Go.Proofs.YtnjfgmabalmgnaaW.PrintLast Go.Proofs.YtnjfgmabalmgnaaW.PrintMore

theorem WordTells : withylaw01_WordTells.Pure := by
  intro a0 a1 a2 h0 h1 h2
  obtain ⟨n, rfl, hn⟩ := u64_nat h0
  obtain ⟨s, hs, hsz, c0, c1⟩ := cut_tells a1 60 (by decide)
  refine ⟨100, ?_⟩
  have hz : s.size ≤ 1000 := by omega
  have hm : (n : Int) % 4294967296 = ((n % 4294967296 : Nat) : Int) := by omega
  have hm2 : n % 4294967296 < 4294967296 := Nat.mod_lt _ (by decide)
  unfold withylaw01_WordTells.f
  rw [if_pos c0, if_pos c1, hs, get_some 100 s hz a2 h2 (by decide), Option.bind_some, rget_some 100 s hz a2 h2 (by decide), Option.bind_some, read_some 100 s hz a2 h2 (by decide), Option.bind_some,
    rread_some 100 s hz a2 h2 (by decide), Option.bind_some, put_some 100 n hn (by decide), Option.bind_some, rput_some 100 n hn (by decide), Option.bind_some, if_pos rfl, size_some 100 n hn (by decide), Option.bind_some,
    Option.bind_some, if_pos rfl, hm, four_some _ hm2, Option.bind_some, rfour_some, Option.bind_some, if_pos rfl, if_pos rfl, if_pos rfl, if_pos rfl, if_pos rfl, if_pos rfl, fixed_some]
  rfl
end Go.Proofs.Ytnjfgmabalmgnaa.Pure
