/-
  The walk of CellBack.
-/
import Derived.Test.YtmpfnniekemkbaaCases
import Derived.Test.YtmpfnniekemkbaaFixed
import Derived.Test.YtmpfnniekemkbaaBox
namespace Go.Proofs.Ytmpfnniekemkbaa.Back
open Go.RowKit Go.Proofs.Ytmpfnniekemkbaa.Q Go.Proofs.Ytmpfnniekemkbaa.Pure
open Go.Proofs.YtmpfnniekemkbaaW.PrintWords Go.Proofs.YtmpfnniekemkbaaW.PrintMore
open Go.Proofs.Ytmpfnniekemkbaa.Box
attribute [local go_sem] max2_int min2_int max_two min_two
set_option linter.unusedVariables false

set_option maxHeartbeats 4000000 in
set_option maxRecDepth 100000 in
theorem back_walk (s u S S' X y : ByteArray) (o : Bool) (l p kid : Int) (j jx : Nat) (hj : Hid ((if 140 < (s.size : Int) then 140 else (s.size : Int)) = (j : Int))) (hjs : j ≤ s.size) (hu : Hid (s.extract 0 j = u)) (hu2 : u.size ≤ 140)
    (hx : Hid ((if 500 < (X.size : Int) then 500 else (X.size : Int)) = (jx : Int))) (hxs : jx ≤ X.size) (hy : Hid (X.extract 0 jx = y))
    (a b t uk c d S2 : ByteArray) (e g h i k ll n l2 p2 : Int) (o2 r : Bool)
    (he : Hid (e = 3 ∨ e = 0)) (hee : Hid ((e == 0) = (r && decide ((u.size : Int) ≤ 128)))) (hg : Hid (g = 3 ∨ g = 0))
    (hh : Hid (h = 3 ∨ (h = 0 ∧ k = 0 ∧ c = y))) (hi : Hid (i = 3 ∨ (i = 0 ∧ ll = 0 ∧ d = y)))
    (c9 : Hid (∀ W, Calls Try.prog 9 #[.agg #[.bool o, .string S, .int .i64 l, .int .i64 p]] W fun e w' => e = .returned (.agg #[.bool o, .string S', .int .i64 l, .int .i64 p]) ∧ Below W.heap.size W w'))
    (c10 : Hid (∀ W, Calls Try.prog 10 #[.string u, .agg #[.bool o, .string S', .int .i64 l, .int .i64 p]] W fun e' w' => e' = .returned (.tuple #[.string a, .int .i64 e]) ∧ Below W.heap.size W w'))
    (c15a : Hid (e = 0 → ∀ W, Calls Try.prog 15 #[.string a] W fun e' w' => e' = .returned (.tuple #[.string u, .agg #[.bool o, .string S', .int .i64 l, .int .i64 p], .int .i64 0]) ∧ Below W.heap.size W w'))
    (c13 : Hid (∀ W, Calls Try.prog 13 #[.int .i64 kid, .string u] W fun e w' => e = .returned (.tuple #[.string b, .int .i64 g]) ∧ Below W.heap.size W w'))
    (c17a : Hid (g = 0 → ∀ W, Calls Try.prog 17 #[.string b] W fun e w' => e = .returned (.tuple #[.int .i64 kid, .string u, .int .i64 0]) ∧ Below W.heap.size W w'))
    (c15 : Hid (∀ W, Calls Try.prog 15 #[.string y] W fun e' w' => e' = .returned (.tuple #[.string t, .agg #[.bool o2, .string S2, .int .i64 l2, .int .i64 p2], .int .i64 h]) ∧ Below W.heap.size W w'))
    (c17 : Hid (∀ W, Calls Try.prog 17 #[.string y] W fun e w' => e = .returned (.tuple #[.int .i64 n, .string uk, .int .i64 i]) ∧ Below W.heap.size W w'))
    (c10b : Hid (∀ W, Calls Try.prog 10 #[.string t, .agg #[.bool o2, .string S2, .int .i64 l2, .int .i64 p2]] W fun e' w' => e' = .returned (.tuple #[.string c, .int .i64 k]) ∧ Below W.heap.size W w'))
    (c13b : Hid (∀ W, Calls Try.prog 13 #[.int .i64 n, .string uk] W fun e w' => e = .returned (.tuple #[.string d, .int .i64 ll]) ∧ Below W.heap.size W w'))
    (c19 : Hid (∀ W, Calls Try.prog 19 #[.agg #[.bool o, .string S', .int .i64 l, .int .i64 p]] W fun e w' => e = .returned (.bool r) ∧ Below W.heap.size W w'))
    (cF : Hid (∀ W, Calls Try.prog 21 #[] W fun e w' => e = .returned (.bool true) ∧ Below W.heap.size W w')) (w : World) :
    Calls Try.prog 4 #[.string s, .agg #[.bool o, .string S, .int .i64 l, .int .i64 p], .agg #[.string X, .int .i64 kid]] w fun e w' => e = .returned (.bool true) ∧ Below w.heap.size w w' := by
  have h1 := hj.out
  have h3 := hu.out
  have h5 := hx.out
  have h7 := hy.out
  have hu23 := Try.underlying23
  have hu25 := Try.underlying25
  have G0 := Lib.hid (St.start w o S l p #[.string X, .int .i64 kid] 25)
  go_enter Try.func4, Try.ntmps4
  go_wp2_with fail
  refine (c9.out _).mono ?_
  rintro e9 w1 ⟨rfl, hb⟩
  have G1 := Lib.hid (G0.out.call hb)
  clear hb G0
  obtain ⟨⟨k0, k1, k2, k3⟩, f0, f1, f2, f3⟩ := G1.out.read
  have m0 := ((G1.out.put (o' := o) (S' := S') (l' := l) (p' := p)).cell 0).trans rfl
  go_wp2_with fail
  refine (c10.out _).mono ?_
  rintro e10 w2 ⟨rfl, hb⟩
  have G2 := Lib.hid ((G1.out.put (o' := o) (S' := S') (l' := l) (p' := p)).call hb)
  clear hb G1 m0 k0 k1 k2 k3 f0 f1 f2 f3 h1 h3 h5 h7
  go_upto_if 49 with (fail)
  go_cut [] (fun wc => Aside0 (St w wc o S' l p #[.string X, .int .i64 kid] 25))
  case first =>
    rcases he.out with rfl | rfl
    · go_wp2_with fail
      go_meet
      case rel => exact ⟨G2.out⟩
    · go_wp2_with fail
      refine (c15a.out (by trivial) _).mono ?_
      rintro e15 w3 ⟨rfl, hb⟩
      have G3 := Lib.hid (G2.out.call hb)
      clear hb G2
      have G4 := Lib.hid (G3.out.alloc (.cells #[.bool o, .string S', .int .i64 l, .int .i64 p] 23))
      obtain ⟨⟨k0, k1, k2, k3⟩, f0, f1, f2, f3⟩ := G4.out.read
      go_wp2_with fail
      go_meet
      case rel => exact ⟨G4.out⟩
  case rest =>
    have G3 := Lib.hid hcut.out
    clear hcut
    have m1 := (G3.out.cell 1).trans rfl
    have g1 := G3.out.froz 1
    go_wp2_with fail
    refine (c13.out _).mono ?_
    rintro e13 w4 ⟨rfl, hb⟩
    have G4 := Lib.hid (G3.out.call hb)
    clear hb G3 m1 g1
    go_upto_if 76 with (fail)
    go_cut [] (fun wc => Aside0 (St w wc o S' l p #[.string X, .int .i64 kid] 25))
    case first =>
      rcases hg.out with rfl | rfl
      · go_wp2_with fail
        go_meet
        case rel => exact ⟨G4.out⟩
      · go_wp2_with fail
        refine (c17a.out (by trivial) _).mono ?_
        rintro e17 w5 ⟨rfl, hb⟩
        have G5 := Lib.hid (G4.out.call hb)
        clear hb G4
        have m1 := (G5.out.cell 1).trans rfl
        have g1 := G5.out.froz 1
        go_wp2_with fail
        go_meet
        case rel => exact ⟨G5.out⟩
    case rest =>
      have G5 := Lib.hid hcut.out
      clear hcut
      go_wp2_with fail
      refine (c15.out _).mono ?_
      rintro e15 w6 ⟨rfl, hb⟩
      have G6 := Lib.hid ((G5.out.call hb).alloc (.cells #[.bool o2, .string S2, .int .i64 l2, .int .i64 p2] 23))
      have V6 := Lib.hid (blk_new w6 (.cells #[.bool o2, .string S2, .int .i64 l2, .int .i64 p2] 23))
      clear hb G5
      go_wp2_with fail
      refine (c17.out _).mono ?_
      rintro e17 w7 ⟨rfl, hb⟩
      have G7 := Lib.hid (G6.out.call hb)
      have V7 := Lib.hid (blk_below V6.out hb)
      clear hb G6 V6
      have k0 := (blk_cell V7.out 0).trans rfl
      have k1 := (blk_cell V7.out 1).trans rfl
      have k2 := (blk_cell V7.out 2).trans rfl
      have k3 := (blk_cell V7.out 3).trans rfl
      have f0 := blk_frozen V7.out 0
      have f1 := blk_frozen V7.out 1
      have f2 := blk_frozen V7.out 2
      have f3 := blk_frozen V7.out 3
      go_wp2_with fail
      refine (c10b.out _).mono ?_
      rintro e10 w8 ⟨rfl, hb⟩
      have G8 := Lib.hid (G7.out.call hb)
      clear hb G7 V7 k0 k1 k2 k3 f0 f1 f2 f3
      go_wp2_with fail
      refine (c13b.out _).mono ?_
      rintro e13 w9 ⟨rfl, hb⟩
      have G9 := Lib.hid (G8.out.call hb)
      clear hb G8
      obtain ⟨⟨k0, k1, k2, k3⟩, f0, f1, f2, f3⟩ := G9.out.read
      rcases he.out with rfl | rfl
      · cases r with
        | false =>
          rcases hh.out with rfl | ⟨rfl, rfl, rfl⟩
          · rcases hi.out with rfl | ⟨rfl, rfl, rfl⟩
            · go_wp2_with fail
              refine (c19.out _).mono ?_
              rintro e19 w10 ⟨rfl, hb⟩
              have G10 := Lib.hid (G9.out.call hb)
              clear hb G9
              go_wp2_with fail
              refine (cF.out _).mono ?_
              rintro e21 w11 ⟨rfl, hb⟩
              have G11 := Lib.hid (G10.out.call hb)
              clear hb G10
              go_wp2_with fail
              go_ret
              exact ⟨rfl, G11.out.1⟩
            · go_wp2_with fail
              refine (c19.out _).mono ?_
              rintro e19 w10 ⟨rfl, hb⟩
              have G10 := Lib.hid (G9.out.call hb)
              clear hb G9
              go_wp2_with fail
              refine (cF.out _).mono ?_
              rintro e21 w11 ⟨rfl, hb⟩
              have G11 := Lib.hid (G10.out.call hb)
              clear hb G10
              go_wp2_with fail
              go_ret
              exact ⟨rfl, G11.out.1⟩
          · rcases hi.out with rfl | ⟨rfl, rfl, rfl⟩
            · go_wp2_with fail
              refine (c19.out _).mono ?_
              rintro e19 w10 ⟨rfl, hb⟩
              have G10 := Lib.hid (G9.out.call hb)
              clear hb G9
              go_wp2_with fail
              refine (cF.out _).mono ?_
              rintro e21 w11 ⟨rfl, hb⟩
              have G11 := Lib.hid (G10.out.call hb)
              clear hb G10
              go_wp2_with fail
              go_ret
              exact ⟨rfl, G11.out.1⟩
            · go_wp2_with fail
              refine (c19.out _).mono ?_
              rintro e19 w10 ⟨rfl, hb⟩
              have G10 := Lib.hid (G9.out.call hb)
              clear hb G9
              go_wp2_with fail
              refine (cF.out _).mono ?_
              rintro e21 w11 ⟨rfl, hb⟩
              have G11 := Lib.hid (G10.out.call hb)
              clear hb G10
              go_wp2_with fail
              go_ret
              exact ⟨rfl, G11.out.1⟩
        | true =>
          have hq : decide ((u.size : Int) ≤ 128) = false := by simpa using hee.out.symm
          rcases hh.out with rfl | ⟨rfl, rfl, rfl⟩
          · rcases hi.out with rfl | ⟨rfl, rfl, rfl⟩
            · go_wp2_with fail
              refine (c19.out _).mono ?_
              rintro e19 w10 ⟨rfl, hb⟩
              have G10 := Lib.hid (G9.out.call hb)
              clear hb G9
              go_wp2_with fail
              refine (cF.out _).mono ?_
              rintro e21 w11 ⟨rfl, hb⟩
              have G11 := Lib.hid (G10.out.call hb)
              clear hb G10
              go_wp2_with fail
              go_ret
              exact ⟨rfl, G11.out.1⟩
            · go_wp2_with fail
              refine (c19.out _).mono ?_
              rintro e19 w10 ⟨rfl, hb⟩
              have G10 := Lib.hid (G9.out.call hb)
              clear hb G9
              go_wp2_with fail
              refine (cF.out _).mono ?_
              rintro e21 w11 ⟨rfl, hb⟩
              have G11 := Lib.hid (G10.out.call hb)
              clear hb G10
              go_wp2_with fail
              go_ret
              exact ⟨rfl, G11.out.1⟩
          · rcases hi.out with rfl | ⟨rfl, rfl, rfl⟩
            · go_wp2_with fail
              refine (c19.out _).mono ?_
              rintro e19 w10 ⟨rfl, hb⟩
              have G10 := Lib.hid (G9.out.call hb)
              clear hb G9
              go_wp2_with fail
              refine (cF.out _).mono ?_
              rintro e21 w11 ⟨rfl, hb⟩
              have G11 := Lib.hid (G10.out.call hb)
              clear hb G10
              go_wp2_with fail
              go_ret
              exact ⟨rfl, G11.out.1⟩
            · go_wp2_with fail
              refine (c19.out _).mono ?_
              rintro e19 w10 ⟨rfl, hb⟩
              have G10 := Lib.hid (G9.out.call hb)
              clear hb G9
              go_wp2_with fail
              refine (cF.out _).mono ?_
              rintro e21 w11 ⟨rfl, hb⟩
              have G11 := Lib.hid (G10.out.call hb)
              clear hb G10
              go_wp2_with fail
              go_ret
              exact ⟨rfl, G11.out.1⟩
      · have hr : r = true ∧ decide ((u.size : Int) ≤ 128) = true := by simpa using hee.out.symm
        obtain ⟨rfl, hq⟩ := hr
        rcases hh.out with rfl | ⟨rfl, rfl, rfl⟩
        · rcases hi.out with rfl | ⟨rfl, rfl, rfl⟩
          · go_wp2_with fail
            refine (c19.out _).mono ?_
            rintro e19 w10 ⟨rfl, hb⟩
            have G10 := Lib.hid (G9.out.call hb)
            clear hb G9
            go_wp2_with fail
            refine (cF.out _).mono ?_
            rintro e21 w11 ⟨rfl, hb⟩
            have G11 := Lib.hid (G10.out.call hb)
            clear hb G10
            go_wp2_with fail
            go_ret
            exact ⟨rfl, G11.out.1⟩
          · go_wp2_with fail
            refine (c19.out _).mono ?_
            rintro e19 w10 ⟨rfl, hb⟩
            have G10 := Lib.hid (G9.out.call hb)
            clear hb G9
            go_wp2_with fail
            refine (cF.out _).mono ?_
            rintro e21 w11 ⟨rfl, hb⟩
            have G11 := Lib.hid (G10.out.call hb)
            clear hb G10
            go_wp2_with fail
            go_ret
            exact ⟨rfl, G11.out.1⟩
        · rcases hi.out with rfl | ⟨rfl, rfl, rfl⟩
          · go_wp2_with fail
            refine (c19.out _).mono ?_
            rintro e19 w10 ⟨rfl, hb⟩
            have G10 := Lib.hid (G9.out.call hb)
            clear hb G9
            go_wp2_with fail
            refine (cF.out _).mono ?_
            rintro e21 w11 ⟨rfl, hb⟩
            have G11 := Lib.hid (G10.out.call hb)
            clear hb G10
            go_wp2_with fail
            go_ret
            exact ⟨rfl, G11.out.1⟩
          · go_wp2_with fail
            refine (c19.out _).mono ?_
            rintro e19 w10 ⟨rfl, hb⟩
            have G10 := Lib.hid (G9.out.call hb)
            clear hb G9
            go_wp2_with fail
            refine (cF.out _).mono ?_
            rintro e21 w11 ⟨rfl, hb⟩
            have G11 := Lib.hid (G10.out.call hb)
            clear hb G10
            go_wp2_with fail
            go_ret
            exact ⟨rfl, G11.out.1⟩
end Go.Proofs.Ytmpfnniekemkbaa.Back
