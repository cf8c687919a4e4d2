/-
  The walk of CellSides.
-/
import Derived.Test.YtmpfnniekemkbaaCases
import Derived.Test.YtmpfnniekemkbaaFixed
import Derived.Test.YtmpfnniekemkbaaBoxes
import Derived.BigQuiet
import Derived.Deep.QuietTactic
namespace Go.Proofs.Ytmpfnniekemkbaa.Sides
open Go.RowKit Go.Proofs.Ytmpfnniekemkbaa.Q Go.Proofs.Ytmpfnniekemkbaa.Pure
open Go.Proofs.YtmpfnniekemkbaaW.PrintWords Go.Proofs.YtmpfnniekemkbaaW.PrintMore
open Go.Proofs.Ytmpfnniekemkbaa.Box
attribute [local go_sem] max2_int min2_int max_two min_two
set_option linter.unusedVariables false

theorem ne_list {a b : ByteArray} (h : ¬ a = b) : (a.toList == b.toList) = false := by
  rw [beq_eq_false_iff_ne]
  intro z
  rw [L_toList, L_toList] at z
  exact h (L_inj z)
set_option maxHeartbeats 4000000 in
set_option maxRecDepth 100000 in
theorem sides_walk (S S' T T' X Y s t : ByteArray) (o o1 : Bool) (l p l1 p1 k0 k1 : Int) (j jx : Nat)
    (hj : Hid ((if 128 < (X.size : Int) then 128 else (X.size : Int)) = (j : Int))) (hjs : j ≤ X.size) (hu : Hid (X.extract 0 j = s))
    (hx : Hid ((if 128 < (Y.size : Int) then 128 else (Y.size : Int)) = (jx : Int))) (hxs : jx ≤ Y.size) (hy : Hid (Y.extract 0 jx = t))
    (P Q U V : ByteArray) (e f g h : Int) (he : Hid (e = 3 ∨ e = 0)) (hf : Hid (f = 3 ∨ f = 0)) (hg : Hid (g = 3 ∨ g = 0)) (hh : Hid (h = 3 ∨ h = 0))
    (hPQ : Hid (e = 0 → f = 0 → (P = Q ↔ s = t ∧ o = o1 ∧ S' = T' ∧ l = l1 ∧ p = p1))) (hUV : Hid (g = 0 → h = 0 → (U = V ↔ s = t ∧ k0 = k1)))
    (c9 : Hid (∀ W, Calls Try.prog 9 #[.agg #[.bool o, .string S, .int .i64 l, .int .i64 p]] W fun e w' => e = .returned (.agg #[.bool o, .string S', .int .i64 l, .int .i64 p]) ∧ Below W.heap.size W w'))
    (c9b : Hid (∀ W, Calls Try.prog 9 #[.agg #[.bool o1, .string T, .int .i64 l1, .int .i64 p1]] W fun e w' => e = .returned (.agg #[.bool o1, .string T', .int .i64 l1, .int .i64 p1]) ∧ Below W.heap.size W w'))
    (c10 : Hid (∀ W, Calls Try.prog 10 #[.string s, .agg #[.bool o, .string S', .int .i64 l, .int .i64 p]] W fun e' w' => e' = .returned (.tuple #[.string P, .int .i64 e]) ∧ Below W.heap.size W w'))
    (c10b : Hid (∀ W, Calls Try.prog 10 #[.string t, .agg #[.bool o1, .string T', .int .i64 l1, .int .i64 p1]] W fun e' w' => e' = .returned (.tuple #[.string Q, .int .i64 f]) ∧ Below W.heap.size W w'))
    (c13 : Hid (∀ W, Calls Try.prog 13 #[.int .i64 k0, .string s] W fun e w' => e = .returned (.tuple #[.string U, .int .i64 g]) ∧ Below W.heap.size W w'))
    (c13b : Hid (∀ W, Calls Try.prog 13 #[.int .i64 k1, .string t] W fun e w' => e = .returned (.tuple #[.string V, .int .i64 h]) ∧ Below W.heap.size W w'))
    (cF : Hid (∀ W, Calls Try.prog 21 #[] W fun e w' => e = .returned (.bool true) ∧ Below W.heap.size W w')) (w : World) :
    Calls Try.prog 6 #[.agg #[.bool o, .string S, .int .i64 l, .int .i64 p], .agg #[.bool o1, .string T, .int .i64 l1, .int .i64 p1], .agg #[.string X, .string Y, .int .i64 k0, .int .i64 k1]] w fun e w' => e = .returned (.bool true) ∧ Below w.heap.size w w' := by
  have hu23 := Try.underlying23
  have hu52 := Try.underlying52
  have hu49 := Try.underlying49
  have hu50 := Try.underlying50
  have G0 := Lib.hid (St3.start w o S l p o1 T l1 p1 #[.string X, .string Y, .int .i64 k0, .int .i64 k1] 52)
  go_enter Try.func6, Try.ntmps6
  go_wp2_with fail
  refine (c9.out _).mono ?_
  rintro e9 w1 ⟨rfl, hb⟩
  have G1 := Lib.hid (G0.out.call hb)
  clear hb G0
  have G1p := Lib.hid (G1.out.put (o' := o) (S' := S') (l' := l) (p' := p))
  obtain ⟨⟨a0, a1, a2, a3⟩, b0, b1, b2, b3⟩ := G1.out.2.1.read
  obtain ⟨⟨d0, d1, d2, d3⟩, f0, f1, f2, f3⟩ := G1p.out.2.2.1.read
  go_wp2_with fail
  refine (c9b.out _).mono ?_
  rintro e9 w2 ⟨rfl, hb⟩
  have G2 := Lib.hid (G1p.out.call hb)
  clear hb G1 G1p a0 a1 a2 a3 b0 b1 b2 b3 d0 d1 d2 d3 f0 f1 f2 f3
  have G2p := Lib.hid (G2.out.put1 (o' := o1) (S' := T') (l' := l1) (p' := p1))
  obtain ⟨⟨d0, d1, d2, d3⟩, f0, f1, f2, f3⟩ := G2.out.2.2.1.read
  go_upto_region 3 with (fail)
  clear G2 d0 d1 d2 d3 f0 f1 f2 f3
  generalize ((((w2.setCell ⟨w.heap.size + 1, 0, none⟩ (.bool o1)).setCell ⟨w.heap.size + 1, 1, none⟩ (.string T')).setCell ⟨w.heap.size + 1, 2, none⟩ (.int .i64 l1)).setCell ⟨w.heap.size + 1, 3, none⟩ (.int .i64 p1)) = w3 at *
  have m0 := (G2p.out.cell 0).trans rfl
  have m1 := (G2p.out.cell 1).trans rfl
  have g0 := G2p.out.froz 0
  have g1 := G2p.out.froz 1
  have h1 := hj.out
  have h3 := hu.out
  have h5 := hx.out
  have h7 := hy.out
  go_quiet (fail)
  have G3 := Lib.hid (G2p.out.drewN nq)
  clear G2p m0 m1 g0 g1 h1 h3 h5 h7
  generalize w3.drewN nq = w4 at *
  obtain ⟨⟨a0, a1, a2, a3⟩, b0, b1, b2, b3⟩ := G3.out.2.1.read
  go_wp2_with fail
  refine (c10.out _).mono ?_
  rintro e10 w5 ⟨rfl, hb⟩
  have G5 := Lib.hid (G3.out.call hb)
  clear hb G3 a0 a1 a2 a3 b0 b1 b2 b3
  obtain ⟨⟨d0, d1, d2, d3⟩, f0, f1, f2, f3⟩ := G5.out.2.2.1.read
  go_wp2_with fail
  refine (c10b.out _).mono ?_
  rintro e10 w6 ⟨rfl, hb⟩
  have G6 := Lib.hid (G5.out.call hb)
  clear hb G5 d0 d1 d2 d3 f0 f1 f2 f3
  obtain ⟨⟨a0, a1, a2, a3⟩, b0, b1, b2, b3⟩ := G6.out.2.1.read
  obtain ⟨⟨d0, d1, d2, d3⟩, f0, f1, f2, f3⟩ := G6.out.2.2.1.read
  go_upto_region 6 with (fail)
  go_cut [70] (fun v70 wc => v70 = .bool false ∧ Aside0 (St3 w wc o S' l p o1 T' l1 p1 #[.string X, .string Y, .int .i64 k0, .int .i64 k1] 52))
  case first =>
    rcases he.out with rfl | rfl
    · go_wp2_with fail
      go_meet
      case rel => exact ⟨rfl, ⟨G6.out⟩⟩
    · rcases hf.out with rfl | rfl
      · go_wp2_with fail
        go_meet
        case rel => exact ⟨rfl, ⟨G6.out⟩⟩
      · have hq := hPQ.out rfl rfl
        have Hq := Lib.hid hq
        clear hq
        by_cases hst : s = t
        · subst hst
          by_cases ho : o = o1
          · subst ho
            by_cases hS : S' = T'
            · subst hS
              by_cases hl : l = l1
              · subst hl
                by_cases hp : p = p1
                · subst hp
                  obtain rfl : P = Q := Hq.out.2 ⟨rfl, rfl, rfl, rfl, rfl⟩
                  go_wp2_with fail
                  go_meet
                  case rel => exact ⟨rfl, ⟨G6.out⟩⟩
                · have hne : ¬ P = Q := fun z => hp (Hq.out.1 z).2.2.2.2
                  have hne2 := ne_list hne
                  have hne3 : (p == p1) = false := beq_eq_false_iff_ne.mpr hp
                  go_wp2_with fail
                  go_meet
                  case rel => exact ⟨rfl, ⟨G6.out⟩⟩
              · have hne : ¬ P = Q := fun z => hl (Hq.out.1 z).2.2.2.1
                have hne2 := ne_list hne
                have hne3 : (l == l1) = false := beq_eq_false_iff_ne.mpr hl
                go_wp2_with fail
                go_meet
                case rel => exact ⟨rfl, ⟨G6.out⟩⟩
            · have hne : ¬ P = Q := fun z => hS (Hq.out.1 z).2.2.1
              have hne2 := ne_list hne
              have hne3 := ne_list hS
              go_wp2_with fail
              go_meet
              case rel => exact ⟨rfl, ⟨G6.out⟩⟩
          · have hne : ¬ P = Q := fun z => ho (Hq.out.1 z).2.1
            have hne2 := ne_list hne
            have hne3 : (o == o1) = false := beq_eq_false_iff_ne.mpr ho
            go_wp2_with fail
            go_meet
            case rel => exact ⟨rfl, ⟨G6.out⟩⟩
        · have hne : ¬ P = Q := fun z => hst (Hq.out.1 z).1
          have hne2 := ne_list hne
          have hne3 := ne_list hst
          go_wp2_with fail
          go_meet
          case rel => exact ⟨rfl, ⟨G6.out⟩⟩
  case rest =>
    obtain ⟨rfl, hcut⟩ := hcut
    have G7 := Lib.hid hcut.out
    clear hcut G6 a0 a1 a2 a3 b0 b1 b2 b3 d0 d1 d2 d3 f0 f1 f2 f3
    have m2 : wc.cell? ⟨w.heap.size + 1 + 1, 2, none⟩ = some (.int .i64 k0) := (G7.out.cell 2).trans rfl
    have g2 : wc.frozen? ⟨w.heap.size + 1 + 1, 2, none⟩ = false := G7.out.froz 2
    go_wp2_with fail
    refine (c13.out _).mono ?_
    rintro e13 w8 ⟨rfl, hb⟩
    have G8 := Lib.hid (G7.out.call hb)
    clear hb G7 m2 g2
    have m3 : w8.cell? ⟨w.heap.size + 1 + 1, 3, none⟩ = some (.int .i64 k1) := (G8.out.cell 3).trans rfl
    have g3 : w8.frozen? ⟨w.heap.size + 1 + 1, 3, none⟩ = false := G8.out.froz 3
    go_wp2_with fail
    refine (c13b.out _).mono ?_
    rintro e13 w9 ⟨rfl, hb⟩
    have G9 := Lib.hid (G8.out.call hb)
    clear hb G8 m3 g3
    have m2 : w9.cell? ⟨w.heap.size + 1 + 1, 2, none⟩ = some (.int .i64 k0) := (G9.out.cell 2).trans rfl
    have g2 : w9.frozen? ⟨w.heap.size + 1 + 1, 2, none⟩ = false := G9.out.froz 2
    have m3 : w9.cell? ⟨w.heap.size + 1 + 1, 3, none⟩ = some (.int .i64 k1) := (G9.out.cell 3).trans rfl
    have g3 : w9.frozen? ⟨w.heap.size + 1 + 1, 3, none⟩ = false := G9.out.froz 3
    rcases hg.out with rfl | rfl
    · go_wp2_with fail
      refine (cF.out _).mono ?_
      rintro e21 w10 ⟨rfl, hb⟩
      have G10 := Lib.hid (G9.out.call hb)
      clear hb G9
      go_wp2_with fail
      go_ret
      exact ⟨rfl, G10.out.1⟩
    · rcases hh.out with rfl | rfl
      · go_wp2_with fail
        refine (cF.out _).mono ?_
        rintro e21 w10 ⟨rfl, hb⟩
        have G10 := Lib.hid (G9.out.call hb)
        clear hb G9
        go_wp2_with fail
        go_ret
        exact ⟨rfl, G10.out.1⟩
      · have Hq := Lib.hid (hUV.out rfl rfl)
        by_cases hst : s = t
        · subst hst
          by_cases hk : k0 = k1
          · subst hk
            obtain rfl : U = V := Hq.out.2 ⟨rfl, rfl⟩
            go_wp2_with fail
            refine (cF.out _).mono ?_
            rintro e21 w10 ⟨rfl, hb⟩
            have G10 := Lib.hid (G9.out.call hb)
            clear hb G9
            go_wp2_with fail
            go_ret
            exact ⟨rfl, G10.out.1⟩
          · have hne : ¬ U = V := fun z => hk (Hq.out.1 z).2
            have hne2 := ne_list hne
            have hne3 : (k0 == k1) = false := beq_eq_false_iff_ne.mpr hk
            go_wp2_with fail
            refine (cF.out _).mono ?_
            rintro e21 w10 ⟨rfl, hb⟩
            have G10 := Lib.hid (G9.out.call hb)
            clear hb G9
            go_wp2_with fail
            go_ret
            exact ⟨rfl, G10.out.1⟩
        · have hne : ¬ U = V := fun z => hst (Hq.out.1 z).1
          have hne2 := ne_list hne
          have hne3 := ne_list hst
          go_wp2_with fail
          refine (cF.out _).mono ?_
          rintro e21 w10 ⟨rfl, hb⟩
          have G10 := Lib.hid (G9.out.call hb)
          clear hb G9
          go_wp2_with fail
          go_ret
          exact ⟨rfl, G10.out.1⟩
end Go.Proofs.Ytmpfnniekemkbaa.Sides
