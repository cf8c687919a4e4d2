/-
  The walk of WordOrder: numbers' bytes are in the order of the numbers, whatever stands behind; none begin another one's.
-/
import Derived.Test.YtnjfgmabalmgnaaFacts
import Derived.Test.YtnjfgmabalmgnaaPureWordLists
import Derived.Deep.QuietTactic
import Derived.BigQuiet
import Derived.Laws.Rows
namespace Go.Proofs.Ytnjfgmabalmgnaa.Order
open Go.RowKit Go.Proofs.Ytnjfgmabalmgnaa.Q Go.Proofs.Ytnjfgmabalmgnaa.Pure
open Go.Proofs.YtnjfgmabalmgnaaW.PrintWords Go.Proofs.YtnjfgmabalmgnaaW.PrintLast Go.Proofs.YtnjfgmabalmgnaaW.PrintMore
attribute [local go_sem] max2_int min2_int max_two min_two
set_option linter.unusedVariables false
set_option linter.unusedSimpArgs false

theorem below_box (w : World) (u v : Value) : Below w.heap.size w (w.alloc (.cells #[u, v] 34)) := (Below.refl _ _).alloc (Nat.le_refl _) _
theorem box_cell0 (w : World) (u v : Value) : (w.alloc (.cells #[u, v] 34)).cell? ⟨w.heap.size, 0, none⟩ = some u := by simp
theorem box_cell1 (w : World) (u v : Value) : (w.alloc (.cells #[u, v] 34)).cell? ⟨w.heap.size, 1, none⟩ = some v := by simp
theorem below_drewn {B : Nat} {w w' : World} (h : Below B w w') (n : Nat) : Below B w (w'.drewN n) := ⟨h.os, h.tape, h.output, h.size, h.block⟩

set_option maxHeartbeats 4000000 in
set_option maxRecDepth 100000 in
theorem order_eq (a : Nat) (x b0 b1 p0 p1 : ByteArray) (j0 j1 : Nat) (hj0 : Hid ((if 20 < (b0.size : Int) then 20 else (b0.size : Int)) = (j0 : Int))) (hj1 : Hid ((if 20 < (b1.size : Int) then 20 else (b1.size : Int)) = (j1 : Int)))
    (hs0 : j0 ≤ b0.size) (hs1 : j1 ≤ b1.size) (hp0 : Hid (b0.extract 0 j0 = p0)) (hp1 : Hid (b1.extract 0 j1 = p1)) (hz0 : p0.size ≤ 20) (hz1 : p1.size ≤ 20) (hx9 : x.size ≤ 9)
    
    (cA : Hid (∀ W, Calls Try.prog 14 #[.int .u64 a] W fun e w' => e = .returned (.string x) ∧ Below W.heap.size W w'))
    (cB : Hid (∀ W, Calls Try.prog 14 #[.int .u64 a] W fun e w' => e = .returned (.string x) ∧ Below W.heap.size W w'))
    (cX : Hid (∀ W, Calls Try.prog 19 #[] W fun e w' => e = .returned (.bool true) ∧ Below W.heap.size W w')) (w : World) :
    Calls Try.prog 4 #[.int .u64 a, .int .u64 a, .agg #[.string b0, .string b1]] w fun e w' => e = .returned (.bool true) ∧ Below w.heap.size w w' := by
  have f2 : Op.bytesLess x.toList x.toList = false := less_self _
  have f5 : x.extract 0 x.size = x := by simp
  have h1 := hj0.out
  have h2 := hj1.out
  have h3 := hp0.out
  have h4 := hp1.out
  have h20 : (9223372036854775807 < x.size + p0.size) = False := eq_false (by omega)
  have h21 : (9223372036854775807 < x.size + p1.size) = False := eq_false (by omega)
  have B0 := Lib.hid (below_box w (.string b0) (.string b1))
  go_enter Try.func4, Try.ntmps4
  go_wp2_with fail
  refine (cA.out _).mono ?_
  rintro e w1 ⟨rfl, hb⟩
  have B1 := Lib.hid (hb.mono (show w.heap.size + 1 ≤ _ by simp))
  clear hb
  go_wp2_with fail
  refine (cB.out _).mono ?_
  rintro e w2 ⟨rfl, hb⟩
  have B2 := Lib.hid (B1.out.trans (hb.mono (Nat.le_trans (by simp) B1.out.size)))
  clear hb B1
  have hc0 := (B2.out.cell (p := ⟨w.heap.size, 0, none⟩) (by simp)).trans (box_cell0 w (.string b0) (.string b1))
  have hc1 := (B2.out.cell (p := ⟨w.heap.size, 1, none⟩) (by simp)).trans (box_cell1 w (.string b0) (.string b1))
  have BB := Lib.hid (B0.out.trans (B2.out.mono (by omega)))
  clear B0 B2
  go_wp2
  go_quiet (fail)
  go_wp2_with fail
  refine (cX.out _).mono ?_
  rintro e w3 ⟨rfl, hb⟩
  have B3 := Lib.hid ((below_drewn BB.out nq).trans (hb.mono (Nat.le_trans BB.out.size (by simp))))
  clear hb
  go_wp2_with fail
  go_ret
  exact ⟨rfl, B3.out⟩

set_option maxHeartbeats 4000000 in
set_option maxRecDepth 100000 in
theorem order_true_lt (a b : Nat) (x y b0 b1 p0 p1 : ByteArray) (j0 j1 : Nat) (hj0 : Hid ((if 20 < (b0.size : Int) then 20 else (b0.size : Int)) = (j0 : Int))) (hj1 : Hid ((if 20 < (b1.size : Int) then 20 else (b1.size : Int)) = (j1 : Int)))
    (hs0 : j0 ≤ b0.size) (hs1 : j1 ≤ b1.size) (hp0 : Hid (b0.extract 0 j0 = p0)) (hp1 : Hid (b1.extract 0 j1 = p1)) (hz0 : p0.size ≤ 20) (hz1 : p1.size ≤ 20) (hx9 : x.size ≤ 9) (hy9 : y.size ≤ 9)
    (hab : a < b) (hlen : x.size < y.size) (g2 : Hid (Op.bytesLess x.toList y.toList = true)) (g4 : Hid (Op.bytesLess (x ++ p0).toList (y ++ p1).toList = true))
    (g5 : Hid (((y.extract 0 x.size).toList == x.toList) = false)) (g6 : Hid (((x.extract 0 y.size).toList == y.toList) = false))
    (cA : Hid (∀ W, Calls Try.prog 14 #[.int .u64 a] W fun e w' => e = .returned (.string x) ∧ Below W.heap.size W w'))
    (cB : Hid (∀ W, Calls Try.prog 14 #[.int .u64 b] W fun e w' => e = .returned (.string y) ∧ Below W.heap.size W w'))
    (cX : Hid (∀ W, Calls Try.prog 19 #[] W fun e w' => e = .returned (.bool true) ∧ Below W.heap.size W w')) (w : World) :
    Calls Try.prog 4 #[.int .u64 a, .int .u64 b, .agg #[.string b0, .string b1]] w fun e w' => e = .returned (.bool true) ∧ Below w.heap.size w w' := by
  have f1 : decide ((a : Int) < (b : Int)) = true := by simp; omega
  have f1n : decide (a < b) = true := by simp; omega
  have f3 : ((a : Int) == (b : Int)) = false := by rw [beq_eq_false_iff_ne]; omega
  have f2 := g2.out
  have f4 := g4.out
  have f5 := g5.out
  have f6 := g6.out
  have f7 : decide ((x.size : Int) ≤ (y.size : Int)) = true := by simp; omega
  have f8 : decide ((y.size : Int) ≤ (x.size : Int)) = false := by simp; omega
  have h1 := hj0.out
  have h2 := hj1.out
  have h3 := hp0.out
  have h4 := hp1.out
  have h20 : (9223372036854775807 < x.size + p0.size) = False := eq_false (by omega)
  have h21 : (9223372036854775807 < y.size + p1.size) = False := eq_false (by omega)
  have B0 := Lib.hid (below_box w (.string b0) (.string b1))
  go_enter Try.func4, Try.ntmps4
  go_wp2_with fail
  refine (cA.out _).mono ?_
  rintro e w1 ⟨rfl, hb⟩
  have B1 := Lib.hid (hb.mono (show w.heap.size + 1 ≤ _ by simp))
  clear hb
  go_wp2_with fail
  refine (cB.out _).mono ?_
  rintro e w2 ⟨rfl, hb⟩
  have B2 := Lib.hid (B1.out.trans (hb.mono (Nat.le_trans (by simp) B1.out.size)))
  clear hb B1
  have hc0 := (B2.out.cell (p := ⟨w.heap.size, 0, none⟩) (by simp)).trans (box_cell0 w (.string b0) (.string b1))
  have hc1 := (B2.out.cell (p := ⟨w.heap.size, 1, none⟩) (by simp)).trans (box_cell1 w (.string b0) (.string b1))
  have BB := Lib.hid (B0.out.trans (B2.out.mono (by omega)))
  clear B0 B2
  go_wp2
  go_quiet (fail)
  go_wp2_with fail
  refine (cX.out _).mono ?_
  rintro e w3 ⟨rfl, hb⟩
  have B3 := Lib.hid ((below_drewn BB.out nq).trans (hb.mono (Nat.le_trans BB.out.size (by simp))))
  clear hb
  go_wp2_with fail
  go_ret
  exact ⟨rfl, B3.out⟩

set_option maxHeartbeats 4000000 in
set_option maxRecDepth 100000 in
theorem order_true_eq (a b : Nat) (x y b0 b1 p0 p1 : ByteArray) (j0 j1 : Nat) (hj0 : Hid ((if 20 < (b0.size : Int) then 20 else (b0.size : Int)) = (j0 : Int))) (hj1 : Hid ((if 20 < (b1.size : Int) then 20 else (b1.size : Int)) = (j1 : Int)))
    (hs0 : j0 ≤ b0.size) (hs1 : j1 ≤ b1.size) (hp0 : Hid (b0.extract 0 j0 = p0)) (hp1 : Hid (b1.extract 0 j1 = p1)) (hz0 : p0.size ≤ 20) (hz1 : p1.size ≤ 20) (hx9 : x.size ≤ 9) (hy9 : y.size ≤ 9)
    (hab : a < b) (hlen : Hid (x.size = y.size)) (g2 : Hid (Op.bytesLess x.toList y.toList = true)) (g4 : Hid (Op.bytesLess (x ++ p0).toList (y ++ p1).toList = true))
    (g5 : Hid (((y.extract 0 x.size).toList == x.toList) = false)) (g6 : Hid (((x.extract 0 y.size).toList == y.toList) = false))
    (cA : Hid (∀ W, Calls Try.prog 14 #[.int .u64 a] W fun e w' => e = .returned (.string x) ∧ Below W.heap.size W w'))
    (cB : Hid (∀ W, Calls Try.prog 14 #[.int .u64 b] W fun e w' => e = .returned (.string y) ∧ Below W.heap.size W w'))
    (cX : Hid (∀ W, Calls Try.prog 19 #[] W fun e w' => e = .returned (.bool true) ∧ Below W.heap.size W w')) (w : World) :
    Calls Try.prog 4 #[.int .u64 a, .int .u64 b, .agg #[.string b0, .string b1]] w fun e w' => e = .returned (.bool true) ∧ Below w.heap.size w w' := by
  have f1 : decide ((a : Int) < (b : Int)) = true := by simp; omega
  have f1n : decide (a < b) = true := by simp; omega
  have f3 : ((a : Int) == (b : Int)) = false := by rw [beq_eq_false_iff_ne]; omega
  have f2 := g2.out
  have f4 := g4.out
  have f5 := g5.out
  have f6 := g6.out
  have f7 : decide ((x.size : Int) ≤ (y.size : Int)) = true := by have := hlen.out; simp; omega
  have f8 : decide ((y.size : Int) ≤ (x.size : Int)) = true := by have := hlen.out; simp; omega
  have f9 : x.size ≤ y.size := by have := hlen.out; omega
  have f10 : y.size ≤ x.size := by have := hlen.out; omega
  have h1 := hj0.out
  have h2 := hj1.out
  have h3 := hp0.out
  have h4 := hp1.out
  have h20 : (9223372036854775807 < x.size + p0.size) = False := eq_false (by omega)
  have h21 : (9223372036854775807 < y.size + p1.size) = False := eq_false (by omega)
  have B0 := Lib.hid (below_box w (.string b0) (.string b1))
  go_enter Try.func4, Try.ntmps4
  go_wp2_with fail
  refine (cA.out _).mono ?_
  rintro e w1 ⟨rfl, hb⟩
  have B1 := Lib.hid (hb.mono (show w.heap.size + 1 ≤ _ by simp))
  clear hb
  go_wp2_with fail
  refine (cB.out _).mono ?_
  rintro e w2 ⟨rfl, hb⟩
  have B2 := Lib.hid (B1.out.trans (hb.mono (Nat.le_trans (by simp) B1.out.size)))
  clear hb B1
  have hc0 := (B2.out.cell (p := ⟨w.heap.size, 0, none⟩) (by simp)).trans (box_cell0 w (.string b0) (.string b1))
  have hc1 := (B2.out.cell (p := ⟨w.heap.size, 1, none⟩) (by simp)).trans (box_cell1 w (.string b0) (.string b1))
  have BB := Lib.hid (B0.out.trans (B2.out.mono (by omega)))
  clear B0 B2
  go_wp2
  go_quiet (fail)
  go_wp2_with fail
  refine (cX.out _).mono ?_
  rintro e w3 ⟨rfl, hb⟩
  have B3 := Lib.hid ((below_drewn BB.out nq).trans (hb.mono (Nat.le_trans BB.out.size (by simp))))
  clear hb
  go_wp2_with fail
  go_ret
  exact ⟨rfl, B3.out⟩

set_option maxHeartbeats 4000000 in
set_option maxRecDepth 100000 in
theorem order_true_gt (a b : Nat) (x y b0 b1 p0 p1 : ByteArray) (j0 j1 : Nat) (hj0 : Hid ((if 20 < (b0.size : Int) then 20 else (b0.size : Int)) = (j0 : Int))) (hj1 : Hid ((if 20 < (b1.size : Int) then 20 else (b1.size : Int)) = (j1 : Int)))
    (hs0 : j0 ≤ b0.size) (hs1 : j1 ≤ b1.size) (hp0 : Hid (b0.extract 0 j0 = p0)) (hp1 : Hid (b1.extract 0 j1 = p1)) (hz0 : p0.size ≤ 20) (hz1 : p1.size ≤ 20) (hx9 : x.size ≤ 9) (hy9 : y.size ≤ 9)
    (hab : a < b) (hlen : y.size < x.size) (g2 : Hid (Op.bytesLess x.toList y.toList = true)) (g4 : Hid (Op.bytesLess (x ++ p0).toList (y ++ p1).toList = true))
    (g5 : Hid (((y.extract 0 x.size).toList == x.toList) = false)) (g6 : Hid (((x.extract 0 y.size).toList == y.toList) = false))
    (cA : Hid (∀ W, Calls Try.prog 14 #[.int .u64 a] W fun e w' => e = .returned (.string x) ∧ Below W.heap.size W w'))
    (cB : Hid (∀ W, Calls Try.prog 14 #[.int .u64 b] W fun e w' => e = .returned (.string y) ∧ Below W.heap.size W w'))
    (cX : Hid (∀ W, Calls Try.prog 19 #[] W fun e w' => e = .returned (.bool true) ∧ Below W.heap.size W w')) (w : World) :
    Calls Try.prog 4 #[.int .u64 a, .int .u64 b, .agg #[.string b0, .string b1]] w fun e w' => e = .returned (.bool true) ∧ Below w.heap.size w w' := by
  have f1 : decide ((a : Int) < (b : Int)) = true := by simp; omega
  have f1n : decide (a < b) = true := by simp; omega
  have f3 : ((a : Int) == (b : Int)) = false := by rw [beq_eq_false_iff_ne]; omega
  have f2 := g2.out
  have f4 := g4.out
  have f5 := g5.out
  have f6 := g6.out
  have f7 : decide ((x.size : Int) ≤ (y.size : Int)) = false := by simp; omega
  have f8 : decide ((y.size : Int) ≤ (x.size : Int)) = true := by simp; omega
  have h1 := hj0.out
  have h2 := hj1.out
  have h3 := hp0.out
  have h4 := hp1.out
  have h20 : (9223372036854775807 < x.size + p0.size) = False := eq_false (by omega)
  have h21 : (9223372036854775807 < y.size + p1.size) = False := eq_false (by omega)
  have B0 := Lib.hid (below_box w (.string b0) (.string b1))
  go_enter Try.func4, Try.ntmps4
  go_wp2_with fail
  refine (cA.out _).mono ?_
  rintro e w1 ⟨rfl, hb⟩
  have B1 := Lib.hid (hb.mono (show w.heap.size + 1 ≤ _ by simp))
  clear hb
  go_wp2_with fail
  refine (cB.out _).mono ?_
  rintro e w2 ⟨rfl, hb⟩
  have B2 := Lib.hid (B1.out.trans (hb.mono (Nat.le_trans (by simp) B1.out.size)))
  clear hb B1
  have hc0 := (B2.out.cell (p := ⟨w.heap.size, 0, none⟩) (by simp)).trans (box_cell0 w (.string b0) (.string b1))
  have hc1 := (B2.out.cell (p := ⟨w.heap.size, 1, none⟩) (by simp)).trans (box_cell1 w (.string b0) (.string b1))
  have BB := Lib.hid (B0.out.trans (B2.out.mono (by omega)))
  clear B0 B2
  go_wp2
  go_quiet (fail)
  go_wp2_with fail
  refine (cX.out _).mono ?_
  rintro e w3 ⟨rfl, hb⟩
  have B3 := Lib.hid ((below_drewn BB.out nq).trans (hb.mono (Nat.le_trans BB.out.size (by simp))))
  clear hb
  go_wp2_with fail
  go_ret
  exact ⟨rfl, B3.out⟩

set_option maxHeartbeats 4000000 in
set_option maxRecDepth 100000 in
theorem order_false_lt (a b : Nat) (x y b0 b1 p0 p1 : ByteArray) (j0 j1 : Nat) (hj0 : Hid ((if 20 < (b0.size : Int) then 20 else (b0.size : Int)) = (j0 : Int))) (hj1 : Hid ((if 20 < (b1.size : Int) then 20 else (b1.size : Int)) = (j1 : Int)))
    (hs0 : j0 ≤ b0.size) (hs1 : j1 ≤ b1.size) (hp0 : Hid (b0.extract 0 j0 = p0)) (hp1 : Hid (b1.extract 0 j1 = p1)) (hz0 : p0.size ≤ 20) (hz1 : p1.size ≤ 20) (hx9 : x.size ≤ 9) (hy9 : y.size ≤ 9)
    (hab : b < a) (hlen : x.size < y.size) (g2 : Hid (Op.bytesLess x.toList y.toList = false)) (g4 : Hid (Op.bytesLess (x ++ p0).toList (y ++ p1).toList = false))
    (g5 : Hid (((y.extract 0 x.size).toList == x.toList) = false)) (g6 : Hid (((x.extract 0 y.size).toList == y.toList) = false))
    (cA : Hid (∀ W, Calls Try.prog 14 #[.int .u64 a] W fun e w' => e = .returned (.string x) ∧ Below W.heap.size W w'))
    (cB : Hid (∀ W, Calls Try.prog 14 #[.int .u64 b] W fun e w' => e = .returned (.string y) ∧ Below W.heap.size W w'))
    (cX : Hid (∀ W, Calls Try.prog 19 #[] W fun e w' => e = .returned (.bool true) ∧ Below W.heap.size W w')) (w : World) :
    Calls Try.prog 4 #[.int .u64 a, .int .u64 b, .agg #[.string b0, .string b1]] w fun e w' => e = .returned (.bool true) ∧ Below w.heap.size w w' := by
  have f1 : decide ((a : Int) < (b : Int)) = false := by simp; omega
  have f1n : decide (a < b) = false := by simp; omega
  have f3 : ((a : Int) == (b : Int)) = false := by rw [beq_eq_false_iff_ne]; omega
  have f2 := g2.out
  have f4 := g4.out
  have f5 := g5.out
  have f6 := g6.out
  have f7 : decide ((x.size : Int) ≤ (y.size : Int)) = true := by simp; omega
  have f8 : decide ((y.size : Int) ≤ (x.size : Int)) = false := by simp; omega
  have h1 := hj0.out
  have h2 := hj1.out
  have h3 := hp0.out
  have h4 := hp1.out
  have h20 : (9223372036854775807 < x.size + p0.size) = False := eq_false (by omega)
  have h21 : (9223372036854775807 < y.size + p1.size) = False := eq_false (by omega)
  have B0 := Lib.hid (below_box w (.string b0) (.string b1))
  go_enter Try.func4, Try.ntmps4
  go_wp2_with fail
  refine (cA.out _).mono ?_
  rintro e w1 ⟨rfl, hb⟩
  have B1 := Lib.hid (hb.mono (show w.heap.size + 1 ≤ _ by simp))
  clear hb
  go_wp2_with fail
  refine (cB.out _).mono ?_
  rintro e w2 ⟨rfl, hb⟩
  have B2 := Lib.hid (B1.out.trans (hb.mono (Nat.le_trans (by simp) B1.out.size)))
  clear hb B1
  have hc0 := (B2.out.cell (p := ⟨w.heap.size, 0, none⟩) (by simp)).trans (box_cell0 w (.string b0) (.string b1))
  have hc1 := (B2.out.cell (p := ⟨w.heap.size, 1, none⟩) (by simp)).trans (box_cell1 w (.string b0) (.string b1))
  have BB := Lib.hid (B0.out.trans (B2.out.mono (by omega)))
  clear B0 B2
  go_wp2
  go_quiet (fail)
  go_wp2_with fail
  refine (cX.out _).mono ?_
  rintro e w3 ⟨rfl, hb⟩
  have B3 := Lib.hid ((below_drewn BB.out nq).trans (hb.mono (Nat.le_trans BB.out.size (by simp))))
  clear hb
  go_wp2_with fail
  go_ret
  exact ⟨rfl, B3.out⟩

set_option maxHeartbeats 4000000 in
set_option maxRecDepth 100000 in
theorem order_false_eq (a b : Nat) (x y b0 b1 p0 p1 : ByteArray) (j0 j1 : Nat) (hj0 : Hid ((if 20 < (b0.size : Int) then 20 else (b0.size : Int)) = (j0 : Int))) (hj1 : Hid ((if 20 < (b1.size : Int) then 20 else (b1.size : Int)) = (j1 : Int)))
    (hs0 : j0 ≤ b0.size) (hs1 : j1 ≤ b1.size) (hp0 : Hid (b0.extract 0 j0 = p0)) (hp1 : Hid (b1.extract 0 j1 = p1)) (hz0 : p0.size ≤ 20) (hz1 : p1.size ≤ 20) (hx9 : x.size ≤ 9) (hy9 : y.size ≤ 9)
    (hab : b < a) (hlen : Hid (x.size = y.size)) (g2 : Hid (Op.bytesLess x.toList y.toList = false)) (g4 : Hid (Op.bytesLess (x ++ p0).toList (y ++ p1).toList = false))
    (g5 : Hid (((y.extract 0 x.size).toList == x.toList) = false)) (g6 : Hid (((x.extract 0 y.size).toList == y.toList) = false))
    (cA : Hid (∀ W, Calls Try.prog 14 #[.int .u64 a] W fun e w' => e = .returned (.string x) ∧ Below W.heap.size W w'))
    (cB : Hid (∀ W, Calls Try.prog 14 #[.int .u64 b] W fun e w' => e = .returned (.string y) ∧ Below W.heap.size W w'))
    (cX : Hid (∀ W, Calls Try.prog 19 #[] W fun e w' => e = .returned (.bool true) ∧ Below W.heap.size W w')) (w : World) :
    Calls Try.prog 4 #[.int .u64 a, .int .u64 b, .agg #[.string b0, .string b1]] w fun e w' => e = .returned (.bool true) ∧ Below w.heap.size w w' := by
  have f1 : decide ((a : Int) < (b : Int)) = false := by simp; omega
  have f1n : decide (a < b) = false := by simp; omega
  have f3 : ((a : Int) == (b : Int)) = false := by rw [beq_eq_false_iff_ne]; omega
  have f2 := g2.out
  have f4 := g4.out
  have f5 := g5.out
  have f6 := g6.out
  have f7 : decide ((x.size : Int) ≤ (y.size : Int)) = true := by have := hlen.out; simp; omega
  have f8 : decide ((y.size : Int) ≤ (x.size : Int)) = true := by have := hlen.out; simp; omega
  have f9 : x.size ≤ y.size := by have := hlen.out; omega
  have f10 : y.size ≤ x.size := by have := hlen.out; omega
  have h1 := hj0.out
  have h2 := hj1.out
  have h3 := hp0.out
  have h4 := hp1.out
  have h20 : (9223372036854775807 < x.size + p0.size) = False := eq_false (by omega)
  have h21 : (9223372036854775807 < y.size + p1.size) = False := eq_false (by omega)
  have B0 := Lib.hid (below_box w (.string b0) (.string b1))
  go_enter Try.func4, Try.ntmps4
  go_wp2_with fail
  refine (cA.out _).mono ?_
  rintro e w1 ⟨rfl, hb⟩
  have B1 := Lib.hid (hb.mono (show w.heap.size + 1 ≤ _ by simp))
  clear hb
  go_wp2_with fail
  refine (cB.out _).mono ?_
  rintro e w2 ⟨rfl, hb⟩
  have B2 := Lib.hid (B1.out.trans (hb.mono (Nat.le_trans (by simp) B1.out.size)))
  clear hb B1
  have hc0 := (B2.out.cell (p := ⟨w.heap.size, 0, none⟩) (by simp)).trans (box_cell0 w (.string b0) (.string b1))
  have hc1 := (B2.out.cell (p := ⟨w.heap.size, 1, none⟩) (by simp)).trans (box_cell1 w (.string b0) (.string b1))
  have BB := Lib.hid (B0.out.trans (B2.out.mono (by omega)))
  clear B0 B2
  go_wp2
  go_quiet (fail)
  go_wp2_with fail
  refine (cX.out _).mono ?_
  rintro e w3 ⟨rfl, hb⟩
  have B3 := Lib.hid ((below_drewn BB.out nq).trans (hb.mono (Nat.le_trans BB.out.size (by simp))))
  clear hb
  go_wp2_with fail
  go_ret
  exact ⟨rfl, B3.out⟩

set_option maxHeartbeats 4000000 in
set_option maxRecDepth 100000 in
theorem order_false_gt (a b : Nat) (x y b0 b1 p0 p1 : ByteArray) (j0 j1 : Nat) (hj0 : Hid ((if 20 < (b0.size : Int) then 20 else (b0.size : Int)) = (j0 : Int))) (hj1 : Hid ((if 20 < (b1.size : Int) then 20 else (b1.size : Int)) = (j1 : Int)))
    (hs0 : j0 ≤ b0.size) (hs1 : j1 ≤ b1.size) (hp0 : Hid (b0.extract 0 j0 = p0)) (hp1 : Hid (b1.extract 0 j1 = p1)) (hz0 : p0.size ≤ 20) (hz1 : p1.size ≤ 20) (hx9 : x.size ≤ 9) (hy9 : y.size ≤ 9)
    (hab : b < a) (hlen : y.size < x.size) (g2 : Hid (Op.bytesLess x.toList y.toList = false)) (g4 : Hid (Op.bytesLess (x ++ p0).toList (y ++ p1).toList = false))
    (g5 : Hid (((y.extract 0 x.size).toList == x.toList) = false)) (g6 : Hid (((x.extract 0 y.size).toList == y.toList) = false))
    (cA : Hid (∀ W, Calls Try.prog 14 #[.int .u64 a] W fun e w' => e = .returned (.string x) ∧ Below W.heap.size W w'))
    (cB : Hid (∀ W, Calls Try.prog 14 #[.int .u64 b] W fun e w' => e = .returned (.string y) ∧ Below W.heap.size W w'))
    (cX : Hid (∀ W, Calls Try.prog 19 #[] W fun e w' => e = .returned (.bool true) ∧ Below W.heap.size W w')) (w : World) :
    Calls Try.prog 4 #[.int .u64 a, .int .u64 b, .agg #[.string b0, .string b1]] w fun e w' => e = .returned (.bool true) ∧ Below w.heap.size w w' := by
  have f1 : decide ((a : Int) < (b : Int)) = false := by simp; omega
  have f1n : decide (a < b) = false := by simp; omega
  have f3 : ((a : Int) == (b : Int)) = false := by rw [beq_eq_false_iff_ne]; omega
  have f2 := g2.out
  have f4 := g4.out
  have f5 := g5.out
  have f6 := g6.out
  have f7 : decide ((x.size : Int) ≤ (y.size : Int)) = false := by simp; omega
  have f8 : decide ((y.size : Int) ≤ (x.size : Int)) = true := by simp; omega
  have h1 := hj0.out
  have h2 := hj1.out
  have h3 := hp0.out
  have h4 := hp1.out
  have h20 : (9223372036854775807 < x.size + p0.size) = False := eq_false (by omega)
  have h21 : (9223372036854775807 < y.size + p1.size) = False := eq_false (by omega)
  have B0 := Lib.hid (below_box w (.string b0) (.string b1))
  go_enter Try.func4, Try.ntmps4
  go_wp2_with fail
  refine (cA.out _).mono ?_
  rintro e w1 ⟨rfl, hb⟩
  have B1 := Lib.hid (hb.mono (show w.heap.size + 1 ≤ _ by simp))
  clear hb
  go_wp2_with fail
  refine (cB.out _).mono ?_
  rintro e w2 ⟨rfl, hb⟩
  have B2 := Lib.hid (B1.out.trans (hb.mono (Nat.le_trans (by simp) B1.out.size)))
  clear hb B1
  have hc0 := (B2.out.cell (p := ⟨w.heap.size, 0, none⟩) (by simp)).trans (box_cell0 w (.string b0) (.string b1))
  have hc1 := (B2.out.cell (p := ⟨w.heap.size, 1, none⟩) (by simp)).trans (box_cell1 w (.string b0) (.string b1))
  have BB := Lib.hid (B0.out.trans (B2.out.mono (by omega)))
  clear B0 B2
  go_wp2
  go_quiet (fail)
  go_wp2_with fail
  refine (cX.out _).mono ?_
  rintro e w3 ⟨rfl, hb⟩
  have B3 := Lib.hid ((below_drewn BB.out nq).trans (hb.mono (Nat.le_trans BB.out.size (by simp))))
  clear hb
  go_wp2_with fail
  go_ret
  exact ⟨rfl, B3.out⟩

theorem okWide_arr {P : Program} {w : World} {r : Reach} {base : Nat} {t e : TypeId} {n : Nat} {v : Value} (ht : P.underlying t = some (.array n e)) (h : Value.okWide P w r base t v) : ∃ cs, v = .agg cs ∧ cs.size = P.cellsOf t := by
  unfold Value.okWide at h
  rw [ht] at h
  obtain ⟨cs, h1, h2, _⟩ := h
  exact ⟨cs, h1, h2⟩

theorem not_begins {x y : ByteArray} (h : ¬ L x <+: L y) (hl : x.size ≤ y.size) : ((y.extract 0 x.size).toList == x.toList) = false := by
  rw [beq_eq_false_iff_ne, L_toList, L_toList, L_extract, List.drop_zero, Nat.sub_zero]
  intro e
  refine h ⟨(L y).drop x.size, ?_⟩
  rw [← e, List.take_append_drop]
theorem not_begins_of {x y : ByteArray} (h : ¬ L x <+: L y) : ((y.extract 0 x.size).toList == x.toList) = false := by
  rcases Nat.le_total x.size y.size with hl | hl
  · exact not_begins h hl
  · rcases Nat.lt_or_ge y.size x.size with h2 | h2
    · rw [beq_eq_false_iff_ne, L_toList, L_toList, L_extract, List.drop_zero, Nat.sub_zero, List.take_of_length_le (by rw [L_length]; omega)]
      intro e
      have := congrArg List.length e
      rw [L_length, L_length] at this
      omega
    · exact not_begins h (by omega)

theorem walk (a0 b0 : Int) (s0 s1 : ByteArray) (w : World) (h0 : (Lit.int .u64 a0).wf = true) (h1 : (Lit.int .u64 b0).wf = true) :
    Calls Try.prog 4 #[.int .u64 a0, .int .u64 b0, .agg #[.string s0, .string s1]] w fun e w' => e = .returned (.bool true) ∧ Below w.heap.size w w' := by
  obtain ⟨a, rfl, ha⟩ := u64_nat h0
  obtain ⟨b, rfl, hb⟩ := u64_nat h1
  have za := B_size_le a
  have zb := B_size_le b
  obtain ⟨j0, hj0⟩ : ∃ j : Nat, j = min 20 s0.size := ⟨_, rfl⟩
  obtain ⟨j1, hj1⟩ : ∃ j : Nat, j = min 20 s1.size := ⟨_, rfl⟩
  have z0 : (s0.extract 0 j0).size = j0 := by rw [ByteArray.size_extract]; omega
  have z1 : (s1.extract 0 j1).size = j1 := by rw [ByteArray.size_extract]; omega
  have e0 : (if 20 < (s0.size : Int) then 20 else (s0.size : Int)) = (j0 : Int) := by split <;> omega
  have e1 : (if 20 < (s1.size : Int) then 20 else (s1.size : Int)) = (j1 : Int) := by split <;> omega
  have cA := fun W => word_Put.calls 80 a _ W (put_some 80 a ha (by decide))
  have cB := fun W => word_Put.calls 80 b _ W (put_some 80 b hb (by decide))
  have cX := fun W => withylaw01_fixed.calls _ W fixed_some
  have i0 : j0 ≤ s0.size := by omega
  have i1 : j1 ≤ s1.size := by omega
  generalize hp0 : s0.extract 0 j0 = p0 at *
  generalize hp1 : s1.extract 0 j1 = p1 at *
  rcases Nat.lt_trichotomy a b with hab | hab | hab
  · have hp := Wm.enc_part hab hb
    have hn := hp.not_prefix
    have hl := less_part hp
    have hl2 := less_part (hp.behind (L p0) (L p1))
    rw [← L_B, ← L_B] at hn hl hl2
    rw [← L_append, ← L_append] at hl2
    have g5 := not_begins_of hn.1
    have g6 := not_begins_of hn.2
    rcases Nat.lt_trichotomy (B a).size (B b).size with hq | hq | hq
    · exact order_true_lt a b _ _ s0 s1 p0 p1 j0 j1 e0 e1 i0 i1 hp0 hp1 (by omega) (by omega) (by omega) (by omega) hab hq (by rw [L_toList, L_toList]; exact hl.1) (by rw [L_toList, L_toList]; exact hl2.1) g5 g6 cA cB cX w
    · exact order_true_eq a b _ _ s0 s1 p0 p1 j0 j1 e0 e1 i0 i1 hp0 hp1 (by omega) (by omega) (by omega) (by omega) hab hq (by rw [L_toList, L_toList]; exact hl.1) (by rw [L_toList, L_toList]; exact hl2.1) g5 g6 cA cB cX w
    · exact order_true_gt a b _ _ s0 s1 p0 p1 j0 j1 e0 e1 i0 i1 hp0 hp1 (by omega) (by omega) (by omega) (by omega) hab hq (by rw [L_toList, L_toList]; exact hl.1) (by rw [L_toList, L_toList]; exact hl2.1) g5 g6 cA cB cX w
  · subst hab
    exact order_eq a _ s0 s1 p0 p1 j0 j1 e0 e1 i0 i1 hp0 hp1 (by omega) (by omega) (by omega) cA cA cX w
  · have hp := Wm.enc_part hab ha
    have hn := hp.not_prefix
    have hl := less_part hp
    have hl2 := less_part (hp.behind (L p1) (L p0))
    rw [← L_B, ← L_B] at hn hl hl2
    rw [← L_append, ← L_append] at hl2
    have g5 := not_begins_of hn.2
    have g6 := not_begins_of hn.1
    rcases Nat.lt_trichotomy (B a).size (B b).size with hq | hq | hq
    · exact order_false_lt a b _ _ s0 s1 p0 p1 j0 j1 e0 e1 i0 i1 hp0 hp1 (by omega) (by omega) (by omega) (by omega) hab hq (by rw [L_toList, L_toList]; exact hl.2) (by rw [L_toList, L_toList]; exact hl2.2) g5 g6 cA cB cX w
    · exact order_false_eq a b _ _ s0 s1 p0 p1 j0 j1 e0 e1 i0 i1 hp0 hp1 (by omega) (by omega) (by omega) (by omega) hab hq (by rw [L_toList, L_toList]; exact hl.2) (by rw [L_toList, L_toList]; exact hl2.2) g5 g6 cA cB cX w
    · exact order_false_gt a b _ _ s0 s1 p0 p1 j0 j1 e0 e1 i0 i1 hp0 hp1 (by omega) (by omega) (by omega) (by omega) hab hq (by rw [L_toList, L_toList]; exact hl.2) (by rw [L_toList, L_toList]; exact hl2.2) g5 g6 cA cB cX w
end Go.Proofs.Ytnjfgmabalmgnaa.Order
