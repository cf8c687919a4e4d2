/-
  The walk of CellSizes.
-/
import Derived.Test.YtmpfnniekemkbaaCases
import Derived.Test.YtmpfnniekemkbaaRef
import Derived.Test.YtmpfnniekemkbaaFixed
import Derived.Deep.RegionWith
namespace Go.Proofs.Ytmpfnniekemkbaa.Sizes
open Go.RowKit Go.Proofs.Ytmpfnniekemkbaa.Q Go.Proofs.Ytmpfnniekemkbaa.Pure
open Go.Proofs.YtmpfnniekemkbaaW.PrintWords Go.Proofs.YtmpfnniekemkbaaW.PrintMore
open Go.Proofs.Ytmpfnniekemkbaa.Hand (put4 below4)
attribute [local go_sem] max2_int min2_int max_two min_two
set_option linter.unusedVariables false

theorem wr {x : Int} (h0 : 0 ≤ x) (h1 : x ≤ 100000) : IntKind.i64.wrap x = x := by
  simp [IntKind.wrap, IntKind.bits, IntKind.signed]
  omega

set_option maxHeartbeats 4000000 in
set_option maxRecDepth 100000 in
theorem none_walk (s u S S' : ByteArray) (o : Bool) (l p kid : Int) (j : Nat) (hj : Hid ((if 128 < (s.size : Int) then 128 else (s.size : Int)) = (j : Int))) (hjs : j ≤ s.size) (hu : Hid (s.extract 0 j = u)) (hu2 : u.size ≤ 128) (b t : ByteArray) (hb9 : b.size ≤ 9) (f : Int)
    (ht : Hid ((f = 3 ∧ t = ⟨#[]⟩) ∨ (f = 0 ∧ t.size = b.size + u.size + 4)))
    (c9 : Hid (∀ W, Calls Try.prog 9 #[.agg #[.bool o, .string S, .int .i64 l, .int .i64 p]] W fun e w' => e = .returned (.agg #[.bool o, .string S', .int .i64 l, .int .i64 p]) ∧ Below W.heap.size W w'))
    (c10 : Hid (∀ W, Calls Try.prog 10 #[.string u, .agg #[.bool o, .string S', .int .i64 l, .int .i64 p]] W fun e w' => e = .returned (.tuple #[.string ⟨#[]⟩, .int .i64 3]) ∧ Below W.heap.size W w'))
    (c22 : Hid (∀ W, Calls Try.prog 22 #[.int .u64 u.size] W fun e w' => e = .returned (.string b) ∧ Below W.heap.size W w'))
    (c13 : Hid (∀ W, Calls Try.prog 13 #[.int .i64 kid, .string u] W fun e w' => e = .returned (.tuple #[.string t, .int .i64 f]) ∧ Below W.heap.size W w'))
    (cF : Hid (∀ W, Calls Try.prog 21 #[] W fun e w' => e = .returned (.bool true) ∧ Below W.heap.size W w')) (w : World) :
    Calls Try.prog 7 #[.string s, .agg #[.bool o, .string S, .int .i64 l, .int .i64 p], .int .i64 kid] w fun e w' => e = .returned (.bool true) ∧ Below w.heap.size w w' := by
  have h1 := hj.out
  have h3 := hu.out
  have hu23 := Try.underlying23
  have B0 := Lib.hid (below_alloc (Below.refl w.heap.size w) (.cells #[.bool o, .string S, .int .i64 l, .int .i64 p] 23))
  have V0 := Lib.hid (heap_alloc_new w (.cells #[.bool o, .string S, .int .i64 l, .int .i64 p] 23))
  go_enter Try.func7, Try.ntmps7
  go_wp2_with fail
  refine (c9.out _).mono ?_
  rintro e w1 ⟨rfl, hb⟩
  have B1 := Lib.hid (below_step B0.out hb)
  have V1 := Lib.hid (blk_below V0.out hb)
  clear hb B0 V0
  have k0 : w1.cell? ⟨w.heap.size, 0, none⟩ = some (.bool o) := (blk_cell V1.out 0).trans rfl
  have k1 : w1.cell? ⟨w.heap.size, 1, none⟩ = some (.string S) := (blk_cell V1.out 1).trans rfl
  have k2 : w1.cell? ⟨w.heap.size, 2, none⟩ = some (.int .i64 l) := (blk_cell V1.out 2).trans rfl
  have k3 : w1.cell? ⟨w.heap.size, 3, none⟩ = some (.int .i64 p) := (blk_cell V1.out 3).trans rfl
  have f0 := blk_frozen V1.out 0
  have f1 := blk_frozen V1.out 1
  have f2 := blk_frozen V1.out 2
  have f3 := blk_frozen V1.out 3
  go_wp2_with fail
  refine (c10.out _).mono ?_
  rintro e w2 ⟨rfl, hb⟩
  have B2 := Lib.hid (below_step (below4 B1.out (Nat.le_refl _)) hb)
  clear hb V1 B1 k0 k1 k2 k3 f0 f1 f2 f3
  go_wp2_with fail
  refine (c22.out _).mono ?_
  rintro e w3 ⟨rfl, hb⟩
  have B3 := Lib.hid (below_step B2.out hb)
  clear hb B2
  go_wp2_with fail
  refine (c13.out _).mono ?_
  rintro e w4 ⟨rfl, hb⟩
  have B4 := Lib.hid (below_step B3.out hb)
  clear hb B3
  rcases ht.out with ⟨rfl, rfl⟩ | ⟨rfl, hz⟩
  · go_wp2_with fail
    refine (cF.out _).mono ?_
    rintro e w5 ⟨rfl, hb⟩
    have B5 := Lib.hid (below_step B4.out hb)
    clear hb B4
    go_wp2_with fail
    go_ret
    exact ⟨rfl, B5.out⟩
  · have hz1 : ((t.size : Int) == (b.size : Int) + (u.size : Int) + 4) = true := by rw [beq_iff_eq]; omega
    go_wp2_with fail
    refine (cF.out _).mono ?_
    rintro e w5 ⟨rfl, hb⟩
    have B5 := Lib.hid (below_step B4.out hb)
    clear hb B4
    go_wp2_with fail
    go_ret
    exact ⟨rfl, B5.out⟩

set_option maxHeartbeats 4000000 in
set_option maxRecDepth 100000 in
theorem right_walk (s u S S' : ByteArray) (o : Bool) (l p kid : Int) (j : Nat) (hj : Hid ((if 128 < (s.size : Int) then 128 else (s.size : Int)) = (j : Int))) (hjs : j ≤ s.size) (hu : Hid (s.extract 0 j = u)) (hu2 : u.size ≤ 128) (hS2 : S'.size ≤ 300) (a b bs bl t : ByteArray) (hb9 : b.size ≤ 9) (hs9 : bs.size ≤ 9) (hl9 : bl.size ≤ 9) (f : Int)
    (hz : Hid ((o = true ∧ a.size = b.size + u.size + 1 + bl.size + 4) ∨ (o = false ∧ a.size = b.size + u.size + 1 + bs.size + S'.size)))
    (ht : Hid ((f = 3 ∧ t = ⟨#[]⟩) ∨ (f = 0 ∧ t.size = b.size + u.size + 4)))
    (c9 : Hid (∀ W, Calls Try.prog 9 #[.agg #[.bool o, .string S, .int .i64 l, .int .i64 p]] W fun e w' => e = .returned (.agg #[.bool o, .string S', .int .i64 l, .int .i64 p]) ∧ Below W.heap.size W w'))
    (c10 : Hid (∀ W, Calls Try.prog 10 #[.string u, .agg #[.bool o, .string S', .int .i64 l, .int .i64 p]] W fun e w' => e = .returned (.tuple #[.string a, .int .i64 0]) ∧ Below W.heap.size W w'))
    (c22 : Hid (∀ W, Calls Try.prog 22 #[.int .u64 u.size] W fun e w' => e = .returned (.string b) ∧ Below W.heap.size W w'))
    (c22s : Hid (∀ W, Calls Try.prog 22 #[.int .u64 S'.size] W fun e w' => e = .returned (.string bs) ∧ Below W.heap.size W w'))
    (c22l : Hid (o = true → ∀ W, Calls Try.prog 22 #[.int .u64 (IntKind.u64.wrap l)] W fun e w' => e = .returned (.string bl) ∧ Below W.heap.size W w'))
    (c13 : Hid (∀ W, Calls Try.prog 13 #[.int .i64 kid, .string u] W fun e w' => e = .returned (.tuple #[.string t, .int .i64 f]) ∧ Below W.heap.size W w'))
    (cF : Hid (∀ W, Calls Try.prog 21 #[] W fun e w' => e = .returned (.bool true) ∧ Below W.heap.size W w')) (w : World) :
    Calls Try.prog 7 #[.string s, .agg #[.bool o, .string S, .int .i64 l, .int .i64 p], .int .i64 kid] w fun e w' => e = .returned (.bool true) ∧ Below w.heap.size w w' := by
  have h1 := hj.out
  have h3 := hu.out
  have hu23 := Try.underlying23
  have B0 := Lib.hid (below_alloc (Below.refl w.heap.size w) (.cells #[.bool o, .string S, .int .i64 l, .int .i64 p] 23))
  have V0 := Lib.hid (heap_alloc_new w (.cells #[.bool o, .string S, .int .i64 l, .int .i64 p] 23))
  go_enter Try.func7, Try.ntmps7
  go_wp2_with fail
  refine (c9.out _).mono ?_
  rintro e w1 ⟨rfl, hb⟩
  have B1 := Lib.hid (below_step B0.out hb)
  have V1 := Lib.hid (blk_below V0.out hb)
  clear hb B0 V0
  have k0 : w1.cell? ⟨w.heap.size, 0, none⟩ = some (.bool o) := (blk_cell V1.out 0).trans rfl
  have k1 : w1.cell? ⟨w.heap.size, 1, none⟩ = some (.string S) := (blk_cell V1.out 1).trans rfl
  have k2 : w1.cell? ⟨w.heap.size, 2, none⟩ = some (.int .i64 l) := (blk_cell V1.out 2).trans rfl
  have k3 : w1.cell? ⟨w.heap.size, 3, none⟩ = some (.int .i64 p) := (blk_cell V1.out 3).trans rfl
  have f0 := blk_frozen V1.out 0
  have f1 := blk_frozen V1.out 1
  have f2 := blk_frozen V1.out 2
  have f3 := blk_frozen V1.out 3
  go_wp2_with fail
  refine (c10.out _).mono ?_
  rintro e w2 ⟨rfl, hb⟩
  have B2 := Lib.hid (below_step (below4 B1.out (Nat.le_refl _)) hb)
  have V2 := Lib.hid (blk_below (put4 V1.out) hb)
  clear hb V1 B1 k0 k1 k2 k3 f0 f1 f2 f3
  go_wp2_with fail
  refine (c22.out _).mono ?_
  rintro e w3 ⟨rfl, hb⟩
  have B3 := Lib.hid (below_step B2.out hb)
  have V3 := Lib.hid (blk_below V2.out hb)
  have k1 : w3.cell? ⟨w.heap.size, 1, none⟩ = some (.string S') := (blk_cell V3.out 1).trans rfl
  have f1 := blk_frozen V3.out 1
  clear hb B2 V2
  go_upto_region 6 with (fail)
  have q1 : IntKind.i64.wrap ((b.size : Int) + (u.size : Int) + 1) = (b.size : Int) + u.size + 1 := wr (by omega) (by omega)
  have q2 : IntKind.i64.wrap ((b.size : Int) + (u.size : Int) + 1 + (bs.size : Int)) = (b.size : Int) + u.size + 1 + bs.size := wr (by omega) (by omega)
  have q3 : IntKind.i64.wrap ((b.size : Int) + (u.size : Int) + 1 + (bs.size : Int) + (S'.size : Int)) = (b.size : Int) + u.size + 1 + bs.size + S'.size := wr (by omega) (by omega)
  have q4 : IntKind.u64.wrap (S'.size : Int) = (S'.size : Int) := wrap_size _ (by omega)
  go_region_with (go_at_call 22; refine (c22s.out _).mono ?_; rintro e w4 ⟨rfl, hb⟩; have B4 := Lib.hid (below_step (below_drew1 B3.out) hb); have V4 := Lib.hid (blk_below (blk_drew V3.out) hb); have k1' := ((blk_cell V4.out 1).trans rfl : w4.cell? ⟨w.heap.size, 1, none⟩ = some (.string S')); have f1' := blk_frozen V4.out 1)
  all_goals (
    clear k1 f1 k1' f1' q1 q2 q3 q4 V3 B3 hb
    have k0 : w4.cell? ⟨w.heap.size, 0, none⟩ = some (.bool o) := (blk_cell V4.out 0).trans rfl
    have k2 : w4.cell? ⟨w.heap.size, 2, none⟩ = some (.int .i64 l) := (blk_cell V4.out 2).trans rfl
    rcases hz.out with ⟨rfl, hz1⟩ | ⟨rfl, hz1⟩
    · go_wp2_with fail
      refine (c22l.out (by trivial) _).mono ?_
      rintro e w5 ⟨rfl, hb⟩
      have B5 := Lib.hid (below_step B4.out hb)
      clear hb B4
      have z1 : ((a.size : Int) != (b.size : Int) + (u.size : Int) + 1 + (bl.size : Int) + 4) = false := bne_eq_false_iff_eq.mpr (by omega)
      go_wp2_with fail
      refine (c13.out _).mono ?_
      rintro e w6 ⟨rfl, hb⟩
      have B6 := Lib.hid (below_step B5.out hb)
      clear hb B5
      rcases ht.out with ⟨rfl, rfl⟩ | ⟨rfl, hz2⟩
      · go_wp2_with fail
        refine (cF.out _).mono ?_
        rintro e w7 ⟨rfl, hb⟩
        have B7 := Lib.hid (below_step B6.out hb)
        clear hb B6
        go_wp2_with fail
        go_ret
        exact ⟨rfl, B7.out⟩
      · have hz3 : ((t.size : Int) == (b.size : Int) + (u.size : Int) + 4) = true := by rw [beq_iff_eq]; omega
        go_wp2_with fail
        refine (cF.out _).mono ?_
        rintro e w7 ⟨rfl, hb⟩
        have B7 := Lib.hid (below_step B6.out hb)
        clear hb B6
        go_wp2_with fail
        go_ret
        exact ⟨rfl, B7.out⟩
    · have z1 : ((a.size : Int) != (b.size : Int) + (u.size : Int) + 1 + (bs.size : Int) + (S'.size : Int)) = false := bne_eq_false_iff_eq.mpr (by omega)
      go_wp2_with fail
      refine (c13.out _).mono ?_
      rintro e w6 ⟨rfl, hb⟩
      have B6 := Lib.hid (below_step B4.out hb)
      clear hb B4
      rcases ht.out with ⟨rfl, rfl⟩ | ⟨rfl, hz2⟩
      · go_wp2_with fail
        refine (cF.out _).mono ?_
        rintro e w7 ⟨rfl, hb⟩
        have B7 := Lib.hid (below_step B6.out hb)
        clear hb B6
        go_wp2_with fail
        go_ret
        exact ⟨rfl, B7.out⟩
      · have hz3 : ((t.size : Int) == (b.size : Int) + (u.size : Int) + 4) = true := by rw [beq_iff_eq]; omega
        go_wp2_with fail
        refine (cF.out _).mono ?_
        rintro e w7 ⟨rfl, hb⟩
        have B7 := Lib.hid (below_step B6.out hb)
        clear hb B6
        go_wp2_with fail
        go_ret
        exact ⟨rfl, B7.out⟩)

theorem size0 (t : ByteArray) : (T t).size = (B t.size).size + t.size := by unfold T; rw [ByteArray.size_append]
theorem walk (a0 : ByteArray) (o : Bool) (S : ByteArray) (l p kid : Int) (hl : (Lit.int .i64 l).wf = true) (hp : (Lit.int .i64 p).wf = true) (hk : (Lit.int .i64 kid).wf = true) (W : World) :
    Calls Try.prog 7 #[.string a0, .agg #[.bool o, .string S, .int .i64 l, .int .i64 p], .int .i64 kid] W fun e w' => e = .returned (.bool true) ∧ Below W.heap.size W w' := by
  obtain ⟨S', e2, h4, h5, h6⟩ := cut_tells S 300 (by omega)
  obtain ⟨j, hj, hjs, hj2⟩ : ∃ j : Nat, (if 128 < (a0.size : Int) then 128 else (a0.size : Int)) = (j : Int) ∧ j ≤ a0.size ∧ j ≤ 128 := by
    by_cases h : 128 < (a0.size : Int)
    · exact ⟨128, by rw [if_pos h]; rfl, by omega, by omega⟩
    · exact ⟨a0.size, by rw [if_neg h], by omega, by omega⟩
  obtain ⟨u, hu⟩ : ∃ u, a0.extract 0 j = u := ⟨_, rfl⟩
  have hu2 : u.size ≤ 128 := by rw [← hu, ByteArray.size_extract]; omega
  have c9 := fun W => withylaw09_Cut.calls o S l p o S' l p W (by unfold withylaw09_Cut.f; rw [if_pos h5, if_pos h6, e2])
  have cb := B_size_le u.size
  have c22 := fun W => withyref01_Put.calls 100 u.size (B u.size) W (rput_some 100 u.size (by omega) (by omega))
  have cF := fun W => Hand.withylaw09_fixed.calls true W rfl
  obtain ⟨t, f, ht, c13⟩ : ∃ t f, ((f = 3 ∧ t = ⟨#[]⟩) ∨ (f = 0 ∧ t.size = (B u.size).size + u.size + 4)) ∧ (∀ W, Calls Try.prog 13 #[.int .i64 kid, .string u] W fun e w' => e = .returned (.tuple #[.string t, .int .i64 f]) ∧ Below W.heap.size W w') := by
    rcases putK_cases kid u hu2 with ⟨hr, b, hb⟩ | ⟨hr, hb⟩
    · refine ⟨b, 0, .inr ⟨rfl, ?_⟩, fun W => cell_PutKid.calls 100 kid u b 0 W (by rw [putKid_some 100 (by omega), hb])⟩
      obtain ⟨h1, h2, h3, hb'⟩ := putK_ok hb
      rw [hb', ByteArray.size_append, F_size, size0]
      omega
    · exact ⟨_, 3, .inl ⟨rfl, rfl⟩, fun W => cell_PutKid.calls 100 kid u ⟨#[]⟩ 3 W (by rw [putKid_some 100 (by omega), hb])⟩
  rcases putV_cases u o S' l p hu2 with ⟨hr, a, ha⟩ | ⟨hr, ha⟩
  · have c10 := fun W => cell_PutValue.calls 100 u o S' l p a 0 W (by rw [putValue_some 100 (by omega), ha])
    have c22s := fun W => withyref01_Put.calls 100 S'.size (B S'.size) W (rput_some 100 S'.size (by omega) (by omega))
    obtain ⟨h1, _, ha'⟩ := putV_ok ha
    have n1 : (⟨#[1]⟩ : ByteArray).size = 1 := rfl
    have n0 : (⟨#[0]⟩ : ByteArray).size = 1 := rfl
    refine right_walk a0 u S S' o l p kid j (Lib.hid hj) hjs (Lib.hid hu) hu2 (by omega) a (B u.size) (B S'.size) (B l.toNat) t (B_size_le _).2 (B_size_le _).2 (B_size_le _).2 f (Lib.hid ?_) (Lib.hid ht) (Lib.hid c9) (Lib.hid c10) (Lib.hid c22) (Lib.hid c22s) (Lib.hid ?_) (Lib.hid c13) (Lib.hid cF) W
    · cases o
      · refine .inr ⟨rfl, ?_⟩
        rw [ha']
        simp only [body, Bool.false_eq_true, if_false, ByteArray.size_append, size0, n0]
        omega
      · refine .inl ⟨rfl, ?_⟩
        rw [ha']
        simp only [body, if_true, ByteArray.size_append, size0, n1, F_size]
        omega
    · intro ho W
      subst ho
      obtain ⟨_, g2, g3, _, _⟩ := right_over hr
      have e : IntKind.u64.wrap l = ((l.toNat : Nat) : Int) := by rw [u64_wrap (by omega) (by omega)]; omega
      rw [e]
      exact withyref01_Put.calls 100 l.toNat (B l.toNat) W (rput_some 100 l.toNat (by omega) (by omega))
  · have c10 := fun W => cell_PutValue.calls 100 u o S' l p ⟨#[]⟩ 3 W (by rw [putValue_some 100 (by omega), ha])
    exact none_walk a0 u S S' o l p kid j (Lib.hid hj) hjs (Lib.hid hu) hu2 (B u.size) t (B_size_le _).2 f (Lib.hid ht) (Lib.hid c9) (Lib.hid c10) (Lib.hid c22) (Lib.hid c13) (Lib.hid cF) W
end Go.Proofs.Ytmpfnniekemkbaa.Sizes
