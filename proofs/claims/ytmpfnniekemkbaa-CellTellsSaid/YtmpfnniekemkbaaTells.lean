/-
  The walk of CellTells.
-/
import Derived.Test.YtmpfnniekemkbaaKid
import Derived.Test.YtmpfnniekemkbaaFixed
import Derived.Test.YtmpfnniekemkbaaBox
import Derived.Test.YtmpfnniekemkbaaWLast
namespace Go.Proofs.Ytmpfnniekemkbaa.Tells
open Go.RowKit Go.Proofs.Ytmpfnniekemkbaa.Q Go.Proofs.Ytmpfnniekemkbaa.Pure
open Go.Proofs.YtmpfnniekemkbaaW.PrintWords Go.Proofs.YtmpfnniekemkbaaW.PrintLast Go.Proofs.YtmpfnniekemkbaaW.PrintMore
open Go.Proofs.Ytmpfnniekemkbaa.Box
attribute [local go_sem] max2_int min2_int max_two min_two
set_option linter.unusedVariables false
set_option linter.unusedSimpArgs false

/-- what of the last region's operations has come up, as a number's bits -/
def ms (m : Nat) : Array Bool := ((List.range 61).map fun i => m.testBit i).toArray
set_option maxHeartbeats 8000000 in
set_option maxRecDepth 100000 in
theorem tells_walk (s u S S' X y : ByteArray) (o : Bool) (l p kid : Int) (j jx : Nat) (hj : Hid ((if 140 < (s.size : Int) then 140 else (s.size : Int)) = (j : Int))) (hjs : j ≤ s.size) (hu : Hid (s.extract 0 j = u)) (hu2 : u.size ≤ 140)
    (hx : Hid ((if 500 < (X.size : Int) then 500 else (X.size : Int)) = (jx : Int))) (hxs : jx ≤ X.size) (hy : Hid (X.extract 0 jx = y))
    (a c t q S2 : ByteArray) (e g h i n l2 p2 : Int) (o2 r : Bool)
    (c9 : Hid (∀ W, Calls Try.prog 9 #[.agg #[.bool o, .string S, .int .i64 l, .int .i64 p]] W fun e_ w' => e_ = .returned (.agg #[.bool o, .string S', .int .i64 l, .int .i64 p]) ∧ Below W.heap.size W w'))
    (c10 : Hid (∀ W, Calls Try.prog 10 #[.string u, .agg #[.bool o, .string S', .int .i64 l, .int .i64 p]] W fun e_ w' => e_ = .returned (.tuple #[.string a, .int .i64 e]) ∧ Below W.heap.size W w'))
    (c12 : Hid (∀ W, Calls Try.prog 12 #[.agg #[.bool o, .string S', .int .i64 l, .int .i64 p]] W fun e_ w' => e_ = .returned (.agg #[.bool o, .string S', .int .i64 l, .int .i64 p]) ∧ Below W.heap.size W w'))
    (c11 : Hid (∀ W, Calls Try.prog 11 #[.string u, .agg #[.bool o, .string S', .int .i64 l, .int .i64 p]] W fun e_ w' => e_ = .returned (.tuple #[.string a, .int .i64 e]) ∧ Below W.heap.size W w'))
    (c13 : Hid (∀ W, Calls Try.prog 13 #[.int .i64 kid, .string u] W fun e_ w' => e_ = .returned (.tuple #[.string c, .int .i64 g]) ∧ Below W.heap.size W w'))
    (c14 : Hid (∀ W, Calls Try.prog 14 #[.int .i64 kid, .string u] W fun e_ w' => e_ = .returned (.tuple #[.string c, .int .i64 g]) ∧ Below W.heap.size W w'))
    (c15 : Hid (∀ W, Calls Try.prog 15 #[.string y] W fun e_ w' => e_ = .returned (.tuple #[.string t, .agg #[.bool o2, .string S2, .int .i64 l2, .int .i64 p2], .int .i64 h]) ∧ Below W.heap.size W w'))
    (c16 : Hid (∀ W, Calls Try.prog 16 #[.string y] W fun e_ w' => e_ = .returned (.tuple #[.string t, .agg #[.bool o2, .string S2, .int .i64 l2, .int .i64 p2], .int .i64 h]) ∧ Below W.heap.size W w'))
    (c17 : Hid (∀ W, Calls Try.prog 17 #[.string y] W fun e_ w' => e_ = .returned (.tuple #[.int .i64 n, .string q, .int .i64 i]) ∧ Below W.heap.size W w'))
    (c18 : Hid (∀ W, Calls Try.prog 18 #[.string y] W fun e_ w' => e_ = .returned (.tuple #[.int .i64 n, .string q, .int .i64 i]) ∧ Below W.heap.size W w'))
    (c19 : Hid (∀ W, Calls Try.prog 19 #[.agg #[.bool o, .string S', .int .i64 l, .int .i64 p]] W fun e_ w' => e_ = .returned (.bool r) ∧ Below W.heap.size W w'))
    (c20 : Hid (∀ W, Calls Try.prog 20 #[.agg #[.bool o, .string S', .int .i64 l, .int .i64 p]] W fun e_ w' => e_ = .returned (.bool r) ∧ Below W.heap.size W w'))
    (c12b : Hid (∀ W, Calls Try.prog 12 #[.agg #[.bool o2, .string S2, .int .i64 l2, .int .i64 p2]] W fun e_ w' => e_ = .returned (.agg #[.bool o2, .string S2, .int .i64 l2, .int .i64 p2]) ∧ Below W.heap.size W w'))
    (cF : Hid (∀ W, Calls Try.prog 21 #[] W fun e_ w' => e_ = .returned (.bool true) ∧ Below W.heap.size W w')) (w : World) :
    Calls Try.prog 3 #[.string s, .agg #[.bool o, .string S, .int .i64 l, .int .i64 p], .agg #[.string X, .int .i64 kid]] w fun e w' => e = .returned (.bool true) ∧ Below w.heap.size w w' := by
  have h1 := hj.out
  have h3 := hu.out
  have h5 := hx.out
  have h7 := hy.out
  have hu23 := Try.underlying23
  have hu25 := Try.underlying25
  have hu31 := Try.underlying31
  have G0 := Lib.hid (St.start w o S l p #[.string X, .int .i64 kid] 25)
  go_enter Try.func3, Try.ntmps3
  go_wp2_with fail
  refine (c9.out _).mono ?_
  rintro e_ w1 ⟨rfl, hb⟩
  have G1 := Lib.hid (G0.out.call hb)
  clear hb G0
  obtain ⟨⟨k0, k1, k2, k3⟩, f0, f1, f2, f3⟩ := G1.out.read
  have m0 := ((G1.out.put (o' := o) (S' := S') (l' := l) (p' := p)).cell 0).trans rfl
  go_wp2_with fail
  refine (c10.out _).mono ?_
  rintro e_ w2 ⟨rfl, hb⟩
  have G2 := Lib.hid ((G1.out.put (o' := o) (S' := S') (l' := l) (p' := p)).call hb)
  clear hb G1 m0 k0 k1 k2 k3 f0 f1 f2 f3 h1 h3 h5 h7
  obtain ⟨⟨k0, k1, k2, k3⟩, f0, f1, f2, f3⟩ := G2.out.read
  go_wp2_with fail
  refine (c12.out _).mono ?_
  rintro e_ w3 ⟨rfl, hb⟩
  have G3 := Lib.hid (G2.out.call hb)
  clear hb G2 k0 k1 k2 k3 f0 f1 f2 f3
  go_wp2_with fail
  refine (c11.out _).mono ?_
  rintro e_ w4 ⟨rfl, hb⟩
  have G4 := Lib.hid (G3.out.call hb)
  clear hb G3
  have m1 := (G4.out.cell 1).trans rfl
  have g1 := G4.out.froz 1
  go_wp2_with fail
  refine (c13.out _).mono ?_
  rintro e_ w5 ⟨rfl, hb⟩
  have G5 := Lib.hid (G4.out.call hb)
  clear hb G4 m1 g1
  have m1 := (G5.out.cell 1).trans rfl
  have g1 := G5.out.froz 1
  go_wp2_with fail
  refine (c14.out _).mono ?_
  rintro e_ w6 ⟨rfl, hb⟩
  have G6 := Lib.hid (G5.out.call hb)
  clear hb G5 m1 g1
  go_wp2_with fail
  refine (c15.out _).mono ?_
  rintro e_ w8 ⟨rfl, hb⟩
  have G7 := Lib.hid (G6.out.call hb)
  have G8 := Lib.hid (G7.out.alloc (.cells #[.bool o2, .string S2, .int .i64 l2, .int .i64 p2] 23))
  have U8 := Lib.hid (blk_new w8 (.cells #[.bool o2, .string S2, .int .i64 l2, .int .i64 p2] 23))
  clear hb G6 G7
  go_wp2_with fail
  refine (c16.out _).mono ?_
  rintro e_ w9 ⟨rfl, hb⟩
  have G9 := Lib.hid (G8.out.call hb)
  have G9a := Lib.hid (G9.out.alloc (.cells #[.bool o2, .string S2, .int .i64 l2, .int .i64 p2] 31))
  have U9 := Lib.hid (blk_alloc (blk_below U8.out hb) (.cells #[.bool o2, .string S2, .int .i64 l2, .int .i64 p2] 31))
  have Y9 := Lib.hid (blk_new w9 (.cells #[.bool o2, .string S2, .int .i64 l2, .int .i64 p2] 31))
  clear hb G8 U8 G9
  go_wp2_with fail
  refine (c17.out _).mono ?_
  rintro e_ w10 ⟨rfl, hb⟩
  have G10 := Lib.hid (G9a.out.call hb)
  have U10 := Lib.hid (blk_below U9.out hb)
  have Y10 := Lib.hid (blk_below Y9.out hb)
  clear hb G9a U9 Y9
  go_wp2_with fail
  refine (c18.out _).mono ?_
  rintro e_ w11 ⟨rfl, hb⟩
  have G11 := Lib.hid (G10.out.call hb)
  have U11 := Lib.hid (blk_below U10.out hb)
  have Y11 := Lib.hid (blk_below Y10.out hb)
  clear hb G10 U10 Y10
  go_upto_region 12 with (fail)
  refine start_ (n := 61) (S := fun w' => Below w.heap.size w w' ∧ w'.heap[w.heap.size]? = some (.cells #[.bool o, .string S', .int .i64 l, .int .i64 p] 23 (0, 0)) ∧ w'.heap[w8.heap.size]? = some (.cells #[.bool o2, .string S2, .int .i64 l2, .int .i64 p2] 23 (0, 0)) ∧ w'.heap[w9.heap.size]? = some (.cells #[.bool o2, .string S2, .int .i64 l2, .int .i64 p2] 31 (0, 0)) ∧ w'.cell? ⟨w.heap.size, 0, none⟩ = some (.bool o) ∧ w'.cell? ⟨w.heap.size, 1, none⟩ = some (.string S') ∧ w'.cell? ⟨w.heap.size, 2, none⟩ = some (.int .i64 l) ∧ w'.cell? ⟨w.heap.size, 3, none⟩ = some (.int .i64 p) ∧ w'.cell? ⟨w8.heap.size, 0, none⟩ = some (.bool o2) ∧ w'.cell? ⟨w8.heap.size, 1, none⟩ = some (.string S2) ∧ w'.cell? ⟨w8.heap.size, 2, none⟩ = some (.int .i64 l2) ∧ w'.cell? ⟨w8.heap.size, 3, none⟩ = some (.int .i64 p2) ∧ w'.cell? ⟨w9.heap.size, 0, none⟩ = some (.bool o2) ∧ w'.cell? ⟨w9.heap.size, 1, none⟩ = some (.string S2) ∧ w'.cell? ⟨w9.heap.size, 2, none⟩ = some (.int .i64 l2) ∧ w'.cell? ⟨w9.heap.size, 3, none⟩ = some (.int .i64 p2)) (ds := []) #[false, false, false, false, false, false, false, false, false, false, false, false, false, false, false, false, false, false, false, false, false, false, false, false, false, false, false, false, false, false, false, false, false, false, false, false, false, false, false, false, false, false, false, false, false, false, false, false, false, false, false, false, false, false, false, false, false, false, false, false, false] (by as_aux_lemma => kernel_rfl) rfl rfl ⟨(below_drew G11.out.1), (blk_drew G11.out.2.1), (blk_drew U11.out), (blk_drew Y11.out), ((blk_cell (blk_drew G11.out.2.1) 0).trans rfl), ((blk_cell (blk_drew G11.out.2.1) 1).trans rfl), ((blk_cell (blk_drew G11.out.2.1) 2).trans rfl), ((blk_cell (blk_drew G11.out.2.1) 3).trans rfl), ((blk_cell (blk_drew U11.out) 0).trans rfl), ((blk_cell (blk_drew U11.out) 1).trans rfl), ((blk_cell (blk_drew U11.out) 2).trans rfl), ((blk_cell (blk_drew U11.out) 3).trans rfl), ((blk_cell (blk_drew Y11.out) 0).trans rfl), ((blk_cell (blk_drew Y11.out) 1).trans rfl), ((blk_cell (blk_drew Y11.out) 2).trans rfl), ((blk_cell (blk_drew Y11.out) 3).trans rfl)⟩ (fun hHeld => ?_)
  refine take_ (i := 0) (N := some 93) (v := ?_) (a' := ?_) (ms 1) rfl rfl (by as_aux_lemma => kernel_rfl) (fun _ _ _ h => h) (Or.inl ⟨by rfl, ?_⟩) hHeld ?_ ?_
  rotate_left
  · rintro w' ⟨s0, s1, s2, s3, s4, s5, s6, s7, s8, s9, s10, s11, s12, s13, s14, s15⟩
    go_simp
    with_reducible rfl
  rotate_left
  · simp only [Act.put, List.setIfInBounds_toArray, List.set_cons_zero, List.set_cons_succ, i64_w, i32_w]
    rfl
  refine take_ (i := 2) (N := some 95) (v := ?_) (a' := ?_) (ms 5) rfl rfl (by as_aux_lemma => kernel_rfl) (fun _ _ _ h => h) (Or.inl ⟨by rfl, ?_⟩) hHeld ?_ ?_
  rotate_left
  · rintro w' ⟨s0, s1, s2, s3, s4, s5, s6, s7, s8, s9, s10, s11, s12, s13, s14, s15⟩
    go_simp
    with_reducible rfl
  rotate_left
  · simp only [Act.put, List.setIfInBounds_toArray, List.set_cons_zero, List.set_cons_succ, i64_w, i32_w]
    rfl
  refine one_ (i := 1) (N := some 94) (ms 7) rfl rfl (by as_aux_lemma => kernel_rfl) (by decide) (fun K hK => ?_)
  refine goes_ Try.func19 (by as_aux_lemma => kernel_rfl) rfl #[.agg #[.bool o, .string S', .int .i64 l, .int .i64 p]] (by rfl) rfl rfl (by simp only [List.map_toArray, List.map_cons, List.map_nil]; rfl) ?_
  with_reducible refine (c19.out _).mono ?_
  rintro ew12 w12 ⟨rfl, hb⟩
  refine ⟨_, rfl, ?_⟩
  refine hK.out _ _ ⟨(below_step hHeld.1 hb), (blk_below hHeld.2.1 hb), (blk_below hHeld.2.2.1 hb), (blk_below hHeld.2.2.2.1 hb), ((blk_cell (blk_below hHeld.2.1 hb) 0).trans rfl), ((blk_cell (blk_below hHeld.2.1 hb) 1).trans rfl), ((blk_cell (blk_below hHeld.2.1 hb) 2).trans rfl), ((blk_cell (blk_below hHeld.2.1 hb) 3).trans rfl), ((blk_cell (blk_below hHeld.2.2.1 hb) 0).trans rfl), ((blk_cell (blk_below hHeld.2.2.1 hb) 1).trans rfl), ((blk_cell (blk_below hHeld.2.2.1 hb) 2).trans rfl), ((blk_cell (blk_below hHeld.2.2.1 hb) 3).trans rfl), ((blk_cell (blk_below hHeld.2.2.2.1 hb) 0).trans rfl), ((blk_cell (blk_below hHeld.2.2.2.1 hb) 1).trans rfl), ((blk_cell (blk_below hHeld.2.2.2.1 hb) 2).trans rfl), ((blk_cell (blk_below hHeld.2.2.2.1 hb) 3).trans rfl)⟩ (fun hHeld => ?_)
  clear hK K
  refine norm_ (a' := ?_) ?_ ?_
  rotate_left
  · show Act.put _ (some 94) _ = _
    simp only [Act.put, List.setIfInBounds_toArray, List.set_cons_zero, List.set_cons_succ, i64_w, i32_w]
    rfl
  refine one_ (i := 3) (N := some 96) (ms 15) rfl rfl (by as_aux_lemma => kernel_rfl) (by decide) (fun K hK => ?_)
  refine goes_ Try.func12 (by as_aux_lemma => kernel_rfl) rfl #[.agg #[.bool o, .string S', .int .i64 l, .int .i64 p]] (by rfl) rfl rfl (by simp only [List.map_toArray, List.map_cons, List.map_nil]; rfl) ?_
  with_reducible refine (c12.out _).mono ?_
  rintro ew13 w13 ⟨rfl, hb⟩
  refine ⟨_, rfl, ?_⟩
  refine hK.out _ _ ⟨(below_step hHeld.1 hb), (blk_below hHeld.2.1 hb), (blk_below hHeld.2.2.1 hb), (blk_below hHeld.2.2.2.1 hb), ((blk_cell (blk_below hHeld.2.1 hb) 0).trans rfl), ((blk_cell (blk_below hHeld.2.1 hb) 1).trans rfl), ((blk_cell (blk_below hHeld.2.1 hb) 2).trans rfl), ((blk_cell (blk_below hHeld.2.1 hb) 3).trans rfl), ((blk_cell (blk_below hHeld.2.2.1 hb) 0).trans rfl), ((blk_cell (blk_below hHeld.2.2.1 hb) 1).trans rfl), ((blk_cell (blk_below hHeld.2.2.1 hb) 2).trans rfl), ((blk_cell (blk_below hHeld.2.2.1 hb) 3).trans rfl), ((blk_cell (blk_below hHeld.2.2.2.1 hb) 0).trans rfl), ((blk_cell (blk_below hHeld.2.2.2.1 hb) 1).trans rfl), ((blk_cell (blk_below hHeld.2.2.2.1 hb) 2).trans rfl), ((blk_cell (blk_below hHeld.2.2.2.1 hb) 3).trans rfl)⟩ (fun hHeld => ?_)
  clear hK K
  refine norm_ (a' := ?_) ?_ ?_
  rotate_left
  · show Act.put _ (some 96) _ = _
    simp only [Act.put, List.setIfInBounds_toArray, List.set_cons_zero, List.set_cons_succ, i64_w, i32_w]
    rfl
  refine one_ (i := 4) (N := some 97) (ms 31) rfl rfl (by as_aux_lemma => kernel_rfl) (by decide) (fun K hK => ?_)
  refine goes_ Try.func20 (by as_aux_lemma => kernel_rfl) rfl #[.agg #[.bool o, .string S', .int .i64 l, .int .i64 p]] (by rfl) rfl rfl (by simp only [List.map_toArray, List.map_cons, List.map_nil]; rfl) ?_
  with_reducible refine (c20.out _).mono ?_
  rintro ew14 w14 ⟨rfl, hb⟩
  refine ⟨_, rfl, ?_⟩
  refine hK.out _ _ ⟨(below_step hHeld.1 hb), (blk_below hHeld.2.1 hb), (blk_below hHeld.2.2.1 hb), (blk_below hHeld.2.2.2.1 hb), ((blk_cell (blk_below hHeld.2.1 hb) 0).trans rfl), ((blk_cell (blk_below hHeld.2.1 hb) 1).trans rfl), ((blk_cell (blk_below hHeld.2.1 hb) 2).trans rfl), ((blk_cell (blk_below hHeld.2.1 hb) 3).trans rfl), ((blk_cell (blk_below hHeld.2.2.1 hb) 0).trans rfl), ((blk_cell (blk_below hHeld.2.2.1 hb) 1).trans rfl), ((blk_cell (blk_below hHeld.2.2.1 hb) 2).trans rfl), ((blk_cell (blk_below hHeld.2.2.1 hb) 3).trans rfl), ((blk_cell (blk_below hHeld.2.2.2.1 hb) 0).trans rfl), ((blk_cell (blk_below hHeld.2.2.2.1 hb) 1).trans rfl), ((blk_cell (blk_below hHeld.2.2.2.1 hb) 2).trans rfl), ((blk_cell (blk_below hHeld.2.2.2.1 hb) 3).trans rfl)⟩ (fun hHeld => ?_)
  clear hK K
  refine norm_ (a' := ?_) ?_ ?_
  rotate_left
  · show Act.put _ (some 97) _ = _
    simp only [Act.put, List.setIfInBounds_toArray, List.set_cons_zero, List.set_cons_succ, i64_w, i32_w]
    rfl
  refine pure_ (i := 5) (N := some 98) (v := ?_) (a' := ?_) (ms 63) rfl rfl (by as_aux_lemma => kernel_rfl) (fun _ _ _ h => h) (Or.inl ⟨by rfl, ?_⟩) ?_ ?_
  rotate_left
  · intro w'
    go_simp
    with_reducible rfl
  rotate_left
  · simp only [Act.put, List.setIfInBounds_toArray, List.set_cons_zero, List.set_cons_succ, i64_w, i32_w]
    rfl
  refine pure_ (i := 6) (N := some 99) (v := ?_) (a' := ?_) (ms 127) rfl rfl (by as_aux_lemma => kernel_rfl) (fun _ _ _ h => h) (Or.inl ⟨by rfl, ?_⟩) ?_ ?_
  rotate_left
  · intro w'
    go_simp
    with_reducible rfl
  rotate_left
  · simp only [Act.put, List.setIfInBounds_toArray, List.set_cons_zero, List.set_cons_succ, i64_w, i32_w]
    rfl
  refine pure_ (i := 7) (N := some 100) (v := ?_) (a' := ?_) (ms 255) rfl rfl (by as_aux_lemma => kernel_rfl) (fun _ _ _ h => h) (Or.inl ⟨by rfl, ?_⟩) ?_ ?_
  rotate_left
  · intro w'
    go_simp
    with_reducible rfl
  rotate_left
  · simp only [Act.put, List.setIfInBounds_toArray, List.set_cons_zero, List.set_cons_succ, i64_w, i32_w]
    rfl
  refine pure_ (i := 8) (N := some 101) (v := ?_) (a' := ?_) (ms 511) rfl rfl (by as_aux_lemma => kernel_rfl) (fun _ _ _ h => h) (Or.inl ⟨by rfl, ?_⟩) ?_ ?_
  rotate_left
  · intro w'
    go_simp
    with_reducible rfl
  rotate_left
  · simp only [Act.put, List.setIfInBounds_toArray, List.set_cons_zero, List.set_cons_succ, i64_w, i32_w]
    rfl
  refine pure_ (i := 9) (N := some 102) (v := ?_) (a' := ?_) (ms 1023) rfl rfl (by as_aux_lemma => kernel_rfl) (fun _ _ _ h => h) (Or.inl ⟨by rfl, ?_⟩) ?_ ?_
  rotate_left
  · intro w'
    go_simp
    with_reducible rfl
  rotate_left
  · simp only [Act.put, List.setIfInBounds_toArray, List.set_cons_zero, List.set_cons_succ, i64_w, i32_w]
    rfl
  refine pure_ (i := 10) (N := some 103) (v := ?_) (a' := ?_) (ms 2047) rfl rfl (by as_aux_lemma => kernel_rfl) (fun _ _ _ h => h) (Or.inl ⟨by rfl, ?_⟩) ?_ ?_
  rotate_left
  · intro w'
    go_simp
    with_reducible rfl
  rotate_left
  · simp only [Act.put, List.setIfInBounds_toArray, List.set_cons_zero, List.set_cons_succ, i64_w, i32_w]
    rfl
  refine pure_ (i := 11) (N := some 104) (v := ?_) (a' := ?_) (ms 4095) rfl rfl (by as_aux_lemma => kernel_rfl) (fun _ _ _ h => h) (Or.inl ⟨by rfl, ?_⟩) ?_ ?_
  rotate_left
  · intro w'
    go_simp
    with_reducible rfl
  rotate_left
  · simp only [Act.put, List.setIfInBounds_toArray, List.set_cons_zero, List.set_cons_succ, i64_w, i32_w]
    rfl
  refine pure_ (i := 12) (N := some 105) (v := ?_) (a' := ?_) (ms 8191) rfl rfl (by as_aux_lemma => kernel_rfl) (fun _ _ _ h => h) (Or.inl ⟨by rfl, ?_⟩) ?_ ?_
  rotate_left
  · intro w'
    go_simp
    with_reducible rfl
  rotate_left
  · simp only [Act.put, List.setIfInBounds_toArray, List.set_cons_zero, List.set_cons_succ, i64_w, i32_w]
    rfl
  refine pure_ (i := 13) (N := some 106) (v := ?_) (a' := ?_) (ms 16383) rfl rfl (by as_aux_lemma => kernel_rfl) (fun _ _ _ h => h) (Or.inl ⟨by rfl, ?_⟩) ?_ ?_
  rotate_left
  · intro w'
    go_simp
    with_reducible rfl
  rotate_left
  · simp only [Act.put, List.setIfInBounds_toArray, List.set_cons_zero, List.set_cons_succ, i64_w, i32_w]
    rfl
  refine pure_ (i := 14) (N := some 107) (v := ?_) (a' := ?_) (ms 32767) rfl rfl (by as_aux_lemma => kernel_rfl) (fun _ _ _ h => h) (Or.inl ⟨by rfl, ?_⟩) ?_ ?_
  rotate_left
  · intro w'
    go_simp
    with_reducible rfl
  rotate_left
  · simp only [Act.put, List.setIfInBounds_toArray, List.set_cons_zero, List.set_cons_succ, i64_w, i32_w]
    rfl
  refine pure_ (i := 15) (N := some 108) (v := ?_) (a' := ?_) (ms 65535) rfl rfl (by as_aux_lemma => kernel_rfl) (fun _ _ _ h => h) (Or.inl ⟨by rfl, ?_⟩) ?_ ?_
  rotate_left
  · intro w'
    go_simp
    with_reducible rfl
  rotate_left
  · simp only [Act.put, List.setIfInBounds_toArray, List.set_cons_zero, List.set_cons_succ, i64_w, i32_w]
    rfl
  refine pure_ (i := 16) (N := some 109) (v := ?_) (a' := ?_) (ms 131071) rfl rfl (by as_aux_lemma => kernel_rfl) (fun _ _ _ h => h) (Or.inl ⟨by rfl, ?_⟩) ?_ ?_
  rotate_left
  · intro w'
    go_simp
    with_reducible rfl
  rotate_left
  · simp only [Act.put, List.setIfInBounds_toArray, List.set_cons_zero, List.set_cons_succ, i64_w, i32_w]
    rfl
  refine pure_ (i := 17) (N := some 110) (v := ?_) (a' := ?_) (ms 262143) rfl rfl (by as_aux_lemma => kernel_rfl) (fun _ _ _ h => h) (Or.inl ⟨by rfl, ?_⟩) ?_ ?_
  rotate_left
  · intro w'
    go_simp
    with_reducible rfl
  rotate_left
  · simp only [Act.put, List.setIfInBounds_toArray, List.set_cons_zero, List.set_cons_succ, i64_w, i32_w]
    rfl
  refine pure_ (i := 18) (N := some 111) (v := ?_) (a' := ?_) (ms 524287) rfl rfl (by as_aux_lemma => kernel_rfl) (fun _ _ _ h => h) (Or.inl ⟨by rfl, ?_⟩) ?_ ?_
  rotate_left
  · intro w'
    go_simp
    with_reducible rfl
  rotate_left
  · simp only [Act.put, List.setIfInBounds_toArray, List.set_cons_zero, List.set_cons_succ, i64_w, i32_w]
    rfl
  refine pure_ (i := 19) (N := some 112) (v := ?_) (a' := ?_) (ms 1048575) rfl rfl (by as_aux_lemma => kernel_rfl) (fun _ _ _ h => h) (Or.inl ⟨by rfl, ?_⟩) ?_ ?_
  rotate_left
  · intro w'
    go_simp
    with_reducible rfl
  rotate_left
  · simp only [Act.put, List.setIfInBounds_toArray, List.set_cons_zero, List.set_cons_succ, i64_w, i32_w]
    rfl
  refine pure_ (i := 20) (N := some 113) (v := ?_) (a' := ?_) (ms 2097151) rfl rfl (by as_aux_lemma => kernel_rfl) (fun _ _ _ h => h) (Or.inl ⟨by rfl, ?_⟩) ?_ ?_
  rotate_left
  · intro w'
    go_simp
    with_reducible rfl
  rotate_left
  · simp only [Act.put, List.setIfInBounds_toArray, List.set_cons_zero, List.set_cons_succ, i64_w, i32_w]
    rfl
  refine pure_ (i := 21) (N := some 114) (v := ?_) (a' := ?_) (ms 4194303) rfl rfl (by as_aux_lemma => kernel_rfl) (fun _ _ _ h => h) (Or.inl ⟨by rfl, ?_⟩) ?_ ?_
  rotate_left
  · intro w'
    go_simp
    with_reducible rfl
  rotate_left
  · simp only [Act.put, List.setIfInBounds_toArray, List.set_cons_zero, List.set_cons_succ, i64_w, i32_w]
    rfl
  refine pure_ (i := 22) (N := some 115) (v := ?_) (a' := ?_) (ms 8388607) rfl rfl (by as_aux_lemma => kernel_rfl) (fun _ _ _ h => h) (Or.inl ⟨by rfl, ?_⟩) ?_ ?_
  rotate_left
  · intro w'
    go_simp
    with_reducible rfl
  rotate_left
  · simp only [Act.put, List.setIfInBounds_toArray, List.set_cons_zero, List.set_cons_succ, i64_w, i32_w]
    rfl
  refine pure_ (i := 23) (N := some 116) (v := ?_) (a' := ?_) (ms 16777215) rfl rfl (by as_aux_lemma => kernel_rfl) (fun _ _ _ h => h) (Or.inl ⟨by rfl, ?_⟩) ?_ ?_
  rotate_left
  · intro w'
    go_simp
    with_reducible rfl
  rotate_left
  · simp only [Act.put, List.setIfInBounds_toArray, List.set_cons_zero, List.set_cons_succ, i64_w, i32_w]
    rfl
  refine pure_ (i := 24) (N := some 117) (v := ?_) (a' := ?_) (ms 33554431) rfl rfl (by as_aux_lemma => kernel_rfl) (fun _ _ _ h => h) (Or.inl ⟨by rfl, ?_⟩) ?_ ?_
  rotate_left
  · intro w'
    go_simp
    with_reducible rfl
  rotate_left
  · simp only [Act.put, List.setIfInBounds_toArray, List.set_cons_zero, List.set_cons_succ, i64_w, i32_w]
    rfl
  refine pure_ (i := 25) (N := some 118) (v := ?_) (a' := ?_) (ms 67108863) rfl rfl (by as_aux_lemma => kernel_rfl) (fun _ _ _ h => h) (Or.inl ⟨by rfl, ?_⟩) ?_ ?_
  rotate_left
  · intro w'
    go_simp
    with_reducible rfl
  rotate_left
  · simp only [Act.put, List.setIfInBounds_toArray, List.set_cons_zero, List.set_cons_succ, i64_w, i32_w]
    rfl
  refine pure_ (i := 26) (N := some 119) (v := ?_) (a' := ?_) (ms 134217727) rfl rfl (by as_aux_lemma => kernel_rfl) (fun _ _ _ h => h) (Or.inl ⟨by rfl, ?_⟩) ?_ ?_
  rotate_left
  · intro w'
    go_simp
    with_reducible rfl
  rotate_left
  · simp only [Act.put, List.setIfInBounds_toArray, List.set_cons_zero, List.set_cons_succ, i64_w, i32_w]
    rfl
  refine pure_ (i := 27) (N := some 120) (v := ?_) (a' := ?_) (ms 268435455) rfl rfl (by as_aux_lemma => kernel_rfl) (fun _ _ _ h => h) (Or.inl ⟨by rfl, ?_⟩) ?_ ?_
  rotate_left
  · intro w'
    go_simp
    with_reducible rfl
  rotate_left
  · simp only [Act.put, List.setIfInBounds_toArray, List.set_cons_zero, List.set_cons_succ, i64_w, i32_w]
    rfl
  refine pure_ (i := 28) (N := some 121) (v := ?_) (a' := ?_) (ms 536870911) rfl rfl (by as_aux_lemma => kernel_rfl) (fun _ _ _ h => h) (Or.inl ⟨by rfl, ?_⟩) ?_ ?_
  rotate_left
  · intro w'
    go_simp
    with_reducible rfl
  rotate_left
  · simp only [Act.put, List.setIfInBounds_toArray, List.set_cons_zero, List.set_cons_succ, i64_w, i32_w]
    rfl
  refine pure_ (i := 29) (N := some 122) (v := ?_) (a' := ?_) (ms 1073741823) rfl rfl (by as_aux_lemma => kernel_rfl) (fun _ _ _ h => h) (Or.inl ⟨by rfl, ?_⟩) ?_ ?_
  rotate_left
  · intro w'
    go_simp
    with_reducible rfl
  rotate_left
  · simp only [Act.put, List.setIfInBounds_toArray, List.set_cons_zero, List.set_cons_succ, i64_w, i32_w]
    rfl
  refine pure_ (i := 30) (N := some 123) (v := ?_) (a' := ?_) (ms 2147483647) rfl rfl (by as_aux_lemma => kernel_rfl) (fun _ _ _ h => h) (Or.inl ⟨by rfl, ?_⟩) ?_ ?_
  rotate_left
  · intro w'
    go_simp
    with_reducible rfl
  rotate_left
  · simp only [Act.put, List.setIfInBounds_toArray, List.set_cons_zero, List.set_cons_succ, i64_w, i32_w]
    rfl
  refine pure_ (i := 31) (N := some 124) (v := ?_) (a' := ?_) (ms 4294967295) rfl rfl (by as_aux_lemma => kernel_rfl) (fun _ _ _ h => h) (Or.inl ⟨by rfl, ?_⟩) ?_ ?_
  rotate_left
  · intro w'
    go_simp
    with_reducible rfl
  rotate_left
  · simp only [Act.put, List.setIfInBounds_toArray, List.set_cons_zero, List.set_cons_succ, i64_w, i32_w]
    rfl
  refine take_ (i := 32) (N := some 125) (v := ?_) (a' := ?_) (ms 8589934591) rfl rfl (by as_aux_lemma => kernel_rfl) (fun _ _ _ h => h) (Or.inl ⟨by rfl, ?_⟩) hHeld ?_ ?_
  rotate_left
  · rintro w' ⟨s0, s1, s2, s3, s4, s5, s6, s7, s8, s9, s10, s11, s12, s13, s14, s15⟩
    go_simp
    with_reducible rfl
  rotate_left
  · simp only [Act.put, List.setIfInBounds_toArray, List.set_cons_zero, List.set_cons_succ, i64_w, i32_w]
    rfl
  refine take_ (i := 34) (N := some 127) (v := ?_) (a' := ?_) (ms 25769803775) rfl rfl (by as_aux_lemma => kernel_rfl) (fun _ _ _ h => h) (Or.inl ⟨by rfl, ?_⟩) hHeld ?_ ?_
  rotate_left
  · rintro w' ⟨s0, s1, s2, s3, s4, s5, s6, s7, s8, s9, s10, s11, s12, s13, s14, s15⟩
    go_simp
    with_reducible rfl
  rotate_left
  · simp only [Act.put, List.setIfInBounds_toArray, List.set_cons_zero, List.set_cons_succ, i64_w, i32_w]
    rfl
  refine one_ (i := 33) (N := some 126) (ms 34359738367) rfl rfl (by as_aux_lemma => kernel_rfl) (by decide) (fun K hK => ?_)
  refine goes_ Try.func12 (by as_aux_lemma => kernel_rfl) rfl #[.agg #[.bool o2, .string S2, .int .i64 l2, .int .i64 p2]] (by rfl) rfl rfl (by simp only [List.map_toArray, List.map_cons, List.map_nil]; rfl) ?_
  with_reducible refine (c12b.out _).mono ?_
  rintro ew15 w15 ⟨rfl, hb⟩
  refine ⟨_, rfl, ?_⟩
  refine hK.out _ _ ⟨(below_step hHeld.1 hb), (blk_below hHeld.2.1 hb), (blk_below hHeld.2.2.1 hb), (blk_below hHeld.2.2.2.1 hb), ((blk_cell (blk_below hHeld.2.1 hb) 0).trans rfl), ((blk_cell (blk_below hHeld.2.1 hb) 1).trans rfl), ((blk_cell (blk_below hHeld.2.1 hb) 2).trans rfl), ((blk_cell (blk_below hHeld.2.1 hb) 3).trans rfl), ((blk_cell (blk_below hHeld.2.2.1 hb) 0).trans rfl), ((blk_cell (blk_below hHeld.2.2.1 hb) 1).trans rfl), ((blk_cell (blk_below hHeld.2.2.1 hb) 2).trans rfl), ((blk_cell (blk_below hHeld.2.2.1 hb) 3).trans rfl), ((blk_cell (blk_below hHeld.2.2.2.1 hb) 0).trans rfl), ((blk_cell (blk_below hHeld.2.2.2.1 hb) 1).trans rfl), ((blk_cell (blk_below hHeld.2.2.2.1 hb) 2).trans rfl), ((blk_cell (blk_below hHeld.2.2.2.1 hb) 3).trans rfl)⟩ (fun hHeld => ?_)
  clear hK K
  refine norm_ (a' := ?_) ?_ ?_
  rotate_left
  · show Act.put _ (some 126) _ = _
    simp only [Act.put, List.setIfInBounds_toArray, List.set_cons_zero, List.set_cons_succ, i64_w, i32_w]
    rfl
  refine pure_ (i := 35) (N := some 128) (v := ?_) (a' := ?_) (ms 68719476735) rfl rfl (by as_aux_lemma => kernel_rfl) (fun _ _ _ h => h) (Or.inl ⟨by rfl, ?_⟩) ?_ ?_
  rotate_left
  · intro w'
    go_simp
    with_reducible rfl
  rotate_left
  · simp only [Act.put, List.setIfInBounds_toArray, List.set_cons_zero, List.set_cons_succ, i64_w, i32_w]
    rfl
  refine pure_ (i := 36) (N := some 129) (v := ?_) (a' := ?_) (ms 137438953471) rfl rfl (by as_aux_lemma => kernel_rfl) (fun _ _ _ h => h) (Or.inl ⟨by rfl, ?_⟩) ?_ ?_
  rotate_left
  · intro w'
    go_simp
    with_reducible rfl
  rotate_left
  · simp only [Act.put, List.setIfInBounds_toArray, List.set_cons_zero, List.set_cons_succ, i64_w, i32_w]
    rfl
  refine pure_ (i := 37) (N := some 130) (v := ?_) (a' := ?_) (ms 274877906943) rfl rfl (by as_aux_lemma => kernel_rfl) (fun _ _ _ h => h) (Or.inl ⟨by rfl, ?_⟩) ?_ ?_
  rotate_left
  · intro w'
    go_simp
    with_reducible rfl
  rotate_left
  · simp only [Act.put, List.setIfInBounds_toArray, List.set_cons_zero, List.set_cons_succ, i64_w, i32_w]
    rfl
  refine pure_ (i := 38) (N := some 131) (v := ?_) (a' := ?_) (ms 549755813887) rfl rfl (by as_aux_lemma => kernel_rfl) (fun _ _ _ h => h) (Or.inl ⟨by rfl, ?_⟩) ?_ ?_
  rotate_left
  · intro w'
    go_simp
    with_reducible rfl
  rotate_left
  · simp only [Act.put, List.setIfInBounds_toArray, List.set_cons_zero, List.set_cons_succ, i64_w, i32_w]
    rfl
  refine pure_ (i := 39) (N := some 132) (v := ?_) (a' := ?_) (ms 1099511627775) rfl rfl (by as_aux_lemma => kernel_rfl) (fun _ _ _ h => h) (Or.inl ⟨by rfl, ?_⟩) ?_ ?_
  rotate_left
  · intro w'
    go_simp
    with_reducible rfl
  rotate_left
  · simp only [Act.put, List.setIfInBounds_toArray, List.set_cons_zero, List.set_cons_succ, i64_w, i32_w]
    rfl
  refine pure_ (i := 40) (N := some 133) (v := ?_) (a' := ?_) (ms 2199023255551) rfl rfl (by as_aux_lemma => kernel_rfl) (fun _ _ _ h => h) (Or.inl ⟨by rfl, ?_⟩) ?_ ?_
  rotate_left
  · intro w'
    go_simp
    with_reducible rfl
  rotate_left
  · simp only [Act.put, List.setIfInBounds_toArray, List.set_cons_zero, List.set_cons_succ, i64_w, i32_w]
    rfl
  refine pure_ (i := 41) (N := some 134) (v := ?_) (a' := ?_) (ms 4398046511103) rfl rfl (by as_aux_lemma => kernel_rfl) (fun _ _ _ h => h) (Or.inl ⟨by rfl, ?_⟩) ?_ ?_
  rotate_left
  · intro w'
    go_simp
    with_reducible rfl
  rotate_left
  · simp only [Act.put, List.setIfInBounds_toArray, List.set_cons_zero, List.set_cons_succ, i64_w, i32_w]
    rfl
  refine pure_ (i := 42) (N := some 135) (v := ?_) (a' := ?_) (ms 8796093022207) rfl rfl (by as_aux_lemma => kernel_rfl) (fun _ _ _ h => h) (Or.inl ⟨by rfl, ?_⟩) ?_ ?_
  rotate_left
  · intro w'
    go_simp
    with_reducible rfl
  rotate_left
  · simp only [Act.put, List.setIfInBounds_toArray, List.set_cons_zero, List.set_cons_succ, i64_w, i32_w]
    rfl
  refine pure_ (i := 43) (N := some 136) (v := ?_) (a' := ?_) (ms 17592186044415) rfl rfl (by as_aux_lemma => kernel_rfl) (fun _ _ _ h => h) (Or.inl ⟨by rfl, ?_⟩) ?_ ?_
  rotate_left
  · intro w'
    go_simp
    with_reducible rfl
  rotate_left
  · simp only [Act.put, List.setIfInBounds_toArray, List.set_cons_zero, List.set_cons_succ, i64_w, i32_w]
    rfl
  refine pure_ (i := 44) (N := some 137) (v := ?_) (a' := ?_) (ms 35184372088831) rfl rfl (by as_aux_lemma => kernel_rfl) (fun _ _ _ h => h) (Or.inl ⟨by rfl, ?_⟩) ?_ ?_
  rotate_left
  · intro w'
    go_simp
    with_reducible rfl
  rotate_left
  · simp only [Act.put, List.setIfInBounds_toArray, List.set_cons_zero, List.set_cons_succ, i64_w, i32_w]
    rfl
  refine pure_ (i := 45) (N := some 138) (v := ?_) (a' := ?_) (ms 70368744177663) rfl rfl (by as_aux_lemma => kernel_rfl) (fun _ _ _ h => h) (Or.inl ⟨by rfl, ?_⟩) ?_ ?_
  rotate_left
  · intro w'
    go_simp
    with_reducible rfl
  rotate_left
  · simp only [Act.put, List.setIfInBounds_toArray, List.set_cons_zero, List.set_cons_succ, i64_w, i32_w]
    rfl
  refine pure_ (i := 46) (N := some 139) (v := ?_) (a' := ?_) (ms 140737488355327) rfl rfl (by as_aux_lemma => kernel_rfl) (fun _ _ _ h => h) (Or.inl ⟨by rfl, ?_⟩) ?_ ?_
  rotate_left
  · intro w'
    go_simp
    with_reducible rfl
  rotate_left
  · simp only [Act.put, List.setIfInBounds_toArray, List.set_cons_zero, List.set_cons_succ, i64_w, i32_w]
    rfl
  refine pure_ (i := 47) (N := some 140) (v := ?_) (a' := ?_) (ms 281474976710655) rfl rfl (by as_aux_lemma => kernel_rfl) (fun _ _ _ h => h) (Or.inl ⟨by rfl, ?_⟩) ?_ ?_
  rotate_left
  · intro w'
    go_simp
    with_reducible rfl
  rotate_left
  · simp only [Act.put, List.setIfInBounds_toArray, List.set_cons_zero, List.set_cons_succ, i64_w, i32_w]
    rfl
  refine pure_ (i := 48) (N := some 141) (v := ?_) (a' := ?_) (ms 562949953421311) rfl rfl (by as_aux_lemma => kernel_rfl) (fun _ _ _ h => h) (Or.inl ⟨by rfl, ?_⟩) ?_ ?_
  rotate_left
  · intro w'
    go_simp
    with_reducible rfl
  rotate_left
  · simp only [Act.put, List.setIfInBounds_toArray, List.set_cons_zero, List.set_cons_succ, i64_w, i32_w]
    rfl
  refine pure_ (i := 49) (N := some 142) (v := ?_) (a' := ?_) (ms 1125899906842623) rfl rfl (by as_aux_lemma => kernel_rfl) (fun _ _ _ h => h) (Or.inl ⟨by rfl, ?_⟩) ?_ ?_
  rotate_left
  · intro w'
    go_simp
    with_reducible rfl
  rotate_left
  · simp only [Act.put, List.setIfInBounds_toArray, List.set_cons_zero, List.set_cons_succ, i64_w, i32_w]
    rfl
  refine pure_ (i := 50) (N := some 143) (v := ?_) (a' := ?_) (ms 2251799813685247) rfl rfl (by as_aux_lemma => kernel_rfl) (fun _ _ _ h => h) (Or.inl ⟨by rfl, ?_⟩) ?_ ?_
  rotate_left
  · intro w'
    go_simp
    with_reducible rfl
  rotate_left
  · simp only [Act.put, List.setIfInBounds_toArray, List.set_cons_zero, List.set_cons_succ, i64_w, i32_w]
    rfl
  refine pure_ (i := 51) (N := some 144) (v := ?_) (a' := ?_) (ms 4503599627370495) rfl rfl (by as_aux_lemma => kernel_rfl) (fun _ _ _ h => h) (Or.inl ⟨by rfl, ?_⟩) ?_ ?_
  rotate_left
  · intro w'
    go_simp
    with_reducible rfl
  rotate_left
  · simp only [Act.put, List.setIfInBounds_toArray, List.set_cons_zero, List.set_cons_succ, i64_w, i32_w]
    rfl
  refine pure_ (i := 52) (N := some 145) (v := ?_) (a' := ?_) (ms 9007199254740991) rfl rfl (by as_aux_lemma => kernel_rfl) (fun _ _ _ h => h) (Or.inl ⟨by rfl, ?_⟩) ?_ ?_
  rotate_left
  · intro w'
    go_simp
    with_reducible rfl
  rotate_left
  · simp only [Act.put, List.setIfInBounds_toArray, List.set_cons_zero, List.set_cons_succ, i64_w, i32_w]
    rfl
  refine pure_ (i := 53) (N := some 146) (v := ?_) (a' := ?_) (ms 18014398509481983) rfl rfl (by as_aux_lemma => kernel_rfl) (fun _ _ _ h => h) (Or.inl ⟨by rfl, ?_⟩) ?_ ?_
  rotate_left
  · intro w'
    go_simp
    with_reducible rfl
  rotate_left
  · simp only [Act.put, List.setIfInBounds_toArray, List.set_cons_zero, List.set_cons_succ, i64_w, i32_w]
    rfl
  refine pure_ (i := 54) (N := some 147) (v := ?_) (a' := ?_) (ms 36028797018963967) rfl rfl (by as_aux_lemma => kernel_rfl) (fun _ _ _ h => h) (Or.inl ⟨by rfl, ?_⟩) ?_ ?_
  rotate_left
  · intro w'
    go_simp
    with_reducible rfl
  rotate_left
  · simp only [Act.put, List.setIfInBounds_toArray, List.set_cons_zero, List.set_cons_succ, i64_w, i32_w]
    rfl
  refine pure_ (i := 55) (N := some 148) (v := ?_) (a' := ?_) (ms 72057594037927935) rfl rfl (by as_aux_lemma => kernel_rfl) (fun _ _ _ h => h) (Or.inl ⟨by rfl, ?_⟩) ?_ ?_
  rotate_left
  · intro w'
    go_simp
    with_reducible rfl
  rotate_left
  · simp only [Act.put, List.setIfInBounds_toArray, List.set_cons_zero, List.set_cons_succ, i64_w, i32_w]
    rfl
  refine pure_ (i := 56) (N := some 149) (v := ?_) (a' := ?_) (ms 144115188075855871) rfl rfl (by as_aux_lemma => kernel_rfl) (fun _ _ _ h => h) (Or.inl ⟨by rfl, ?_⟩) ?_ ?_
  rotate_left
  · intro w'
    go_simp
    with_reducible rfl
  rotate_left
  · simp only [Act.put, List.setIfInBounds_toArray, List.set_cons_zero, List.set_cons_succ, i64_w, i32_w]
    rfl
  refine pure_ (i := 57) (N := some 150) (v := ?_) (a' := ?_) (ms 288230376151711743) rfl rfl (by as_aux_lemma => kernel_rfl) (fun _ _ _ h => h) (Or.inl ⟨by rfl, ?_⟩) ?_ ?_
  rotate_left
  · intro w'
    go_simp
    with_reducible rfl
  rotate_left
  · simp only [Act.put, List.setIfInBounds_toArray, List.set_cons_zero, List.set_cons_succ, i64_w, i32_w]
    rfl
  refine one_ (i := 58) (N := some 151) (ms 576460752303423487) rfl rfl (by as_aux_lemma => kernel_rfl) (by decide) (fun K hK => ?_)
  refine goes_ Try.func21 (by as_aux_lemma => kernel_rfl) rfl #[] (by rfl) rfl rfl (by simp only [List.map_toArray, List.map_nil]) ?_
  with_reducible refine (cF.out _).mono ?_
  rintro ew16 w16 ⟨rfl, hb⟩
  refine ⟨_, rfl, ?_⟩
  refine hK.out _ _ ⟨(below_step hHeld.1 hb), (blk_below hHeld.2.1 hb), (blk_below hHeld.2.2.1 hb), (blk_below hHeld.2.2.2.1 hb), ((blk_cell (blk_below hHeld.2.1 hb) 0).trans rfl), ((blk_cell (blk_below hHeld.2.1 hb) 1).trans rfl), ((blk_cell (blk_below hHeld.2.1 hb) 2).trans rfl), ((blk_cell (blk_below hHeld.2.1 hb) 3).trans rfl), ((blk_cell (blk_below hHeld.2.2.1 hb) 0).trans rfl), ((blk_cell (blk_below hHeld.2.2.1 hb) 1).trans rfl), ((blk_cell (blk_below hHeld.2.2.1 hb) 2).trans rfl), ((blk_cell (blk_below hHeld.2.2.1 hb) 3).trans rfl), ((blk_cell (blk_below hHeld.2.2.2.1 hb) 0).trans rfl), ((blk_cell (blk_below hHeld.2.2.2.1 hb) 1).trans rfl), ((blk_cell (blk_below hHeld.2.2.2.1 hb) 2).trans rfl), ((blk_cell (blk_below hHeld.2.2.2.1 hb) 3).trans rfl)⟩ (fun hHeld => ?_)
  clear hK K
  refine norm_ (a' := ?_) ?_ ?_
  rotate_left
  · show Act.put _ (some 151) _ = _
    simp only [Act.put, List.setIfInBounds_toArray, List.set_cons_zero, List.set_cons_succ, i64_w, i32_w]
    rfl
  refine pure_ (i := 59) (N := some 152) (v := ?_) (a' := ?_) (ms 1152921504606846975) rfl rfl (by as_aux_lemma => kernel_rfl) (fun _ _ _ h => h) (Or.inl ⟨by rfl, ?_⟩) ?_ ?_
  rotate_left
  · intro w'
    go_simp
    with_reducible rfl
  rotate_left
  · simp only [Act.put, List.setIfInBounds_toArray, List.set_cons_zero, List.set_cons_succ, i64_w, i32_w]
    rfl
  refine pure_ (i := 60) (N := some 6) (v := ?_) (a' := ?_) (ms 2305843009213693951) rfl rfl (by as_aux_lemma => kernel_rfl) (fun _ _ _ h => h) (Or.inl ⟨by rfl, ?_⟩) ?_ ?_
  rotate_left
  · intro w'
    go_simp
    with_reducible rfl
  rotate_left
  · simp only [Act.put, List.setIfInBounds_toArray, List.set_cons_zero, List.set_cons_succ, i64_w, i32_w]
    rfl
  refine done_ (by as_aux_lemma => kernel_rfl) ?_
  go_wp2_with fail
  go_ret
  exact ⟨rfl, hHeld.1⟩
end Go.Proofs.Ytmpfnniekemkbaa.Tells
