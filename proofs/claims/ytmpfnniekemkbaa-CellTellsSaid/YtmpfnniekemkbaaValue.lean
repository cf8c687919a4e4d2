/-
  The walk of (*cell).value.
-/
import Derived.Test.YtmpfnniekemkbaaNumber
namespace Go.Proofs.Ytmpfnniekemkbaa.Hand
open Go.RowKit Go.Proofs.Ytmpfnniekemkbaa.Q Go.Proofs.YtmpfnniekemkbaaW.PrintWords Go.Proofs.YtmpfnniekemkbaaW.PrintLast Go.Proofs.YtmpfnniekemkbaaW.PrintMore
set_option linter.unusedVariables false

/-- what number answers: the number, the place, the fault -/
def numF (k : Nat) (s : ByteArray) (at_ : Int) (bad : Bool) : Option (Int × Int × Bool) :=
  (word_Get.f k s at_).bind fun b => if b.2.2 = 0 then (if 4096 < b.1 then some (0, at_, true) else some (wrap64 b.1, b.2.1, bad)) else some (0, at_, true)

theorem number_any (t : TypeId) (rest : List Value) (k : Nat) (g : Nat) (s : ByteArray) (at_ : Int) (bad : Bool) (r1 r2 : Int) (r3 : Bool) (w0 w : World) (hI : IsR t rest w0 w g s at_ bad) (hB : Below w0.heap.size w0 w) (h : numF k s at_ bad = some (r1, r2, r3)) :
    Calls Try.prog 29 #[.pointer (some ⟨g, 0, none⟩)] w fun x w' => x = .returned (.int .i64 r1) ∧ IsR t rest w0 w' g s r2 r3 ∧ Below w0.heap.size w0 w' := by
  unfold numF at h
  obtain ⟨⟨n, to_, e⟩, A, h⟩ := Option.bind_eq_some_iff.mp h
  by_cases he : e = 0
  · by_cases hn : 4096 < n
    · simp only [he, hn, if_true, Option.some.injEq, Prod.mk.injEq] at h
      obtain ⟨rfl, rfl, rfl⟩ := h
      exact number_big t rest k g s at_ bad n to_ e w0 w hI hB A he hn
    · simp only [he, hn, if_true, if_false, Option.some.injEq, Prod.mk.injEq] at h
      obtain ⟨rfl, rfl, rfl⟩ := h
      exact number_good t rest k g s at_ bad n to_ e w0 w hI hB A he (by omega)
  · simp only [he, if_false, Option.some.injEq, Prod.mk.injEq] at h
    obtain ⟨rfl, rfl, rfl⟩ := h
    exact number_bad t rest k g s at_ bad n to_ e w0 w hI hB A he

/-- a cell in memory -/
abbrev IsV (w0 W : World) (g : Nat) (s : ByteArray) (a : Int) (b o : Bool) (S : ByteArray) (l p : Int) : Prop := IsR 65 [.bool o, .string S, .int .i64 l, .int .i64 p] w0 W g s a b
variable {w0 W : World} {g : Nat} {s : ByteArray} {a : Int} {b o : Bool} {S : ByteArray} {l p : Int}
theorem IsV.cell_3 (h : IsV w0 W g s a b o S l p) : W.cell? ⟨g, 3, none⟩ = some (.bool o) := (blk_cell h.1 3).trans (by simp)
theorem IsV.cell_4 (h : IsV w0 W g s a b o S l p) : W.cell? ⟨g, 4, none⟩ = some (.string S) := (blk_cell h.1 4).trans (by simp)
theorem IsV.cell_5 (h : IsV w0 W g s a b o S l p) : W.cell? ⟨g, 5, none⟩ = some (.int .i64 l) := (blk_cell h.1 5).trans (by simp)
theorem IsV.cell_6 (h : IsV w0 W g s a b o S l p) : W.cell? ⟨g, 6, none⟩ = some (.int .i64 p) := (blk_cell h.1 6).trans (by simp)
theorem IsV.set_3 (h : IsV w0 W g s a b o S l p) (x : Bool) : IsV w0 (W.setCell ⟨g, 3, none⟩ (.bool x)) g s a b x S l p := ⟨by simpa using blk_set h.1 3 (.bool x), h.2⟩
theorem IsV.set_4 (h : IsV w0 W g s a b o S l p) (x : ByteArray) : IsV w0 (W.setCell ⟨g, 4, none⟩ (.string x)) g s a b o x l p := ⟨by simpa using blk_set h.1 4 (.string x), h.2⟩
theorem IsV.set_5 (h : IsV w0 W g s a b o S l p) (x : Int) : IsV w0 (W.setCell ⟨g, 5, none⟩ (.int .i64 x)) g s a b o S x p := ⟨by simpa using blk_set h.1 5 (.int .i64 x), h.2⟩
theorem IsV.set_6 (h : IsV w0 W g s a b o S l p) (x : Int) : IsV w0 (W.setCell ⟨g, 6, none⟩ (.int .i64 x)) g s a b o S l x := ⟨by simpa using blk_set h.1 6 (.int .i64 x), h.2⟩

/-- what value makes of the cell: the place, the fault, the value's fields -/
def valueF (k : Nat) (s : ByteArray) (a : Int) (b o : Bool) (S : ByteArray) (l p : Int) : Option (ByteArray × Int × Bool × Bool × ByteArray × Int × Int) :=
  (cell_reader_take.f s a b 1).bind fun x =>
    if x.1.toList = [1] then (numF k x.2.1 x.2.2.1 x.2.2.2).bind fun n => (cell_reader_four.f k x.2.1 n.2.1 n.2.2).bind fun q => some (q.2.1, q.2.2.1, q.2.2.2, true, S, n.1, q.1)
    else if x.1.toList = [0] then (numF k x.2.1 x.2.2.1 x.2.2.2).bind fun n => (cell_reader_take.f x.2.1 n.2.1 n.2.2 n.1).bind fun y => some (y.2.1, y.2.2.1, y.2.2.2, false, y.1, l, p)
    else some (x.2.1, x.2.2.1, x.2.2.2, false, S, l, p)

set_option maxHeartbeats 8000000 in
set_option maxRecDepth 100000 in
theorem value_over (k g : Nat) (w : World) (x s1 : ByteArray) (a1 : Int) (b1 : Bool) (n a2 : Int) (b2 : Bool) (q : Int) (s3 : ByteArray) (a3 : Int) (b3 : Bool) (hI : IsV w0 w g s a b o S l p) (hB : Below w0.heap.size w0 w)
    (A1 : cell_reader_take.f s a b 1 = some (x, s1, a1, b1)) (hx : x.toList = [1]) (A2 : numF k s1 a1 b1 = some (n, a2, b2)) (A3 : cell_reader_four.f k s1 a2 b2 = some (q, s3, a3, b3)) :
    Calls Try.prog 30 #[.pointer (some ⟨g, 0, none⟩)] w fun e w' => e = .returned (.tuple #[]) ∧ IsV w0 w' g s3 a3 b3 true S n q ∧ Below w0.heap.size w0 w' := by
  have HI := Aside0.mk hI
  have HB := Aside0.mk hB
  have H1 := Aside0.mk A1
  have H2 := Aside0.mk A2
  have H3 := Aside0.mk A3
  have hx1 : (x.toList == [1]) = true := beq_iff_eq.mpr hx
  have hx2 : (x.toList == [0]) = false := by rw [hx]; rfl
  clear hI hB A1 A2 A3
  go_enter Try.func30, Try.ntmps30
  go_wp2_with (fail)
  refine (take_any 65 _ g s a b 1 x s1 a1 b1 w0 _ HI.out HB.out H1.out).mono ?_
  rintro e w1 ⟨rfl, hI1, hB1, -⟩
  have HI1 := Aside0.mk hI1
  have HB1 := Aside0.mk hB1
  have hc3 := IsV.cell_3 HI1.out
  have hf3 := blk_frozen HI1.out.1 3
  clear hI1 hB1 HI HB
  go_wp2_with (fail)
  refine (number_any 65 _ k g s1 a1 b1 n a2 b2 w0 _ (IsV.set_3 HI1.out true) (below_set HB1.out (IsR.ge HI1.out)) H2.out).mono ?_
  rintro e w2 ⟨rfl, hI2, hB2⟩
  have HI2 := Aside0.mk hI2
  have HB2 := Aside0.mk hB2
  have hc5 := IsV.cell_5 HI2.out
  have hf5 := blk_frozen HI2.out.1 5
  clear hI2 hB2 HI1 HB1 hc3 hf3
  go_wp2_with (fail)
  refine (four_any_ 65 _ k g s1 a2 b2 q s3 a3 b3 w0 _ (IsV.set_5 HI2.out n) (below_set HB2.out (IsR.ge HI2.out)) H3.out).mono ?_
  rintro e w3 ⟨rfl, hI3, hB3, -⟩
  have HI3 := Aside0.mk hI3
  have HB3 := Aside0.mk hB3
  have hc6 := IsV.cell_6 HI3.out
  have hf6 := blk_frozen HI3.out.1 6
  clear hI3 hB3 HI2 HB2 hc5 hf5
  go_wp2_with (fail)
  refine bodyPost_end (results_none rfl _ _ _) rfl ?_
  exact ⟨rfl, IsV.set_6 HI3.out q, below_set HB3.out (IsR.ge HI3.out)⟩

set_option maxHeartbeats 8000000 in
set_option maxRecDepth 100000 in
theorem value_none (k g : Nat) (w : World) (x s1 : ByteArray) (a1 : Int) (b1 : Bool) (hI : IsV w0 w g s a b o S l p) (hB : Below w0.heap.size w0 w)
    (A1 : cell_reader_take.f s a b 1 = some (x, s1, a1, b1)) (hx : x.toList ≠ [1]) (hy : x.toList ≠ [0]) :
    Calls Try.prog 30 #[.pointer (some ⟨g, 0, none⟩)] w fun e w' => e = .returned (.tuple #[]) ∧ IsV w0 w' g s1 a1 b1 false S l p ∧ Below w0.heap.size w0 w' := by
  have HI := Aside0.mk hI
  have HB := Aside0.mk hB
  have H1 := Aside0.mk A1
  have hx1 : (x.toList == [1]) = false := beq_eq_false_iff_ne.mpr hx
  have hx2 : (x.toList == [0]) = false := beq_eq_false_iff_ne.mpr hy
  clear hI hB A1
  go_enter Try.func30, Try.ntmps30
  go_wp2_with (fail)
  refine (take_any 65 _ g s a b 1 x s1 a1 b1 w0 _ HI.out HB.out H1.out).mono ?_
  rintro e w1 ⟨rfl, hI1, hB1, -⟩
  have HI1 := Aside0.mk hI1
  have HB1 := Aside0.mk hB1
  have hc3 := IsV.cell_3 HI1.out
  have hf3 := blk_frozen HI1.out.1 3
  clear hI1 hB1 HI HB
  go_wp2_with (fail)
  refine bodyPost_end (results_none rfl _ _ _) rfl ?_
  exact ⟨rfl, IsV.set_3 HI1.out false, below_set HB1.out (IsR.ge HI1.out)⟩

set_option maxHeartbeats 8000000 in
set_option maxRecDepth 100000 in
theorem value_here (k g : Nat) (w : World) (x s1 : ByteArray) (a1 : Int) (b1 : Bool) (n a2 : Int) (b2 : Bool) (y s3 : ByteArray) (a3 : Int) (b3 : Bool) (hI : IsV w0 w g s a b o S l p) (hB : Below w0.heap.size w0 w)
    (A1 : cell_reader_take.f s a b 1 = some (x, s1, a1, b1)) (hx : x.toList = [0]) (A2 : numF k s1 a1 b1 = some (n, a2, b2)) (A3 : cell_reader_take.f s1 a2 b2 n = some (y, s3, a3, b3)) :
    Calls Try.prog 30 #[.pointer (some ⟨g, 0, none⟩)] w fun e w' => e = .returned (.tuple #[]) ∧ IsV w0 w' g s3 a3 b3 false y l p ∧ Below w0.heap.size w0 w' := by
  have HI := Aside0.mk hI
  have HB := Aside0.mk hB
  have H1 := Aside0.mk A1
  have H2 := Aside0.mk A2
  have H3 := Aside0.mk A3
  have hx1 : (x.toList == [1]) = false := by rw [hx]; rfl
  have hx2 : (x.toList == [0]) = true := beq_iff_eq.mpr hx
  clear hI hB A1 A2 A3
  go_enter Try.func30, Try.ntmps30
  go_wp2_with (fail)
  refine (take_any 65 _ g s a b 1 x s1 a1 b1 w0 _ HI.out HB.out H1.out).mono ?_
  rintro e w1 ⟨rfl, hI1, hB1, -⟩
  have HI1 := Aside0.mk hI1
  have HB1 := Aside0.mk hB1
  clear hI1 hB1 HI HB
  go_wp2_with (fail)
  go_region_with (first
    | (go_at_call 29; refine (number_any 65 _ k g s1 a1 b1 n a2 b2 w0 _ (HI1.out.drew) (below_drew1 HB1.out) H2.out).mono ?_; rintro e w2 ⟨rfl, hI2, hB2⟩; have HI2 := Aside0.mk hI2; have HB2 := Aside0.mk hB2; clear hI2 hB2)
    | (go_at_call 28; refine (take_any 65 _ g s1 a2 b2 n y s3 a3 b3 w0 _ HI2.out HB2.out H3.out).mono ?_; rintro e w3 ⟨rfl, hI3, hB3, -⟩; have HI3 := Aside0.mk hI3; have HB3 := Aside0.mk hB3; have hc4 := IsV.cell_4 HI3.out; have hf4 := blk_frozen HI3.out.1 4; have hc3 := IsV.cell_3 HI3.out; have hf3 := blk_frozen HI3.out.1 3; clear hI3 hB3))
  all_goals (
    go_wp2_with (fail)
    refine bodyPost_end (results_none rfl _ _ _) rfl ?_
    exact ⟨rfl, IsV.set_3 (IsV.set_4 HI3.out y) false, below_set (below_set HB3.out (IsR.ge HI3.out)) (IsR.ge HI3.out)⟩)

theorem value_any (k g : Nat) (w : World) (s' : ByteArray) (a' : Int) (b' o' : Bool) (S' : ByteArray) (l' p' : Int) (hI : IsV w0 w g s a b o S l p) (hB : Below w0.heap.size w0 w) (h : valueF k s a b o S l p = some (s', a', b', o', S', l', p')) :
    Calls Try.prog 30 #[.pointer (some ⟨g, 0, none⟩)] w fun e w' => e = .returned (.tuple #[]) ∧ IsV w0 w' g s' a' b' o' S' l' p' ∧ Below w0.heap.size w0 w' := by
  unfold valueF at h
  obtain ⟨⟨x, s1, a1, b1⟩, A1, h⟩ := Option.bind_eq_some_iff.mp h
  by_cases hx : x.toList = [1]
  · rw [if_pos hx] at h
    obtain ⟨⟨n, a2, b2⟩, A2, h⟩ := Option.bind_eq_some_iff.mp h
    obtain ⟨⟨q, s3, a3, b3⟩, A3, h⟩ := Option.bind_eq_some_iff.mp h
    simp only [Option.some.injEq, Prod.mk.injEq] at h
    obtain ⟨rfl, rfl, rfl, rfl, rfl, rfl, rfl⟩ := h
    exact value_over k g w x s1 a1 b1 n a2 b2 q s3 a3 b3 hI hB A1 hx A2 A3
  · rw [if_neg hx] at h
    by_cases hy : x.toList = [0]
    · rw [if_pos hy] at h
      obtain ⟨⟨n, a2, b2⟩, A2, h⟩ := Option.bind_eq_some_iff.mp h
      obtain ⟨⟨y, s3, a3, b3⟩, A3, h⟩ := Option.bind_eq_some_iff.mp h
      simp only [Option.some.injEq, Prod.mk.injEq] at h
      obtain ⟨rfl, rfl, rfl, rfl, rfl, rfl, rfl⟩ := h
      exact value_here k g w x s1 a1 b1 n a2 b2 y s3 a3 b3 hI hB A1 hy A2 A3
    · rw [if_neg hy] at h
      simp only [Option.some.injEq, Prod.mk.injEq] at h
      obtain ⟨rfl, rfl, rfl, rfl, rfl, rfl, rfl⟩ := h
      exact value_none k g w x s1 a1 b1 hI hB A1 hx hy
end Go.Proofs.Ytmpfnniekemkbaa.Hand
