/-
  The walks of GetValue and of GetKid.
-/
import Derived.Test.YtmpfnniekemkbaaValue
import Derived.Test.YtmpfnniekemkbaaQx2
import Derived.Test.YtmpfnniekemkbaaQx4
namespace Go.Proofs.Ytmpfnniekemkbaa.Hand
open Go.RowKit Go.Proofs.Ytmpfnniekemkbaa.Q Go.Proofs.YtmpfnniekemkbaaW.PrintWords Go.Proofs.YtmpfnniekemkbaaW.PrintLast Go.Proofs.YtmpfnniekemkbaaW.PrintMore
set_option linter.unusedVariables false

def getKidF (k : Nat) (s : ByteArray) : Option (Int × ByteArray × Int) :=
  (cell_reader_four.f k s 0 false).bind fun q => (numF k q.2.1 q.2.2.1 q.2.2.2).bind fun n => (cell_reader_take.f q.2.1 n.2.1 n.2.2 n.1).bind fun y => (cell_PutKid.f k q.1 y.1).bind fun u =>
    if y.2.2.2 = true then some (0, ⟨#[]⟩, 3) else if u.2 = 0 then (if u.1.toList = s.toList then some (q.1, y.1, 0) else some (0, ⟨#[]⟩, 3)) else some (0, ⟨#[]⟩, 3)

set_option maxHeartbeats 8000000 in
set_option maxRecDepth 100000 in
theorem getKid_any (k : Nat) (s : ByteArray) (r1 : Int) (r2 : ByteArray) (r3 : Int) (w : World) (h : getKidF k s = some (r1, r2, r3)) :
    Calls Try.prog 17 #[.string s] w fun e w' => e = .returned (.tuple #[.int .i64 r1, .string r2, .int .i64 r3]) ∧ Below w.heap.size w w' := by
  unfold getKidF at h
  obtain ⟨⟨q, s1, a1, b1⟩, A1, h⟩ := Option.bind_eq_some_iff.mp h
  obtain ⟨⟨n, a2, b2⟩, A2, h⟩ := Option.bind_eq_some_iff.mp h
  obtain ⟨⟨y, s3, a3, b3⟩, A3, h⟩ := Option.bind_eq_some_iff.mp h
  obtain ⟨⟨u, e4⟩, A4, h⟩ := Option.bind_eq_some_iff.mp h
  dsimp only at A1 A2 A3 A4 h
  have H1 := Aside0.mk A1
  have H2 := Aside0.mk A2
  have H3 := Aside0.mk A3
  have H4 := Aside0.mk A4
  have H := Aside0.mk h
  clear A1 A2 A3 A4 h
  have HI := Aside0.mk (show IsR 63 [] w (w.alloc (.cells #[.string s, .int .i64 0, .bool false] 63)) w.heap.size s 0 false from ⟨by simpa using heap_alloc_new w _, Nat.le_refl _⟩)
  have HB := Aside0.mk (below_alloc (Below.refl w.heap.size w) (.cells #[.string s, .int .i64 0, .bool false] 63))
  go_enter Try.func17, Try.ntmps17
  go_wp2_with (fail)
  refine (four_any_ 63 [] k _ s 0 false q s1 a1 b1 w _ HI.out HB.out H1.out).mono ?_
  rintro e w1 ⟨rfl, hI1, hB1, -⟩
  have HI1 := Aside0.mk hI1
  have HB1 := Aside0.mk hB1
  clear hI1 hB1 HI HB
  go_wp2_with (fail)
  refine (number_any 63 [] k _ s1 a1 b1 n a2 b2 w _ HI1.out HB1.out H2.out).mono ?_
  rintro e w2 ⟨rfl, hI2, hB2⟩
  have HI2 := Aside0.mk hI2
  have HB2 := Aside0.mk hB2
  clear hI2 hB2 HI1 HB1
  go_wp2_with (fail)
  refine (take_any 63 [] _ s1 a2 b2 n y s3 a3 b3 w _ HI2.out HB2.out H3.out).mono ?_
  rintro e w3 ⟨rfl, hI3, hB3, -⟩
  have HI3 := Aside0.mk hI3
  have HB3 := Aside0.mk hB3
  clear hI3 hB3 HI2 HB2
  go_wp2_with (fail)
  refine (cell_PutKid.calls k q y u e4 _ H4.out).mono ?_
  rintro e w4 ⟨rfl, hb⟩
  have HI4 := Aside0.mk (HI3.out.below hb)
  have HB4 := Aside0.mk (below_step HB3.out hb)
  have hc2 := IsR.cell_2 HI4.out.1
  have hf2 := blk_frozen HI4.out.1 2
  clear hb HI3 HB3
  cases b3 with
  | true =>
    have h := H.out
    simp only [if_true, Option.some.injEq, Prod.mk.injEq] at h
    obtain ⟨rfl, rfl, rfl⟩ := h
    go_wp2_with (fail)
    go_ret3
    exact ⟨rfl, HB4.out⟩
  | false =>
    by_cases he : e4 = 0
    · have he1 : (e4 == 0) = true := beq_iff_eq.mpr he
      have he2 : (e4 != 0) = false := bne_eq_false_iff_eq.mpr he
      by_cases hu : u.toList = s.toList
      · have hu1 : (u.toList == s.toList) = true := beq_iff_eq.mpr hu
        have hu2 : (u.toList != s.toList) = false := bne_eq_false_iff_eq.mpr hu
        have h := H.out
        simp only [Bool.false_eq_true, if_false, if_pos he, if_pos hu, Option.some.injEq, Prod.mk.injEq] at h
        obtain ⟨rfl, rfl, rfl⟩ := h
        clear he hu
        go_wp2_with (fail)
        go_ret3
        exact ⟨rfl, HB4.out⟩
      · have hu1 : (u.toList == s.toList) = false := beq_eq_false_iff_ne.mpr hu
        have hu2 : (u.toList != s.toList) = true := bne_iff_ne.mpr hu
        have h := H.out
        simp only [Bool.false_eq_true, if_false, if_pos he, if_neg hu, Option.some.injEq, Prod.mk.injEq] at h
        obtain ⟨rfl, rfl, rfl⟩ := h
        clear he hu
        go_wp2_with (fail)
        go_ret3
        exact ⟨rfl, HB4.out⟩
    · have he1 : (e4 == 0) = false := beq_eq_false_iff_ne.mpr he
      have he2 : (e4 != 0) = true := bne_iff_ne.mpr he
      have h := H.out
      simp only [Bool.false_eq_true, if_false, if_neg he, Option.some.injEq, Prod.mk.injEq] at h
      obtain ⟨rfl, rfl, rfl⟩ := h
      clear he
      go_wp2_with (fail)
      go_ret3
      exact ⟨rfl, HB4.out⟩

theorem put4 {w : World} {g : Nat} {t : TypeId} {a b c d a' b' c' d' : Value} (h : w.heap[g]? = some (.cells #[a, b, c, d] t (0, 0))) : ((((w.setCell ⟨g, 0, none⟩ a').setCell ⟨g, 1, none⟩ b').setCell ⟨g, 2, none⟩ c').setCell ⟨g, 3, none⟩ d').heap[g]? = some (.cells #[a', b', c', d'] t (0, 0)) :=
  blk_put (blk_put (blk_put (blk_put h 0 _ rfl) 1 _ rfl) 2 _ rfl) 3 _ rfl
theorem below4 {w W : World} {g : Nat} {a' b' c' d' : Value} (h : Below w.heap.size w W) (hg : w.heap.size ≤ g) : Below w.heap.size w ((((W.setCell ⟨g, 0, none⟩ a').setCell ⟨g, 1, none⟩ b').setCell ⟨g, 2, none⟩ c').setCell ⟨g, 3, none⟩ d') :=
  below_set (below_set (below_set (below_set h hg) hg) hg) hg
theorem size_alloc_ (w : World) (o : Obj) : (w.alloc o).heap.size = w.heap.size + 1 := by simp

def getValueF (k : Nat) (s : ByteArray) : Option (ByteArray × Bool × ByteArray × Int × Int × Int) :=
  (numF k s 0 false).bind fun n => (cell_reader_take.f s n.2.1 n.2.2 n.1).bind fun y => (valueF k y.2.1 y.2.2.1 y.2.2.2 false ⟨#[]⟩ 0 0).bind fun v => (cell_PutValue.f k y.1 v.2.2.2.1 v.2.2.2.2.1 v.2.2.2.2.2.1 v.2.2.2.2.2.2).bind fun u =>
    if v.2.2.1 = true then some (⟨#[]⟩, false, ⟨#[]⟩, 0, 0, 3) else if u.2 = 0 then (if u.1.toList = s.toList then some (y.1, v.2.2.2.1, v.2.2.2.2.1, v.2.2.2.2.2.1, v.2.2.2.2.2.2, 0) else some (⟨#[]⟩, false, ⟨#[]⟩, 0, 0, 3)) else some (⟨#[]⟩, false, ⟨#[]⟩, 0, 0, 3)

set_option maxHeartbeats 8000000 in
set_option maxRecDepth 100000 in
theorem getValue_any (k : Nat) (s : ByteArray) (r1 : ByteArray) (r2 : Bool) (r3 : ByteArray) (r4 r5 r6 : Int) (w : World) (h : getValueF k s = some (r1, r2, r3, r4, r5, r6)) :
    Calls Try.prog 15 #[.string s] w fun e w' => e = .returned (.tuple #[.string r1, .agg #[.bool r2, .string r3, .int .i64 r4, .int .i64 r5], .int .i64 r6]) ∧ Below w.heap.size w w' := by
  unfold getValueF at h
  obtain ⟨⟨n, a2, b2⟩, A2, h1⟩ := Option.bind_eq_some_iff.mp h
  clear h
  obtain ⟨⟨y, s3, a3, b3⟩, A3, h⟩ := Option.bind_eq_some_iff.mp h1
  clear h1
  obtain ⟨⟨sv, av, bv, o, S, l, p⟩, AV, h1⟩ := Option.bind_eq_some_iff.mp h
  clear h
  obtain ⟨⟨u, e4⟩, A4, h⟩ := Option.bind_eq_some_iff.mp h1
  clear h1
  dsimp only at A2 A3 AV A4 h
  have H2 := Aside0.mk A2
  have H3 := Aside0.mk A3
  have HV := Aside0.mk AV
  have H4 := Aside0.mk A4
  have H := Aside0.mk h
  clear A2 A3 A4 AV h
  have hu23 := Try.underlying23
  go_enter Try.func15, Try.ntmps15
  go_wp2_with (fail)
  have hz : (w.alloc (.cells #[.bool false, .string ⟨#[]⟩, .int .i64 0, .int .i64 0] 23)).heap.size = w.heap.size + 1 := size_alloc_ _ _
  have HG := Aside0.mk (heap_alloc_new w (.cells #[.bool false, .string ⟨#[]⟩, .int .i64 0, .int .i64 0] 23))
  have HW := Aside0.mk (below_alloc (Below.refl w.heap.size w) (.cells #[.bool false, .string ⟨#[]⟩, .int .i64 0, .int .i64 0] 23))
  generalize w.alloc (.cells #[.bool false, .string ⟨#[]⟩, .int .i64 0, .int .i64 0] 23) = w0 at hz HG HW ⊢
  have HI := Aside0.mk (show IsV w0 (w0.alloc (.cells #[.string s, .int .i64 0, .bool false, .bool false, .string ⟨#[]⟩, .int .i64 0, .int .i64 0] 65)) (w.heap.size + 1) s 0 false false ⟨#[]⟩ 0 0 from ⟨by rw [← hz]; exact heap_alloc_new w0 _, by omega⟩)
  have HB := Aside0.mk (below_alloc (Below.refl w0.heap.size w0) (.cells #[.string s, .int .i64 0, .bool false, .bool false, .string ⟨#[]⟩, .int .i64 0, .int .i64 0] 65))
  generalize w0.alloc (.cells #[.string s, .int .i64 0, .bool false, .bool false, .string ⟨#[]⟩, .int .i64 0, .int .i64 0] 65) = w1 at HI HB ⊢
  obtain ⟨g, hg⟩ : ∃ g, w.heap.size + 1 = g := ⟨_, rfl⟩
  rw [hg] at HI ⊢
  have HN := Aside0.mk (show w.heap.size ≠ g by omega)
  have HL := Aside0.mk (show w.heap.size < w0.heap.size by omega)
  clear hz hg
  go_region_with (first
    | (go_at_call 29; refine (number_any 65 _ k g s 0 false n a2 b2 w0 _ (HI.out.drew) (below_drew1 HB.out) H2.out).mono ?_; rintro e w2 ⟨rfl, hI2, hB2⟩; have HI2 := Aside0.mk hI2; have HB2 := Aside0.mk hB2; clear hI2 hB2)
    | (go_at_call 28; refine (take_any 65 _ g s a2 b2 n y s3 a3 b3 w0 _ HI2.out HB2.out H3.out).mono ?_; rintro e w3 ⟨rfl, hI3, hB3, -⟩; have HI3 := Aside0.mk hI3; have HB3 := Aside0.mk hB3; clear hI3 hB3))
  all_goals clear HI HB HI2 HB2 w2
  all_goals go_wp2_with (fail)
  refine (value_any k g _ sv av bv o S l p HI3.out HB3.out HV.out).mono ?_
  rintro e w4 ⟨rfl, hI4, hB4⟩
  have HI4 := Aside0.mk hI4
  have HB4 := Aside0.mk hB4
  have hc3 := IsV.cell_3 hI4
  have hc4 := IsV.cell_4 hI4
  have hc5 := IsV.cell_5 hI4
  have hc6 := IsV.cell_6 hI4
  clear hI4 hB4 HI3 HB3
  go_wp2_with (fail)
  refine (cell_PutValue.calls k y o S l p u e4 _ H4.out).mono ?_
  rintro e w5 ⟨rfl, hb⟩
  have HI5 := Aside0.mk (HI4.out.below hb)
  have HB5 := Aside0.mk (below_step HB4.out hb)
  clear hc3 hc4 hc5 hc6 hb HI4 HB4
  have hc2 := IsR.cell_2 HI5.out.1
  have hc3 := IsV.cell_3 HI5.out
  have hc4 := IsV.cell_4 HI5.out
  have hc5 := IsV.cell_5 HI5.out
  have hc6 := IsV.cell_6 HI5.out
  have HG5 := Aside0.mk (blk_below HG.out HB5.out)
  have hb0 : w5.cell? ⟨w.heap.size, 0, none⟩ = some (.bool false) := (blk_cell HG5.out 0).trans rfl
  have hb1 : w5.cell? ⟨w.heap.size, 1, none⟩ = some (.string ⟨#[]⟩) := (blk_cell HG5.out 1).trans rfl
  have hb2 : w5.cell? ⟨w.heap.size, 2, none⟩ = some (.int .i64 0) := (blk_cell HG5.out 2).trans rfl
  have hb3 : w5.cell? ⟨w.heap.size, 3, none⟩ = some (.int .i64 0) := (blk_cell HG5.out 3).trans rfl
  have hf0 := blk_frozen HG5.out 0
  have hf1 := blk_frozen HG5.out 1
  have hf2 := blk_frozen HG5.out 2
  have hf3 := blk_frozen HG5.out 3
  have hn := HN.out
  cases bv with
  | true =>
    have h := H.out
    simp only [if_true, Option.some.injEq, Prod.mk.injEq] at h
    obtain ⟨rfl, rfl, rfl, rfl, rfl, rfl⟩ := h
    go_wp2_with (fail)
    refine bodyPost_ret (results_list (rs := [.tmp 2, .cell 3 23, .tmp 4]) rfl (by simp) (.tmp (.cell w.heap.size 23 #[.bool false, .string ⟨#[]⟩, .int .i64 0, .int .i64 0] (0, 0) _ rfl (put4 HG5.out) Try.underlying23 rfl (by kernel_rfl) (.tmp .nil)))) rfl ?_
    exact ⟨rfl, below4 (below_step HW.out HB5.out) (Nat.le_refl _)⟩
  | false =>
    by_cases he : e4 = 0
    · have he1 : (e4 == 0) = true := beq_iff_eq.mpr he
      have he2 : (e4 != 0) = false := bne_eq_false_iff_eq.mpr he
      by_cases hu : u.toList = s.toList
      · have hu1 : (u.toList == s.toList) = true := beq_iff_eq.mpr hu
        have hu2 : (u.toList != s.toList) = false := bne_eq_false_iff_eq.mpr hu
        have h := H.out
        simp only [Bool.false_eq_true, if_false, if_pos he, if_pos hu, Option.some.injEq, Prod.mk.injEq] at h
        obtain ⟨rfl, rfl, rfl, rfl, rfl, rfl⟩ := h
        clear he hu
        go_wp2_with (fail)
        go_region_with (fail)
        all_goals go_wp2_with (fail)
        all_goals (
          refine bodyPost_ret (results_list (rs := [.tmp 2, .cell 3 23, .tmp 4]) rfl (by simp) (.tmp (.cell w.heap.size 23 #[.bool o, .string S, .int .i64 l, .int .i64 p] (0, 0) _ rfl (put4 HG5.out) Try.underlying23 rfl (by kernel_rfl) (.tmp .nil)))) rfl ?_
          exact ⟨rfl, below4 (below_drew1 (below_step HW.out HB5.out)) (Nat.le_refl _)⟩)
      · have hu1 : (u.toList == s.toList) = false := beq_eq_false_iff_ne.mpr hu
        have hu2 : (u.toList != s.toList) = true := bne_iff_ne.mpr hu
        have h := H.out
        simp only [Bool.false_eq_true, if_false, if_pos he, if_neg hu, Option.some.injEq, Prod.mk.injEq] at h
        obtain ⟨rfl, rfl, rfl, rfl, rfl, rfl⟩ := h
        clear he hu
        go_wp2_with (fail)
        refine bodyPost_ret (results_list (rs := [.tmp 2, .cell 3 23, .tmp 4]) rfl (by simp) (.tmp (.cell w.heap.size 23 #[.bool false, .string ⟨#[]⟩, .int .i64 0, .int .i64 0] (0, 0) _ rfl (put4 HG5.out) Try.underlying23 rfl (by kernel_rfl) (.tmp .nil)))) rfl ?_
        exact ⟨rfl, below4 (below_step HW.out HB5.out) (Nat.le_refl _)⟩
    · have he1 : (e4 == 0) = false := beq_eq_false_iff_ne.mpr he
      have he2 : (e4 != 0) = true := bne_iff_ne.mpr he
      have h := H.out
      simp only [Bool.false_eq_true, if_false, if_neg he, Option.some.injEq, Prod.mk.injEq] at h
      obtain ⟨rfl, rfl, rfl, rfl, rfl, rfl⟩ := h
      clear he
      go_wp2_with (fail)
      refine bodyPost_ret (results_list (rs := [.tmp 2, .cell 3 23, .tmp 4]) rfl (by simp) (.tmp (.cell w.heap.size 23 #[.bool false, .string ⟨#[]⟩, .int .i64 0, .int .i64 0] (0, 0) _ rfl (put4 HG5.out) Try.underlying23 rfl (by kernel_rfl) (.tmp .nil)))) rfl ?_
      exact ⟨rfl, below4 (below_step HW.out HB5.out) (Nat.le_refl _)⟩

def cell_GetValue.f (a0 : ByteArray) : Option (ByteArray × Bool × ByteArray × Int × Int × Int) := getValueF 100 a0
theorem cell_GetValue.calls (a0 : ByteArray) (r1 : ByteArray) (r2 : Bool) (r3 : ByteArray) (r4 : Int) (r5 : Int) (r6 : Int) (w : World) (h : cell_GetValue.f a0 = some (r1, r2, r3, r4, r5, r6)) :
    Calls Try.prog 15 #[.string a0] w fun e w' => e = .returned (.tuple #[.string r1, .agg #[.bool r2, .string r3, .int .i64 r4, .int .i64 r5], .int .i64 r6]) ∧ Below w.heap.size w w' := getValue_any 100 a0 r1 r2 r3 r4 r5 r6 w h
def cell_GetKid.f (a0 : ByteArray) : Option (Int × ByteArray × Int) := getKidF 100 a0
theorem cell_GetKid.calls (a0 : ByteArray) (r1 : Int) (r2 : ByteArray) (r3 : Int) (w : World) (h : cell_GetKid.f a0 = some (r1, r2, r3)) :
    Calls Try.prog 17 #[.string a0] w fun e w' => e = .returned (.tuple #[.int .i64 r1, .string r2, .int .i64 r3]) ∧ Below w.heap.size w w' := getKid_any 100 a0 r1 r2 r3 w h
end Go.Proofs.Ytmpfnniekemkbaa.Hand
