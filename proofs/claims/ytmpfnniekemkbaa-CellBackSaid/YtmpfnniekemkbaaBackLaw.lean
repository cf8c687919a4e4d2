/-
  CellBack: the walk joined with what its calls come to.
-/
import Derived.Test.YtmpfnniekemkbaaBack
namespace Go.Proofs.Ytmpfnniekemkbaa.Back
open Go.RowKit Go.Proofs.Ytmpfnniekemkbaa.Q Go.Proofs.Ytmpfnniekemkbaa.Pure
open Go.Proofs.YtmpfnniekemkbaaW.PrintWords Go.Proofs.YtmpfnniekemkbaaW.PrintMore
set_option linter.unusedVariables false

theorem putV_two (t : ByteArray) (o : Bool) (S : ByteArray) (l p : Int) : ((putV t o S l p).2 = 3 ∨ (putV t o S l p).2 = 0) ∧ (((putV t o S l p).2 == 0) = (right o S l p && decide ((t.size : Int) ≤ 128))) := by
  unfold putV
  by_cases h : t.size ≤ 128
  · have h2 : (t.size : Int) ≤ 128 := by omega
    cases hr : right o S l p
    · simp
    · simp [h, h2]
  · have h2 : ¬ ((t.size : Int) ≤ 128) := by omega
    simp [h, h2]
theorem putK_two (kid : Int) (t : ByteArray) : (putK kid t).2 = 3 ∨ (putK kid t).2 = 0 := by
  unfold putK
  split <;> simp
theorem calls_put (t : ByteArray) (o : Bool) (S : ByteArray) (l p : Int) (W : World) :
    Calls Try.prog 10 #[.string t, .agg #[.bool o, .string S, .int .i64 l, .int .i64 p]] W fun e' w' => e' = .returned (.tuple #[.string (putV t o S l p).1, .int .i64 (putV t o S l p).2]) ∧ Below W.heap.size W w' :=
  cell_PutValue.calls 100 t o S l p _ _ W (putValue_some 100 (by omega) t o S l p)
theorem calls_kid (kid : Int) (t : ByteArray) (W : World) :
    Calls Try.prog 13 #[.int .i64 kid, .string t] W fun e' w' => e' = .returned (.tuple #[.string (putK kid t).1, .int .i64 (putK kid t).2]) ∧ Below W.heap.size W w' :=
  cell_PutKid.calls 100 kid t _ _ W (putKid_some 100 (by omega) kid t)

theorem walk (a0 : ByteArray) (o : Bool) (S : ByteArray) (l p : Int) (X : ByteArray) (kid : Int) (hl : (Lit.int .i64 l).wf = true) (hp : (Lit.int .i64 p).wf = true) (hk : (Lit.int .i64 kid).wf = true) (W : World) :
    Calls Try.prog 4 #[.string a0, .agg #[.bool o, .string S, .int .i64 l, .int .i64 p], .agg #[.string X, .int .i64 kid]] W fun e w' => e = .returned (.bool true) ∧ Below W.heap.size W w' := by
  obtain ⟨S', e2, h4, h5, h6⟩ := cut_tells S 300 (by omega)
  obtain ⟨j, hj, hjs, hj2⟩ : ∃ j : Nat, (if 140 < (a0.size : Int) then 140 else (a0.size : Int)) = (j : Int) ∧ j ≤ a0.size ∧ j ≤ 140 := by
    by_cases h : 140 < (a0.size : Int)
    · exact ⟨140, by rw [if_pos h]; rfl, by omega, by omega⟩
    · exact ⟨a0.size, by rw [if_neg h], by omega, by omega⟩
  obtain ⟨jx, hx, hxs, hx2⟩ : ∃ j : Nat, (if 500 < (X.size : Int) then 500 else (X.size : Int)) = (j : Int) ∧ j ≤ X.size ∧ j ≤ 500 := by
    by_cases h : 500 < (X.size : Int)
    · exact ⟨500, by rw [if_pos h]; rfl, by omega, by omega⟩
    · exact ⟨X.size, by rw [if_neg h], by omega, by omega⟩
  obtain ⟨u, hu⟩ : ∃ u, a0.extract 0 j = u := ⟨_, rfl⟩
  obtain ⟨y, hy⟩ : ∃ y, X.extract 0 jx = y := ⟨_, rfl⟩
  have hu2 : u.size ≤ 140 := by rw [← hu, ByteArray.size_extract]; omega
  have hy2 : y.size ≤ 500 := by rw [← hy, ByteArray.size_extract]; omega
  have c9 := fun W => withylaw09_Cut.calls o S l p o S' l p W (by unfold withylaw09_Cut.f; rw [if_pos h5, if_pos h6, e2])
  have cF := fun W => Hand.withylaw09_fixed.calls true W rfl
  have c19 := fun W => cell_Right.calls o S' l p _ W (right_some o S' l p)
  obtain ⟨⟨t, o2, S2, l2, p2, h⟩, eg, hg⟩ := getValue_tot y (by omega)
  obtain ⟨⟨n, uk, i⟩, ek, hgk⟩ := getKid_tot y (by omega)
  have c15 := fun W => Hand.cell_GetValue.calls y t o2 S2 l2 p2 h W eg
  have c17 := fun W => Hand.cell_GetKid.calls y n uk i W ek
  have hh : h = 3 ∨ (h = 0 ∧ (putV t o2 S2 l2 p2).2 = 0 ∧ (putV t o2 S2 l2 p2).1 = y) := by
    rcases hg with e | ⟨e, e'⟩
    · simp only [Prod.mk.injEq] at e
      exact .inl e.2.2.2.2.2
    · simp only at e e'
      exact .inr ⟨e, by rw [e'], by rw [e']⟩
  have hi : i = 3 ∨ (i = 0 ∧ (putK n uk).2 = 0 ∧ (putK n uk).1 = y) := by
    rcases hgk with e | ⟨e, e'⟩
    · simp only [Prod.mk.injEq] at e
      exact .inl e.2.2
    · simp only at e e'
      exact .inr ⟨e, by rw [e'], by rw [e']⟩
  refine back_walk a0 u S S' X y o l p kid j jx (Lib.hid hj) hjs (Lib.hid hu) hu2 (Lib.hid hx) hxs (Lib.hid hy) (putV u o S' l p).1 (putK kid u).1 t uk (putV t o2 S2 l2 p2).1 (putK n uk).1 S2 (putV u o S' l p).2 (putK kid u).2 h i (putV t o2 S2 l2 p2).2 (putK n uk).2 n l2 p2 o2 (right o S' l p)
    (Lib.hid (putV_two u o S' l p).1) (Lib.hid (putV_two u o S' l p).2) (Lib.hid (putK_two kid u)) (Lib.hid hh) (Lib.hid hi) (Lib.hid c9) (Lib.hid (calls_put u o S' l p)) (Lib.hid ?_) (Lib.hid (calls_kid kid u)) (Lib.hid ?_) (Lib.hid c15) (Lib.hid c17) (Lib.hid (calls_put t o2 S2 l2 p2)) (Lib.hid (calls_kid n uk)) (Lib.hid c19) (Lib.hid cF) W
  · intro e W
    exact Hand.cell_GetValue.calls _ u o S' l p 0 W (getValue_put (Prod.ext rfl e))
  · intro e W
    exact Hand.cell_GetKid.calls _ kid u 0 W (getKid_put (Prod.ext rfl e))
end Go.Proofs.Ytmpfnniekemkbaa.Back
