/-
  CellSides: the walk joined with what its calls come to: no cell is another's.
-/
import Derived.Test.YtmpfnniekemkbaaSides
namespace Go.Proofs.Ytmpfnniekemkbaa.Sides
open Go.RowKit Go.Proofs.Ytmpfnniekemkbaa.Q Go.Proofs.Ytmpfnniekemkbaa.Pure
open Go.Proofs.YtmpfnniekemkbaaW.PrintWords Go.Proofs.YtmpfnniekemkbaaW.PrintMore
set_option linter.unusedVariables false

theorem putV_two (t : ByteArray) (o : Bool) (S : ByteArray) (l p : Int) : (putV t o S l p).2 = 3 ∨ (putV t o S l p).2 = 0 := by
  unfold putV
  split <;> simp
theorem putK_two (kid : Int) (t : ByteArray) : (putK kid t).2 = 3 ∨ (putK kid t).2 = 0 := by
  unfold putK
  split <;> simp
theorem calls_put (t : ByteArray) (o : Bool) (S : ByteArray) (l p : Int) (W : World) :
    Calls Try.prog 10 #[.string t, .agg #[.bool o, .string S, .int .i64 l, .int .i64 p]] W fun e' w' => e' = .returned (.tuple #[.string (putV t o S l p).1, .int .i64 (putV t o S l p).2]) ∧ Below W.heap.size W w' :=
  cell_PutValue.calls 100 t o S l p _ _ W (putValue_some 100 (by omega) t o S l p)
theorem calls_kid (kid : Int) (t : ByteArray) (W : World) :
    Calls Try.prog 13 #[.int .i64 kid, .string t] W fun e' w' => e' = .returned (.tuple #[.string (putK kid t).1, .int .i64 (putK kid t).2]) ∧ Below W.heap.size W w' :=
  cell_PutKid.calls 100 kid t _ _ W (putKid_some 100 (by omega) kid t)
theorem sides_value {s t : ByteArray} {o o1 : Bool} {S T : ByteArray} {l p l1 p1 : Int} (h : (putV s o S l p).2 = 0) (h' : (putV t o1 T l1 p1).2 = 0) :
    (putV s o S l p).1 = (putV t o1 T l1 p1).1 ↔ s = t ∧ o = o1 ∧ S = T ∧ l = l1 ∧ p = p1 := by
  constructor
  · intro e
    obtain ⟨h1, h2, h3⟩ := putV_ok (s := (putV s o S l p).1) (Prod.ext rfl h)
    obtain ⟨g1, g2, g3⟩ := putV_ok (s := (putV t o1 T l1 p1).1) (Prod.ext rfl h')
    rw [h3, g3] at e
    exact (body_prefix (y := []) h1 h2 g1 g2 (by rw [e, List.append_nil])).2
  · rintro ⟨rfl, rfl, rfl, rfl, rfl⟩
    rfl
theorem sides_kid {s t : ByteArray} {k0 k1 : Int} (h : (putK k0 s).2 = 0) (h' : (putK k1 t).2 = 0) : (putK k0 s).1 = (putK k1 t).1 ↔ s = t ∧ k0 = k1 := by
  constructor
  · intro e
    obtain ⟨h1, h2, h3, h4⟩ := putK_ok (s := (putK k0 s).1) (Prod.ext rfl h)
    obtain ⟨g1, g2, g3, g4⟩ := putK_ok (s := (putK k1 t).1) (Prod.ext rfl h')
    rw [h4, g4] at e
    obtain ⟨_, q, r⟩ := kid_prefix (y := []) h1 h2 h3 g1 g2 g3 (by rw [e, List.append_nil])
    exact ⟨r, q⟩
  · rintro ⟨rfl, rfl⟩
    rfl

theorem walk (o : Bool) (S : ByteArray) (l p : Int) (o1 : Bool) (T : ByteArray) (l1 p1 : Int) (X Y : ByteArray) (k0 k1 : Int) (hl : (Lit.int .i64 l).wf = true) (hp : (Lit.int .i64 p).wf = true) (hl1 : (Lit.int .i64 l1).wf = true) (hp1 : (Lit.int .i64 p1).wf = true) (hk : (Lit.int .i64 k0).wf = true) (hk1 : (Lit.int .i64 k1).wf = true) (W : World) :
    Calls Try.prog 6 #[.agg #[.bool o, .string S, .int .i64 l, .int .i64 p], .agg #[.bool o1, .string T, .int .i64 l1, .int .i64 p1], .agg #[.string X, .string Y, .int .i64 k0, .int .i64 k1]] W fun e w' => e = .returned (.bool true) ∧ Below W.heap.size W w' := by
  obtain ⟨S', e2, h4, h5, h6⟩ := cut_tells S 300 (by omega)
  obtain ⟨T', e3, h7, h8, h9⟩ := cut_tells T 300 (by omega)
  obtain ⟨j, hj, hjs⟩ : ∃ j : Nat, (if 128 < (X.size : Int) then 128 else (X.size : Int)) = (j : Int) ∧ j ≤ X.size := by
    by_cases h : 128 < (X.size : Int)
    · exact ⟨128, by rw [if_pos h]; rfl, by omega⟩
    · exact ⟨X.size, by rw [if_neg h], by omega⟩
  obtain ⟨jx, hx, hxs⟩ : ∃ j : Nat, (if 128 < (Y.size : Int) then 128 else (Y.size : Int)) = (j : Int) ∧ j ≤ Y.size := by
    by_cases h : 128 < (Y.size : Int)
    · exact ⟨128, by rw [if_pos h]; rfl, by omega⟩
    · exact ⟨Y.size, by rw [if_neg h], by omega⟩
  have c9 := fun W => withylaw09_Cut.calls o S l p o S' l p W (by unfold withylaw09_Cut.f; rw [if_pos h5, if_pos h6, e2])
  have c9b := fun W => withylaw09_Cut.calls o1 T l1 p1 o1 T' l1 p1 W (by unfold withylaw09_Cut.f; rw [if_pos h8, if_pos h9, e3])
  have cF := fun W => Hand.withylaw09_fixed.calls true W rfl
  exact sides_walk S S' T T' X Y (X.extract 0 j) (Y.extract 0 jx) o o1 l p l1 p1 k0 k1 j jx (Lib.hid hj) hjs (Lib.hid rfl) (Lib.hid hx) hxs (Lib.hid rfl) _ _ _ _ _ _ _ _
    (Lib.hid (putV_two _ o S' l p)) (Lib.hid (putV_two _ o1 T' l1 p1)) (Lib.hid (putK_two k0 _)) (Lib.hid (putK_two k1 _)) (Lib.hid sides_value) (Lib.hid sides_kid) (Lib.hid c9) (Lib.hid c9b) (Lib.hid (calls_put _ o S' l p)) (Lib.hid (calls_put _ o1 T' l1 p1)) (Lib.hid (calls_kid k0 _)) (Lib.hid (calls_kid k1 _)) (Lib.hid cF) W
end Go.Proofs.Ytmpfnniekemkbaa.Sides
