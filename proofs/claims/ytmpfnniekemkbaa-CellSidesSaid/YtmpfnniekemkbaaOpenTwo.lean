/-
  A struct of two arrays (two texts, two numbers) that came in, by value.
-/
import Derived.Test.YtmpfnniekemkbaaOpen
namespace Go.Proofs.Ytmpfnniekemkbaa.Open
open Go.ChangeShapes Go.WideShapes Go.ChangeAt Go.RowKit
theorem trod_array2 {H : Type} {enc : TypeId × Value → H} {P : Program} {w : World} {base : Nat} {spare : Nat → Bool} {held : Bool} {t e : TypeId} {fuel : Nat} {c0 c1 : Value} {x : DataW H × List MemPlace} (ht : P.underlying t = some (.array 2 e)) (hce : P.cellsOf e = 1)
    (h : DataW.trod enc P w base spare held fuel t [c0, c1] = some x) :
    ∃ y0 y1 n, DataW.trod enc P w base spare held n e [c0] = some y0 ∧ DataW.trod enc P w base spare held n e [c1] = some y1 := by
  cases fuel with
  | zero => simp [DataW.trod] at h
  | succ n =>
    unfold DataW.trod at h
    rw [ht] at h
    have r2 : List.range 2 = [0, 1] := rfl
    simp [r2, hce] at h
    obtain ⟨_, h⟩ := h
    cases h0 : DataW.trod enc P w base spare held n e [c0] with
    | none => simp [h0] at h
    | some y0 =>
      cases h1 : DataW.trod enc P w base spare held n e [c1] with
      | none => simp [h0, h1] at h
      | some y1 => exact ⟨y0, y1, n, h0, h1⟩

theorem open_two {H : Type} {enc : TypeId × Value → H} {W : World} {base : Nat} {v : Value} {d : DataW H} {p : List MemPlace}
    (hv : Value.okWide Try.prog W .any base 52 v) (h : DataW.Trod enc Try.prog W 0 (fun _ => true) true 52 v d p) :
    ∃ (s t : ByteArray) (y z : Int), v = .agg #[.string s, .string t, .int .i64 y, .int .i64 z] ∧ (Lit.int .i64 y).wf = true ∧ (Lit.int .i64 z).wf = true := by
  obtain ⟨cs, rfl, hsz⟩ := okWide_struct Try.underlying52 hv
  have hC : Try.prog.cellsOf 52 = 4 := by kernel_rfl
  have hA : Try.prog.cellsOf 49 = 2 := by kernel_rfl
  have hB : Try.prog.cellsOf 50 = 2 := by kernel_rfl
  have hE : Try.prog.cellsOf 9 = 1 := by kernel_rfl
  have hI : Try.prog.cellsOf 3 = 1 := by kernel_rfl
  obtain ⟨c0, c1, c2, c3, rfl⟩ := Go.Joins.array4 (hsz.trans hC)
  obtain ⟨fuel, hf⟩ := h
  obtain ⟨y0, y1, n, hx, _, h0, h1⟩ := trod_struct2 Try.underlying52 hf
  have g0 : DataW.trod enc Try.prog W 0 (fun _ => true) true n 49 [c0, c1] = some y0 := by simpa [Value.cells, hA] using h0
  have g1 : DataW.trod enc Try.prog W 0 (fun _ => true) true n 50 [c2, c3] = some y1 := by simpa [Value.cells, hB] using h1
  obtain ⟨z0, z1, m, q0, q1⟩ := trod_array2 Try.underlying49 hE g0
  obtain ⟨z2, z3, m', q2, q3⟩ := trod_array2 Try.underlying50 hI g1
  obtain ⟨s, e0, _, _⟩ := DataW.trod_string Try.underlying9 q0
  obtain ⟨t, e1, _, _⟩ := DataW.trod_string Try.underlying9 q1
  obtain ⟨y, e2, _, w2⟩ := DataW.trod_int Try.underlying3 q2
  obtain ⟨z, e3, _, w3⟩ := DataW.trod_int Try.underlying3 q3
  injection e0 with e0
  injection e1 with e1
  injection e2 with e2
  injection e3 with e3
  subst e0; subst e1; subst e2; subst e3
  exact ⟨s, t, y, z, rfl, w2, w3⟩
end Go.Proofs.Ytmpfnniekemkbaa.Open
