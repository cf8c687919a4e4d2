/-
  The parameters' values that came in, by value, laid open.
-/
import Derived.Test.YtmpfnniekemkbaaRows
import Derived.WalkKit
import Derived.ProofKit
import Derived.OpenShut
import Derived.ShutString
import Derived.ChangeOld
import Derived.Below
import Derived.SizedLaws
import Derived.Carry
import Derived.Laws.IdiomArrays
import Derived.Lib.SmallJoins
namespace Go.Proofs.Ytmpfnniekemkbaa.Open
open Go.ChangeShapes Go.WideShapes Go.ChangeAt Go.RowKit
open Go.ChangeMaps (open_string shut_string)
set_option linter.unusedVariables false

theorem open_value {H : Type} {enc : TypeId × Value → H} {W : World} {base : Nat} {v : Value} {d : DataW H} {p : List MemPlace}
    (hv : Value.okWide Try.prog W .any base 23 v) (h : DataW.Trod enc Try.prog W 0 (fun _ => true) true 23 v d p) :
    ∃ (o : Bool) (S : ByteArray) (l p : Int), v = .agg #[.bool o, .string S, .int .i64 l, .int .i64 p] ∧ (Lit.int .i64 l).wf = true ∧ (Lit.int .i64 p).wf = true := by
  obtain ⟨v0, v1, v2, v3, y0, y1, y2, y3, n, rfl, _, _, g0, g1, g2, g3⟩ := Go.Joins.open_agg4 Try.underlying23 (by kernel_rfl) (by kernel_rfl) hv h
  obtain ⟨o, e0, _⟩ := DataW.trod_bool Try.underlying4 g0
  obtain ⟨S, e1, _, _⟩ := DataW.trod_string Try.underlying9 g1
  obtain ⟨l, e2, _, q2⟩ := DataW.trod_int Try.underlying3 g2
  obtain ⟨p, e3, _, q3⟩ := DataW.trod_int Try.underlying3 g3
  injection e0 with e0
  injection e1 with e1
  injection e2 with e2
  injection e3 with e3
  subst e0; subst e1; subst e2; subst e3
  exact ⟨o, S, l, p, rfl, q2, q3⟩
theorem open_cutting {H : Type} {enc : TypeId × Value → H} {W : World} {base : Nat} {v : Value} {d : DataW H} {p : List MemPlace}
    (hv : Value.okWide Try.prog W .any base 46 v) (h : DataW.Trod enc Try.prog W 0 (fun _ => true) true 46 v d p) :
    ∃ (a c k : Int), v = .agg #[.int .u16 a, .int .u8 c, .int .i64 k] ∧ (Lit.int .u16 a).wf = true ∧ (Lit.int .u8 c).wf = true ∧ (Lit.int .i64 k).wf = true := by
  obtain ⟨v0, v1, v2, y0, y1, y2, n, rfl, _, _, g0, g1, g2⟩ := Go.Joins.open_agg3 Try.underlying46 (by kernel_rfl) (by kernel_rfl) hv h
  obtain ⟨a, e0, _, q0⟩ := DataW.trod_int Try.underlying44 g0
  obtain ⟨c, e1, _, q1⟩ := DataW.trod_int Try.underlying5 g1
  obtain ⟨k, e2, _, q2⟩ := DataW.trod_int Try.underlying3 g2
  injection e0 with e0
  injection e1 with e1
  injection e2 with e2
  subst e0; subst e1; subst e2
  exact ⟨a, c, k, rfl, q0, q1, q2⟩
theorem open_bytes {H : Type} {enc : TypeId × Value → H} {W : World} {base : Nat} {v : Value} {d : DataW H} {p : List MemPlace}
    (hv : Value.okWide Try.prog W .any base 25 v) (h : DataW.Trod enc Try.prog W 0 (fun _ => true) true 25 v d p) :
    ∃ (s : ByteArray) (k : Int), v = .agg #[.string s, .int .i64 k] ∧ (Lit.int .i64 k).wf = true := by
  obtain ⟨v0, v1, y0, y1, n, rfl, _, _, g0, g1⟩ := Go.Joins.open_agg2 Try.underlying25 (by kernel_rfl) (by kernel_rfl) hv h
  obtain ⟨s, e0, _, _⟩ := DataW.trod_string Try.underlying9 g0
  obtain ⟨k, e1, _, q1⟩ := DataW.trod_int Try.underlying3 g1
  injection e0 with e0
  injection e1 with e1
  subst e0; subst e1
  exact ⟨s, k, rfl, q1⟩
end Go.Proofs.Ytmpfnniekemkbaa.Open
