/-
  SumBurst, the row: bytes of which at most four, one behind the other, are other ones have another sum; the same ones have the same. For every input.
-/
import Derived.Test.YtlplhnfaohbkcaaRows
import Derived.Test.YtlplhnfaohbkcaaBurst
import Derived.WalkKit
import Derived.ProofKit
import Derived.OpenShut
import Derived.ShutString
import Derived.ChangeOld
import Derived.Below
import Derived.SizedLaws
import Derived.Carry
import Derived.Laws.IdiomArrays
import Derived.Lib.SmallJoins
namespace Go.Proofs.Ytlplhnfaohbkcaa.sumBurst
open Go.ChangeShapes Go.WideShapes Go.ChangeAt Go.RowKit
open Go.ChangeMaps (open_string shut_string)
open Go.Proofs.Ytlplhnfaohbkcaa.Pure Go.Proofs.Ytlplhnfaohbkcaa.Q Go.Proofs.Ytlplhnfaohbkcaa.Burst
open Go.Proofs.YtlplhnfaohbkcaaW.PrintMore

set_option linter.unusedVariables false
section
attribute [local go_sem] max2_int min2_int max_two min_two
set_option maxHeartbeats 1000000 in
set_option maxRecDepth 100000 in
theorem burst_none (s u : ByteArray) (j : Nat) (hj : Hid ((if 400 < (s.size : Int) then 400 else (s.size : Int)) = (j : Int))) (hjs : j ≤ s.size) (hu : Hid (s.extract 0 j = u)) (hu0 : Hid (u.size = 0))
    (a : Nat) (ha : a < 65536) (x0 x1 x2 x3 : UInt8) (w : World) :
    Calls Try.prog 5 #[.string s, .int .u16 a, .agg #[.int .u8 x0.toNat, .int .u8 x1.toNat, .int .u8 x2.toNat, .int .u8 x3.toNat]] w fun e w' => e = .returned (.bool true) ∧ Below w.heap.size w w' := by
  have h1 := hj.out
  have h2 := hu.out
  have hz : ((u.size : Int) == 0) = true := by rw [beq_iff_eq]; have := hu0.out; omega
  have cf := fun W => withylaw02_fixed.calls _ W fixed_some
  have CF := Lib.hid cf
  clear cf
  go_enter Try.func5, Try.ntmps5
  go_wp2_with fail
  refine (CF.out _).mono ?_
  rintro e w2 ⟨rfl, hb⟩
  have HB := Lib.hid hb
  clear hb
  go_wp2_with fail
  go_ret
  exact ⟨rfl, (Below.alloc (Below.refl _ _) (Nat.le_refl _) _).trans (HB.out.mono (by simp))⟩
end

theorem burst_walk (s : ByteArray) (hs : s.size ≤ 140737488351232) (a : Nat) (ha : a < 65536) (x0 x1 x2 x3 : UInt8) (w : World) :
    Calls Try.prog 5 #[.string s, .int .u16 a, .agg #[.int .u8 x0.toNat, .int .u8 x1.toNat, .int .u8 x2.toNat, .int .u8 x3.toNat]] w fun e w' => e = .returned (.bool true) ∧ Below w.heap.size w w' := by
  obtain ⟨j, hj⟩ : ∃ j : Nat, j = min 400 s.size := ⟨_, rfl⟩
  have h1 : (if 400 < (s.size : Int) then 400 else (s.size : Int)) = (j : Int) := by split <;> omega
  have hz : (s.extract 0 j).size = j := by rw [ByteArray.size_extract]; omega
  by_cases h0 : j = 0
  · exact burst_none s _ j h1 (by omega) rfl (by rw [hz]; exact h0) a ha x0 x1 x2 x3 w
  · exact burst_some s _ j h1 (by omega) rfl (by omega) (by omega) a (a % j) ha (by rw [hz]; exact Nat.mod_lt _ (by omega)) (by show (a : Int) % (((s.extract 0 j).size : Nat) : Int) = _; rw [hz]; rfl) x0 x1 x2 x3 w

theorem okWide_arr {P : Program} {w : World} {r : Reach} {base : Nat} {t e : TypeId} {n : Nat} {v : Value} (ht : P.underlying t = some (.array n e)) (h : Value.okWide P w r base t v) : ∃ cs, v = .agg cs ∧ cs.size = P.cellsOf t := by
  unfold Value.okWide at h
  rw [ht] at h
  obtain ⟨cs, h1, h2, _⟩ := h
  exact ⟨cs, h1, h2⟩

theorem u8_nat {a : Int} (h : (Lit.int .u8 a).wf = true) : ∃ n : UInt8, a = n.toNat := by
  simp [Lit.wf, IntKind.min, IntKind.max, IntKind.signed, IntKind.bits] at h
  refine ⟨UInt8.ofNat a.toNat, ?_⟩
  simp
  omega
theorem u16_nat {a : Int} (h : (Lit.int .u16 a).wf = true) : ∃ n : Nat, a = n ∧ n < 65536 := by
  simp [Lit.wf, IntKind.min, IntKind.max, IntKind.signed, IntKind.bits] at h
  exact ⟨a.toNat, by omega, by omega⟩

theorem own : ownKnob Try.prog.godebug = none := by kernel_rfl
theorem laidOut : laidOutB Try.prog = true := by kernel_rfl

/-- an array of four bytes that came in, by value -/
theorem open_four {H : Type} {enc : TypeId × Value → H} {W : World} {base : Nat} {v : Value} {d : DataW H} {p : List MemPlace}
    (hv : Value.okWide Try.prog W .any base 30 v) (h : DataW.Trod enc Try.prog W 0 (fun _ => true) true 30 v d p) :
    ∃ x0 x1 x2 x3 : UInt8, v = .agg #[.int .u8 x0.toNat, .int .u8 x1.toNat, .int .u8 x2.toNat, .int .u8 x3.toNat] := by
  obtain ⟨cs, rfl, hsz⟩ := okWide_arr Try.underlying30 hv
  have hC : Try.prog.cellsOf 30 = 4 := by kernel_rfl
  have hE : Try.prog.cellsOf 5 = 1 := by kernel_rfl
  obtain ⟨c0, c1, c2, c3, rfl⟩ := Go.Joins.array4 (hsz.trans hC)
  obtain ⟨fuel, hf⟩ := h
  obtain ⟨y0, y1, y2, y3, n, _, g0, g1, g2, g3⟩ := trod_array4 Try.underlying30 hE hf
  obtain ⟨n0, e0, _, q0⟩ := DataW.trod_int Try.underlying5 g0
  obtain ⟨n1, e1, _, q1⟩ := DataW.trod_int Try.underlying5 g1
  obtain ⟨n2, e2, _, q2⟩ := DataW.trod_int Try.underlying5 g2
  obtain ⟨n3, e3, _, q3⟩ := DataW.trod_int Try.underlying5 g3
  injection e0 with e0
  injection e1 with e1
  injection e2 with e2
  injection e3 with e3
  subst e0; subst e1; subst e2; subst e3
  obtain ⟨x0, rfl⟩ := u8_nat q0
  obtain ⟨x1, rfl⟩ := u8_nat q1
  obtain ⟨x2, rfl⟩ := u8_nat q2
  obtain ⟨x3, rfl⟩ := u8_nat q3
  exact ⟨x0, x1, x2, x3, rfl⟩

set_option maxRecDepth 100000 in
theorem lifted (os : Os) (started : os.Started) (H : Type) (enc : TypeId × Value → H) :
    ReturnsInHanded {} Try.checked os 5 .any (Rows.sumBurstSpec.pre6 enc Try.prog Try.f5 Rows.sumBurstRow.domain false) (Rows.sumBurstSpec.post enc Try.prog Try.f5 false true false false) := by
  refine returnsInHanded_of_change_sized (C := Try.checked) own started (by kernel_rfl) Try.func5
    (ChangeSpec.witness6 (enc := enc) (C := Try.checked) false ⟨#[], #[.string ByteArray.empty, .int .u16 0, .agg #[.int .u8 0, .int .u8 0, .int .u8 0, .int .u8 0]], []⟩ 8 (by kernel_rfl) (by kernel_rfl) (by kernel_rfl) (by kernel_rfl)) ?_
  intro W base args ds gs before hval0 hW hcnd hsz0 _
  have hsz : (DataW.weightsEach Try.prog (Try.f5.params.toList ++ Rows.sumBurstSpec.plain.varTypes Try.prog) (ds ++ gs)).all (· ≤ reachBytes) = true := hsz0
  have hval : ∀ (j : Nat) t v, Try.f5.params[j]? = some t → args[j]? = some v → Value.okWide Try.prog W .any base t v := hval0
  have hW' := hW
  obtain ⟨p, q, hA0, hV, rfl, hfz, hnd⟩ := hW
  have hA : DataW.TrodAll enc Try.prog W 0 (fun _ => true) true Try.f5.params.toList args.toList ds p := hA0
  rw [Try.params5] at hA hval hsz
  obtain ⟨v0, vs0, d0, ds0, p0, q0, hargs, rfl, rfl, h0, r0⟩ := trodAll_cons hA
  obtain ⟨v1, vs1, d1, ds1, p1, q1, rfl, rfl, rfl, h1, r1⟩ := trodAll_cons r0
  obtain ⟨v2, vs2, d2, ds2, p2, q2, rfl, rfl, rfl, h2, r2⟩ := trodAll_cons r1
  obtain ⟨rfl, rfl, rfl⟩ := trodAll_nil r2
  obtain rfl : args = #[v0, v1, v2] := by cases args; simp_all
  obtain ⟨rfl, rfl⟩ := trodVars_none hV
  obtain ⟨a0, rfl, rfl, rfl, y0⟩ := open_string Try.underlying9 (hval 0 9 v0 rfl rfl) h0
  have w0 : a0.size ≤ 140737488351232 := by
    have z := sized_string hsz (j := 0) (t := 9) rfl rfl
    rw [Array.length_toList] at z
    exact z
  obtain ⟨a1, rfl, rfl, rfl, w1⟩ := open_int Try.underlying29 (hval 1 29 v1 rfl rfl) h1
  have k2 := h2
  have lt2 : ∀ x ∈ p2, x.block < W.heap.size := by obtain ⟨m, hm⟩ := k2; exact DataW.trod_lt m _ _ _ hm
  obtain ⟨x0, x1, x2, x3, rfl⟩ := open_four (hval 2 30 v2 rfl rfl) h2
  obtain ⟨m1, rfl, hm1⟩ := u16_nat w1
  clear hA0 hval0 hsz0 hsz
  refine (burst_walk a0 w0 m1 hm1 x0 x1 x2 x3 W).mono fun e W' ⟨he, bel⟩ => ?_
  subst he
  exact ⟨_, rfl, _, _, _, [], _, [], hW', trodAll_mk1 (shut_bool Try.underlying4 _), (trodAll_cons_mk (shut_string Try.underlying9 y0) (trodAll_cons_mk (shut_int Try.underlying29 w1) (trodAll_cons_mk (Below.trod laidOut (by kernel_rfl) (of_decide_eq_true (by kernel_rfl)) k2 bel lt2) trodAll_mk0))), rfl, bel.frame _, fun h => by cases h⟩
theorem over : Rows.sumBurstRow.holds Try.pinned (OpenSpec.ofChange Rows.sumBurstSpec) :=
  OpenClaim.holds_of_wide 5 Try.f5 rfl rfl rfl rfl rfl rfl rfl ⟨rfl, rfl, rfl, rfl, rfl⟩ rfl rfl rfl rfl rfl (by kernel_rfl) Try.func5 (by kernel_rfl)
    (of_decide_eq_true (by kernel_rfl)) (by unfold Func.isWrapper; first | (rw [if_pos (by decide +kernel)]; kernel_rfl) | (rw [if_neg (by decide +kernel)]; exact ⟨rfl, rfl⟩))
    (fun os started H enc _ => lifted os started H enc)
theorem proved : Rows.SumBurstSaid := over
#print axioms proved
end Go.Proofs.Ytlplhnfaohbkcaa.sumBurst
namespace Go.Proofs.Ytlplhnfaohbkcaa
/-- The row, under a short name, for the claim. -/
theorem sumBurst_holds : Rows.SumBurstSaid := sumBurst.proved
end Go.Proofs.Ytlplhnfaohbkcaa
