/-
  The walk of WordBack: a number is got as it was put, whatever stands ahead and behind.
-/
import Derived.Test.YtnjfgmabalmgnaaFacts
namespace Go.Proofs.Ytnjfgmabalmgnaa.Back
open Go.RowKit Go.Proofs.Ytnjfgmabalmgnaa.Q Go.Proofs.Ytnjfgmabalmgnaa.Pure
open Go.Proofs.YtnjfgmabalmgnaaW.PrintWords Go.Proofs.YtnjfgmabalmgnaaW.PrintMore
attribute [local go_sem] max2_int min2_int max_two min_two

set_option maxHeartbeats 1000000 in
set_option maxRecDepth 100000 in
theorem back_walk (n : Nat) (s1 s2 u v b z : ByteArray) (j1 j2 : Nat) (hj1 : Hid ((if 20 < (s1.size : Int) then 20 else (s1.size : Int)) = (j1 : Int))) (hj2 : Hid ((if 20 < (s2.size : Int) then 20 else (s2.size : Int)) = (j2 : Int)))
    (hs1 : j1 ≤ s1.size) (hs2 : j2 ≤ s2.size) (hu : Hid (s1.extract 0 j1 = u)) (hv : Hid (s2.extract 0 j2 = v)) (hu2 : u.size ≤ 20) (hv2 : v.size ≤ 20) (hb1 : 1 ≤ b.size) (hb9 : b.size ≤ 9) (hz : Hid (b.extract 0 (b.size - 1) = z)) (hz9 : z.size ≤ 9)
    (cP : Hid (∀ W, Calls Try.prog 14 #[.int .u64 n] W fun e w' => e = .returned (.string b) ∧ Below W.heap.size W w'))
    (cS : Hid (∀ W, Calls Try.prog 16 #[.int .u64 n] W fun e w' => e = .returned (.int .i64 b.size) ∧ Below W.heap.size W w'))
    (cG : Hid (∀ W, Calls Try.prog 10 #[.string (u ++ b ++ v), .int .i64 u.size] W fun e w' => e = .returned (.tuple #[.int .u64 n, .int .i64 ((u.size + b.size : Nat) : Int), .int .i64 0]) ∧ Below W.heap.size W w'))
    (cH : Hid (∀ W, Calls Try.prog 10 #[.string (u ++ z), .int .i64 u.size] W fun e w' => e = .returned (.tuple #[.int .u64 0, .int .i64 0, .int .i64 7]) ∧ Below W.heap.size W w'))
    (cF : Hid (∀ W, Calls Try.prog 19 #[] W fun e w' => e = .returned (.bool true) ∧ Below W.heap.size W w')) (w : World) :
    Calls Try.prog 5 #[.int .u64 n, .string s1, .string s2] w fun e w' => e = .returned (.bool true) ∧ Below w.heap.size w w' := by
  have h1 := hj1.out
  have h2 := hj2.out
  have h3 := hu.out
  have h4 := hv.out
  have h5 := hz.out
  have h6 : ((b.size : Int) - 1).toNat = b.size - 1 := by omega
  have h7 : (((u.size + b.size : Nat) : Int) == (u.size : Int) + (b.size : Int)) = true := by rw [beq_iff_eq]; omega
  have B0 := Lib.hid (Below.refl w.heap.size w)
  go_enter Try.func5, Try.ntmps5
  go_wp2_with fail
  refine (cP.out _).mono ?_
  rintro e w1 ⟨rfl, hb⟩
  have B1 := Lib.hid (B0.out.trans (hb.mono B0.out.size))
  clear hb
  go_wp2_with fail
  refine (cS.out _).mono ?_
  rintro e w2 ⟨rfl, hb⟩
  have B2 := Lib.hid (B1.out.trans (hb.mono B1.out.size))
  clear hb
  go_wp2_with fail
  refine (cG.out _).mono ?_
  rintro e w3 ⟨rfl, hb⟩
  have B3 := Lib.hid (B2.out.trans (hb.mono B2.out.size))
  clear hb
  go_wp2_with fail
  refine (cH.out _).mono ?_
  rintro e w4 ⟨rfl, hb⟩
  have B4 := Lib.hid (B3.out.trans (hb.mono B3.out.size))
  clear hb
  go_wp2_with fail
  refine (cF.out _).mono ?_
  rintro e w5 ⟨rfl, hb⟩
  have B5 := Lib.hid (B4.out.trans (hb.mono B4.out.size))
  clear hb
  go_wp2_with fail
  go_ret
  exact ⟨rfl, B5.out⟩

theorem walk (a0 : Int) (s1 s2 : ByteArray) (w : World) (h0 : (Lit.int .u64 a0).wf = true) :
    Calls Try.prog 5 #[.int .u64 a0, .string s1, .string s2] w fun e w' => e = .returned (.bool true) ∧ Below w.heap.size w w' := by
  obtain ⟨n, rfl, hn⟩ := u64_nat h0
  have hb := B_size_le n
  obtain ⟨j1, hj1⟩ : ∃ j : Nat, j = min 20 s1.size := ⟨_, rfl⟩
  obtain ⟨j2, hj2⟩ : ∃ j : Nat, j = min 20 s2.size := ⟨_, rfl⟩
  have z1 : (s1.extract 0 j1).size = j1 := by rw [ByteArray.size_extract]; omega
  have z2 : (s2.extract 0 j2).size = j2 := by rw [ByteArray.size_extract]; omega
  have z3 : ((B n).extract 0 ((B n).size - 1)).size = (B n).size - 1 := by rw [ByteArray.size_extract]; omega
  have hz : L ((B n).extract 0 ((B n).size - 1)) = (Wm.enc n).take ((Wm.enc n).length - 1) := by rw [L_extract, L_B, List.drop_zero, B_size, Nat.sub_zero]
  generalize hu : s1.extract 0 j1 = u at *
  generalize hv : s2.extract 0 j2 = v at *
  generalize hzz : (B n).extract 0 ((B n).size - 1) = z at *
  have sz : (u ++ B n ++ v).size ≤ 1000 := by rw [ByteArray.size_append, ByteArray.size_append]; omega
  have sz2 : (u ++ z).size ≤ 1000 := by rw [ByteArray.size_append]; omega
  have wf : (Lit.int .i64 (u.size : Int)).wf = true := by simp [Lit.wf, IntKind.min, IntKind.max, IntKind.signed, IntKind.bits]; omega
  have g1 := get_some 80 (u ++ B n ++ v) sz (u.size : Int) wf (by decide)
  have g2 := get_some 80 (u ++ z) sz2 (u.size : Int) wf (by decide)
  rw [L_append, L_append, L_B, ← L_length u, getS_enc _ _ n hn, L_length u, ← B_size] at g1
  rw [L_append, hz, ← L_length u, getS_short, L_length u] at g2
  exact back_walk n s1 s2 u v (B n) z j1 j2 (by show (if 20 < (s1.size : Int) then 20 else (s1.size : Int)) = (j1 : Int); split <;> omega) (by show (if 20 < (s2.size : Int) then 20 else (s2.size : Int)) = (j2 : Int); split <;> omega) (by omega) (by omega) hu hv (by omega) (by omega) hb.1 hb.2 hzz (by omega)
    (fun W => word_Put.calls 80 n _ W (put_some 80 n hn (by decide))) (fun W => word_Size.calls 80 n _ W (size_some 80 n hn (by decide))) (fun W => word_Get.calls 80 _ _ _ _ _ W g1) (fun W => word_Get.calls 80 _ _ _ _ _ W g2)
    (fun W => withylaw01_fixed.calls _ W fixed_some) w
end Go.Proofs.Ytnjfgmabalmgnaa.Back
