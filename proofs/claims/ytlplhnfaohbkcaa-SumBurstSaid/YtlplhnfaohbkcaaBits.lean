/-
  The walk of sum.Bits: the sum of bytes, step by step.
-/
import Derived.Test.YtlplhnfaohbkcaaMore
namespace Go.Proofs.Ytlplhnfaohbkcaa
open Go.RowKit

set_option maxHeartbeats 400000 in
set_option maxRecDepth 100000 in
theorem bits_any (s : ByteArray) (hs : s.size ≤ 140737488351232) (w : World) :
    Calls Try.prog 10 #[.string s] w fun e w' => e = .returned (.int .u32 ((Sm.more 0 s.data.toList : Nat) : Int)) ∧ Below w.heap.size w w' := by
  go_enter Try.func10, Try.ntmps10
  go_wp2
  go_loopw [3, 7] (fun r i wr => ∃ k : Nat, k ≤ s.size ∧ i = .int .i64 k ∧ r = .int .u32 ((Sm.run (Sm.inv 0) (s.data.toList.take k) : Nat) : Int) ∧ Hid (Below w.heap.size w wr)) (fun _ i _ => s.size - (intOf i).toNat)
  case atStart => exact ⟨0, Nat.zero_le _, rfl, rfl, Below.refl _ _⟩
  case round =>
    obtain ⟨k, hk, rfl, rfl, hB⟩ := hrel
    have hr : Sm.run (Sm.inv 0) (s.data.toList.take k) < 4294967296 := Sm.run_lt (Sm.inv_lt 0)
    generalize hR : Sm.run (Sm.inv 0) (s.data.toList.take k) = R at *
    have HR := Lib.hid hR
    clear hR
    by_cases hlt : k < s.size
    · have hb := Sm.byte_lt s[k]
      have hx := u32_xor R (s[k]).toNat hr (by omega)
      have hxl := Sm.xor_lt hr (show (s[k]).toNat < 4294967296 by omega)
      go_wp2_with (go_at_call 18; refine (step_any _ hxl _).mono ?_; rintro e w1 ⟨rfl, hS⟩; have HS := Lib.hid hS; clear hS)
      go_roundw
      case rel => exact ⟨k + 1, by omega, by go_num, by rw [take_snoc s k hlt, Sm.run_snoc, HR.out]; rfl, hB.out.trans (HS.out.mono hB.out.size)⟩
      case measure => simp [intOf]; omega
    · obtain rfl : k = s.size := by omega
      have hn := u32_not R hr
      go_wp2
      go_ret
      exact ⟨by rw [← HR.out, List.take_of_length_le (by simp)]; rfl, hB.out⟩
end Go.Proofs.Ytlplhnfaohbkcaa
