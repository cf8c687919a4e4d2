/-
  word.Four, walked by hand, in the print's own form.
-/
import Derived.Test.YtmpfnniekemkbaaFour
namespace Go.Proofs.Ytmpfnniekemkbaa.Hand
open Go.RowKit

theorem wrapU (n : Nat) (h : n ≤ 9223372036854775807) : IntKind.u64.wrap (n : Int) = (n : Int) := by
  simp [IntKind.wrap, IntKind.bits, IntKind.signed]
  omega

def word_Four.f (a0 : Int) : Option ByteArray := if 0 ≤ a0 ∧ a0 < 4294967296 then some (strOfNums (four a0.toNat 4)) else none
theorem word_Four.calls (a0 : Int) (r : ByteArray) (w : World) (h : word_Four.f a0 = some r) :
    Calls Try.prog 25 #[.int .u32 a0] w fun e w' => e = .returned (.string r) ∧ Below w.heap.size w w' := by
  unfold word_Four.f at h
  split at h
  · rename_i hc
    obtain ⟨n, rfl⟩ := Int.eq_ofNat_of_zero_le hc.1
    injection h with h
    subst h
    exact four_any n (by omega) w
  · cases h
end Go.Proofs.Ytmpfnniekemkbaa.Hand
