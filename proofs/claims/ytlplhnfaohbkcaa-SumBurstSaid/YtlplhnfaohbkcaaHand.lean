/-
  The functions of sum that are walked by hand, in the print's own form: what each answers, and that the call does.
-/
import Derived.Test.YtlplhnfaohbkcaaMore
import Derived.Test.YtlplhnfaohbkcaaBits
namespace Go.Proofs.Ytlplhnfaohbkcaa.Hand
open Go.RowKit

def sum_step.f (a0 : Int) : Option Int := if 0 ≤ a0 ∧ a0 < 4294967296 then some ((Sm.stp a0.toNat : Nat) : Int) else none
theorem sum_step.calls (a0 r : Int) (w : World) (h : sum_step.f a0 = some r) :
    Calls Try.prog 18 #[.int .u32 a0] w fun e w' => e = .returned (.int .u32 r) ∧ Below w.heap.size w w' := by
  unfold sum_step.f at h
  split at h
  · rename_i hc
    obtain ⟨n, rfl⟩ := Int.eq_ofNat_of_zero_le hc.1
    injection h with h
    subst h
    exact step_any n (by omega) w
  · cases h

def sum_More.f (a0 : Int) (a1 : ByteArray) : Option Int := if (0 ≤ a0 ∧ a0 < 4294967296) ∧ a1.size ≤ 140737488351232 then some ((Sm.more a0.toNat a1.data.toList : Nat) : Int) else none
theorem sum_More.calls (a0 : Int) (a1 : ByteArray) (r : Int) (w : World) (h : sum_More.f a0 a1 = some r) :
    Calls Try.prog 12 #[.int .u32 a0, .string a1] w fun e w' => e = .returned (.int .u32 r) ∧ Below w.heap.size w w' := by
  unfold sum_More.f at h
  split at h
  · rename_i hc
    obtain ⟨n, rfl⟩ := Int.eq_ofNat_of_zero_le hc.1.1
    injection h with h
    subst h
    exact more_any n (by omega) a1 hc.2 w
  · cases h

/-- how many bytes are joined -/
def cap (n : Int) : Nat := (min (max n 0) 100000).toNat
def sum_Join.f (a0 a1 a2 : Int) : Option Int := if (0 ≤ a0 ∧ a0 < 4294967296) ∧ (0 ≤ a1 ∧ a1 < 4294967296) then some ((Sm.roll (cap a2) a0.toNat ^^^ a1.toNat : Nat) : Int) else none
theorem sum_Join.calls (a0 a1 a2 r : Int) (w : World) (h : sum_Join.f a0 a1 a2 = some r) :
    Calls Try.prog 14 #[.int .u32 a0, .int .u32 a1, .int .i64 a2] w fun e w' => e = .returned (.int .u32 r) ∧ Below w.heap.size w w' := by
  unfold sum_Join.f at h
  split at h
  · rename_i hc
    obtain ⟨a, rfl⟩ := Int.eq_ofNat_of_zero_le hc.1.1
    obtain ⟨b, rfl⟩ := Int.eq_ofNat_of_zero_le hc.2.1
    injection h with h
    subst h
    have ha : a < 4294967296 := by omega
    have hb : b < 4294967296 := by omega
    rcases Int.lt_or_le a2 0 with h1 | h1
    · have e : cap a2 = 0 := by unfold cap; omega
      rw [e]
      exact join_low a b ha hb a2 h1 w
    · rcases Int.lt_or_le 100000 a2 with h2 | h2
      · have e : cap a2 = 100000 := by unfold cap; omega
        exact join_high a b ha hb a2 h2 (cap a2) e w
      · obtain ⟨n, rfl⟩ := Int.eq_ofNat_of_zero_le h1
        have e : cap n = n := by unfold cap; omega
        rw [e]
        exact join_mid a b ha hb n (by omega) w
  · cases h

def sum_Bits.f (a0 : ByteArray) : Option Int := if a0.size ≤ 140737488351232 then some ((Sm.more 0 a0.data.toList : Nat) : Int) else none
theorem sum_Bits.calls (a0 : ByteArray) (r : Int) (w : World) (h : sum_Bits.f a0 = some r) :
    Calls Try.prog 10 #[.string a0] w fun e w' => e = .returned (.int .u32 r) ∧ Below w.heap.size w w' := by
  unfold sum_Bits.f at h
  split at h
  · rename_i hc
    injection h with h
    subst h
    exact bits_any a0 hc w
  · cases h
end Go.Proofs.Ytlplhnfaohbkcaa.Hand
