/-
  The walks of sum.step and its closure: a register, shifted by eight bits.
-/
import Derived.Test.YtlplhnfaohbkcaaProg
import Derived.Test.YtlplhnfaohbkcaaMath
import Derived.WalkKit
import Derived.KernelRfl
import Derived.Lib.Hide
namespace Go.Proofs.Ytlplhnfaohbkcaa
open Go.RowKit

theorem u32_wrap {n : Nat} (h : n < 4294967296) : IntKind.u32.wrap (n : Int) = n := by rw [IntKind.wrap_u32]; omega
theorem u32_xor (a b : Nat) (ha : a < 4294967296) (hb : b < 4294967296) : bits .xor .u32 (a : Int) (b : Int) = ((a ^^^ b : Nat) : Int) := by
  have ha' : a % 2 ^ 32 = a := Nat.mod_eq_of_lt (by simpa using ha)
  have hb' : b % 2 ^ 32 = b := Nat.mod_eq_of_lt (by simpa using hb)
  show IntKind.u32.wrap ((BitVec.ofInt 32 (a : Int) ^^^ BitVec.ofInt 32 (b : Int)).toNat : Int) = _
  rw [BitVec.ofInt_natCast, BitVec.ofInt_natCast, BitVec.toNat_xor, BitVec.toNat_ofNat, BitVec.toNat_ofNat, ha', hb']
  exact u32_wrap (Sm.xor_lt ha hb)
theorem u8_xor (a b : Nat) (ha : a < 256) (hb : b < 256) : bits .xor .u8 (a : Int) (b : Int) = ((a ^^^ b : Nat) : Int) := by
  have ha' : a % 2 ^ 8 = a := Nat.mod_eq_of_lt (by simpa using ha)
  have hb' : b % 2 ^ 8 = b := Nat.mod_eq_of_lt (by simpa using hb)
  show IntKind.u8.wrap ((BitVec.ofInt 8 (a : Int) ^^^ BitVec.ofInt 8 (b : Int)).toNat : Int) = _
  rw [BitVec.ofInt_natCast, BitVec.ofInt_natCast, BitVec.toNat_xor, BitVec.toNat_ofNat, BitVec.toNat_ofNat, ha', hb', IntKind.wrap_u8]
  have := Sm.xor_byte ha hb
  omega
theorem u32_one (a : Nat) (ha : a < 4294967296) : bits .and .u32 (a : Int) 1 = ((a % 2 : Nat) : Int) := by
  have h := (bits_nat .u32 32 (by decide) (fun n h0 h1 => by rw [IntKind.wrap_u32]; simp at h1; omega) a 1 (by simpa using ha) (by decide)).1
  have e : a &&& 1 = a % 2 := Nat.and_one_is_mod a
  rw [e] at h
  exact h

/-- the cell at a holds v, and may be written -/
def Holds (a : Addr) (v : Value) (w : World) : Prop := w.cell? a = some v ∧ w.frozen? a = false
theorem Holds.set {a : Addr} {v : Value} {w : World} (h : Holds a v w) (u : Value) : Holds a u (w.setCell a u) := by
  obtain ⟨hc, hf⟩ := h
  exact ⟨World.cell?_setCell_same _ _ _ hc, by simp [hf]⟩

/-- what the closure leaves -/
def Shifted (a : Addr) (r : Nat) (w w' : World) : Prop := Holds a (.int .u32 ((Sm.sh r : Nat) : Int)) w' ∧ Below a.block w w'

theorem shifted_two {a : Addr} {w : World} {v : Value} (h : Holds a v w) (u : Value) (r : Nat) : Shifted a r w ((w.setCell a u).setCell a (.int .u32 ((Sm.sh r : Nat) : Int))) :=
  ⟨(h.set u).set _, ((Below.refl _ _).setCell (Nat.le_refl _) _).setCell (Nat.le_refl _) _⟩
theorem shifted_one {a : Addr} {w : World} {v : Value} (h : Holds a v w) (r : Nat) : Shifted a r w (w.setCell a (.int .u32 ((Sm.sh r : Nat) : Int))) :=
  ⟨h.set _, (Below.refl _ _).setCell (Nat.le_refl _) _⟩

set_option maxHeartbeats 400000 in
theorem shift_odd (r : Nat) (hr : r < 4294967296) (ho : r % 2 = 1) (a : Addr) (w : World) (hH : Hid (Holds a (.int .u32 r) w)) :
    Calls Try.prog 21 #[.pointer (some a)] w fun e w' => e = .returned (.tuple #[]) ∧ Shifted a r w w' := by
  have h1 := u32_one r hr
  rw [ho] at h1
  have h2 := u32_xor (r / 2) 2197175160 (by omega) (by decide)
  have H2 := Lib.hid h2
  clear h2
  have e : Sm.sh r = r / 2 ^^^ 2197175160 := by unfold Sm.sh; rw [if_pos ho]
  have E := Lib.hid e
  clear e
  have hc := hH.out.1
  have hf := hH.out.2
  go_enter Try.func21, Try.ntmps21
  go_wp2
  go_end0
  refine ⟨rfl, ?_⟩
  have := shifted_two hH.out (.int .u32 ((r / 2 : Nat) : Int)) r
  rw [E.out, ← H2.out] at this
  exact this

set_option maxHeartbeats 400000 in
theorem shift_even (r : Nat) (hr : r < 4294967296) (ho : r % 2 = 0) (a : Addr) (w : World) (hH : Hid (Holds a (.int .u32 r) w)) :
    Calls Try.prog 21 #[.pointer (some a)] w fun e w' => e = .returned (.tuple #[]) ∧ Shifted a r w w' := by
  have h1 := u32_one r hr
  rw [ho] at h1
  have e : Sm.sh r = r / 2 := by unfold Sm.sh; rw [if_neg (by omega)]
  have E := Lib.hid e
  clear e
  have hc := hH.out.1
  have hf := hH.out.2
  go_enter Try.func21, Try.ntmps21
  go_wp2
  go_end0
  refine ⟨rfl, ?_⟩
  have := shifted_one hH.out r
  rw [E.out] at this
  exact this

theorem shift_any (r : Nat) (hr : r < 4294967296) (a : Addr) (w : World) (hH : Holds a (.int .u32 r) w) :
    Calls Try.prog 21 #[.pointer (some a)] w fun e w' => e = .returned (.tuple #[]) ∧ Shifted a r w w' := by
  rcases Nat.mod_two_eq_zero_or_one r with h | h
  · exact shift_even r hr h a w hH
  · exact shift_odd r hr h a w hH

/-- k bits out of the register -/
def shN : Nat → Nat → Nat
  | 0, r => r
  | k + 1, r => Sm.sh (shN k r)
theorem shN_lt {r : Nat} (hr : r < 4294967296) : ∀ k, shN k r < 4294967296
  | 0 => hr
  | k + 1 => Sm.sh_lt (shN_lt hr k)

set_option maxHeartbeats 400000 in
theorem step_any (r : Nat) (hr : r < 4294967296) (w : World) :
    Calls Try.prog 18 #[.int .u32 r] w fun e w' => e = .returned (.int .u32 ((Sm.stp r : Nat) : Int)) ∧ Below w.heap.size w w' := by
  have hmf : ∀ (fn : Fn) (first cap : Array Value) (w : World), (Instr.makeFunc fn first cap).run Try.prog w = .ok (.func fn first cap) w := fun _ _ _ _ => rfl
  go_enter Try.func18, Try.ntmps18
  go_wp2
  go_loopw [5] (fun i wr => ∃ k : Nat, k ≤ 8 ∧ i = .int .i64 k ∧ Hid (Holds ⟨w.heap.size, 0, none⟩ (.int .u32 ((shN k r : Nat) : Int)) wr) ∧ Hid (Below w.heap.size w wr)) (fun i _ => 8 - (intOf i).toNat)
  case atStart => exact ⟨0, by omega, rfl, ⟨by simp [shN], by simp⟩, (Below.refl _ _).alloc (Nat.le_refl _) _⟩
  case round =>
    obtain ⟨k, hk, rfl, hH, hB⟩ := hrel
    by_cases hlt : k < 8
    · go_wp2_with (go_at_call 21; refine (shift_any (shN k r) (shN_lt hr k) _ _ hH.out).mono ?_; rintro e w1 ⟨rfl, hS⟩; have HS := Lib.hid hS; clear hS)
      go_roundw
      case rel => exact ⟨k + 1, by omega, by go_num, HS.out.1, hB.out.trans HS.out.2⟩
      case measure => simp [intOf]; omega
    · obtain rfl : k = 8 := by omega
      have hc := hH.out.1
      go_wp2
      go_ret
      exact ⟨rfl, hB.out⟩
end Go.Proofs.Ytlplhnfaohbkcaa
