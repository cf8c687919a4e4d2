/-
  The walks of sum.More and sum.Join: a register by the table.
-/
import Derived.Test.YtlplhnfaohbkcaaTable
namespace Go.Proofs.Ytlplhnfaohbkcaa
open Go.RowKit

theorem take_snoc (s : ByteArray) (k : Nat) (h : k < s.size) : s.data.toList.take (k + 1) = s.data.toList.take k ++ [s[k]] := by
  rw [List.take_succ_eq_append_getElem (by simpa using h)]; rfl
theorem u32_not (c : Nat) (hc : c < 4294967296) : bits .xor .u32 IntKind.u32.max (c : Int) = ((Sm.inv c : Nat) : Int) := by
  rw [Sm.inv_xor hc]
  exact u32_xor 4294967295 c (by decide) hc

theorem tb_full (X : Nat) (h : X < 256) : (tb 256)[X]? = some (.int .u32 ((Sm.stp X : Nat) : Int)) := by rw [tb_get 256 X h, if_pos h]
/-- one step by the table, as the walk spells it -/
theorem at_table (R c : Nat) (hr : R < 4294967296) (hc : c < 256) : ∃ X : Nat, X < 256 ∧ Hid (Sm.one R c = Sm.stp X ^^^ (R / 256)) ∧
    bits .xor .u8 ((R : Int) % 256) (c : Int) = (X : Int) ∧ bits .xor .u32 ((Sm.stp X : Nat) : Int) ((R : Int) / 256) = ((Sm.stp X ^^^ (R / 256) : Nat) : Int) := by
  have hX := Sm.xor_byte (a := R % 256) (b := c) (Nat.mod_lt _ (by decide)) hc
  refine ⟨R % 256 ^^^ c, hX, (Sm.one_table R hc).symm, ?_, ?_⟩
  · have := u8_xor (R % 256) c (Nat.mod_lt _ (by decide)) hc
    exact this
  · exact u32_xor _ (R / 256) (Sm.stp_lt (by omega)) (by omega)

set_option maxHeartbeats 400000 in
set_option maxRecDepth 100000 in
theorem more_any (c : Nat) (hc : c < 4294967296) (s : ByteArray) (hs : s.size ≤ 140737488351232) (w : World) :
    Calls Try.prog 12 #[.int .u32 c, .string s] w fun e w' => e = .returned (.int .u32 ((Sm.more c s.data.toList : Nat) : Int)) ∧ Below w.heap.size w w' := by
  have hv := zero37
  have hn := u32_not c hc
  go_enter Try.func12, Try.ntmps12
  go_wp2_with (first
        | (go_at_call 19; refine (table_any _).mono ?_; rintro e w1 ⟨rfl, hS⟩; have HS := Lib.hid hS; clear hS)
        | (refine wpList_store_row rfl 37 _ _ rfl w1.heap.size (tb 256) rfl rfl 37 (tb 0) (heap_alloc_new _ _) (size37 _) (by rw [tb_size, tb_size]) (tb_one _) ?_))
  have HB := Lib.hid (show Blk ((w1.alloc (.cells (tb 0) 37)).setRow w1.heap.size (tb 256)) w1.heap.size 37 (tb 256) from Blk.row (heap_alloc_new _ _) _)
  have HW := Lib.hid (show Below w.heap.size w ((w1.alloc (.cells (tb 0) 37)).setRow w1.heap.size (tb 256)) from (HS.out.alloc HS.out.size _).trans ((below_row _).mono HS.out.size))
  clear hn
  generalize (w1.alloc (.cells (tb 0) 37)).setRow w1.heap.size (tb 256) = w2 at *
  clear hv
  go_loop [6, 13] (fun r i => ∃ k : Nat, k ≤ s.size ∧ i = .int .i64 k ∧ r = .int .u32 ((Sm.run (Sm.inv c) (s.data.toList.take k) : Nat) : Int)) (fun _ i => s.size - (intOf i).toNat)
  case atStart => exact ⟨0, Nat.zero_le _, rfl, rfl⟩
  case round =>
    obtain ⟨k, hk, rfl, rfl⟩ := hrel
    have hr : Sm.run (Sm.inv c) (s.data.toList.take k) < 4294967296 := Sm.run_lt (Sm.inv_lt c)
    generalize hR : Sm.run (Sm.inv c) (s.data.toList.take k) = R at *
    have HR := Lib.hid hR
    clear hR
    by_cases hlt : k < s.size
    · obtain ⟨X, hX, HX, he, ho⟩ := at_table R (s[k]).toNat hr (Sm.byte_lt _)
      have hcell := (HB.out.cell X).trans (tb_full X hX)
      go_wp2
      go_round
      case rel => exact ⟨k + 1, by omega, by go_num, by rw [take_snoc s k hlt, Sm.run_snoc, HR.out, HX.out]⟩
      case measure => simp [intOf]; omega
    · obtain rfl : k = s.size := by omega
      have hn := u32_not R hr
      go_wp2
      go_ret
      exact ⟨by rw [← HR.out, List.take_of_length_le (by simp)]; rfl, HW.out⟩
/-- one step by the table at a byte 0 -/
theorem at_zero (R : Nat) (hr : R < 4294967296) : ∃ X : Nat, X < 256 ∧ Hid (Sm.stp R = Sm.stp X ^^^ (R / 256)) ∧
    (R : Int) % 256 = (X : Int) ∧ bits .xor .u32 ((Sm.stp X : Nat) : Int) ((R : Int) / 256) = ((Sm.stp X ^^^ (R / 256) : Nat) : Int) :=
  ⟨R % 256, Nat.mod_lt _ (by decide), Sm.stp_split R, by omega, u32_xor _ (R / 256) (Sm.stp_lt (by omega)) (by omega)⟩

set_option maxHeartbeats 400000 in
set_option maxRecDepth 100000 in
theorem join_low (a b : Nat) (ha : a < 4294967296) (hb : b < 4294967296) (n : Int) (hn : n < 0) (w : World) :
    Calls Try.prog 14 #[.int .u32 a, .int .u32 b, .int .i64 n] w fun e w' => e = .returned (.int .u32 ((Sm.roll 0 a ^^^ b : Nat) : Int)) ∧ Below w.heap.size w w' := by
  have hv := zero37
  go_enter Try.func14, Try.ntmps14
  go_wp2_with (first
        | (go_at_call 19; refine (table_any _).mono ?_; rintro e w1 ⟨rfl, hS⟩; have HS := Lib.hid hS; clear hS)
        | (refine wpList_store_row rfl 37 _ _ rfl w1.heap.size (tb 256) rfl rfl 37 (tb 0) (heap_alloc_new _ _) (size37 _) (by rw [tb_size, tb_size]) (tb_one _) ?_))
  have HB := Lib.hid (show Blk ((w1.alloc (.cells (tb 0) 37)).setRow w1.heap.size (tb 256)) w1.heap.size 37 (tb 256) from Blk.row (heap_alloc_new _ _) _)
  have HW := Lib.hid (show Below w.heap.size w ((w1.alloc (.cells (tb 0) 37)).setRow w1.heap.size (tb 256)) from (HS.out.alloc HS.out.size _).trans ((below_row _).mono HS.out.size))
  generalize (w1.alloc (.cells (tb 0) 37)).setRow w1.heap.size (tb 256) = w2 at *
  clear hv
  go_loop [0, 12] (fun r i => ∃ k : Nat, k ≤ 0 ∧ i = .int .i64 k ∧ r = .int .u32 ((Sm.roll k a : Nat) : Int)) (fun _ i => 0 - (intOf i).toNat)
  case atStart => exact ⟨0, Nat.zero_le _, rfl, rfl⟩
  case round =>
    obtain ⟨k, hk, rfl, rfl⟩ := hrel
    have hr : Sm.roll k a < 4294967296 := Sm.roll_lt ha
    generalize hR : Sm.roll k a = R at *
    have HR := Lib.hid hR
    clear hR
    by_cases hlt : k < 0
    · omega
    · obtain rfl : k = 0 := by omega
      have hn := u32_xor R b hr hb
      go_wp2
      go_ret
      exact ⟨by rw [HR.out]; rfl, HW.out⟩

set_option maxHeartbeats 400000 in
set_option maxRecDepth 100000 in
theorem join_mid (a b : Nat) (ha : a < 4294967296) (hb : b < 4294967296) (n : Nat) (hn : n ≤ 100000) (w : World) :
    Calls Try.prog 14 #[.int .u32 a, .int .u32 b, .int .i64 (n : Int)] w fun e w' => e = .returned (.int .u32 ((Sm.roll n a ^^^ b : Nat) : Int)) ∧ Below w.heap.size w w' := by
  have hv := zero37
  have h0 : (0 : Int) ≤ n := by omega
  go_enter Try.func14, Try.ntmps14
  go_wp2_with (first
        | (go_at_call 19; refine (table_any _).mono ?_; rintro e w1 ⟨rfl, hS⟩; have HS := Lib.hid hS; clear hS)
        | (refine wpList_store_row rfl 37 _ _ rfl w1.heap.size (tb 256) rfl rfl 37 (tb 0) (heap_alloc_new _ _) (size37 _) (by rw [tb_size, tb_size]) (tb_one _) ?_))
  have HB := Lib.hid (show Blk ((w1.alloc (.cells (tb 0) 37)).setRow w1.heap.size (tb 256)) w1.heap.size 37 (tb 256) from Blk.row (heap_alloc_new _ _) _)
  have HW := Lib.hid (show Below w.heap.size w ((w1.alloc (.cells (tb 0) 37)).setRow w1.heap.size (tb 256)) from (HS.out.alloc HS.out.size _).trans ((below_row _).mono HS.out.size))
  generalize (w1.alloc (.cells (tb 0) 37)).setRow w1.heap.size (tb 256) = w2 at *
  clear hv
  go_loop [0, 12] (fun r i => ∃ k : Nat, k ≤ n ∧ i = .int .i64 k ∧ r = .int .u32 ((Sm.roll k a : Nat) : Int)) (fun _ i => n - (intOf i).toNat)
  case atStart => exact ⟨0, Nat.zero_le _, rfl, rfl⟩
  case round =>
    obtain ⟨k, hk, rfl, rfl⟩ := hrel
    have hr : Sm.roll k a < 4294967296 := Sm.roll_lt ha
    generalize hR : Sm.roll k a = R at *
    have HR := Lib.hid hR
    clear hR
    by_cases hlt : k < n
    · obtain ⟨X, hX, HX, he, ho⟩ := at_zero R hr
      have hcell := (HB.out.cell X).trans (tb_full X hX)
      go_wp2
      go_round
      case rel => exact ⟨k + 1, by omega, by go_num, by rw [Sm.roll_snoc, HR.out, HX.out]⟩
      case measure => simp [intOf]; omega
    · obtain rfl : k = n := by omega
      have hn := u32_xor R b hr hb
      go_wp2
      go_ret
      exact ⟨by rw [HR.out]; rfl, HW.out⟩

set_option maxHeartbeats 400000 in
set_option maxRecDepth 100000 in
theorem join_high (a b : Nat) (ha : a < 4294967296) (hb : b < 4294967296) (n : Int) (hn : 100000 < n) (L : Nat) (hL : Hid (L = 100000)) (w : World) :
    Calls Try.prog 14 #[.int .u32 a, .int .u32 b, .int .i64 n] w fun e w' => e = .returned (.int .u32 ((Sm.roll L a ^^^ b : Nat) : Int)) ∧ Below w.heap.size w w' := by
  have hv := zero37
  have h0 : (0 : Int) ≤ n := by omega
  go_enter Try.func14, Try.ntmps14
  go_wp2_with (first
        | (go_at_call 19; refine (table_any _).mono ?_; rintro e w1 ⟨rfl, hS⟩; have HS := Lib.hid hS; clear hS)
        | (refine wpList_store_row rfl 37 _ _ rfl w1.heap.size (tb 256) rfl rfl 37 (tb 0) (heap_alloc_new _ _) (size37 _) (by rw [tb_size, tb_size]) (tb_one _) ?_))
  have HB := Lib.hid (show Blk ((w1.alloc (.cells (tb 0) 37)).setRow w1.heap.size (tb 256)) w1.heap.size 37 (tb 256) from Blk.row (heap_alloc_new _ _) _)
  have HW := Lib.hid (show Below w.heap.size w ((w1.alloc (.cells (tb 0) 37)).setRow w1.heap.size (tb 256)) from (HS.out.alloc HS.out.size _).trans ((below_row _).mono HS.out.size))
  generalize (w1.alloc (.cells (tb 0) 37)).setRow w1.heap.size (tb 256) = w2 at *
  clear hv
  generalize hM : (100000 : Int) = M
  obtain rfl : M = (L : Int) := by have := hL.out; omega
  have HM := Lib.hid hM
  have hl : L ≤ 100000 := by omega
  clear hM hn
  go_loop [0, 12] (fun r i => ∃ k : Nat, k ≤ L ∧ i = .int .i64 k ∧ r = .int .u32 ((Sm.roll k a : Nat) : Int)) (fun _ i => L - (intOf i).toNat)
  case atStart => exact ⟨0, Nat.zero_le _, rfl, rfl⟩
  case round =>
    obtain ⟨k, hk, rfl, rfl⟩ := hrel
    have hr : Sm.roll k a < 4294967296 := Sm.roll_lt ha
    generalize hR : Sm.roll k a = R at *
    have HR := Lib.hid hR
    clear hR
    by_cases hlt : k < L
    · obtain ⟨X, hX, HX, he, ho⟩ := at_zero R hr
      have hcell := (HB.out.cell X).trans (tb_full X hX)
      go_wp2
      go_round
      case rel => exact ⟨k + 1, by omega, by go_num, by rw [Sm.roll_snoc, HR.out, HX.out]⟩
      case measure => simp [intOf]; omega
    · obtain rfl : k = L := by omega
      have hn := u32_xor R b hr hb
      go_wp2
      go_ret
      exact ⟨by rw [HR.out]; rfl, HW.out⟩
end Go.Proofs.Ytlplhnfaohbkcaa
