/-
  The walk of word.Four: a number's four bytes, the lowest first.
-/
import Derived.Test.YtmpfnniekemkbaaProg
import Derived.WalkKit
import Derived.KernelRfl
import Derived.Lib.Hide
import Derived.Laws.BytesArg
namespace Go.Proofs.Ytmpfnniekemkbaa
open Go.RowKit

/-- a block known whole -/
def Blk (w : World) (g : Nat) (t : TypeId) (cs : Array Value) : Prop := w.heap[g]? = some (.cells cs t (0, 0))
theorem Blk.cell {w : World} {g : Nat} {t : TypeId} {cs : Array Value} (h : Blk w g t cs) (i : Nat) : w.cell? ⟨g, i, none⟩ = cs[i]? := cell_of_row w g i cs t (0, 0) h
theorem Blk.frozen {w : World} {g : Nat} {t : TypeId} {cs : Array Value} (h : Blk w g t cs) (i : Nat) : w.frozen? ⟨g, i, none⟩ = false := by
  unfold Blk at h
  simp [World.frozen?, h]
theorem Blk.set_ {w : World} {g : Nat} {t : TypeId} {cs : Array Value} (h : Blk w g t cs) (i : Nat) (u : Value) : Blk (w.setCell ⟨g, i, none⟩ u) g t (cs.setIfInBounds i u) := by
  unfold Blk at h ⊢
  simp [World.setCell, Array.getElem?_modify, h]

/-- byte j of a number -/
def byteOf (n j : Nat) : Nat := n / 256 ^ j % 256
/-- the four, the first k filled -/
def four (n k : Nat) : List Int := (List.range 4).map fun j => if j < k then ((byteOf n j : Nat) : Int) else 0

theorem four_get (n k j : Nat) (hj : j < 4) : ((four n k).map (Value.int .u8)).toArray[j]? = some (.int .u8 (if j < k then ((byteOf n j : Nat) : Int) else 0)) := by
  simp [four, hj]
theorem four_set (n k : Nat) (hk : k < 4) (v : Int) (hv : v = ((byteOf n k : Nat) : Int)) : ((four n k).map (Value.int .u8)).toArray.setIfInBounds k (.int .u8 v) = ((four n (k + 1)).map (Value.int .u8)).toArray := by
  subst hv
  apply Array.ext_getElem?
  intro j
  rw [Array.getElem?_setIfInBounds]
  have hz : ((four n k).map (Value.int .u8)).toArray.size = 4 := by simp [four]
  by_cases hj : j < 4
  · rw [four_get _ _ _ hj, four_get _ _ _ hj, hz]
    by_cases e : k = j
    · subst e; simp [hk]
    · rw [if_neg e]
      by_cases h1 : j < k
      · rw [if_pos h1, if_pos (by omega)]
      · rw [if_neg h1, if_neg (by omega)]
  · have h1 : ((four n k).map (Value.int .u8)).toArray[j]? = none := Array.getElem?_eq_none (by rw [hz]; omega)
    have h2 : ((four n (k + 1)).map (Value.int .u8)).toArray[j]? = none := Array.getElem?_eq_none (by simp [four]; omega)
    rw [h1, h2, if_neg (by omega)]

set_option maxHeartbeats 400000 in
set_option maxRecDepth 100000 in
theorem four_any (n : Nat) (hn : n < 4294967296) (w : World) :
    Calls Try.prog 25 #[.int .u32 n] w fun e w' => e = .returned (.string (strOfNums (four n 4))) ∧ Below w.heap.size w w' := by
  go_enter Try.func25, Try.ntmps25
  go_wp2
  go_loopw [5] (fun i wr => ∃ k : Nat, k ≤ 4 ∧ i = .int .i64 k ∧ Hid (Blk wr w.heap.size 78 ((four n k).map (Value.int .u8)).toArray) ∧ Hid (Below w.heap.size w wr)) (fun i _ => 4 - (intOf i).toNat)
  case atStart => exact ⟨0, by omega, rfl, heap_alloc_new _ _, (Below.refl _ _).alloc (Nat.le_refl _) _⟩
  case round =>
    obtain ⟨k, hk, rfl, hT, hB⟩ := hrel
    rcases (show k = 0 ∨ k = 1 ∨ k = 2 ∨ k = 3 ∨ k = 4 by omega) with rfl | rfl | rfl | rfl | rfl
    · have hc := (hT.out.cell 0).trans (four_get n 0 0 (by omega))
      have hf := hT.out.frozen 0
      go_wp2
      go_roundw
      case rel =>
        refine ⟨1, by omega, by go_num, ?_, hB.out.setCell (by simp) _⟩
        have := hT.out.set_ 0 (.int .u8 ((n : Int) % 256))
        rw [four_set n 0 (by omega) _ (by unfold byteOf; simp <;> omega)] at this
        exact this
      case measure => simp [intOf]
    · have hc := (hT.out.cell 1).trans (four_get n 1 1 (by omega))
      have hf := hT.out.frozen 1
      go_wp2
      go_roundw
      case rel =>
        refine ⟨2, by omega, by go_num, ?_, hB.out.setCell (by simp) _⟩
        have := hT.out.set_ 1 (.int .u8 ((n : Int) / 256 % 256))
        rw [four_set n 1 (by omega) _ (by unfold byteOf; simp <;> omega)] at this
        exact this
      case measure => simp [intOf]
    · have hc := (hT.out.cell 2).trans (four_get n 2 2 (by omega))
      have hf := hT.out.frozen 2
      go_wp2
      go_roundw
      case rel =>
        refine ⟨3, by omega, by go_num, ?_, hB.out.setCell (by simp) _⟩
        have := hT.out.set_ 2 (.int .u8 ((n : Int) / 65536 % 256))
        rw [four_set n 2 (by omega) _ (by unfold byteOf; simp <;> omega)] at this
        exact this
      case measure => simp [intOf]
    · have hc := (hT.out.cell 3).trans (four_get n 3 3 (by omega))
      have hf := hT.out.frozen 3
      go_wp2
      go_roundw
      case rel =>
        refine ⟨4, by omega, by go_num, ?_, hB.out.setCell (by simp) _⟩
        have := hT.out.set_ 3 (.int .u8 ((n : Int) / 16777216))
        rw [four_set n 3 (by omega) _ (by unfold byteOf; simp <;> omega)] at this
        exact this
      case measure => simp [intOf]
    · have hcv := run_convert_bytes_arg (P := Try.prog) wr 47 5 Try.underlying47 Try.underlying5 w.heap.size 0 4 4 (four n 4) (by simp [four]) (fun i hi => by
        rw [Nat.zero_add, hT.out.cell i, four_get n 4 i hi]
        simp [four, List.getD, hi]) 9 Try.underlying9
      go_wp2
      go_ret
      exact ⟨rfl, hB.out⟩
end Go.Proofs.Ytmpfnniekemkbaa
