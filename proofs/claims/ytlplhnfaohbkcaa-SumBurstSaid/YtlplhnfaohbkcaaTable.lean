/-
  The walk of sum.table: the 256 steps, as one array.
-/
import Derived.Test.YtlplhnfaohbkcaaStep
import Derived.Laws.Rows
namespace Go.Proofs.Ytlplhnfaohbkcaa
open Go.RowKit

/-- the table, its first k entries filled -/
def tb (k : Nat) : Array Value := ((List.range 256).map fun j => if j < k then Value.int .u32 ((Sm.stp j : Nat) : Int) else .int .u32 0).toArray
theorem tb_size (k : Nat) : (tb k).size = 256 := by simp [tb]
theorem tb_get (k j : Nat) (hj : j < 256) : (tb k)[j]? = some (if j < k then Value.int .u32 ((Sm.stp j : Nat) : Int) else .int .u32 0) := by
  simp [tb, hj]
theorem tb_set (k : Nat) (hk : k < 256) : (tb k).setIfInBounds k (.int .u32 ((Sm.stp k : Nat) : Int)) = tb (k + 1) := by
  apply Array.ext_getElem?
  intro j
  rw [Array.getElem?_setIfInBounds]
  by_cases hj : j < 256
  · rw [tb_get _ _ hj, tb_get _ _ hj, tb_size]
    by_cases e : k = j
    · subst e; simp [hk]
    · rw [if_neg e]
      by_cases h1 : j < k
      · rw [if_pos h1, if_pos (by omega)]
      · rw [if_neg h1, if_neg (by omega)]
  · have h1 : (tb k)[j]? = none := Array.getElem?_eq_none (by rw [tb_size]; omega)
    have h2 : (tb (k + 1))[j]? = none := Array.getElem?_eq_none (by rw [tb_size]; omega)
    rw [h1, h2, if_neg (by omega)]
theorem tb_one (k : Nat) : (tb k).all (·.oneCell') = true := by
  rw [Array.all_eq_true]
  intro i hi
  have hi' : i < 256 := by rw [tb_size] at hi; exact hi
  have h := tb_get k i hi'
  rw [Array.getElem?_eq_getElem hi] at h
  injection h with h
  rw [h]
  split <;> rfl

theorem info37 : (Try.prog.info? 37).map (fun i => (i.zero, i.size)) = some (some (.agg (tb 0)), 256) := by kernel_rfl
theorem zero37 (w : World) : (zeroValue 37).run Try.prog w = .ok (.agg (tb 0)) w := by
  have h := info37
  cases hq : Try.prog.info? 37 with
  | none => simp [hq] at h
  | some i =>
    simp only [hq, Option.map_some, Option.some.injEq, Prod.mk.injEq] at h
    simp [zeroValue, typeInfo, hq, h.1]
theorem size37 (k : Nat) : (Try.prog.info? 37).map (·.size) = some (tb k).size := by
  have h := info37
  rw [tb_size]
  cases hq : Try.prog.info? 37 with
  | none => simp [hq] at h
  | some i =>
    simp only [hq, Option.map_some, Option.some.injEq, Prod.mk.injEq] at h
    simp [h.2]

/-- a block known whole -/
def Blk (w : World) (g : Nat) (t : TypeId) (cs : Array Value) : Prop := w.heap[g]? = some (.cells cs t (0, 0))
theorem Blk.lt {w : World} {g : Nat} {t : TypeId} {cs : Array Value} (h : Blk w g t cs) : g < w.heap.size := by
  rcases Nat.lt_or_ge g w.heap.size with hlt | hge
  · exact hlt
  · unfold Blk at h; rw [Array.getElem?_eq_none hge] at h; cases h
theorem Blk.cell {w : World} {g : Nat} {t : TypeId} {cs : Array Value} (h : Blk w g t cs) (i : Nat) : w.cell? ⟨g, i, none⟩ = cs[i]? := cell_of_row w g i cs t (0, 0) h
theorem Blk.frozen {w : World} {g : Nat} {t : TypeId} {cs : Array Value} (h : Blk w g t cs) (i : Nat) : w.frozen? ⟨g, i, none⟩ = false := by
  unfold Blk at h
  simp [World.frozen?, h]
theorem Blk.set_ {w : World} {g : Nat} {t : TypeId} {cs : Array Value} (h : Blk w g t cs) (i : Nat) (u : Value) : Blk (w.setCell ⟨g, i, none⟩ u) g t (cs.setIfInBounds i u) := by
  unfold Blk at h ⊢
  simp [World.setCell, Array.getElem?_modify, h]
theorem Blk.below {w w' : World} {g B : Nat} {t : TypeId} {cs : Array Value} (h : Blk w g t cs) (hb : Below B w w') (hg : g < B) : Blk w' g t cs := (hb.block g hg).trans h
theorem Blk.row {w : World} {g : Nat} {t : TypeId} {cs : Array Value} (h : Blk w g t cs) (cs' : Array Value) : Blk (w.setRow g cs') g t cs' := setRow_heap w g cs cs' t (0, 0) h
theorem below_row {w : World} {g : Nat} (cs : Array Value) : Below g w (w.setRow g cs) :=
  ⟨rfl, rfl, rfl, by simp, fun k hk => by
    unfold World.setRow
    simp only [Array.getElem?_modify]
    rw [if_neg (by omega)]⟩

set_option maxHeartbeats 400000 in
set_option maxRecDepth 100000 in
theorem table_any (w : World) :
    Calls Try.prog 19 #[] w fun e w' => e = .returned (.agg (tb 256)) ∧ Below w.heap.size w w' := by
  have hv := zero37
  go_enter Try.func19, Try.ntmps19
  go_wp2
  go_loopw [3] (fun i wr => ∃ k : Nat, k ≤ 256 ∧ i = .int .i64 k ∧ Hid (Blk wr (w.heap.size + 1) 37 (tb k)) ∧ Hid (Blk wr w.heap.size 37 (tb 0)) ∧ Hid (Below w.heap.size w wr)) (fun i _ => 256 - (intOf i).toNat)
  case atStart => exact ⟨0, by omega, rfl, heap_alloc2_new _ _ _, heap_alloc2_old _ _ _, ((Below.refl _ _).alloc (Nat.le_refl _) _).alloc (by simp) _⟩
  case round =>
    obtain ⟨k, hk, rfl, hT, hR, hB⟩ := hrel
    by_cases hlt : k < 256
    · go_wp2_with (go_at_call 18; refine (step_any k (by omega) _).mono ?_; rintro e w1 ⟨rfl, hS⟩; have HS := Lib.hid hS; clear hS; have HT := Lib.hid (hT.out.below HS.out hT.out.lt); have hc := (HT.out.cell k).trans (tb_get k k hlt); have hf := HT.out.frozen k)
      go_roundw
      case rel =>
        refine ⟨k + 1, by omega, by go_num, ?_, ?_, ?_⟩
        · have := HT.out.set_ k (.int .u32 ((Sm.stp k : Nat) : Int))
          rw [tb_set k hlt] at this
          exact this
        · exact (hR.out.below HS.out hR.out.lt).below (g := w.heap.size) (B := w.heap.size + 1) ((Below.refl (w.heap.size + 1) w1).setCell (by simp) _) (by omega)
        · exact (hB.out.trans (HS.out.mono hB.out.size)).setCell (by simp) _
      case measure => simp [intOf]; omega
    · obtain rfl : k = 256 := by omega
      go_wp2_with (first
        | (refine wpList_load_row rfl 37 _ rfl (w.heap.size + 1) rfl 37 (tb 256) (0, 0) _ hT.out Try.underlying37 rfl (size37 _) ?_)
        | (refine wpList_store_row rfl 37 _ _ rfl w.heap.size (tb 256) rfl rfl 37 (tb 0) hR.out (size37 _) (by rw [tb_size, tb_size]) (tb_one _) ?_))
      exact bodyPost_ret (v := .agg (tb 256)) (results_cell_row rfl _ _ w.heap.size 37 (tb 256) (0, 0) _ rfl (hR.out.row _) Try.underlying37 rfl (size37 _)) rfl ⟨rfl, hB.out.trans (below_row _)⟩
end Go.Proofs.Ytlplhnfaohbkcaa
