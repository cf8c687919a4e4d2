/-
  The memory of a law's walk: a value in a block of its own, and a second argument in the next one.
-/
import Derived.Test.YtmpfnniekemkbaaReader
namespace Go.Proofs.Ytmpfnniekemkbaa.Box
open Go.RowKit
open Go.Proofs.YtmpfnniekemkbaaW.PrintWords Go.Proofs.YtmpfnniekemkbaaW.PrintMore
open Go.Proofs.Ytmpfnniekemkbaa.Hand (put4 below4)

theorem far4 {w : World} {g b : Nat} {t : TypeId} {cs : Array Value} {a' b' c' d' : Value} (h : w.heap[g]? = some (.cells cs t (0, 0))) (hne : g ≠ b) : ((((w.setCell ⟨b, 0, none⟩ a').setCell ⟨b, 1, none⟩ b').setCell ⟨b, 2, none⟩ c').setCell ⟨b, 3, none⟩ d').heap[g]? = some (.cells cs t (0, 0)) :=
  blk_far (blk_far (blk_far (blk_far h hne _) hne _) hne _) hne _

theorem below_drewN' {B : Nat} {a w : World} (h : Below B a w) (n : Nat) : Below B a (w.drewN n) := ⟨h.os, h.tape, h.output, h.size, h.block⟩
/-- a value lies in the first block behind w's, and the cells cs in the next; nothing below is changed -/
def St (w W : World) (o : Bool) (S : ByteArray) (l p : Int) (cs : Array Value) (t : TypeId) : Prop :=
  Below w.heap.size w W ∧ W.heap[w.heap.size]? = some (.cells #[.bool o, .string S, .int .i64 l, .int .i64 p] 23 (0, 0)) ∧ W.heap[w.heap.size + 1]? = some (.cells cs t (0, 0))

variable {w W W' : World} {o o' : Bool} {S S' : ByteArray} {l p l' p' : Int} {cs : Array Value} {t : TypeId}
theorem St.start (w : World) (o : Bool) (S : ByteArray) (l p : Int) (cs : Array Value) (t : TypeId) : St w ((w.alloc (.cells #[.bool o, .string S, .int .i64 l, .int .i64 p] 23)).alloc (.cells cs t)) o S l p cs t := by
  refine ⟨below_alloc (below_alloc (Below.refl _ _) _) _, blk_alloc (blk_new _ _) _, ?_⟩
  have h := blk_new (w.alloc (.cells #[.bool o, .string S, .int .i64 l, .int .i64 p] 23)) (.cells cs t)
  rwa [Hand.size_alloc_] at h
theorem St.call (h : St w W o S l p cs t) (hb : Below W.heap.size W W') : St w W' o S l p cs t :=
  ⟨below_step h.1 hb, blk_below h.2.1 hb, blk_below h.2.2 hb⟩
theorem St.put (h : St w W o S l p cs t) : St w ((((W.setCell ⟨w.heap.size, 0, none⟩ (.bool o')).setCell ⟨w.heap.size, 1, none⟩ (.string S')).setCell ⟨w.heap.size, 2, none⟩ (.int .i64 l')).setCell ⟨w.heap.size, 3, none⟩ (.int .i64 p')) o' S' l' p' cs t :=
  ⟨below4 h.1 (Nat.le_refl _), put4 h.2.1, far4 h.2.2 (by omega)⟩
theorem St.drew (h : St w W o S l p cs t) : St w W.drew o S l p cs t := ⟨below_drew h.1, h.2.1, h.2.2⟩
theorem St.alloc (h : St w W o S l p cs t) (x : Obj) : St w (W.alloc x) o S l p cs t := ⟨below_alloc h.1 x, blk_alloc h.2.1 x, blk_alloc h.2.2 x⟩
theorem St.lt (h : St w W o S l p cs t) : w.heap.size + 1 < W.heap.size := blk_lt h.2.2
/-- a struct of four cells is laid into a block behind -/
theorem St.far (h : St w W o S l p cs t) {g : Nat} (hg : w.heap.size + 2 ≤ g) {a' b' c' d' : Value} : St w ((((W.setCell ⟨g, 0, none⟩ a').setCell ⟨g, 1, none⟩ b').setCell ⟨g, 2, none⟩ c').setCell ⟨g, 3, none⟩ d') o S l p cs t :=
  ⟨below4 h.1 (by omega), far4 h.2.1 (by omega), far4 h.2.2 (by omega)⟩
theorem St.read (h : St w W o S l p cs t) : (W.cell? ⟨w.heap.size, 0, none⟩ = some (.bool o) ∧ W.cell? ⟨w.heap.size, 1, none⟩ = some (.string S) ∧ W.cell? ⟨w.heap.size, 2, none⟩ = some (.int .i64 l) ∧ W.cell? ⟨w.heap.size, 3, none⟩ = some (.int .i64 p)) ∧
    W.frozen? ⟨w.heap.size, 0, none⟩ = false ∧ W.frozen? ⟨w.heap.size, 1, none⟩ = false ∧ W.frozen? ⟨w.heap.size, 2, none⟩ = false ∧ W.frozen? ⟨w.heap.size, 3, none⟩ = false :=
  ⟨⟨(blk_cell h.2.1 0).trans rfl, (blk_cell h.2.1 1).trans rfl, (blk_cell h.2.1 2).trans rfl, (blk_cell h.2.1 3).trans rfl⟩, blk_frozen h.2.1 0, blk_frozen h.2.1 1, blk_frozen h.2.1 2, blk_frozen h.2.1 3⟩
theorem St.cell (h : St w W o S l p cs t) (i : Nat) : W.cell? ⟨w.heap.size + 1, i, none⟩ = cs[i]? := blk_cell h.2.2 i
theorem St.froz (h : St w W o S l p cs t) (i : Nat) : W.frozen? ⟨w.heap.size + 1, i, none⟩ = false := blk_frozen h.2.2 i
end Go.Proofs.Ytmpfnniekemkbaa.Box
