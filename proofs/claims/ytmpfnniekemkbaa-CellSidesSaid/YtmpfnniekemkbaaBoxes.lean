/-
  The memory of CellSides' walk: two values in blocks of their own, and a third argument in the next one.
-/
import Derived.Test.YtmpfnniekemkbaaBox
namespace Go.Proofs.Ytmpfnniekemkbaa.Box
open Go.RowKit
open Go.Proofs.YtmpfnniekemkbaaW.PrintWords Go.Proofs.YtmpfnniekemkbaaW.PrintMore
open Go.Proofs.Ytmpfnniekemkbaa.Hand (put4 below4)

def Val (W : World) (g : Nat) (o : Bool) (S : ByteArray) (l p : Int) : Prop := W.heap[g]? = some (.cells #[.bool o, .string S, .int .i64 l, .int .i64 p] 23 (0, 0))
theorem Val.read {W : World} {g : Nat} {o : Bool} {S : ByteArray} {l p : Int} (h : Val W g o S l p) : (W.cell? ⟨g, 0, none⟩ = some (.bool o) ∧ W.cell? ⟨g, 1, none⟩ = some (.string S) ∧ W.cell? ⟨g, 2, none⟩ = some (.int .i64 l) ∧ W.cell? ⟨g, 3, none⟩ = some (.int .i64 p)) ∧
    W.frozen? ⟨g, 0, none⟩ = false ∧ W.frozen? ⟨g, 1, none⟩ = false ∧ W.frozen? ⟨g, 2, none⟩ = false ∧ W.frozen? ⟨g, 3, none⟩ = false :=
  ⟨⟨(blk_cell h 0).trans rfl, (blk_cell h 1).trans rfl, (blk_cell h 2).trans rfl, (blk_cell h 3).trans rfl⟩, blk_frozen h 0, blk_frozen h 1, blk_frozen h 2, blk_frozen h 3⟩
/-- two values lie in the first two blocks behind w's, and the cells cs in the next; nothing below is changed -/
def St3 (w W : World) (o : Bool) (S : ByteArray) (l p : Int) (o1 : Bool) (S1 : ByteArray) (l1 p1 : Int) (cs : Array Value) (t : TypeId) : Prop :=
  Below w.heap.size w W ∧ Val W w.heap.size o S l p ∧ Val W (w.heap.size + 1) o1 S1 l1 p1 ∧ W.heap[w.heap.size + 2]? = some (.cells cs t (0, 0))

variable {w W W' : World} {o o' o1 : Bool} {S S' S1 : ByteArray} {l p l' p' l1 p1 : Int} {cs : Array Value} {t : TypeId}
theorem St3.start (w : World) (o : Bool) (S : ByteArray) (l p : Int) (o1 : Bool) (S1 : ByteArray) (l1 p1 : Int) (cs : Array Value) (t : TypeId) :
    St3 w (((w.alloc (.cells #[.bool o, .string S, .int .i64 l, .int .i64 p] 23)).alloc (.cells #[.bool o1, .string S1, .int .i64 l1, .int .i64 p1] 23)).alloc (.cells cs t)) o S l p o1 S1 l1 p1 cs t := by
  have h := blk_new (w.alloc (.cells #[.bool o, .string S, .int .i64 l, .int .i64 p] 23)) (.cells #[.bool o1, .string S1, .int .i64 l1, .int .i64 p1] 23)
  have h' := blk_new ((w.alloc (.cells #[.bool o, .string S, .int .i64 l, .int .i64 p] 23)).alloc (.cells #[.bool o1, .string S1, .int .i64 l1, .int .i64 p1] 23)) (.cells cs t)
  rw [Hand.size_alloc_] at h
  rw [Hand.size_alloc_, Hand.size_alloc_] at h'
  exact ⟨below_alloc (below_alloc (below_alloc (Below.refl _ _) _) _) _, blk_alloc (blk_alloc (blk_new _ _) _) _, blk_alloc h _, h'⟩
theorem St3.call (h : St3 w W o S l p o1 S1 l1 p1 cs t) (hb : Below W.heap.size W W') : St3 w W' o S l p o1 S1 l1 p1 cs t :=
  ⟨below_step h.1 hb, blk_below h.2.1 hb, blk_below h.2.2.1 hb, blk_below h.2.2.2 hb⟩
theorem St3.put (h : St3 w W o S l p o1 S1 l1 p1 cs t) : St3 w ((((W.setCell ⟨w.heap.size, 0, none⟩ (.bool o')).setCell ⟨w.heap.size, 1, none⟩ (.string S')).setCell ⟨w.heap.size, 2, none⟩ (.int .i64 l')).setCell ⟨w.heap.size, 3, none⟩ (.int .i64 p')) o' S' l' p' o1 S1 l1 p1 cs t :=
  ⟨below4 h.1 (Nat.le_refl _), put4 h.2.1, far4 h.2.2.1 (by omega), far4 h.2.2.2 (by omega)⟩
theorem St3.put1 (h : St3 w W o S l p o1 S1 l1 p1 cs t) : St3 w ((((W.setCell ⟨w.heap.size + 1, 0, none⟩ (.bool o')).setCell ⟨w.heap.size + 1, 1, none⟩ (.string S')).setCell ⟨w.heap.size + 1, 2, none⟩ (.int .i64 l')).setCell ⟨w.heap.size + 1, 3, none⟩ (.int .i64 p')) o S l p o' S' l' p' cs t :=
  ⟨below4 h.1 (by omega), far4 h.2.1 (by omega), put4 h.2.2.1, far4 h.2.2.2 (by omega)⟩
theorem St3.drewN (h : St3 w W o S l p o1 S1 l1 p1 cs t) (n : Nat) : St3 w (W.drewN n) o S l p o1 S1 l1 p1 cs t := ⟨below_drewN' h.1 n, blk_drewN h.2.1 n, blk_drewN h.2.2.1 n, blk_drewN h.2.2.2 n⟩
theorem St3.cell (h : St3 w W o S l p o1 S1 l1 p1 cs t) (i : Nat) : W.cell? ⟨w.heap.size + 2, i, none⟩ = cs[i]? := blk_cell h.2.2.2 i
theorem St3.froz (h : St3 w W o S l p o1 S1 l1 p1 cs t) (i : Nat) : W.frozen? ⟨w.heap.size + 2, i, none⟩ = false := blk_frozen h.2.2.2 i
end Go.Proofs.Ytmpfnniekemkbaa.Box
