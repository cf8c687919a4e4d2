/-
  The walk of (*reader).number, for a reader at the head of any block.
-/
import Derived.Test.YtmpfnniekemkbaaWalk
import Derived.Test.YtmpfnniekemkbaaQx12
import Derived.Deep.RegionWith
namespace Go.Proofs.Ytmpfnniekemkbaa.Hand
open Go.RowKit Go.Proofs.Ytmpfnniekemkbaa.Q Go.Proofs.YtmpfnniekemkbaaW.PrintWords Go.Proofs.YtmpfnniekemkbaaW.PrintLast Go.Proofs.YtmpfnniekemkbaaW.PrintMore
set_option linter.unusedVariables false

set_option maxHeartbeats 8000000 in
set_option maxRecDepth 100000 in
theorem number_good (t : TypeId) (rest : List Value) (k : Nat) (g : Nat) (s : ByteArray) (at_ : Int) (bad : Bool) (n to_ e0 : Int) (w0 w : World) (hI : IsR t rest w0 w g s at_ bad) (hB : Below w0.heap.size w0 w) (A : word_Get.f k s at_ = some (n, to_, e0)) (he : e0 = 0) (hn : n ≤ 4096) :
    Calls Try.prog 29 #[.pointer (some ⟨g, 0, none⟩)] w fun x w' => x = .returned (.int .i64 (wrap64 n)) ∧ IsR t rest w0 w' g s to_ bad ∧ Below w0.heap.size w0 w' := by
  subst he
  have hd : decide (4096 < n) = false := decide_eq_false (by omega)
  clear hn
  have HI := Aside0.mk hI
  have HB := Aside0.mk hB
  have hc0 := IsR.cell_0 hI.1
  have hc1 := IsR.cell_1 hI.1
  have hf0 := blk_frozen hI.1 0
  have hf1 := blk_frozen hI.1 1
  have hA := Aside0.mk A
  clear hI hB A
  go_enter Try.func29, Try.ntmps29
  go_wp2
  go_region_with (go_at_call 37; (with_reducible refine (word_Get.calls k s at_ n to_ 0 _ hA.out).mono ?_); rintro e w' ⟨rfl, hb⟩)
  all_goals (
    have HI2 := Aside0.mk (HI.out.drew.below hb)
    have HB2 := Aside0.mk (below_step (below_drew1 HB.out) hb)
    have hd1 := IsR.cell_1 HI2.out.1
    have hd2 := IsR.cell_2 HI2.out.1
    have he1 := blk_frozen HI2.out.1 1
    have he2 := blk_frozen HI2.out.1 2
    clear hc0 hc1 hf0 hf1 HI HB hb
    go_wp2
    go_ret
    exact ⟨rfl, by repeat (first | (with_reducible first | exact HI2.out | apply IsR.drew | apply IsR.set_1 | apply IsR.set_2) | exact HI2.out), by repeat (first | (with_reducible first | exact HB2.out | apply below_drew1 | refine below_set ?_ (IsR.ge HI2.out)) | exact HB2.out)⟩)

set_option maxHeartbeats 8000000 in
set_option maxRecDepth 100000 in
theorem number_big (t : TypeId) (rest : List Value) (k : Nat) (g : Nat) (s : ByteArray) (at_ : Int) (bad : Bool) (n to_ e0 : Int) (w0 w : World) (hI : IsR t rest w0 w g s at_ bad) (hB : Below w0.heap.size w0 w) (A : word_Get.f k s at_ = some (n, to_, e0)) (he : e0 = 0) (hn : 4096 < n) :
    Calls Try.prog 29 #[.pointer (some ⟨g, 0, none⟩)] w fun x w' => x = .returned (.int .i64 0) ∧ IsR t rest w0 w' g s at_ true ∧ Below w0.heap.size w0 w' := by
  subst he
  have hd : decide (4096 < n) = true := decide_eq_true hn
  clear hn
  have HI := Aside0.mk hI
  have HB := Aside0.mk hB
  have hc0 := IsR.cell_0 hI.1
  have hc1 := IsR.cell_1 hI.1
  have hf0 := blk_frozen hI.1 0
  have hf1 := blk_frozen hI.1 1
  have hA := Aside0.mk A
  clear hI hB A
  go_enter Try.func29, Try.ntmps29
  go_wp2
  go_region_with (go_at_call 37; (with_reducible refine (word_Get.calls k s at_ n to_ 0 _ hA.out).mono ?_); rintro e w' ⟨rfl, hb⟩)
  all_goals (
    have HI2 := Aside0.mk (HI.out.drew.below hb)
    have HB2 := Aside0.mk (below_step (below_drew1 HB.out) hb)
    have hd1 := IsR.cell_1 HI2.out.1
    have hd2 := IsR.cell_2 HI2.out.1
    have he1 := blk_frozen HI2.out.1 1
    have he2 := blk_frozen HI2.out.1 2
    clear hc0 hc1 hf0 hf1 HI HB hb
    go_wp2
    go_ret
    exact ⟨rfl, by repeat (first | (with_reducible first | exact HI2.out | apply IsR.drew | apply IsR.set_1 | apply IsR.set_2) | exact HI2.out), by repeat (first | (with_reducible first | exact HB2.out | apply below_drew1 | refine below_set ?_ (IsR.ge HI2.out)) | exact HB2.out)⟩)

set_option maxHeartbeats 8000000 in
set_option maxRecDepth 100000 in
theorem number_bad (t : TypeId) (rest : List Value) (k : Nat) (g : Nat) (s : ByteArray) (at_ : Int) (bad : Bool) (n to_ e0 : Int) (w0 w : World) (hI : IsR t rest w0 w g s at_ bad) (hB : Below w0.heap.size w0 w) (A : word_Get.f k s at_ = some (n, to_, e0)) (he : e0 ≠ 0) :
    Calls Try.prog 29 #[.pointer (some ⟨g, 0, none⟩)] w fun x w' => x = .returned (.int .i64 0) ∧ IsR t rest w0 w' g s at_ true ∧ Below w0.heap.size w0 w' := by
  have hd : (e0 == 0) = false := beq_eq_false_iff_ne.mpr he
  have hd' : (e0 != 0) = true := bne_iff_ne.mpr he
  clear he
  have HI := Aside0.mk hI
  have HB := Aside0.mk hB
  have hc0 := IsR.cell_0 hI.1
  have hc1 := IsR.cell_1 hI.1
  have hf0 := blk_frozen hI.1 0
  have hf1 := blk_frozen hI.1 1
  have hA := Aside0.mk A
  clear hI hB A
  go_enter Try.func29, Try.ntmps29
  go_wp2
  go_region_with (go_at_call 37; (with_reducible refine (word_Get.calls k s at_ n to_ e0 _ hA.out).mono ?_); rintro e w' ⟨rfl, hb⟩)
  all_goals (
    have HI2 := Aside0.mk (HI.out.drew.below hb)
    have HB2 := Aside0.mk (below_step (below_drew1 HB.out) hb)
    have hd1 := IsR.cell_1 HI2.out.1
    have hd2 := IsR.cell_2 HI2.out.1
    have he1 := blk_frozen HI2.out.1 1
    have he2 := blk_frozen HI2.out.1 2
    clear hc0 hc1 hf0 hf1 HI HB hb
    go_wp2
    go_ret
    exact ⟨rfl, by repeat (first | (with_reducible first | exact HI2.out | apply IsR.drew | apply IsR.set_1 | apply IsR.set_2) | exact HI2.out), by repeat (first | (with_reducible first | exact HB2.out | apply below_drew1 | refine below_set ?_ (IsR.ge HI2.out)) | exact HB2.out)⟩)

end Go.Proofs.Ytmpfnniekemkbaa.Hand
