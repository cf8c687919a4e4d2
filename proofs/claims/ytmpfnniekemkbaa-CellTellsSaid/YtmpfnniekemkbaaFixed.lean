/-
  withylaw09.fixed: the calls whose answers the document fixes: one walk, each call by its contract at its fixed arguments.
-/
import Derived.Test.YtmpfnniekemkbaaReader
import Derived.Test.YtmpfnniekemkbaaQx16
import Derived.Lib.Hide
namespace Go.Proofs.Ytmpfnniekemkbaa.Hand
open Go.RowKit Go.Proofs.YtmpfnniekemkbaaW.PrintWords Go.Proofs.YtmpfnniekemkbaaW.PrintLast Go.Proofs.YtmpfnniekemkbaaW.PrintMore
set_option linter.unusedVariables false

/-- a value laid in memory of its own, and a call behind it -/
theorem chain4 {w W W1 : World} {o : Obj} (h : Below w.heap.size w W) (hb : Below (W.alloc o).heap.size (W.alloc o) W1) : Below w.heap.size w W1 := below_step (below_alloc h o) hb
theorem laid4 {W W1 : World} {o : Obj} (hb : Below (W.alloc o).heap.size (W.alloc o) W1) : W1.heap[W.heap.size]? = some o := blk_below (heap_alloc_new W o) hb
theorem over4 {W W1 : World} {o : Obj} (hb : Below (W.alloc o).heap.size (W.alloc o) W1) : Below W.heap.size W W1 := chain4 (Below.refl _ _) hb
theorem gen4 {W : World} {o : Obj} {P : World → Prop} (h : ∀ W', Below W.heap.size W W' → P W') : P (W.alloc o) := h _ (below_alloc (Below.refl _ _) o)

def withylaw09_fixed.f : Option Bool := some true
def rep129 : ByteArray := ⟨(List.replicate 129 1).toArray⟩
theorem rep_some : Q.withyref01_Repeat.f 200 1 129 = some rep129 := by decide +kernel
theorem rep_none : Q.cell_PutValue.f 40 rep129 false ⟨#[]⟩ 0 0 = some (⟨#[]⟩, 3) := by decide +kernel
set_option maxHeartbeats 8000000 in
set_option maxRecDepth 100000 in
theorem fixed_any (w : World) : Calls Try.prog 21 #[] w fun e w' => e = .returned (.bool true) ∧ Below w.heap.size w w' := by
  obtain ⟨rep, hr1, hr2⟩ : ∃ rep, Q.withyref01_Repeat.f 200 1 129 = some rep ∧ Q.cell_PutValue.f 40 rep false ⟨#[]⟩ 0 0 = some (⟨#[]⟩, 3) := ⟨rep129, rep_some, rep_none⟩
  have Hc0 := Lib.hid (fun W => Q.cell_PutValue.calls 40 (⟨#[97]⟩ : ByteArray) false (⟨#[98, 99]⟩ : ByteArray) 0 0 (⟨#[1, 97, 0, 2, 98, 99]⟩ : ByteArray) 0 W (by decide +kernel))
  have Hc1 := Lib.hid (fun W => Q.cell_PutKid.calls 40 5 (⟨#[]⟩ : ByteArray) (⟨#[5, 0, 0, 0, 0]⟩ : ByteArray) 0 W (by decide +kernel))
  have Hc2 := Lib.hid (fun W => Q.cell_PutValue.calls 40 (⟨#[]⟩ : ByteArray) true (⟨#[]⟩ : ByteArray) 241 258 (⟨#[0, 1, 241, 1, 2, 1, 0, 0]⟩ : ByteArray) 0 W (by decide +kernel))
  have Hc3 := Lib.hid (fun W => Q.withyref01_Repeat.calls 200 1 129 rep W hr1)
  have Hc4 := Lib.hid (fun W => Q.cell_PutValue.calls 40 rep false (⟨#[]⟩ : ByteArray) 0 0 (⟨#[]⟩ : ByteArray) 3 W hr2)
  have Hc5 := Lib.hid (fun W => Q.cell_PutKid.calls 40 0 (⟨#[]⟩ : ByteArray) (⟨#[]⟩ : ByteArray) 3 W (by decide +kernel))
  have Hc6 := Lib.hid (fun W => cell_GetValue.calls (⟨#[0, 1, 241, 1, 2, 1, 0, 0]⟩ : ByteArray) (⟨#[]⟩ : ByteArray) true (⟨#[]⟩ : ByteArray) 241 258 0 W (by decide +kernel))
  have Hc7 := Lib.hid (fun W => cell_GetValue.calls (⟨#[1, 97, 0, 2, 98, 99]⟩ : ByteArray) (⟨#[97]⟩ : ByteArray) false (⟨#[98, 99]⟩ : ByteArray) 0 0 0 W (by decide +kernel))
  have Hc8 := Lib.hid (fun W => cell_GetKid.calls (⟨#[5, 0, 0, 0, 1, 120]⟩ : ByteArray) 5 (⟨#[120]⟩ : ByteArray) 0 W (by decide +kernel))
  have Hc9 := Lib.hid (fun W => cell_GetKid.calls (⟨#[5, 0, 0, 0, 1]⟩ : ByteArray) 0 (⟨#[]⟩ : ByteArray) 3 W (by decide +kernel))
  have Hc10 := Lib.hid (fun W => cell_GetValue.calls (⟨#[0, 2, 0]⟩ : ByteArray) (⟨#[]⟩ : ByteArray) false (⟨#[]⟩ : ByteArray) 0 0 3 W (by decide +kernel))
  have Hc11 := Lib.hid (fun W => cell_GetValue.calls (⟨#[]⟩ : ByteArray) (⟨#[]⟩ : ByteArray) false (⟨#[]⟩ : ByteArray) 0 0 3 W (by decide +kernel))
  have Hc12 := Lib.hid (fun W => Q.cell_Right.calls true (⟨#[]⟩ : ByteArray) 241 258 true W (by decide +kernel))
  have Hc13 := Lib.hid (fun W => Q.cell_Right.calls true (⟨#[]⟩ : ByteArray) 0 0 false W (by decide +kernel))
  have Hc14 := Lib.hid (fun W => Q.cell_Right.calls false (⟨#[]⟩ : ByteArray) 1 0 false W (by decide +kernel))
  clear hr1 hr2
  have B0 := Lib.hid (Below.refl w.heap.size w)
  have hu23 := Try.underlying23
  go_enter Try.func21, Try.ntmps21
  go_wp2_with fail
  refine (Hc0.out _).mono ?_
  rintro e w0 ⟨rfl, hb⟩
  have B1 := Lib.hid (below_step B0.out hb)
  clear hb B0
  go_wp2_with fail
  refine (Hc1.out _).mono ?_
  rintro e w1 ⟨rfl, hb⟩
  have B2 := Lib.hid (below_step B1.out hb)
  clear hb B1
  go_wp2_with fail
  refine (Hc2.out _).mono ?_
  rintro e w2 ⟨rfl, hb⟩
  have B3 := Lib.hid (below_step B2.out hb)
  clear hb B2
  go_wp2_with fail
  refine (Hc3.out _).mono ?_
  rintro e w3 ⟨rfl, hb⟩
  have B4 := Lib.hid (below_step B3.out hb)
  clear hb B3
  go_wp2_with fail
  refine (Hc4.out _).mono ?_
  rintro e w4 ⟨rfl, hb⟩
  have B5 := Lib.hid (below_step B4.out hb)
  clear hb B4
  go_wp2_with fail
  refine (Hc5.out _).mono ?_
  rintro e w5 ⟨rfl, hb⟩
  have B6 := Lib.hid (below_step B5.out hb)
  clear hb B5
  go_wp2_with fail
  refine (Hc6.out _).mono ?_
  rintro e w6 ⟨rfl, hb⟩
  have B7 := Lib.hid (below_step B6.out hb)
  clear hb B6
  go_wp2_with fail
  refine (Hc7.out _).mono ?_
  rintro e w7 ⟨rfl, hb⟩
  have B8 := Lib.hid (chain4 B7.out hb)
  have V7 := Lib.hid (laid4 hb)
  clear hb B7
  go_wp2_with fail
  refine (Hc8.out _).mono ?_
  rintro e w8 ⟨rfl, hb⟩
  have B9 := Lib.hid (chain4 B8.out hb)
  have U8 := Lib.hid (laid4 hb)
  have V8 := Lib.hid (blk_below V7.out (over4 hb))
  clear V7
  clear hb B8
  go_wp2_with fail
  refine (Hc9.out _).mono ?_
  rintro e w9 ⟨rfl, hb⟩
  have B10 := Lib.hid (below_step B9.out hb)
  have V9 := Lib.hid (blk_below V8.out hb)
  clear V8
  have U9 := Lib.hid (blk_below U8.out hb)
  clear U8
  clear hb B9
  go_wp2_with fail
  refine (Hc10.out _).mono ?_
  rintro e w10 ⟨rfl, hb⟩
  have B11 := Lib.hid (below_step B10.out hb)
  have V10 := Lib.hid (blk_below V9.out hb)
  clear V9
  have U10 := Lib.hid (blk_below U9.out hb)
  clear U9
  clear hb B10
  go_wp2_with fail
  refine (Hc11.out _).mono ?_
  rintro e w11 ⟨rfl, hb⟩
  have B12 := Lib.hid (chain4 B11.out hb)
  have V11 := Lib.hid (blk_below V10.out (over4 hb))
  clear V10
  have U11 := Lib.hid (blk_below U10.out (over4 hb))
  clear U10
  clear hb B11
  go_upto_region 12 with (fail)
  refine gen4 (P := fun W => Code.wp Try.prog _ _ _ W) (fun wz hz => ?_)
  have B13 := Lib.hid (below_step B12.out hz)
  have V12 := Lib.hid (blk_below V11.out hz)
  have U12 := Lib.hid (blk_below U11.out hz)
  have hv0 := (blk_cell V12.out 0).trans rfl
  have hx0 := blk_frozen V12.out 0
  have hv1 := (blk_cell V12.out 1).trans rfl
  have hx1 := blk_frozen V12.out 1
  have hv2 := (blk_cell V12.out 2).trans rfl
  have hx2 := blk_frozen V12.out 2
  have hv3 := (blk_cell V12.out 3).trans rfl
  have hx3 := blk_frozen V12.out 3
  have hw0 := (blk_cell U12.out 0).trans rfl
  have hy0 := blk_frozen U12.out 0
  have hw1 := (blk_cell U12.out 1).trans rfl
  have hy1 := blk_frozen U12.out 1
  clear hz V11 U11 B12
  go_wp2_with fail
  refine (Hc12.out _).mono ?_
  rintro e w12 ⟨rfl, hb⟩
  have B14 := Lib.hid (below_step B13.out hb)
  clear hb B13
  go_wp2_with fail
  refine (Hc13.out _).mono ?_
  rintro e w13 ⟨rfl, hb⟩
  have B15 := Lib.hid (below_step B14.out hb)
  clear hb B14
  go_wp2_with fail
  refine (Hc14.out _).mono ?_
  rintro e w14 ⟨rfl, hb⟩
  have B16 := Lib.hid (below_step B15.out hb)
  clear hb B15
  go_wp2_with fail
  go_ret
  exact ⟨rfl, B16.out⟩
theorem withylaw09_fixed.calls (r : Bool) (w : World) (h : withylaw09_fixed.f = some r) :
    Calls Try.prog 21 #[] w fun e w' => e = .returned (.bool r) ∧ Below w.heap.size w w' := by
  injection h with h
  subst h
  exact fixed_any w
end Go.Proofs.Ytmpfnniekemkbaa.Hand
