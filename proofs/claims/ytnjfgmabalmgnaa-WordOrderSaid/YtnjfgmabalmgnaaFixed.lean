/-
  withylaw01.fixed: the calls whose answers the document fixes: one walk, each call by its printed contract at its fixed arguments.
-/
import Derived.Test.YtnjfgmabalmgnaaQx1
import Derived.Test.YtnjfgmabalmgnaaQx2
import Derived.Test.YtnjfgmabalmgnaaQx5
namespace Go.Proofs.Ytnjfgmabalmgnaa.Hand
open Go.RowKit Go.Proofs.YtnjfgmabalmgnaaW.PrintWords Go.Proofs.YtnjfgmabalmgnaaW.PrintLast Go.Proofs.YtnjfgmabalmgnaaW.PrintMore

def withylaw01_fixed.f : Option Bool := some true
set_option maxHeartbeats 8000000 in
set_option maxRecDepth 100000 in
theorem fixed_any (w : World) : Calls Try.prog 19 #[] w fun e w' => e = .returned (.bool true) ∧ Below w.heap.size w w' := by
  have c0 := fun W => Q.word_Get.calls 40 (⟨#[120, 241, 1, 121]⟩ : ByteArray) 1 241 3 0 W (by decide +kernel)
  have c1 := fun W => Q.word_Get.calls 40 (⟨#[250, 0, 0, 1]⟩ : ByteArray) 0 0 0 3 W (by decide +kernel)
  have c2 := fun W => Q.word_Get.calls 40 (⟨#[250, 0]⟩ : ByteArray) 0 0 0 7 W (by decide +kernel)
  have c3 := fun W => Q.word_Get.calls 40 (⟨#[]⟩ : ByteArray) 0 0 0 7 W (by decide +kernel)
  have c4 := fun W => Q.word_Get.calls 40 (⟨#[97]⟩ : ByteArray) 2 0 0 4 W (by decide +kernel)
  have c5 := fun W => Q.word_Get.calls 40 (⟨#[255, 255, 255, 255, 255, 255, 255, 255, 255]⟩ : ByteArray) 0 18446744073709551615 9 0 W (by decide +kernel)
  have c6 := fun W => Q.word_Get.calls 40 (⟨#[251, 0, 1, 8, 240]⟩ : ByteArray) 0 0 0 3 W (by decide +kernel)
  have c7 := fun W => Q.word_Read.calls 40 (⟨#[120, 1, 2, 0, 0]⟩ : ByteArray) 1 513 0 W (by decide +kernel)
  have c8 := fun W => Q.word_Read.calls 40 (⟨#[97, 98, 99]⟩ : ByteArray) 0 0 7 W (by decide +kernel)
  have c9 := fun W => Q.word_Read.calls 40 (⟨#[97, 98, 99]⟩ : ByteArray) (-1) 0 4 W (by decide +kernel)
  have c10 := fun W => Q.word_Put.calls 40 240 (⟨#[240]⟩ : ByteArray) W (by decide +kernel)
  have c11 := fun W => Q.word_Put.calls 40 241 (⟨#[241, 1]⟩ : ByteArray) W (by decide +kernel)
  have c12 := fun W => Q.word_Put.calls 40 2287 (⟨#[248, 255]⟩ : ByteArray) W (by decide +kernel)
  have c13 := fun W => Q.word_Put.calls 40 2288 (⟨#[249, 0, 0]⟩ : ByteArray) W (by decide +kernel)
  have c14 := fun W => Q.word_Put.calls 40 67823 (⟨#[249, 255, 255]⟩ : ByteArray) W (by decide +kernel)
  have c15 := fun W => Q.word_Put.calls 40 67824 (⟨#[250, 1, 8, 240]⟩ : ByteArray) W (by decide +kernel)
  have c16 := fun W => Q.word_Four.calls 513 (⟨#[1, 2, 0, 0]⟩ : ByteArray) W (by decide +kernel)
  have c17 := fun W => Q.word_Size.calls 40 67824 4 W (by decide +kernel)
  have Hc0 := Lib.hid c0
  have Hc1 := Lib.hid c1
  have Hc2 := Lib.hid c2
  have Hc3 := Lib.hid c3
  have Hc4 := Lib.hid c4
  have Hc5 := Lib.hid c5
  have Hc6 := Lib.hid c6
  have Hc7 := Lib.hid c7
  have Hc8 := Lib.hid c8
  have Hc9 := Lib.hid c9
  have Hc10 := Lib.hid c10
  have Hc11 := Lib.hid c11
  have Hc12 := Lib.hid c12
  have Hc13 := Lib.hid c13
  have Hc14 := Lib.hid c14
  have Hc15 := Lib.hid c15
  have Hc16 := Lib.hid c16
  have Hc17 := Lib.hid c17
  clear c0 c1 c2 c3 c4 c5 c6 c7 c8 c9 c10 c11 c12 c13 c14 c15 c16 c17
  have B0 := Lib.hid (Below.refl w.heap.size w)
  go_enter Try.func19, Try.ntmps19
  go_wp2_with fail
  refine (Hc0.out _).mono ?_
  rintro e w0 ⟨rfl, hb⟩
  have B1 := Lib.hid (B0.out.trans ((hb).mono B0.out.size))
  clear hb B0
  go_wp2_with fail
  refine (Hc1.out _).mono ?_
  rintro e w1 ⟨rfl, hb⟩
  have B2 := Lib.hid (B1.out.trans ((hb).mono B1.out.size))
  clear hb B1
  go_wp2_with fail
  refine (Hc2.out _).mono ?_
  rintro e w2 ⟨rfl, hb⟩
  have B3 := Lib.hid (B2.out.trans ((hb).mono B2.out.size))
  clear hb B2
  go_wp2_with fail
  refine (Hc3.out _).mono ?_
  rintro e w3 ⟨rfl, hb⟩
  have B4 := Lib.hid (B3.out.trans ((hb).mono B3.out.size))
  clear hb B3
  go_wp2_with fail
  refine (Hc4.out _).mono ?_
  rintro e w4 ⟨rfl, hb⟩
  have B5 := Lib.hid (B4.out.trans ((hb).mono B4.out.size))
  clear hb B4
  go_wp2_with fail
  refine (Hc5.out _).mono ?_
  rintro e w5 ⟨rfl, hb⟩
  have B6 := Lib.hid (B5.out.trans ((hb).mono B5.out.size))
  clear hb B5
  go_wp2_with fail
  refine (Hc6.out _).mono ?_
  rintro e w6 ⟨rfl, hb⟩
  have B7 := Lib.hid (B6.out.trans ((hb).mono B6.out.size))
  clear hb B6
  go_wp2_with fail
  refine (Hc7.out _).mono ?_
  rintro e w7 ⟨rfl, hb⟩
  have B8 := Lib.hid (B7.out.trans ((hb.below).mono B7.out.size))
  clear hb B7
  go_wp2_with fail
  refine (Hc8.out _).mono ?_
  rintro e w8 ⟨rfl, hb⟩
  have B9 := Lib.hid (B8.out.trans ((hb.below).mono B8.out.size))
  clear hb B8
  go_wp2_with fail
  refine (Hc9.out _).mono ?_
  rintro e w9 ⟨rfl, hb⟩
  have B10 := Lib.hid (B9.out.trans ((hb.below).mono B9.out.size))
  clear hb B9
  go_wp2_with fail
  refine (Hc10.out _).mono ?_
  rintro e w10 ⟨rfl, hb⟩
  have B11 := Lib.hid (B10.out.trans ((hb).mono B10.out.size))
  clear hb B10
  go_wp2_with fail
  refine (Hc11.out _).mono ?_
  rintro e w11 ⟨rfl, hb⟩
  have B12 := Lib.hid (B11.out.trans ((hb).mono B11.out.size))
  clear hb B11
  go_wp2_with fail
  refine (Hc12.out _).mono ?_
  rintro e w12 ⟨rfl, hb⟩
  have B13 := Lib.hid (B12.out.trans ((hb).mono B12.out.size))
  clear hb B12
  go_wp2_with fail
  refine (Hc13.out _).mono ?_
  rintro e w13 ⟨rfl, hb⟩
  have B14 := Lib.hid (B13.out.trans ((hb).mono B13.out.size))
  clear hb B13
  go_wp2_with fail
  refine (Hc14.out _).mono ?_
  rintro e w14 ⟨rfl, hb⟩
  have B15 := Lib.hid (B14.out.trans ((hb).mono B14.out.size))
  clear hb B14
  go_wp2_with fail
  refine (Hc15.out _).mono ?_
  rintro e w15 ⟨rfl, hb⟩
  have B16 := Lib.hid (B15.out.trans ((hb).mono B15.out.size))
  clear hb B15
  go_wp2_with fail
  refine (Hc16.out _).mono ?_
  rintro e w16 ⟨rfl, hb⟩
  have B17 := Lib.hid (B16.out.trans ((hb).mono B16.out.size))
  clear hb B16
  go_wp2_with fail
  refine (Hc17.out _).mono ?_
  rintro e w17 ⟨rfl, hb⟩
  have B18 := Lib.hid (B17.out.trans ((hb).mono B17.out.size))
  clear hb B17
  go_wp2_with fail
  go_ret
  exact ⟨rfl, B18.out⟩
theorem withylaw01_fixed.calls (r : Bool) (w : World) (h : withylaw01_fixed.f = some r) :
    Calls Try.prog 19 #[] w fun e w' => e = .returned (.bool r) ∧ Below w.heap.size w w' := by
  injection h with h
  subst h
  exact fixed_any w
end Go.Proofs.Ytnjfgmabalmgnaa.Hand
