-- WRITTEN BY A PROGRAM OF THIS SESSION (hprint.py), which leads the kit's print round functions that are proved by hand. Not trusted: Lean checks it.
import Derived.Test.YtmpfnniekemkbaaQx0
import Derived.Test.YtmpfnniekemkbaaQx1
import Derived.Test.YtmpfnniekemkbaaQx2
import Derived.Test.YtmpfnniekemkbaaQx4
import Derived.Test.YtmpfnniekemkbaaQx7
import Derived.Test.YtmpfnniekemkbaaQx14
import Derived.Test.YtmpfnniekemkbaaQx17
namespace Go.Proofs.Ytmpfnniekemkbaa.Q
open Go.RowKit Go.Proofs.YtmpfnniekemkbaaW.PrintWords Go.Proofs.YtmpfnniekemkbaaW.PrintLast Go.Proofs.YtmpfnniekemkbaaW.PrintMore
attribute [local go_sem] max2_int min2_int max_two min_two max_three min_three max_four min_four   -- for this text's walks alone
set_option linter.unusedVariables false
set_option linter.unusedSimpArgs false

/-! ### withylaw09_CellCut: function 5 -/
mutual
def withylaw09_CellCut.j0 : Nat → ByteArray → ByteArray → ByteArray → Int → Bool → Bool → ByteArray → Int → Int → Int → Int → Int → Option (Bool)
  | 0, _, _, _, _, _, _, _, _, _, _, _, _ => none
  | k + 1, x0, x7, x8, x9, x47, x315000, x315001, x315002, x315003, x316000, x316001, x316002 => if x47 = true then (if (x8.size : Int) = 0 then (none) else (if 0 ≤ (Int.tmod (wrap64 (x316000)) (x8.size : Int)) then (if (Int.tmod (wrap64 (x316000)) (x8.size : Int)) ≤ (x8.size : Int) then ((cell_GetValue.f (x8.extract 0 ((Int.tmod (wrap64 (x316000)) (x8.size : Int)) : Int).toNat)).bind fun bt325 => (if x8.size + x7.size ≤ 9223372036854775807 then ((cell_GetValue.f (x8 ++ x7)).bind fun bt332 => (if bt325.2.2.2.2.2 = 3 then (if bt332.2.2.2.2.2 = 3 then (withylaw09_CellCut.j1 k x0 x7 x9 x315000 x315001 x315002 x315003 x316000 x316001 x316002) else (some false)) else (some false))) else (none))) else (none)) else (none))) else (withylaw09_CellCut.j1 k x0 x7 x9 x315000 x315001 x315002 x315003 x316000 x316001 x316002)
def withylaw09_CellCut.j1 : Nat → ByteArray → ByteArray → Int → Bool → ByteArray → Int → Int → Int → Int → Int → Option (Bool)
  | 0, _, _, _, _, _, _, _, _, _, _ => none
  | k + 1, x0, x7, x9, x315000, x315001, x315002, x315003, x316000, x316001, x316002 => (cell_PutKid.f k x316002 x0).bind fun bt339 => (if bt339.2 = 0 then (withylaw09_CellCut.j2 k x7 x9 bt339.1 bt339.2 (decide ((bt339.1.size : Int) > 0)) x315000 x315001 x315002 x315003 x316000 x316001 x316002) else (withylaw09_CellCut.j2 k x7 x9 bt339.1 bt339.2 false x315000 x315001 x315002 x315003 x316000 x316001 x316002))
def withylaw09_CellCut.j2 : Nat → ByteArray → Int → ByteArray → Int → Bool → Bool → ByteArray → Int → Int → Int → Int → Int → Option (Bool)
  | 0, _, _, _, _, _, _, _, _, _, _, _, _ => none
  | k + 1, x7, x9, x16, x17, x88, x315000, x315001, x315002, x315003, x316000, x316001, x316002 => if x88 = true then (if (x16.size : Int) = 0 then (none) else (if 0 ≤ (Int.tmod (wrap64 (x316000)) (x16.size : Int)) then (if (Int.tmod (wrap64 (x316000)) (x16.size : Int)) ≤ (x16.size : Int) then ((cell_GetKid.f (x16.extract 0 ((Int.tmod (wrap64 (x316000)) (x16.size : Int)) : Int).toNat)).bind fun bt341 => (if x16.size + x7.size ≤ 9223372036854775807 then ((cell_GetKid.f (x16 ++ x7)).bind fun bt344 => (if bt341.2.2 = 3 then (withylaw09_CellCut.j3 k x9 x17 (bt344.2.2 != 3) x315000 x315001 x315002 x315003 x316000 x316001 x316002) else (withylaw09_CellCut.j3 k x9 x17 true x315000 x315001 x315002 x315003 x316000 x316001 x316002))) else (none))) else (none)) else (none))) else ((cell_Right.f x315000 x315001 x315002 x315003).bind fun t350 => (if ((x9 == 0) == t350) = true then (if x316002 ≥ 1 then (if ((x17 == 0) == (decide (x316002 ≤ 4095))) = true then ((withylaw09_fixed.f).bind fun t351 => (some t351)) else (some false)) else (if ((x17 == 0) == false) = true then ((withylaw09_fixed.f).bind fun t352 => (some t352)) else (some false))) else (some false)))
def withylaw09_CellCut.j3 : Nat → Int → Int → Bool → Bool → ByteArray → Int → Int → Int → Int → Int → Option (Bool)
  | 0, _, _, _, _, _, _, _, _, _, _ => none
  | k + 1, x9, x17, x115, x315000, x315001, x315002, x315003, x316000, x316001, x316002 => if x115 = true then (some false) else ((cell_Right.f x315000 x315001 x315002 x315003).bind fun t347 => (if ((x9 == 0) == t347) = true then (if x316002 ≥ 1 then (if ((x17 == 0) == (decide (x316002 ≤ 4095))) = true then ((withylaw09_fixed.f).bind fun t348 => (some t348)) else (some false)) else (if ((x17 == 0) == false) = true then ((withylaw09_fixed.f).bind fun t349 => (some t349)) else (some false))) else (some false)))
end
def withylaw09_CellCut.f (k : Nat) (a0 : ByteArray) (a1_0 : Bool) (a1_1 : ByteArray) (a1_2 : Int) (a1_3 : Int) (a2_0 : Int) (a2_1 : Int) (a2_2 : Int) : Option (Bool) := if 0 ≤ (mn (a0.size : Int) 128) then (if (mn (a0.size : Int) 128) ≤ (a0.size : Int) then ((withylaw09_Cut.f a1_0 a1_1 a1_2 a1_3).bind fun bt316 => ((some (([a2_1] : List Int) : List Int)).bind fun y320 => ((cell_PutValue.f k (a0.extract 0 ((mn (a0.size : Int) 128) : Int).toNat) bt316.1 bt316.2.1 bt316.2.2.1 bt316.2.2.2).bind fun bt323 => (if bt323.2 = 0 then (withylaw09_CellCut.j0 k (a0.extract 0 ((mn (a0.size : Int) 128) : Int).toNat) (strOfNums y320) bt323.1 bt323.2 (decide ((bt323.1.size : Int) > 0)) bt316.1 bt316.2.1 bt316.2.2.1 bt316.2.2.2 a2_0 a2_1 a2_2) else (withylaw09_CellCut.j0 k (a0.extract 0 ((mn (a0.size : Int) 128) : Int).toNat) (strOfNums y320) bt323.1 bt323.2 false bt316.1 bt316.2.1 bt316.2.2.1 bt316.2.2.2 a2_0 a2_1 a2_2))))) else (none)) else (none)
theorem withylaw09_CellCut.mono_l : ∀ k, (∀ y0 y1 y2 y3 y4 y5 y6 y7 y8 y9 y10 y11, LeO (withylaw09_CellCut.j0 k y0 y1 y2 y3 y4 y5 y6 y7 y8 y9 y10 y11) (withylaw09_CellCut.j0 (k + 1) y0 y1 y2 y3 y4 y5 y6 y7 y8 y9 y10 y11)) ∧ (∀ y0 y1 y2 y3 y4 y5 y6 y7 y8 y9, LeO (withylaw09_CellCut.j1 k y0 y1 y2 y3 y4 y5 y6 y7 y8 y9) (withylaw09_CellCut.j1 (k + 1) y0 y1 y2 y3 y4 y5 y6 y7 y8 y9)) ∧ (∀ y0 y1 y2 y3 y4 y5 y6 y7 y8 y9 y10 y11, LeO (withylaw09_CellCut.j2 k y0 y1 y2 y3 y4 y5 y6 y7 y8 y9 y10 y11) (withylaw09_CellCut.j2 (k + 1) y0 y1 y2 y3 y4 y5 y6 y7 y8 y9 y10 y11)) ∧ (∀ y0 y1 y2 y3 y4 y5 y6 y7 y8 y9, LeO (withylaw09_CellCut.j3 k y0 y1 y2 y3 y4 y5 y6 y7 y8 y9) (withylaw09_CellCut.j3 (k + 1) y0 y1 y2 y3 y4 y5 y6 y7 y8 y9))
  | 0 => ⟨fun _ _ _ _ _ _ _ _ _ _ _ _ r h => by simp [withylaw09_CellCut.j0] at h, fun _ _ _ _ _ _ _ _ _ _ r h => by simp [withylaw09_CellCut.j1] at h, fun _ _ _ _ _ _ _ _ _ _ _ _ r h => by simp [withylaw09_CellCut.j2] at h, fun _ _ _ _ _ _ _ _ _ _ r h => by simp [withylaw09_CellCut.j3] at h⟩
  | k + 1 => by
    obtain ⟨ih0, ih1, ih2, ih3⟩ := withylaw09_CellCut.mono_l k
    refine ⟨?_, ?_, ?_, ?_⟩
    · intro y0 y1 y2 y3 y4 y5 y6 y7 y8 y9 y10 y11
      unfold withylaw09_CellCut.j0
      repeat' first
      | (with_reducible exact ih0 _ _ _ _ _ _ _ _ _ _ _ _)
      | (with_reducible exact ih1 _ _ _ _ _ _ _ _ _ _)
      | (with_reducible exact ih2 _ _ _ _ _ _ _ _ _ _ _ _)
      | (with_reducible exact ih3 _ _ _ _ _ _ _ _ _ _)
      | (with_reducible exact cell_PutKid.mono _ _ _)
      | (with_reducible exact cell_PutValue.mono _ _ _ _ _ _)
      | (with_reducible exact LeO.refl _)
      | (with_reducible exact LeO.none _)
      | (with_reducible refine LeO.ite ?_ ?_)
      | (with_reducible refine LeO.bind ?_ (fun _ => ?_))
      | exact ih0 _ _ _ _ _ _ _ _ _ _ _ _
      | exact ih1 _ _ _ _ _ _ _ _ _ _
      | exact ih2 _ _ _ _ _ _ _ _ _ _ _ _
      | exact ih3 _ _ _ _ _ _ _ _ _ _
      | exact cell_PutKid.mono _ _ _
      | exact cell_PutValue.mono _ _ _ _ _ _
      | exact LeO.none _
      | refine LeO.ite ?_ ?_
      | refine LeO.bind ?_ (fun _ => ?_)
    · intro y0 y1 y2 y3 y4 y5 y6 y7 y8 y9
      unfold withylaw09_CellCut.j1
      repeat' first
      | (with_reducible exact ih0 _ _ _ _ _ _ _ _ _ _ _ _)
      | (with_reducible exact ih1 _ _ _ _ _ _ _ _ _ _)
      | (with_reducible exact ih2 _ _ _ _ _ _ _ _ _ _ _ _)
      | (with_reducible exact ih3 _ _ _ _ _ _ _ _ _ _)
      | (with_reducible exact cell_PutKid.mono _ _ _)
      | (with_reducible exact cell_PutValue.mono _ _ _ _ _ _)
      | (with_reducible exact LeO.refl _)
      | (with_reducible exact LeO.none _)
      | (with_reducible refine LeO.ite ?_ ?_)
      | (with_reducible refine LeO.bind ?_ (fun _ => ?_))
      | exact ih0 _ _ _ _ _ _ _ _ _ _ _ _
      | exact ih1 _ _ _ _ _ _ _ _ _ _
      | exact ih2 _ _ _ _ _ _ _ _ _ _ _ _
      | exact ih3 _ _ _ _ _ _ _ _ _ _
      | exact cell_PutKid.mono _ _ _
      | exact cell_PutValue.mono _ _ _ _ _ _
      | exact LeO.none _
      | refine LeO.ite ?_ ?_
      | refine LeO.bind ?_ (fun _ => ?_)
    · intro y0 y1 y2 y3 y4 y5 y6 y7 y8 y9 y10 y11
      unfold withylaw09_CellCut.j2
      repeat' first
      | (with_reducible exact ih0 _ _ _ _ _ _ _ _ _ _ _ _)
      | (with_reducible exact ih1 _ _ _ _ _ _ _ _ _ _)
      | (with_reducible exact ih2 _ _ _ _ _ _ _ _ _ _ _ _)
      | (with_reducible exact ih3 _ _ _ _ _ _ _ _ _ _)
      | (with_reducible exact cell_PutKid.mono _ _ _)
      | (with_reducible exact cell_PutValue.mono _ _ _ _ _ _)
      | (with_reducible exact LeO.refl _)
      | (with_reducible exact LeO.none _)
      | (with_reducible refine LeO.ite ?_ ?_)
      | (with_reducible refine LeO.bind ?_ (fun _ => ?_))
      | exact ih0 _ _ _ _ _ _ _ _ _ _ _ _
      | exact ih1 _ _ _ _ _ _ _ _ _ _
      | exact ih2 _ _ _ _ _ _ _ _ _ _ _ _
      | exact ih3 _ _ _ _ _ _ _ _ _ _
      | exact cell_PutKid.mono _ _ _
      | exact cell_PutValue.mono _ _ _ _ _ _
      | exact LeO.none _
      | refine LeO.ite ?_ ?_
      | refine LeO.bind ?_ (fun _ => ?_)
    · intro y0 y1 y2 y3 y4 y5 y6 y7 y8 y9
      unfold withylaw09_CellCut.j3
      repeat' first
      | (with_reducible exact ih0 _ _ _ _ _ _ _ _ _ _ _ _)
      | (with_reducible exact ih1 _ _ _ _ _ _ _ _ _ _)
      | (with_reducible exact ih2 _ _ _ _ _ _ _ _ _ _ _ _)
      | (with_reducible exact ih3 _ _ _ _ _ _ _ _ _ _)
      | (with_reducible exact cell_PutKid.mono _ _ _)
      | (with_reducible exact cell_PutValue.mono _ _ _ _ _ _)
      | (with_reducible exact LeO.refl _)
      | (with_reducible exact LeO.none _)
      | (with_reducible refine LeO.ite ?_ ?_)
      | (with_reducible refine LeO.bind ?_ (fun _ => ?_))
      | exact ih0 _ _ _ _ _ _ _ _ _ _ _ _
      | exact ih1 _ _ _ _ _ _ _ _ _ _
      | exact ih2 _ _ _ _ _ _ _ _ _ _ _ _
      | exact ih3 _ _ _ _ _ _ _ _ _ _
      | exact cell_PutKid.mono _ _ _
      | exact cell_PutValue.mono _ _ _ _ _ _
      | exact LeO.none _
      | refine LeO.ite ?_ ?_
      | refine LeO.bind ?_ (fun _ => ?_)
theorem withylaw09_CellCut.mono : ∀ a0 a1 a2 a3 a4 a5 a6 a7 k, LeO (withylaw09_CellCut.f k a0 a1 a2 a3 a4 a5 a6 a7) (withylaw09_CellCut.f (k + 1) a0 a1 a2 a3 a4 a5 a6 a7) := by
  intro a0 a1 a2 a3 a4 a5 a6 a7 k
  obtain ⟨ih0, ih1, ih2, ih3⟩ := withylaw09_CellCut.mono_l k
  unfold withylaw09_CellCut.f
  repeat' first
      | (with_reducible exact ih0 _ _ _ _ _ _ _ _ _ _ _ _)
      | (with_reducible exact ih1 _ _ _ _ _ _ _ _ _ _)
      | (with_reducible exact ih2 _ _ _ _ _ _ _ _ _ _ _ _)
      | (with_reducible exact ih3 _ _ _ _ _ _ _ _ _ _)
      | (with_reducible exact cell_PutKid.mono _ _ _)
      | (with_reducible exact cell_PutValue.mono _ _ _ _ _ _)
      | (with_reducible exact LeO.refl _)
      | (with_reducible exact LeO.none _)
      | (with_reducible refine LeO.ite ?_ ?_)
      | (with_reducible refine LeO.bind ?_ (fun _ => ?_))
      | exact ih0 _ _ _ _ _ _ _ _ _ _ _ _
      | exact ih1 _ _ _ _ _ _ _ _ _ _
      | exact ih2 _ _ _ _ _ _ _ _ _ _ _ _
      | exact ih3 _ _ _ _ _ _ _ _ _ _
      | exact cell_PutKid.mono _ _ _
      | exact cell_PutValue.mono _ _ _ _ _ _
      | exact LeO.none _
      | refine LeO.ite ?_ ?_
      | refine LeO.bind ?_ (fun _ => ?_)
set_option maxHeartbeats 8000000 in
set_option maxRecDepth 100000 in
theorem withylaw09_CellCut.calls (k : Nat) (a0 : ByteArray) (a1_0 : Bool) (a1_1 : ByteArray) (a1_2 : Int) (a1_3 : Int) (a2_0 : Int) (a2_1 : Int) (a2_2 : Int) (r : Bool) (w : World) (h : withylaw09_CellCut.f k a0 a1_0 a1_1 a1_2 a1_3 a2_0 a2_1 a2_2 = some r) :
    Calls Try.prog 5 #[.string a0, .agg #[.bool a1_0, .string a1_1, .int .i64 a1_2, .int .i64 a1_3], .agg #[.int .u16 a2_0, .int .u8 a2_1, .int .i64 a2_2]] w fun e w' => e = .returned (.bool r) ∧ Below w.heap.size w w' := by
  have hu23 := Try.underlying23
  have hu46 := Try.underlying46
  have HB := Aside0.mk (Below.refl w.heap.size w)
  have H : (if 0 ≤ (mn (a0.size : Int) 128) then (if (mn (a0.size : Int) 128) ≤ (a0.size : Int) then ((withylaw09_Cut.f a1_0 a1_1 a1_2 a1_3).bind fun bt316 => ((some (([a2_1] : List Int) : List Int)).bind fun y320 => ((cell_PutValue.f k (a0.extract 0 ((mn (a0.size : Int) 128) : Int).toNat) bt316.1 bt316.2.1 bt316.2.2.1 bt316.2.2.2).bind fun bt323 => (if bt323.2 = 0 then (withylaw09_CellCut.j0 k (a0.extract 0 ((mn (a0.size : Int) 128) : Int).toNat) (strOfNums y320) bt323.1 bt323.2 (decide ((bt323.1.size : Int) > 0)) bt316.1 bt316.2.1 bt316.2.2.1 bt316.2.2.2 a2_0 a2_1 a2_2) else (withylaw09_CellCut.j0 k (a0.extract 0 ((mn (a0.size : Int) 128) : Int).toNat) (strOfNums y320) bt323.1 bt323.2 false bt316.1 bt316.2.1 bt316.2.2.1 bt316.2.2.2 a2_0 a2_1 a2_2))))) else (none)) else (none)) = some r := h
  clear h
  obtain ⟨ji4, hji4⟩ : ∃ j_ : Int, (mn (a0.size : Int) 128) = j_ := ⟨_, rfl⟩
  replace H : (if 0 ≤ (ji4) then (if (ji4) ≤ (a0.size : Int) then ((withylaw09_Cut.f a1_0 a1_1 a1_2 a1_3).bind fun bt316 => ((some (([a2_1] : List Int) : List Int)).bind fun y320 => ((cell_PutValue.f k (a0.extract 0 ((ji4) : Int).toNat) bt316.1 bt316.2.1 bt316.2.2.1 bt316.2.2.2).bind fun bt323 => (if bt323.2 = 0 then (withylaw09_CellCut.j0 k (a0.extract 0 ((ji4) : Int).toNat) (strOfNums y320) bt323.1 bt323.2 (decide ((bt323.1.size : Int) > 0)) bt316.1 bt316.2.1 bt316.2.2.1 bt316.2.2.2 a2_0 a2_1 a2_2) else (withylaw09_CellCut.j0 k (a0.extract 0 ((ji4) : Int).toNat) (strOfNums y320) bt323.1 bt323.2 false bt316.1 bt316.2.1 bt316.2.2.1 bt316.2.2.2 a2_0 a2_1 a2_2))))) else (none)) else (none)) = some r := by first | (rw [hji4] at H; exact H) | (simp only [hji4] at H ⊢; exact H)
  (try (have hji4h : ji4 ≤ 128 := by (rw [← hji4]; unfold mn; (repeat' split) <;> omega)))
  (try (have hji4g : ji4 ≤ 64 := by omega))
  (try (have hji4l : 0 ≤ ji4 := by (rw [← hji4]; unfold mn; (repeat' split) <;> omega)))
  (try (have hji4m : 0 ≤ ji4 := by omega))
  have hji4_ : (if 128 < (a0.size : Int) then 128 else (a0.size : Int)) = ji4 := hji4
  by_cases c5 : 0 ≤ (ji4)
  · rw [if_pos c5] at H
    have c5b0 := eq_true c5
    have c5b1 : decide (0 ≤ (ji4)) = true := decide_eq_true c5
    clear c5
    by_cases c6 : (ji4) ≤ (a0.size : Int)
    · rw [if_pos c6] at H
      have c6b0 := eq_true c6
      have c6b1 : decide ((ji4) ≤ (a0.size : Int)) = true := decide_eq_true c6
      clear c6
      replace H := Option.bind_eq_some_iff.mp H
      obtain ⟨⟨t316, t317, t318, t319⟩, A70, H⟩ := H
      replace H : ((some (([a2_1] : List Int) : List Int)).bind fun y320 => ((cell_PutValue.f k (a0.extract 0 ((ji4) : Int).toNat) t316 t317 t318 t319).bind fun bt323 => (if bt323.2 = 0 then (withylaw09_CellCut.j0 k (a0.extract 0 ((ji4) : Int).toNat) (strOfNums y320) bt323.1 bt323.2 (decide ((bt323.1.size : Int) > 0)) t316 t317 t318 t319 a2_0 a2_1 a2_2) else (withylaw09_CellCut.j0 k (a0.extract 0 ((ji4) : Int).toNat) (strOfNums y320) bt323.1 bt323.2 false t316 t317 t318 t319 a2_0 a2_1 a2_2)))) = some r := H
      have A7 := Aside0.mk A70
      clear A70
      obtain ⟨y320, hy320⟩ : ∃ y_ : List Int, y_ = (([a2_1] : List Int)) := ⟨_, rfl⟩
      replace H : ((cell_PutValue.f k (a0.extract 0 ((ji4) : Int).toNat) t316 t317 t318 t319).bind fun bt323 => (if bt323.2 = 0 then (withylaw09_CellCut.j0 k (a0.extract 0 ((ji4) : Int).toNat) (strOfNums y320) bt323.1 bt323.2 (decide ((bt323.1.size : Int) > 0)) t316 t317 t318 t319 a2_0 a2_1 a2_2) else (withylaw09_CellCut.j0 k (a0.extract 0 ((ji4) : Int).toNat) (strOfNums y320) bt323.1 bt323.2 false t316 t317 t318 t319 a2_0 a2_1 a2_2))) = some r := by first | (rw [hy320]; with_reducible exact H) | (have H2_ := (Option.bind_some _ _).symm.trans H; rw [hy320]; with_reducible exact H2_) | (have H2_ := (Option.bind_some _ _).symm.trans H; with_reducible exact H2_) | with_reducible exact H | (rw [hy320]; exact H) | exact H
      have Ny320 := Aside0.mk hy320
      clear hy320
      replace H := Option.bind_eq_some_iff.mp H
      obtain ⟨⟨t323, t324⟩, A80, H⟩ := H
      replace H : (if t324 = 0 then (withylaw09_CellCut.j0 k (a0.extract 0 ((ji4) : Int).toNat) (strOfNums y320) t323 t324 (decide ((t323.size : Int) > 0)) t316 t317 t318 t319 a2_0 a2_1 a2_2) else (withylaw09_CellCut.j0 k (a0.extract 0 ((ji4) : Int).toNat) (strOfNums y320) t323 t324 false t316 t317 t318 t319 a2_0 a2_1 a2_2)) = some r := H
      have A8 := Aside0.mk A80
      clear A80
      have HC9 := Aside0.mk H
      clear H
      go_enter Try.func5, Try.ntmps5
      go_upto_region 5 with (first | ((with_reducible refine gate_dst (N := 4) rfl ?_); (try (refine gate_guard (by rfl) ?_; dsimp only)); refine box_event ?hg (N := 4) ?hd (cs := #[.bool a1_0, .string a1_1, .int .i64 a1_2, .int .i64 a1_3]) (t := 23) ?hr ?_; (case hd => rfl); (case hg => rfl); (case hr => first | (go_simp; done) | (go_simp; rfl)); intro gb314 hg w10 hbox hb; have n0_ := Aside0.mk (below_step (by repeat (first | (with_reducible first | exact HB.out | apply below_alloc | apply pw_below_drewN | apply below_drew1) | exact HB.out)) hb); have n1_ := Aside0.mk (hbox); have n2_ := Aside0.mk ((by rw [hg]; exact (below_size (by repeat (first | (with_reducible first | exact HB.out | apply below_alloc | apply pw_below_drewN | apply below_drew1) | exact HB.out))) : w.heap.size ≤ gb314)); have n3_ := Aside0.mk ((by rw [hg]; exact (below_size (by repeat (first | (with_reducible first | exact HB.out | apply below_alloc | apply pw_below_drewN | apply below_drew1) | exact HB.out))) : w.heap.size ≤ gb314)); clear HB; have HB := n0_; have BK314 := n1_; have GW314 := n2_; have GE314 := n3_; clear n0_ n1_ n2_ n3_; clear hb hbox hg) | ((with_reducible refine gate_dst (N := 5) rfl ?_); (try (refine gate_guard (by rfl) ?_; dsimp only)); refine box_event ?hg (N := 5) ?hd (cs := #[.int .u16 a2_0, .int .u8 a2_1, .int .i64 a2_2]) (t := 46) ?hr ?_; (case hd => rfl); (case hg => rfl); (case hr => first | (go_simp; done) | (go_simp; rfl)); intro gb315 hg w11 hbox hb; have n0_ := Aside0.mk (blk_below (g := gb314) (o := .cells #[.bool a1_0, .string a1_1, .int .i64 a1_2, .int .i64 a1_3] 23 (0, 0)) (by (with_reducible repeat (first | refine blk_drewN ?_ _ | refine blk_drew ?_ | refine blk_alloc ?_ _)); exact BK314.out) hb); have n1_ := Aside0.mk (below_step (by repeat (first | (with_reducible first | exact HB.out | apply below_alloc | apply pw_below_drewN | apply below_drew1 | refine below_set ?_ GE314.out) | exact HB.out)) hb); have n2_ := Aside0.mk (hbox); have n3_ := Aside0.mk ((by rw [hg]; exact (below_size (by repeat (first | (with_reducible first | exact HB.out | apply below_alloc | apply pw_below_drewN | apply below_drew1 | refine below_set ?_ GE314.out) | exact HB.out))) : w.heap.size ≤ gb315)); have n4_ := Aside0.mk ((by rw [hg]; exact (below_size (by repeat (first | (with_reducible first | exact HB.out | apply below_alloc | apply pw_below_drewN | apply below_drew1 | refine below_set ?_ GE314.out) | exact HB.out))) : w.heap.size ≤ gb315)); have n5_ := Aside0.mk ((by rw [hg]; exact Nat.ne_of_lt (blk_lt (g := gb314) (o := .cells #[.bool a1_0, .string a1_1, .int .i64 a1_2, .int .i64 a1_3] 23 (0, 0)) (by (with_reducible repeat (first | refine blk_drewN ?_ _ | refine blk_drew ?_ | refine blk_alloc ?_ _)); exact BK314.out)) : gb314 ≠ gb315)); have n6_ := Aside0.mk ((by rw [hg]; exact Nat.ne_of_gt (blk_lt (g := gb314) (o := .cells #[.bool a1_0, .string a1_1, .int .i64 a1_2, .int .i64 a1_3] 23 (0, 0)) (by (with_reducible repeat (first | refine blk_drewN ?_ _ | refine blk_drew ?_ | refine blk_alloc ?_ _)); exact BK314.out)) : gb315 ≠ gb314)); clear BK314; clear HB; have BK314 := n0_; have HB := n1_; have BK315 := n2_; have GW315 := n3_; have GE315 := n4_; have NB314_315 := n5_; have NB315_314 := n6_; clear n0_ n1_ n2_ n3_ n4_ n5_ n6_; clear hb hbox hg; have hnb12 := NB314_315.out; have hnc12 := NB315_314.out; have hcz13_0 : w11.cell? ⟨gb314, 0, none⟩ = some (.bool a1_0) := (blk_cell BK314.out 0).trans rfl; have hcz13_1 : w11.cell? ⟨gb314, 1, none⟩ = some (.string a1_1) := (blk_cell BK314.out 1).trans rfl; have hcz13_2 : w11.cell? ⟨gb314, 2, none⟩ = some (.int .i64 a1_2) := (blk_cell BK314.out 2).trans rfl; have hcz13_3 : w11.cell? ⟨gb314, 3, none⟩ = some (.int .i64 a1_3) := (blk_cell BK314.out 3).trans rfl; have hfz13_0 := blk_frozen BK314.out 0; have hfz13_1 := blk_frozen BK314.out 1; have hfz13_2 := blk_frozen BK314.out 2; have hfz13_3 := blk_frozen BK314.out 3) | ((with_reducible refine gate_callee (f := 9) rfl ?_); refine goesL_ (some 30) rfl rfl Try.func9 (by kernel_rfl) rfl #[.agg #[.bool a1_0, .string a1_1, .int .i64 a1_2, .int .i64 a1_3]] rfl (by (try simp only [List.map_toArray, List.map_cons, List.map_nil]); first | done | rfl | (simp only [List.length_drop, List.length_take]; rfl)) ?_; (with_reducible refine (withylaw09_Cut.calls a1_0 a1_1 a1_2 a1_3 t316 t317 t318 t319 _ A7.out).mono ?_); rintro e w14 ⟨rfl, hb⟩; refine ⟨_, rfl, ?_⟩; have n0_ := Aside0.mk (blk_below (g := gb314) (o := .cells #[.bool a1_0, .string a1_1, .int .i64 a1_2, .int .i64 a1_3] 23 (0, 0)) (by (with_reducible repeat (first | refine blk_drewN ?_ _ | refine blk_drew ?_ | refine blk_alloc ?_ _)); exact BK314.out) hb); have n1_ := Aside0.mk (blk_below (g := gb315) (o := .cells #[.int .u16 a2_0, .int .u8 a2_1, .int .i64 a2_2] 46 (0, 0)) (by (with_reducible repeat (first | refine blk_drewN ?_ _ | refine blk_drew ?_ | refine blk_alloc ?_ _)); exact BK315.out) hb); have n2_ := Aside0.mk (below_step (by repeat (first | (with_reducible first | exact HB.out | apply below_alloc | apply pw_below_drewN | apply below_drew1 | refine below_set ?_ GE314.out | refine below_set ?_ GE315.out) | exact HB.out)) hb); clear BK314; clear BK315; clear HB; have BK314 := n0_; have BK315 := n1_; have HB := n2_; clear n0_ n1_ n2_; (try clear hb); (try clear hb2); (try clear hk); (try clear hi); have hcz15_0 : w14.cell? ⟨gb314, 0, none⟩ = some (.bool a1_0) := (blk_cell BK314.out 0).trans rfl; have hcz15_1 : w14.cell? ⟨gb314, 1, none⟩ = some (.string a1_1) := (blk_cell BK314.out 1).trans rfl; have hcz15_2 : w14.cell? ⟨gb314, 2, none⟩ = some (.int .i64 a1_2) := (blk_cell BK314.out 2).trans rfl; have hcz15_3 : w14.cell? ⟨gb314, 3, none⟩ = some (.int .i64 a1_3) := (blk_cell BK314.out 3).trans rfl; have hfz15_0 := blk_frozen BK314.out 0; have hfz15_1 := blk_frozen BK314.out 1; have hfz15_2 := blk_frozen BK314.out 2; have hfz15_3 := blk_frozen BK314.out 3; have hcz16_0 : w14.cell? ⟨gb315, 0, none⟩ = some (.int .u16 a2_0) := (blk_cell BK315.out 0).trans rfl; have hcz16_1 : w14.cell? ⟨gb315, 1, none⟩ = some (.int .u8 a2_1) := (blk_cell BK315.out 1).trans rfl; have hcz16_2 : w14.cell? ⟨gb315, 2, none⟩ = some (.int .i64 a2_2) := (blk_cell BK315.out 2).trans rfl; have hfz16_0 := blk_frozen BK315.out 0; have hfz16_1 := blk_frozen BK315.out 1; have hfz16_2 := blk_frozen BK315.out 2) | ((with_reducible refine gate_dst (N := 33) rfl ?_); (try (refine gate_guard (by rfl) ?_; dsimp only)); refine Kd.R_lit (Kd.int .u8) _ 5 ?hg (N := 33) ?hd (xs := ([a2_1] : List Int)) (inner := [.int .u8 a2_1]) (ok := fun _ => True) (okp := fun _ => True) ?hr ?hp (fun _ hk => hk) trivial (Below.refl _ _) (Nat.le_refl _) (by simp) ?_; (case hd => rfl); (case hg => rfl); (case hr => first | (go_simp; done) | (go_simp; rfl)); (case hp => exact (Reps.one (show Kd.M (Kd.int .u8) _ _ _ a2_1 [.int .u8 a2_1] from rfl) (Reps.none _ _))); intro v321 w17 ho18 hb hg_ hnew_; clear hg_ hnew_; (first | rw [← Ny320.out] at ho18 | (simp only [Int.reduceToNat] at ho18; rw [← Ny320.out] at ho18)); have n0_ := Aside0.mk (Kd.R_lower ho18 (below_size (by repeat (first | (with_reducible first | exact HB.out | apply below_alloc | apply pw_below_drewN | apply below_drew1 | refine below_set ?_ GE314.out | refine below_set ?_ GE315.out) | exact HB.out)))); have n1_ := Aside0.mk (blk_below (g := gb314) (o := .cells #[.bool t316, .string t317, .int .i64 t318, .int .i64 t319] 23 (0, 0)) (by (with_reducible repeat (first | refine blk_drewN ?_ _ | refine blk_drew ?_ | refine blk_alloc ?_ _)); refine blk_put (cs := #[.bool t316, .string t317, .int .i64 t318, .int .i64 a1_3]) ?_ 3 _ rfl; (with_reducible repeat (first | refine blk_drewN ?_ _ | refine blk_drew ?_ | refine blk_alloc ?_ _)); refine blk_put (cs := #[.bool t316, .string t317, .int .i64 a1_2, .int .i64 a1_3]) ?_ 2 _ rfl; (with_reducible repeat (first | refine blk_drewN ?_ _ | refine blk_drew ?_ | refine blk_alloc ?_ _)); refine blk_put (cs := #[.bool t316, .string a1_1, .int .i64 a1_2, .int .i64 a1_3]) ?_ 1 _ rfl; (with_reducible repeat (first | refine blk_drewN ?_ _ | refine blk_drew ?_ | refine blk_alloc ?_ _)); refine blk_put (cs := #[.bool a1_0, .string a1_1, .int .i64 a1_2, .int .i64 a1_3]) ?_ 0 _ rfl; (with_reducible repeat (first | refine blk_drewN ?_ _ | refine blk_drew ?_ | refine blk_alloc ?_ _)); exact BK314.out) hb); have n2_ := Aside0.mk (blk_below (g := gb315) (o := .cells #[.int .u16 a2_0, .int .u8 a2_1, .int .i64 a2_2] 46 (0, 0)) (by (with_reducible repeat (first | refine blk_drewN ?_ _ | refine blk_drew ?_ | refine blk_alloc ?_ _)); refine blk_far ?_ NB315_314.out _; (with_reducible repeat (first | refine blk_drewN ?_ _ | refine blk_drew ?_ | refine blk_alloc ?_ _)); refine blk_far ?_ NB315_314.out _; (with_reducible repeat (first | refine blk_drewN ?_ _ | refine blk_drew ?_ | refine blk_alloc ?_ _)); refine blk_far ?_ NB315_314.out _; (with_reducible repeat (first | refine blk_drewN ?_ _ | refine blk_drew ?_ | refine blk_alloc ?_ _)); refine blk_far ?_ NB315_314.out _; (with_reducible repeat (first | refine blk_drewN ?_ _ | refine blk_drew ?_ | refine blk_alloc ?_ _)); exact BK315.out) hb); have n3_ := Aside0.mk (below_step (by repeat (first | (with_reducible first | exact HB.out | apply below_alloc | apply pw_below_drewN | apply below_drew1 | refine below_set ?_ GE314.out | refine below_set ?_ GE315.out) | exact HB.out)) hb); clear BK314; clear BK315; clear HB; have HO322 := n0_; have BK314 := n1_; have BK315 := n2_; have HB := n3_; clear n0_ n1_ n2_ n3_; clear hb ho18; have hcv19 := own_string (P := Try.prog) Try.underlying47 Try.underlying5 Try.underlying9 (Kd.own_of_R HO322.out); have hcz20_0 : w17.cell? ⟨gb314, 0, none⟩ = some (.bool t316) := (blk_cell BK314.out 0).trans rfl; have hcz20_1 : w17.cell? ⟨gb314, 1, none⟩ = some (.string t317) := (blk_cell BK314.out 1).trans rfl; have hcz20_2 : w17.cell? ⟨gb314, 2, none⟩ = some (.int .i64 t318) := (blk_cell BK314.out 2).trans rfl; have hcz20_3 : w17.cell? ⟨gb314, 3, none⟩ = some (.int .i64 t319) := (blk_cell BK314.out 3).trans rfl; have hfz20_0 := blk_frozen BK314.out 0; have hfz20_1 := blk_frozen BK314.out 1; have hfz20_2 := blk_frozen BK314.out 2; have hfz20_3 := blk_frozen BK314.out 3) | ((with_reducible refine gate_callee (f := 10) rfl ?_); refine goesL_ (some 38) rfl rfl Try.func10 (by kernel_rfl) rfl #[.string (a0.extract 0 ((ji4) : Int).toNat), .agg #[.bool t316, .string t317, .int .i64 t318, .int .i64 t319]] rfl (by (try simp only [List.map_toArray, List.map_cons, List.map_nil]); first | done | (simp only [hji4]; rfl) | rfl | (simp only [List.length_drop, List.length_take]; rfl)) ?_; (with_reducible refine (cell_PutValue.calls k (a0.extract 0 ((ji4) : Int).toNat) t316 t317 t318 t319 t323 t324 _ A8.out).mono ?_); rintro e w21 ⟨rfl, hb⟩; refine ⟨_, rfl, ?_⟩; have n0_ := Aside0.mk (Kd.R_below (by (with_reducible repeat (first | apply Kd.R_alloc | apply Kd.R_drewN | apply Kd.R_drew)); exact HO322.out) hb); have n1_ := Aside0.mk (blk_below (g := gb314) (o := .cells #[.bool t316, .string t317, .int .i64 t318, .int .i64 t319] 23 (0, 0)) (by (with_reducible repeat (first | refine blk_drewN ?_ _ | refine blk_drew ?_ | refine blk_alloc ?_ _)); exact BK314.out) hb); have n2_ := Aside0.mk (blk_below (g := gb315) (o := .cells #[.int .u16 a2_0, .int .u8 a2_1, .int .i64 a2_2] 46 (0, 0)) (by (with_reducible repeat (first | refine blk_drewN ?_ _ | refine blk_drew ?_ | refine blk_alloc ?_ _)); exact BK315.out) hb); have n3_ := Aside0.mk (below_step (by repeat (first | (with_reducible first | exact HB.out | apply below_alloc | apply pw_below_drewN | apply below_drew1 | refine below_set ?_ GE314.out | refine below_set ?_ GE315.out) | exact HB.out)) hb); clear HO322; clear BK314; clear BK315; clear HB; have HO322 := n0_; have BK314 := n1_; have BK315 := n2_; have HB := n3_; clear n0_ n1_ n2_ n3_; (try clear hb); (try clear hb2); (try clear hk); (try clear hi)))
      (try simp only [Act.put, List.setIfInBounds_toArray, List.set_cons_zero, List.set_cons_succ])
      go_cut [47] (fun v47 wc => ∃ (kq : Nat) (x47_8 : Bool), v47 = .bool x47_8 ∧ Aside0 (withylaw09_CellCut.j0 kq (a0.extract 0 ((ji4) : Int).toNat) (strOfNums y320) t323 t324 x47_8 t316 t317 t318 t319 a2_0 a2_1 a2_2 = some r) ∧ Aside0 (kq ≤ k) ∧ Aside0 (wc.heap[gb314]? = some (.cells #[.bool t316, .string t317, .int .i64 t318, .int .i64 t319] 23 (0, 0))) ∧ Aside0 (wc.heap[gb315]? = some (.cells #[.int .u16 a2_0, .int .u8 a2_1, .int .i64 a2_2] 46 (0, 0))) ∧ Aside0 (Below w.heap.size w wc))
      case first =>
        have H := HC9.out
        clear HC9
        by_cases c22 : t324 = 0
        · rw [if_pos c22] at H
          have c22b0 : (t324 == 0) = true := beq_iff_eq.mpr c22
          have c22b1 : (t324 != 0) = false := bne_eq_false_iff_eq.mpr c22
          clear c22
          (first | rw [c22b0] | (simp only [i64_w, i32_w]; rw [c22b0]) | skip)
          have H' := Aside0.mk H
          clear H
          go_wp2
          go_meet
          case rel => exact ⟨_, (decide ((t323.size : Int) > 0)), (by first | rfl | (simp; done) | (simp [*]; done)), H', ⟨by first | omega | exact Nat.le_refl _⟩, ⟨by (with_reducible repeat (first | refine blk_drewN ?_ _ | refine blk_drew ?_ | refine blk_alloc ?_ _)); exact BK314.out⟩, ⟨by (with_reducible repeat (first | refine blk_drewN ?_ _ | refine blk_drew ?_ | refine blk_alloc ?_ _)); exact BK315.out⟩, ⟨by repeat (first | (with_reducible first | exact HB.out | apply below_alloc | apply pw_below_drewN | apply below_drew1 | refine below_set ?_ GE314.out | refine below_set ?_ GE315.out) | exact HB.out)⟩⟩
        · rw [if_neg c22] at H
          have c22b0 : (t324 == 0) = false := beq_eq_false_iff_ne.mpr c22
          have c22b1 : (t324 != 0) = true := bne_iff_ne.mpr c22
          (first | rw [c22b0] | (simp only [i64_w, i32_w]; rw [c22b0]) | skip)
          have H' := Aside0.mk H
          clear H
          go_wp2
          go_meet
          case rel => exact ⟨_, (false), (by first | rfl | (simp; done) | (simp [*]; done)), H', ⟨by first | omega | exact Nat.le_refl _⟩, ⟨by (with_reducible repeat (first | refine blk_drewN ?_ _ | refine blk_drew ?_ | refine blk_alloc ?_ _)); exact BK314.out⟩, ⟨by (with_reducible repeat (first | refine blk_drewN ?_ _ | refine blk_drew ?_ | refine blk_alloc ?_ _)); exact BK315.out⟩, ⟨by repeat (first | (with_reducible first | exact HB.out | apply below_alloc | apply pw_below_drewN | apply below_drew1 | refine below_set ?_ GE314.out | refine below_set ?_ GE315.out) | exact HB.out)⟩⟩
      case rest =>
        clear HC9
        try clear c1
        try clear hcv1
        try clear c2
        try clear p2
        try clear c5
        try clear c5b0
        try clear c5b1
        try clear c6
        try clear c6b0
        try clear c6b1
        try clear c9
        try clear c10
        try clear c12
        try clear hcv19
        try clear c22
        try clear c22b0
        try clear c22b1
        try clear hcz13_0
        try clear hcz13_1
        try clear hcz13_2
        try clear hcz13_3
        try clear hcz15_0
        try clear hcz15_1
        try clear hcz15_2
        try clear hcz15_3
        try clear hcz16_0
        try clear hcz16_1
        try clear hcz16_2
        try clear hcz20_0
        try clear hcz20_1
        try clear hcz20_2
        try clear hcz20_3
        try clear hfz13_0
        try clear hfz13_1
        try clear hfz13_2
        try clear hfz13_3
        try clear hfz15_0
        try clear hfz15_1
        try clear hfz15_2
        try clear hfz15_3
        try clear hfz16_0
        try clear hfz16_1
        try clear hfz16_2
        try clear hfz20_0
        try clear hfz20_1
        try clear hfz20_2
        try clear hfz20_3
        obtain ⟨kq, x47_8, rfl, HA, HJ8, BK314, BK315, HB⟩ := hcut
        cases kq with
        | zero => exact absurd HA.out (by simp [withylaw09_CellCut.j0])
        | succ kj8 =>
          have H := HA.out
          clear HA
          simp only [withylaw09_CellCut.j0] at H
          have HC23 := Aside0.mk H
          clear H
          go_upto_if 47 with (fail)
          go_cut [] (fun wc => ∃ (kq : Nat), Aside0 (withylaw09_CellCut.j1 kq (a0.extract 0 ((ji4) : Int).toNat) (strOfNums y320) t324 t316 t317 t318 t319 a2_0 a2_1 a2_2 = some r) ∧ Aside0 (kq ≤ kj8) ∧ Aside0 (wc.heap[gb314]? = some (.cells #[.bool t316, .string t317, .int .i64 t318, .int .i64 t319] 23 (0, 0))) ∧ Aside0 (wc.heap[gb315]? = some (.cells #[.int .u16 a2_0, .int .u8 a2_1, .int .i64 a2_2] 46 (0, 0))) ∧ Aside0 (Below w.heap.size w wc))
          case first =>
            have H := HC23.out
            clear HC23
            by_cases c24 : x47_8 = true
            · subst c24
              have H1 : (if (t323.size : Int) = 0 then (none) else (if 0 ≤ (Int.tmod (wrap64 (a2_0)) (t323.size : Int)) then (if (Int.tmod (wrap64 (a2_0)) (t323.size : Int)) ≤ (t323.size : Int) then ((cell_GetValue.f (t323.extract 0 ((Int.tmod (wrap64 (a2_0)) (t323.size : Int)) : Int).toNat)).bind fun bt325 => (if t323.size + (strOfNums y320).size ≤ 9223372036854775807 then ((cell_GetValue.f (t323 ++ (strOfNums y320))).bind fun bt332 => (if bt325.2.2.2.2.2 = 3 then (if bt332.2.2.2.2.2 = 3 then (withylaw09_CellCut.j1 kj8 (a0.extract 0 ((ji4) : Int).toNat) (strOfNums y320) t324 t316 t317 t318 t319 a2_0 a2_1 a2_2) else (some false)) else (some false))) else (none))) else (none)) else (none))) = some r := by rw [if_pos rfl] at H; exact H
              clear H
              have H := H1
              clear H1
              by_cases c25 : (t323.size : Int) = 0
              · rw [if_pos c25] at H
                exact absurd H (by simp)
              · rw [if_neg c25] at H
                have c25b0 : ((t323.size : Int) == 0) = false := beq_eq_false_iff_ne.mpr c25
                have c25b1 : ((t323.size : Int) != 0) = true := bne_iff_ne.mpr c25
                (first | rw [c25b0] | (simp only [i64_w, i32_w]; rw [c25b0]) | skip)
                obtain ⟨ji26, hji26⟩ : ∃ j_ : Int, (Int.tmod (wrap64 (a2_0)) (t323.size : Int)) = j_ := ⟨_, rfl⟩
                replace H : (if 0 ≤ (ji26) then (if (ji26) ≤ (t323.size : Int) then ((cell_GetValue.f (t323.extract 0 ((ji26) : Int).toNat)).bind fun bt325 => (if t323.size + (strOfNums y320).size ≤ 9223372036854775807 then ((cell_GetValue.f (t323 ++ (strOfNums y320))).bind fun bt332 => (if bt325.2.2.2.2.2 = 3 then (if bt332.2.2.2.2.2 = 3 then (withylaw09_CellCut.j1 kj8 (a0.extract 0 ((ji4) : Int).toNat) (strOfNums y320) t324 t316 t317 t318 t319 a2_0 a2_1 a2_2) else (some false)) else (some false))) else (none))) else (none)) else (none)) = some r := by first | (rw [hji26] at H; exact H) | (simp only [hji26] at H ⊢; exact H)
                by_cases c27 : 0 ≤ (ji26)
                · rw [if_pos c27] at H
                  have c27b0 := eq_true c27
                  have c27b1 : decide (0 ≤ (ji26)) = true := decide_eq_true c27
                  clear c27
                  by_cases c28 : (ji26) ≤ (t323.size : Int)
                  · rw [if_pos c28] at H
                    have c28b0 := eq_true c28
                    have c28b1 : decide ((ji26) ≤ (t323.size : Int)) = true := decide_eq_true c28
                    clear c28
                    replace H := Option.bind_eq_some_iff.mp H
                    obtain ⟨⟨t325, t326, t327, t328, t329, t330⟩, A290, H⟩ := H
                    replace H : (if t323.size + (strOfNums y320).size ≤ 9223372036854775807 then ((cell_GetValue.f (t323 ++ (strOfNums y320))).bind fun bt332 => (if t330 = 3 then (if bt332.2.2.2.2.2 = 3 then (withylaw09_CellCut.j1 kj8 (a0.extract 0 ((ji4) : Int).toNat) (strOfNums y320) t324 t316 t317 t318 t319 a2_0 a2_1 a2_2) else (some false)) else (some false))) else (none)) = some r := H
                    have A29 := Aside0.mk A290
                    clear A290
                    by_cases c30 : t323.size + (strOfNums y320).size ≤ 9223372036854775807
                    · rw [if_pos c30] at H
                      have c30b0 := eq_true c30
                      have c30b1 : decide (t323.size + (strOfNums y320).size ≤ 9223372036854775807) = true := decide_eq_true c30
                      try have c30b2 : (9223372036854775807 < t323.size + (strOfNums y320).size) = False := eq_false (Nat.not_lt.2 c30)
                      replace H := Option.bind_eq_some_iff.mp H
                      obtain ⟨⟨t332, t333, t334, t335, t336, t337⟩, A310, H⟩ := H
                      replace H : (if t330 = 3 then (if t337 = 3 then (withylaw09_CellCut.j1 kj8 (a0.extract 0 ((ji4) : Int).toNat) (strOfNums y320) t324 t316 t317 t318 t319 a2_0 a2_1 a2_2) else (some false)) else (some false)) = some r := H
                      have A31 := Aside0.mk A310
                      clear A310
                      by_cases c32 : t330 = 3
                      · rw [if_pos c32] at H
                        have c32b0 : (t330 == 3) = true := beq_iff_eq.mpr c32
                        have c32b1 : (t330 != 3) = false := bne_eq_false_iff_eq.mpr c32
                        clear c32
                        by_cases c33 : t337 = 3
                        · rw [if_pos c33] at H
                          have c33b0 : (t337 == 3) = true := beq_iff_eq.mpr c33
                          have c33b1 : (t337 != 3) = false := bne_eq_false_iff_eq.mpr c33
                          clear c33
                          have H' := Aside0.mk H
                          clear H
                          have hnb34 := NB315_314.out
                          have hnc34 := NB314_315.out
                          have hcz35_0 : wc.cell? ⟨gb315, 0, none⟩ = some (.int .u16 a2_0) := (blk_cell BK315.out 0).trans rfl
                          have hcz35_1 : wc.cell? ⟨gb315, 1, none⟩ = some (.int .u8 a2_1) := (blk_cell BK315.out 1).trans rfl
                          have hcz35_2 : wc.cell? ⟨gb315, 2, none⟩ = some (.int .i64 a2_2) := (blk_cell BK315.out 2).trans rfl
                          have hfz35_0 := blk_frozen BK315.out 0
                          have hfz35_1 := blk_frozen BK315.out 1
                          have hfz35_2 := blk_frozen BK315.out 2
                          go_wp2_with (first | ((with_reducible refine gate_callee (f := 15) rfl ?_); refine goesL_ (some 57) rfl rfl Try.func15 (by kernel_rfl) rfl #[.string (t323.extract 0 ((ji26) : Int).toNat)] rfl (by (try simp only [List.map_toArray, List.map_cons, List.map_nil]); first | done | (simp only [hji26]; rfl) | rfl | (simp only [List.length_drop, List.length_take]; rfl)) ?_; (with_reducible refine (cell_GetValue.calls (t323.extract 0 ((ji26) : Int).toNat) t325 t326 t327 t328 t329 t330 _ A29.out).mono ?_); rintro e w36 ⟨rfl, hb⟩; refine ⟨_, rfl, ?_⟩; have n0_ := Aside0.mk (blk_below (g := gb314) (o := .cells #[.bool t316, .string t317, .int .i64 t318, .int .i64 t319] 23 (0, 0)) (by (with_reducible repeat (first | refine blk_drewN ?_ _ | refine blk_drew ?_ | refine blk_alloc ?_ _)); exact BK314.out) hb); have n1_ := Aside0.mk (blk_below (g := gb315) (o := .cells #[.int .u16 a2_0, .int .u8 a2_1, .int .i64 a2_2] 46 (0, 0)) (by (with_reducible repeat (first | refine blk_drewN ?_ _ | refine blk_drew ?_ | refine blk_alloc ?_ _)); exact BK315.out) hb); have n2_ := Aside0.mk (below_step (by repeat (first | (with_reducible first | exact HB.out | apply below_alloc | apply pw_below_drewN | apply below_drew1 | refine below_set ?_ GE314.out | refine below_set ?_ GE315.out) | exact HB.out)) hb); clear BK314; clear BK315; clear HB; have BK314 := n0_; have BK315 := n1_; have HB := n2_; clear n0_ n1_ n2_; (try clear hb); (try clear hb2); (try clear hk); (try clear hi)) | ((with_reducible refine gate_dst (N := 11) rfl ?_); (try (refine gate_guard (by rfl) ?_; dsimp only)); refine box_event ?hg (N := 11) ?hd (cs := #[.bool false, .string (⟨#[]⟩ : ByteArray), .int .i64 0, .int .i64 0]) (t := 23) ?hr ?_; (case hd => rfl); (case hg => rfl); (case hr => first | (go_simp; done) | (go_simp; rfl)); intro gb331 hg w37 hbox hb; have n0_ := Aside0.mk (blk_below (g := gb314) (o := .cells #[.bool t316, .string t317, .int .i64 t318, .int .i64 t319] 23 (0, 0)) (by (with_reducible repeat (first | refine blk_drewN ?_ _ | refine blk_drew ?_ | refine blk_alloc ?_ _)); exact BK314.out) hb); have n1_ := Aside0.mk (blk_below (g := gb315) (o := .cells #[.int .u16 a2_0, .int .u8 a2_1, .int .i64 a2_2] 46 (0, 0)) (by (with_reducible repeat (first | refine blk_drewN ?_ _ | refine blk_drew ?_ | refine blk_alloc ?_ _)); exact BK315.out) hb); have n2_ := Aside0.mk (below_step (by repeat (first | (with_reducible first | exact HB.out | apply below_alloc | apply pw_below_drewN | apply below_drew1 | refine below_set ?_ GE314.out | refine below_set ?_ GE315.out) | exact HB.out)) hb); have n3_ := Aside0.mk (hbox); have n4_ := Aside0.mk ((by rw [hg]; exact (below_size (by repeat (first | (with_reducible first | exact HB.out | apply below_alloc | apply pw_below_drewN | apply below_drew1 | refine below_set ?_ GE314.out | refine below_set ?_ GE315.out) | exact HB.out))) : w.heap.size ≤ gb331)); have n5_ := Aside0.mk ((by rw [hg]; exact (below_size (by repeat (first | (with_reducible first | exact HB.out | apply below_alloc | apply pw_below_drewN | apply below_drew1 | refine below_set ?_ GE314.out | refine below_set ?_ GE315.out) | exact HB.out))) : w.heap.size ≤ gb331)); have n6_ := Aside0.mk ((by rw [hg]; exact Nat.ne_of_lt (blk_lt (g := gb314) (o := .cells #[.bool t316, .string t317, .int .i64 t318, .int .i64 t319] 23 (0, 0)) (by (with_reducible repeat (first | refine blk_drewN ?_ _ | refine blk_drew ?_ | refine blk_alloc ?_ _)); exact BK314.out)) : gb314 ≠ gb331)); have n7_ := Aside0.mk ((by rw [hg]; exact Nat.ne_of_gt (blk_lt (g := gb314) (o := .cells #[.bool t316, .string t317, .int .i64 t318, .int .i64 t319] 23 (0, 0)) (by (with_reducible repeat (first | refine blk_drewN ?_ _ | refine blk_drew ?_ | refine blk_alloc ?_ _)); exact BK314.out)) : gb331 ≠ gb314)); have n8_ := Aside0.mk ((by rw [hg]; exact Nat.ne_of_lt (blk_lt (g := gb315) (o := .cells #[.int .u16 a2_0, .int .u8 a2_1, .int .i64 a2_2] 46 (0, 0)) (by (with_reducible repeat (first | refine blk_drewN ?_ _ | refine blk_drew ?_ | refine blk_alloc ?_ _)); exact BK315.out)) : gb315 ≠ gb331)); have n9_ := Aside0.mk ((by rw [hg]; exact Nat.ne_of_gt (blk_lt (g := gb315) (o := .cells #[.int .u16 a2_0, .int .u8 a2_1, .int .i64 a2_2] 46 (0, 0)) (by (with_reducible repeat (first | refine blk_drewN ?_ _ | refine blk_drew ?_ | refine blk_alloc ?_ _)); exact BK315.out)) : gb331 ≠ gb315)); clear BK314; clear BK315; clear HB; have BK314 := n0_; have BK315 := n1_; have HB := n2_; have BK331 := n3_; have GW331 := n4_; have GE331 := n5_; have NB314_331 := n6_; have NB331_314 := n7_; have NB315_331 := n8_; have NB331_315 := n9_; clear n0_ n1_ n2_ n3_ n4_ n5_ n6_ n7_ n8_ n9_; clear hb hbox hg; have hnb38 := NB331_314.out; have hnc38 := NB314_331.out; have hnb39 := NB331_315.out; have hnc39 := NB315_331.out; have hcz40_0 : w37.cell? ⟨gb331, 0, none⟩ = some (.bool false) := (blk_cell BK331.out 0).trans rfl; have hcz40_1 : w37.cell? ⟨gb331, 1, none⟩ = some (.string (⟨#[]⟩ : ByteArray)) := (blk_cell BK331.out 1).trans rfl; have hcz40_2 : w37.cell? ⟨gb331, 2, none⟩ = some (.int .i64 0) := (blk_cell BK331.out 2).trans rfl; have hcz40_3 : w37.cell? ⟨gb331, 3, none⟩ = some (.int .i64 0) := (blk_cell BK331.out 3).trans rfl; have hfz40_0 := blk_frozen BK331.out 0; have hfz40_1 := blk_frozen BK331.out 1; have hfz40_2 := blk_frozen BK331.out 2; have hfz40_3 := blk_frozen BK331.out 3) | ((with_reducible refine gate_callee (f := 15) rfl ?_); refine goesL_ (some 65) rfl rfl Try.func15 (by kernel_rfl) rfl #[.string (t323 ++ (strOfNums y320))] rfl (by (try simp only [List.map_toArray, List.map_cons, List.map_nil]); first | done | rfl | (simp only [List.length_drop, List.length_take]; rfl)) ?_; (with_reducible refine (cell_GetValue.calls (t323 ++ (strOfNums y320)) t332 t333 t334 t335 t336 t337 _ A31.out).mono ?_); rintro e w41 ⟨rfl, hb⟩; refine ⟨_, rfl, ?_⟩; have n0_ := Aside0.mk (blk_below (g := gb314) (o := .cells #[.bool t316, .string t317, .int .i64 t318, .int .i64 t319] 23 (0, 0)) (by (with_reducible repeat (first | refine blk_drewN ?_ _ | refine blk_drew ?_ | refine blk_alloc ?_ _)); refine blk_far ?_ NB314_331.out _; (with_reducible repeat (first | refine blk_drewN ?_ _ | refine blk_drew ?_ | refine blk_alloc ?_ _)); refine blk_far ?_ NB314_331.out _; (with_reducible repeat (first | refine blk_drewN ?_ _ | refine blk_drew ?_ | refine blk_alloc ?_ _)); refine blk_far ?_ NB314_331.out _; (with_reducible repeat (first | refine blk_drewN ?_ _ | refine blk_drew ?_ | refine blk_alloc ?_ _)); refine blk_far ?_ NB314_331.out _; (with_reducible repeat (first | refine blk_drewN ?_ _ | refine blk_drew ?_ | refine blk_alloc ?_ _)); exact BK314.out) hb); have n1_ := Aside0.mk (blk_below (g := gb315) (o := .cells #[.int .u16 a2_0, .int .u8 a2_1, .int .i64 a2_2] 46 (0, 0)) (by (with_reducible repeat (first | refine blk_drewN ?_ _ | refine blk_drew ?_ | refine blk_alloc ?_ _)); refine blk_far ?_ NB315_331.out _; (with_reducible repeat (first | refine blk_drewN ?_ _ | refine blk_drew ?_ | refine blk_alloc ?_ _)); refine blk_far ?_ NB315_331.out _; (with_reducible repeat (first | refine blk_drewN ?_ _ | refine blk_drew ?_ | refine blk_alloc ?_ _)); refine blk_far ?_ NB315_331.out _; (with_reducible repeat (first | refine blk_drewN ?_ _ | refine blk_drew ?_ | refine blk_alloc ?_ _)); refine blk_far ?_ NB315_331.out _; (with_reducible repeat (first | refine blk_drewN ?_ _ | refine blk_drew ?_ | refine blk_alloc ?_ _)); exact BK315.out) hb); have n2_ := Aside0.mk (blk_below (g := gb331) (o := .cells #[.bool t326, .string t327, .int .i64 t328, .int .i64 t329] 23 (0, 0)) (by (with_reducible repeat (first | refine blk_drewN ?_ _ | refine blk_drew ?_ | refine blk_alloc ?_ _)); refine blk_put (cs := #[.bool t326, .string t327, .int .i64 t328, .int .i64 0]) ?_ 3 _ rfl; (with_reducible repeat (first | refine blk_drewN ?_ _ | refine blk_drew ?_ | refine blk_alloc ?_ _)); refine blk_put (cs := #[.bool t326, .string t327, .int .i64 0, .int .i64 0]) ?_ 2 _ rfl; (with_reducible repeat (first | refine blk_drewN ?_ _ | refine blk_drew ?_ | refine blk_alloc ?_ _)); refine blk_put (cs := #[.bool t326, .string (⟨#[]⟩ : ByteArray), .int .i64 0, .int .i64 0]) ?_ 1 _ rfl; (with_reducible repeat (first | refine blk_drewN ?_ _ | refine blk_drew ?_ | refine blk_alloc ?_ _)); refine blk_put (cs := #[.bool false, .string (⟨#[]⟩ : ByteArray), .int .i64 0, .int .i64 0]) ?_ 0 _ rfl; (with_reducible repeat (first | refine blk_drewN ?_ _ | refine blk_drew ?_ | refine blk_alloc ?_ _)); exact BK331.out) hb); have n3_ := Aside0.mk (below_step (by repeat (first | (with_reducible first | exact HB.out | apply below_alloc | apply pw_below_drewN | apply below_drew1 | refine below_set ?_ GE314.out | refine below_set ?_ GE315.out | refine below_set ?_ GE331.out) | exact HB.out)) hb); clear BK314; clear BK315; clear BK331; clear HB; have BK314 := n0_; have BK315 := n1_; have BK331 := n2_; have HB := n3_; clear n0_ n1_ n2_ n3_; (try clear hb); (try clear hb2); (try clear hk); (try clear hi)) | ((with_reducible refine gate_dst (N := 14) rfl ?_); (try (refine gate_guard (by rfl) ?_; dsimp only)); refine box_event ?hg (N := 14) ?hd (cs := #[.bool false, .string (⟨#[]⟩ : ByteArray), .int .i64 0, .int .i64 0]) (t := 23) ?hr ?_; (case hd => rfl); (case hg => rfl); (case hr => first | (go_simp; done) | (go_simp; rfl)); intro gb338 hg w42 hbox hb; have n0_ := Aside0.mk (blk_below (g := gb314) (o := .cells #[.bool t316, .string t317, .int .i64 t318, .int .i64 t319] 23 (0, 0)) (by (with_reducible repeat (first | refine blk_drewN ?_ _ | refine blk_drew ?_ | refine blk_alloc ?_ _)); exact BK314.out) hb); have n1_ := Aside0.mk (blk_below (g := gb315) (o := .cells #[.int .u16 a2_0, .int .u8 a2_1, .int .i64 a2_2] 46 (0, 0)) (by (with_reducible repeat (first | refine blk_drewN ?_ _ | refine blk_drew ?_ | refine blk_alloc ?_ _)); exact BK315.out) hb); have n2_ := Aside0.mk (blk_below (g := gb331) (o := .cells #[.bool t326, .string t327, .int .i64 t328, .int .i64 t329] 23 (0, 0)) (by (with_reducible repeat (first | refine blk_drewN ?_ _ | refine blk_drew ?_ | refine blk_alloc ?_ _)); exact BK331.out) hb); have n3_ := Aside0.mk (below_step (by repeat (first | (with_reducible first | exact HB.out | apply below_alloc | apply pw_below_drewN | apply below_drew1 | refine below_set ?_ GE314.out | refine below_set ?_ GE315.out | refine below_set ?_ GE331.out) | exact HB.out)) hb); have n4_ := Aside0.mk (hbox); have n5_ := Aside0.mk ((by rw [hg]; exact (below_size (by repeat (first | (with_reducible first | exact HB.out | apply below_alloc | apply pw_below_drewN | apply below_drew1 | refine below_set ?_ GE314.out | refine below_set ?_ GE315.out | refine below_set ?_ GE331.out) | exact HB.out))) : w.heap.size ≤ gb338)); have n6_ := Aside0.mk ((by rw [hg]; exact (below_size (by repeat (first | (with_reducible first | exact HB.out | apply below_alloc | apply pw_below_drewN | apply below_drew1 | refine below_set ?_ GE314.out | refine below_set ?_ GE315.out | refine below_set ?_ GE331.out) | exact HB.out))) : w.heap.size ≤ gb338)); have n7_ := Aside0.mk ((by rw [hg]; exact Nat.ne_of_lt (blk_lt (g := gb314) (o := .cells #[.bool t316, .string t317, .int .i64 t318, .int .i64 t319] 23 (0, 0)) (by (with_reducible repeat (first | refine blk_drewN ?_ _ | refine blk_drew ?_ | refine blk_alloc ?_ _)); exact BK314.out)) : gb314 ≠ gb338)); have n8_ := Aside0.mk ((by rw [hg]; exact Nat.ne_of_gt (blk_lt (g := gb314) (o := .cells #[.bool t316, .string t317, .int .i64 t318, .int .i64 t319] 23 (0, 0)) (by (with_reducible repeat (first | refine blk_drewN ?_ _ | refine blk_drew ?_ | refine blk_alloc ?_ _)); exact BK314.out)) : gb338 ≠ gb314)); have n9_ := Aside0.mk ((by rw [hg]; exact Nat.ne_of_lt (blk_lt (g := gb315) (o := .cells #[.int .u16 a2_0, .int .u8 a2_1, .int .i64 a2_2] 46 (0, 0)) (by (with_reducible repeat (first | refine blk_drewN ?_ _ | refine blk_drew ?_ | refine blk_alloc ?_ _)); exact BK315.out)) : gb315 ≠ gb338)); have n10_ := Aside0.mk ((by rw [hg]; exact Nat.ne_of_gt (blk_lt (g := gb315) (o := .cells #[.int .u16 a2_0, .int .u8 a2_1, .int .i64 a2_2] 46 (0, 0)) (by (with_reducible repeat (first | refine blk_drewN ?_ _ | refine blk_drew ?_ | refine blk_alloc ?_ _)); exact BK315.out)) : gb338 ≠ gb315)); have n11_ := Aside0.mk ((by rw [hg]; exact Nat.ne_of_lt (blk_lt (g := gb331) (o := .cells #[.bool t326, .string t327, .int .i64 t328, .int .i64 t329] 23 (0, 0)) (by (with_reducible repeat (first | refine blk_drewN ?_ _ | refine blk_drew ?_ | refine blk_alloc ?_ _)); exact BK331.out)) : gb331 ≠ gb338)); have n12_ := Aside0.mk ((by rw [hg]; exact Nat.ne_of_gt (blk_lt (g := gb331) (o := .cells #[.bool t326, .string t327, .int .i64 t328, .int .i64 t329] 23 (0, 0)) (by (with_reducible repeat (first | refine blk_drewN ?_ _ | refine blk_drew ?_ | refine blk_alloc ?_ _)); exact BK331.out)) : gb338 ≠ gb331)); clear BK314; clear BK315; clear BK331; clear HB; have BK314 := n0_; have BK315 := n1_; have BK331 := n2_; have HB := n3_; have BK338 := n4_; have GW338 := n5_; have GE338 := n6_; have NB314_338 := n7_; have NB338_314 := n8_; have NB315_338 := n9_; have NB338_315 := n10_; have NB331_338 := n11_; have NB338_331 := n12_; clear n0_ n1_ n2_ n3_ n4_ n5_ n6_ n7_ n8_ n9_ n10_ n11_ n12_; clear hb hbox hg; have hnb43 := NB338_314.out; have hnc43 := NB314_338.out; have hnb44 := NB338_315.out; have hnc44 := NB315_338.out; have hnb45 := NB338_331.out; have hnc45 := NB331_338.out; have hcz46_0 : w42.cell? ⟨gb338, 0, none⟩ = some (.bool false) := (blk_cell BK338.out 0).trans rfl; have hcz46_1 : w42.cell? ⟨gb338, 1, none⟩ = some (.string (⟨#[]⟩ : ByteArray)) := (blk_cell BK338.out 1).trans rfl; have hcz46_2 : w42.cell? ⟨gb338, 2, none⟩ = some (.int .i64 0) := (blk_cell BK338.out 2).trans rfl; have hcz46_3 : w42.cell? ⟨gb338, 3, none⟩ = some (.int .i64 0) := (blk_cell BK338.out 3).trans rfl; have hfz46_0 := blk_frozen BK338.out 0; have hfz46_1 := blk_frozen BK338.out 1; have hfz46_2 := blk_frozen BK338.out 2; have hfz46_3 := blk_frozen BK338.out 3))
                          go_meet
                          case rel => exact ⟨_, H', ⟨by have := HJ8.out; first | omega | exact Nat.le_refl _⟩, ⟨by (with_reducible repeat (first | refine blk_drewN ?_ _ | refine blk_drew ?_ | refine blk_alloc ?_ _)); refine blk_far ?_ NB314_338.out _; (with_reducible repeat (first | refine blk_drewN ?_ _ | refine blk_drew ?_ | refine blk_alloc ?_ _)); refine blk_far ?_ NB314_338.out _; (with_reducible repeat (first | refine blk_drewN ?_ _ | refine blk_drew ?_ | refine blk_alloc ?_ _)); refine blk_far ?_ NB314_338.out _; (with_reducible repeat (first | refine blk_drewN ?_ _ | refine blk_drew ?_ | refine blk_alloc ?_ _)); refine blk_far ?_ NB314_338.out _; (with_reducible repeat (first | refine blk_drewN ?_ _ | refine blk_drew ?_ | refine blk_alloc ?_ _)); exact BK314.out⟩, ⟨by (with_reducible repeat (first | refine blk_drewN ?_ _ | refine blk_drew ?_ | refine blk_alloc ?_ _)); refine blk_far ?_ NB315_338.out _; (with_reducible repeat (first | refine blk_drewN ?_ _ | refine blk_drew ?_ | refine blk_alloc ?_ _)); refine blk_far ?_ NB315_338.out _; (with_reducible repeat (first | refine blk_drewN ?_ _ | refine blk_drew ?_ | refine blk_alloc ?_ _)); refine blk_far ?_ NB315_338.out _; (with_reducible repeat (first | refine blk_drewN ?_ _ | refine blk_drew ?_ | refine blk_alloc ?_ _)); refine blk_far ?_ NB315_338.out _; (with_reducible repeat (first | refine blk_drewN ?_ _ | refine blk_drew ?_ | refine blk_alloc ?_ _)); exact BK315.out⟩, ⟨by repeat (first | (with_reducible first | exact HB.out | apply below_alloc | apply pw_below_drewN | apply below_drew1 | refine below_set ?_ GE314.out | refine below_set ?_ GE315.out | refine below_set ?_ GE331.out | refine below_set ?_ GE338.out) | exact HB.out)⟩⟩
                        · rw [if_neg c33] at H
                          have c33b0 : (t337 == 3) = false := beq_eq_false_iff_ne.mpr c33
                          have c33b1 : (t337 != 3) = true := bne_iff_ne.mpr c33
                          obtain rfl := Option.some.inj H
                          have hnb47 := NB315_314.out
                          have hnc47 := NB314_315.out
                          have hcz48_0 : wc.cell? ⟨gb315, 0, none⟩ = some (.int .u16 a2_0) := (blk_cell BK315.out 0).trans rfl
                          have hcz48_1 : wc.cell? ⟨gb315, 1, none⟩ = some (.int .u8 a2_1) := (blk_cell BK315.out 1).trans rfl
                          have hcz48_2 : wc.cell? ⟨gb315, 2, none⟩ = some (.int .i64 a2_2) := (blk_cell BK315.out 2).trans rfl
                          have hfz48_0 := blk_frozen BK315.out 0
                          have hfz48_1 := blk_frozen BK315.out 1
                          have hfz48_2 := blk_frozen BK315.out 2
                          go_wp2_with (first | ((with_reducible refine gate_callee (f := 15) rfl ?_); refine goesL_ (some 57) rfl rfl Try.func15 (by kernel_rfl) rfl #[.string (t323.extract 0 ((ji26) : Int).toNat)] rfl (by (try simp only [List.map_toArray, List.map_cons, List.map_nil]); first | done | (simp only [hji26]; rfl) | rfl | (simp only [List.length_drop, List.length_take]; rfl)) ?_; (with_reducible refine (cell_GetValue.calls (t323.extract 0 ((ji26) : Int).toNat) t325 t326 t327 t328 t329 t330 _ A29.out).mono ?_); rintro e w49 ⟨rfl, hb⟩; refine ⟨_, rfl, ?_⟩; have n0_ := Aside0.mk (blk_below (g := gb314) (o := .cells #[.bool t316, .string t317, .int .i64 t318, .int .i64 t319] 23 (0, 0)) (by (with_reducible repeat (first | refine blk_drewN ?_ _ | refine blk_drew ?_ | refine blk_alloc ?_ _)); exact BK314.out) hb); have n1_ := Aside0.mk (blk_below (g := gb315) (o := .cells #[.int .u16 a2_0, .int .u8 a2_1, .int .i64 a2_2] 46 (0, 0)) (by (with_reducible repeat (first | refine blk_drewN ?_ _ | refine blk_drew ?_ | refine blk_alloc ?_ _)); exact BK315.out) hb); have n2_ := Aside0.mk (below_step (by repeat (first | (with_reducible first | exact HB.out | apply below_alloc | apply pw_below_drewN | apply below_drew1 | refine below_set ?_ GE314.out | refine below_set ?_ GE315.out) | exact HB.out)) hb); clear BK314; clear BK315; clear HB; have BK314 := n0_; have BK315 := n1_; have HB := n2_; clear n0_ n1_ n2_; (try clear hb); (try clear hb2); (try clear hk); (try clear hi)) | ((with_reducible refine gate_dst (N := 11) rfl ?_); (try (refine gate_guard (by rfl) ?_; dsimp only)); refine box_event ?hg (N := 11) ?hd (cs := #[.bool false, .string (⟨#[]⟩ : ByteArray), .int .i64 0, .int .i64 0]) (t := 23) ?hr ?_; (case hd => rfl); (case hg => rfl); (case hr => first | (go_simp; done) | (go_simp; rfl)); intro gb331 hg w50 hbox hb; have n0_ := Aside0.mk (blk_below (g := gb314) (o := .cells #[.bool t316, .string t317, .int .i64 t318, .int .i64 t319] 23 (0, 0)) (by (with_reducible repeat (first | refine blk_drewN ?_ _ | refine blk_drew ?_ | refine blk_alloc ?_ _)); exact BK314.out) hb); have n1_ := Aside0.mk (blk_below (g := gb315) (o := .cells #[.int .u16 a2_0, .int .u8 a2_1, .int .i64 a2_2] 46 (0, 0)) (by (with_reducible repeat (first | refine blk_drewN ?_ _ | refine blk_drew ?_ | refine blk_alloc ?_ _)); exact BK315.out) hb); have n2_ := Aside0.mk (below_step (by repeat (first | (with_reducible first | exact HB.out | apply below_alloc | apply pw_below_drewN | apply below_drew1 | refine below_set ?_ GE314.out | refine below_set ?_ GE315.out) | exact HB.out)) hb); have n3_ := Aside0.mk (hbox); have n4_ := Aside0.mk ((by rw [hg]; exact (below_size (by repeat (first | (with_reducible first | exact HB.out | apply below_alloc | apply pw_below_drewN | apply below_drew1 | refine below_set ?_ GE314.out | refine below_set ?_ GE315.out) | exact HB.out))) : w.heap.size ≤ gb331)); have n5_ := Aside0.mk ((by rw [hg]; exact (below_size (by repeat (first | (with_reducible first | exact HB.out | apply below_alloc | apply pw_below_drewN | apply below_drew1 | refine below_set ?_ GE314.out | refine below_set ?_ GE315.out) | exact HB.out))) : w.heap.size ≤ gb331)); have n6_ := Aside0.mk ((by rw [hg]; exact Nat.ne_of_lt (blk_lt (g := gb314) (o := .cells #[.bool t316, .string t317, .int .i64 t318, .int .i64 t319] 23 (0, 0)) (by (with_reducible repeat (first | refine blk_drewN ?_ _ | refine blk_drew ?_ | refine blk_alloc ?_ _)); exact BK314.out)) : gb314 ≠ gb331)); have n7_ := Aside0.mk ((by rw [hg]; exact Nat.ne_of_gt (blk_lt (g := gb314) (o := .cells #[.bool t316, .string t317, .int .i64 t318, .int .i64 t319] 23 (0, 0)) (by (with_reducible repeat (first | refine blk_drewN ?_ _ | refine blk_drew ?_ | refine blk_alloc ?_ _)); exact BK314.out)) : gb331 ≠ gb314)); have n8_ := Aside0.mk ((by rw [hg]; exact Nat.ne_of_lt (blk_lt (g := gb315) (o := .cells #[.int .u16 a2_0, .int .u8 a2_1, .int .i64 a2_2] 46 (0, 0)) (by (with_reducible repeat (first | refine blk_drewN ?_ _ | refine blk_drew ?_ | refine blk_alloc ?_ _)); exact BK315.out)) : gb315 ≠ gb331)); have n9_ := Aside0.mk ((by rw [hg]; exact Nat.ne_of_gt (blk_lt (g := gb315) (o := .cells #[.int .u16 a2_0, .int .u8 a2_1, .int .i64 a2_2] 46 (0, 0)) (by (with_reducible repeat (first | refine blk_drewN ?_ _ | refine blk_drew ?_ | refine blk_alloc ?_ _)); exact BK315.out)) : gb331 ≠ gb315)); clear BK314; clear BK315; clear HB; have BK314 := n0_; have BK315 := n1_; have HB := n2_; have BK331 := n3_; have GW331 := n4_; have GE331 := n5_; have NB314_331 := n6_; have NB331_314 := n7_; have NB315_331 := n8_; have NB331_315 := n9_; clear n0_ n1_ n2_ n3_ n4_ n5_ n6_ n7_ n8_ n9_; clear hb hbox hg; have hnb51 := NB331_314.out; have hnc51 := NB314_331.out; have hnb52 := NB331_315.out; have hnc52 := NB315_331.out; have hcz53_0 : w50.cell? ⟨gb331, 0, none⟩ = some (.bool false) := (blk_cell BK331.out 0).trans rfl; have hcz53_1 : w50.cell? ⟨gb331, 1, none⟩ = some (.string (⟨#[]⟩ : ByteArray)) := (blk_cell BK331.out 1).trans rfl; have hcz53_2 : w50.cell? ⟨gb331, 2, none⟩ = some (.int .i64 0) := (blk_cell BK331.out 2).trans rfl; have hcz53_3 : w50.cell? ⟨gb331, 3, none⟩ = some (.int .i64 0) := (blk_cell BK331.out 3).trans rfl; have hfz53_0 := blk_frozen BK331.out 0; have hfz53_1 := blk_frozen BK331.out 1; have hfz53_2 := blk_frozen BK331.out 2; have hfz53_3 := blk_frozen BK331.out 3) | ((with_reducible refine gate_callee (f := 15) rfl ?_); refine goesL_ (some 65) rfl rfl Try.func15 (by kernel_rfl) rfl #[.string (t323 ++ (strOfNums y320))] rfl (by (try simp only [List.map_toArray, List.map_cons, List.map_nil]); first | done | rfl | (simp only [List.length_drop, List.length_take]; rfl)) ?_; (with_reducible refine (cell_GetValue.calls (t323 ++ (strOfNums y320)) t332 t333 t334 t335 t336 t337 _ A31.out).mono ?_); rintro e w54 ⟨rfl, hb⟩; refine ⟨_, rfl, ?_⟩; have n0_ := Aside0.mk (blk_below (g := gb314) (o := .cells #[.bool t316, .string t317, .int .i64 t318, .int .i64 t319] 23 (0, 0)) (by (with_reducible repeat (first | refine blk_drewN ?_ _ | refine blk_drew ?_ | refine blk_alloc ?_ _)); refine blk_far ?_ NB314_331.out _; (with_reducible repeat (first | refine blk_drewN ?_ _ | refine blk_drew ?_ | refine blk_alloc ?_ _)); refine blk_far ?_ NB314_331.out _; (with_reducible repeat (first | refine blk_drewN ?_ _ | refine blk_drew ?_ | refine blk_alloc ?_ _)); refine blk_far ?_ NB314_331.out _; (with_reducible repeat (first | refine blk_drewN ?_ _ | refine blk_drew ?_ | refine blk_alloc ?_ _)); refine blk_far ?_ NB314_331.out _; (with_reducible repeat (first | refine blk_drewN ?_ _ | refine blk_drew ?_ | refine blk_alloc ?_ _)); exact BK314.out) hb); have n1_ := Aside0.mk (blk_below (g := gb315) (o := .cells #[.int .u16 a2_0, .int .u8 a2_1, .int .i64 a2_2] 46 (0, 0)) (by (with_reducible repeat (first | refine blk_drewN ?_ _ | refine blk_drew ?_ | refine blk_alloc ?_ _)); refine blk_far ?_ NB315_331.out _; (with_reducible repeat (first | refine blk_drewN ?_ _ | refine blk_drew ?_ | refine blk_alloc ?_ _)); refine blk_far ?_ NB315_331.out _; (with_reducible repeat (first | refine blk_drewN ?_ _ | refine blk_drew ?_ | refine blk_alloc ?_ _)); refine blk_far ?_ NB315_331.out _; (with_reducible repeat (first | refine blk_drewN ?_ _ | refine blk_drew ?_ | refine blk_alloc ?_ _)); refine blk_far ?_ NB315_331.out _; (with_reducible repeat (first | refine blk_drewN ?_ _ | refine blk_drew ?_ | refine blk_alloc ?_ _)); exact BK315.out) hb); have n2_ := Aside0.mk (blk_below (g := gb331) (o := .cells #[.bool t326, .string t327, .int .i64 t328, .int .i64 t329] 23 (0, 0)) (by (with_reducible repeat (first | refine blk_drewN ?_ _ | refine blk_drew ?_ | refine blk_alloc ?_ _)); refine blk_put (cs := #[.bool t326, .string t327, .int .i64 t328, .int .i64 0]) ?_ 3 _ rfl; (with_reducible repeat (first | refine blk_drewN ?_ _ | refine blk_drew ?_ | refine blk_alloc ?_ _)); refine blk_put (cs := #[.bool t326, .string t327, .int .i64 0, .int .i64 0]) ?_ 2 _ rfl; (with_reducible repeat (first | refine blk_drewN ?_ _ | refine blk_drew ?_ | refine blk_alloc ?_ _)); refine blk_put (cs := #[.bool t326, .string (⟨#[]⟩ : ByteArray), .int .i64 0, .int .i64 0]) ?_ 1 _ rfl; (with_reducible repeat (first | refine blk_drewN ?_ _ | refine blk_drew ?_ | refine blk_alloc ?_ _)); refine blk_put (cs := #[.bool false, .string (⟨#[]⟩ : ByteArray), .int .i64 0, .int .i64 0]) ?_ 0 _ rfl; (with_reducible repeat (first | refine blk_drewN ?_ _ | refine blk_drew ?_ | refine blk_alloc ?_ _)); exact BK331.out) hb); have n3_ := Aside0.mk (below_step (by repeat (first | (with_reducible first | exact HB.out | apply below_alloc | apply pw_below_drewN | apply below_drew1 | refine below_set ?_ GE314.out | refine below_set ?_ GE315.out | refine below_set ?_ GE331.out) | exact HB.out)) hb); clear BK314; clear BK315; clear BK331; clear HB; have BK314 := n0_; have BK315 := n1_; have BK331 := n2_; have HB := n3_; clear n0_ n1_ n2_ n3_; (try clear hb); (try clear hb2); (try clear hk); (try clear hi)) | ((with_reducible refine gate_dst (N := 14) rfl ?_); (try (refine gate_guard (by rfl) ?_; dsimp only)); refine box_event ?hg (N := 14) ?hd (cs := #[.bool false, .string (⟨#[]⟩ : ByteArray), .int .i64 0, .int .i64 0]) (t := 23) ?hr ?_; (case hd => rfl); (case hg => rfl); (case hr => first | (go_simp; done) | (go_simp; rfl)); intro gb338 hg w55 hbox hb; have n0_ := Aside0.mk (blk_below (g := gb314) (o := .cells #[.bool t316, .string t317, .int .i64 t318, .int .i64 t319] 23 (0, 0)) (by (with_reducible repeat (first | refine blk_drewN ?_ _ | refine blk_drew ?_ | refine blk_alloc ?_ _)); exact BK314.out) hb); have n1_ := Aside0.mk (blk_below (g := gb315) (o := .cells #[.int .u16 a2_0, .int .u8 a2_1, .int .i64 a2_2] 46 (0, 0)) (by (with_reducible repeat (first | refine blk_drewN ?_ _ | refine blk_drew ?_ | refine blk_alloc ?_ _)); exact BK315.out) hb); have n2_ := Aside0.mk (blk_below (g := gb331) (o := .cells #[.bool t326, .string t327, .int .i64 t328, .int .i64 t329] 23 (0, 0)) (by (with_reducible repeat (first | refine blk_drewN ?_ _ | refine blk_drew ?_ | refine blk_alloc ?_ _)); exact BK331.out) hb); have n3_ := Aside0.mk (below_step (by repeat (first | (with_reducible first | exact HB.out | apply below_alloc | apply pw_below_drewN | apply below_drew1 | refine below_set ?_ GE314.out | refine below_set ?_ GE315.out | refine below_set ?_ GE331.out) | exact HB.out)) hb); have n4_ := Aside0.mk (hbox); have n5_ := Aside0.mk ((by rw [hg]; exact (below_size (by repeat (first | (with_reducible first | exact HB.out | apply below_alloc | apply pw_below_drewN | apply below_drew1 | refine below_set ?_ GE314.out | refine below_set ?_ GE315.out | refine below_set ?_ GE331.out) | exact HB.out))) : w.heap.size ≤ gb338)); have n6_ := Aside0.mk ((by rw [hg]; exact (below_size (by repeat (first | (with_reducible first | exact HB.out | apply below_alloc | apply pw_below_drewN | apply below_drew1 | refine below_set ?_ GE314.out | refine below_set ?_ GE315.out | refine below_set ?_ GE331.out) | exact HB.out))) : w.heap.size ≤ gb338)); have n7_ := Aside0.mk ((by rw [hg]; exact Nat.ne_of_lt (blk_lt (g := gb314) (o := .cells #[.bool t316, .string t317, .int .i64 t318, .int .i64 t319] 23 (0, 0)) (by (with_reducible repeat (first | refine blk_drewN ?_ _ | refine blk_drew ?_ | refine blk_alloc ?_ _)); exact BK314.out)) : gb314 ≠ gb338)); have n8_ := Aside0.mk ((by rw [hg]; exact Nat.ne_of_gt (blk_lt (g := gb314) (o := .cells #[.bool t316, .string t317, .int .i64 t318, .int .i64 t319] 23 (0, 0)) (by (with_reducible repeat (first | refine blk_drewN ?_ _ | refine blk_drew ?_ | refine blk_alloc ?_ _)); exact BK314.out)) : gb338 ≠ gb314)); have n9_ := Aside0.mk ((by rw [hg]; exact Nat.ne_of_lt (blk_lt (g := gb315) (o := .cells #[.int .u16 a2_0, .int .u8 a2_1, .int .i64 a2_2] 46 (0, 0)) (by (with_reducible repeat (first | refine blk_drewN ?_ _ | refine blk_drew ?_ | refine blk_alloc ?_ _)); exact BK315.out)) : gb315 ≠ gb338)); have n10_ := Aside0.mk ((by rw [hg]; exact Nat.ne_of_gt (blk_lt (g := gb315) (o := .cells #[.int .u16 a2_0, .int .u8 a2_1, .int .i64 a2_2] 46 (0, 0)) (by (with_reducible repeat (first | refine blk_drewN ?_ _ | refine blk_drew ?_ | refine blk_alloc ?_ _)); exact BK315.out)) : gb338 ≠ gb315)); have n11_ := Aside0.mk ((by rw [hg]; exact Nat.ne_of_lt (blk_lt (g := gb331) (o := .cells #[.bool t326, .string t327, .int .i64 t328, .int .i64 t329] 23 (0, 0)) (by (with_reducible repeat (first | refine blk_drewN ?_ _ | refine blk_drew ?_ | refine blk_alloc ?_ _)); exact BK331.out)) : gb331 ≠ gb338)); have n12_ := Aside0.mk ((by rw [hg]; exact Nat.ne_of_gt (blk_lt (g := gb331) (o := .cells #[.bool t326, .string t327, .int .i64 t328, .int .i64 t329] 23 (0, 0)) (by (with_reducible repeat (first | refine blk_drewN ?_ _ | refine blk_drew ?_ | refine blk_alloc ?_ _)); exact BK331.out)) : gb338 ≠ gb331)); clear BK314; clear BK315; clear BK331; clear HB; have BK314 := n0_; have BK315 := n1_; have BK331 := n2_; have HB := n3_; have BK338 := n4_; have GW338 := n5_; have GE338 := n6_; have NB314_338 := n7_; have NB338_314 := n8_; have NB315_338 := n9_; have NB338_315 := n10_; have NB331_338 := n11_; have NB338_331 := n12_; clear n0_ n1_ n2_ n3_ n4_ n5_ n6_ n7_ n8_ n9_ n10_ n11_ n12_; clear hb hbox hg; have hnb56 := NB338_314.out; have hnc56 := NB314_338.out; have hnb57 := NB338_315.out; have hnc57 := NB315_338.out; have hnb58 := NB338_331.out; have hnc58 := NB331_338.out; have hcz59_0 : w55.cell? ⟨gb338, 0, none⟩ = some (.bool false) := (blk_cell BK338.out 0).trans rfl; have hcz59_1 : w55.cell? ⟨gb338, 1, none⟩ = some (.string (⟨#[]⟩ : ByteArray)) := (blk_cell BK338.out 1).trans rfl; have hcz59_2 : w55.cell? ⟨gb338, 2, none⟩ = some (.int .i64 0) := (blk_cell BK338.out 2).trans rfl; have hcz59_3 : w55.cell? ⟨gb338, 3, none⟩ = some (.int .i64 0) := (blk_cell BK338.out 3).trans rfl; have hfz59_0 := blk_frozen BK338.out 0; have hfz59_1 := blk_frozen BK338.out 1; have hfz59_2 := blk_frozen BK338.out 2; have hfz59_3 := blk_frozen BK338.out 3))
                          go_ret
                          exact ⟨by first | rfl | (simp [errW_none, errW_some] <;> rfl) | (simp only [← hji4, ← hji26]; first | rfl | (simp [errW_none, errW_some] <;> rfl)) | (simp [*, errW_none, errW_some] <;> rfl), by repeat (first | (with_reducible first | exact HB.out | apply below_alloc | apply pw_below_drewN | apply below_drew1 | refine below_set ?_ GE314.out | refine below_set ?_ GE315.out | refine below_set ?_ GE331.out | refine below_set ?_ GE338.out) | exact HB.out)⟩
                      · rw [if_neg c32] at H
                        have c32b0 : (t330 == 3) = false := beq_eq_false_iff_ne.mpr c32
                        have c32b1 : (t330 != 3) = true := bne_iff_ne.mpr c32
                        obtain rfl := Option.some.inj H
                        have hnb60 := NB315_314.out
                        have hnc60 := NB314_315.out
                        have hcz61_0 : wc.cell? ⟨gb315, 0, none⟩ = some (.int .u16 a2_0) := (blk_cell BK315.out 0).trans rfl
                        have hcz61_1 : wc.cell? ⟨gb315, 1, none⟩ = some (.int .u8 a2_1) := (blk_cell BK315.out 1).trans rfl
                        have hcz61_2 : wc.cell? ⟨gb315, 2, none⟩ = some (.int .i64 a2_2) := (blk_cell BK315.out 2).trans rfl
                        have hfz61_0 := blk_frozen BK315.out 0
                        have hfz61_1 := blk_frozen BK315.out 1
                        have hfz61_2 := blk_frozen BK315.out 2
                        go_wp2_with (first | ((with_reducible refine gate_callee (f := 15) rfl ?_); refine goesL_ (some 57) rfl rfl Try.func15 (by kernel_rfl) rfl #[.string (t323.extract 0 ((ji26) : Int).toNat)] rfl (by (try simp only [List.map_toArray, List.map_cons, List.map_nil]); first | done | (simp only [hji26]; rfl) | rfl | (simp only [List.length_drop, List.length_take]; rfl)) ?_; (with_reducible refine (cell_GetValue.calls (t323.extract 0 ((ji26) : Int).toNat) t325 t326 t327 t328 t329 t330 _ A29.out).mono ?_); rintro e w62 ⟨rfl, hb⟩; refine ⟨_, rfl, ?_⟩; have n0_ := Aside0.mk (blk_below (g := gb314) (o := .cells #[.bool t316, .string t317, .int .i64 t318, .int .i64 t319] 23 (0, 0)) (by (with_reducible repeat (first | refine blk_drewN ?_ _ | refine blk_drew ?_ | refine blk_alloc ?_ _)); exact BK314.out) hb); have n1_ := Aside0.mk (blk_below (g := gb315) (o := .cells #[.int .u16 a2_0, .int .u8 a2_1, .int .i64 a2_2] 46 (0, 0)) (by (with_reducible repeat (first | refine blk_drewN ?_ _ | refine blk_drew ?_ | refine blk_alloc ?_ _)); exact BK315.out) hb); have n2_ := Aside0.mk (below_step (by repeat (first | (with_reducible first | exact HB.out | apply below_alloc | apply pw_below_drewN | apply below_drew1 | refine below_set ?_ GE314.out | refine below_set ?_ GE315.out) | exact HB.out)) hb); clear BK314; clear BK315; clear HB; have BK314 := n0_; have BK315 := n1_; have HB := n2_; clear n0_ n1_ n2_; (try clear hb); (try clear hb2); (try clear hk); (try clear hi)) | ((with_reducible refine gate_dst (N := 11) rfl ?_); (try (refine gate_guard (by rfl) ?_; dsimp only)); refine box_event ?hg (N := 11) ?hd (cs := #[.bool false, .string (⟨#[]⟩ : ByteArray), .int .i64 0, .int .i64 0]) (t := 23) ?hr ?_; (case hd => rfl); (case hg => rfl); (case hr => first | (go_simp; done) | (go_simp; rfl)); intro gb331 hg w63 hbox hb; have n0_ := Aside0.mk (blk_below (g := gb314) (o := .cells #[.bool t316, .string t317, .int .i64 t318, .int .i64 t319] 23 (0, 0)) (by (with_reducible repeat (first | refine blk_drewN ?_ _ | refine blk_drew ?_ | refine blk_alloc ?_ _)); exact BK314.out) hb); have n1_ := Aside0.mk (blk_below (g := gb315) (o := .cells #[.int .u16 a2_0, .int .u8 a2_1, .int .i64 a2_2] 46 (0, 0)) (by (with_reducible repeat (first | refine blk_drewN ?_ _ | refine blk_drew ?_ | refine blk_alloc ?_ _)); exact BK315.out) hb); have n2_ := Aside0.mk (below_step (by repeat (first | (with_reducible first | exact HB.out | apply below_alloc | apply pw_below_drewN | apply below_drew1 | refine below_set ?_ GE314.out | refine below_set ?_ GE315.out) | exact HB.out)) hb); have n3_ := Aside0.mk (hbox); have n4_ := Aside0.mk ((by rw [hg]; exact (below_size (by repeat (first | (with_reducible first | exact HB.out | apply below_alloc | apply pw_below_drewN | apply below_drew1 | refine below_set ?_ GE314.out | refine below_set ?_ GE315.out) | exact HB.out))) : w.heap.size ≤ gb331)); have n5_ := Aside0.mk ((by rw [hg]; exact (below_size (by repeat (first | (with_reducible first | exact HB.out | apply below_alloc | apply pw_below_drewN | apply below_drew1 | refine below_set ?_ GE314.out | refine below_set ?_ GE315.out) | exact HB.out))) : w.heap.size ≤ gb331)); have n6_ := Aside0.mk ((by rw [hg]; exact Nat.ne_of_lt (blk_lt (g := gb314) (o := .cells #[.bool t316, .string t317, .int .i64 t318, .int .i64 t319] 23 (0, 0)) (by (with_reducible repeat (first | refine blk_drewN ?_ _ | refine blk_drew ?_ | refine blk_alloc ?_ _)); exact BK314.out)) : gb314 ≠ gb331)); have n7_ := Aside0.mk ((by rw [hg]; exact Nat.ne_of_gt (blk_lt (g := gb314) (o := .cells #[.bool t316, .string t317, .int .i64 t318, .int .i64 t319] 23 (0, 0)) (by (with_reducible repeat (first | refine blk_drewN ?_ _ | refine blk_drew ?_ | refine blk_alloc ?_ _)); exact BK314.out)) : gb331 ≠ gb314)); have n8_ := Aside0.mk ((by rw [hg]; exact Nat.ne_of_lt (blk_lt (g := gb315) (o := .cells #[.int .u16 a2_0, .int .u8 a2_1, .int .i64 a2_2] 46 (0, 0)) (by (with_reducible repeat (first | refine blk_drewN ?_ _ | refine blk_drew ?_ | refine blk_alloc ?_ _)); exact BK315.out)) : gb315 ≠ gb331)); have n9_ := Aside0.mk ((by rw [hg]; exact Nat.ne_of_gt (blk_lt (g := gb315) (o := .cells #[.int .u16 a2_0, .int .u8 a2_1, .int .i64 a2_2] 46 (0, 0)) (by (with_reducible repeat (first | refine blk_drewN ?_ _ | refine blk_drew ?_ | refine blk_alloc ?_ _)); exact BK315.out)) : gb331 ≠ gb315)); clear BK314; clear BK315; clear HB; have BK314 := n0_; have BK315 := n1_; have HB := n2_; have BK331 := n3_; have GW331 := n4_; have GE331 := n5_; have NB314_331 := n6_; have NB331_314 := n7_; have NB315_331 := n8_; have NB331_315 := n9_; clear n0_ n1_ n2_ n3_ n4_ n5_ n6_ n7_ n8_ n9_; clear hb hbox hg; have hnb64 := NB331_314.out; have hnc64 := NB314_331.out; have hnb65 := NB331_315.out; have hnc65 := NB315_331.out; have hcz66_0 : w63.cell? ⟨gb331, 0, none⟩ = some (.bool false) := (blk_cell BK331.out 0).trans rfl; have hcz66_1 : w63.cell? ⟨gb331, 1, none⟩ = some (.string (⟨#[]⟩ : ByteArray)) := (blk_cell BK331.out 1).trans rfl; have hcz66_2 : w63.cell? ⟨gb331, 2, none⟩ = some (.int .i64 0) := (blk_cell BK331.out 2).trans rfl; have hcz66_3 : w63.cell? ⟨gb331, 3, none⟩ = some (.int .i64 0) := (blk_cell BK331.out 3).trans rfl; have hfz66_0 := blk_frozen BK331.out 0; have hfz66_1 := blk_frozen BK331.out 1; have hfz66_2 := blk_frozen BK331.out 2; have hfz66_3 := blk_frozen BK331.out 3) | ((with_reducible refine gate_callee (f := 15) rfl ?_); refine goesL_ (some 65) rfl rfl Try.func15 (by kernel_rfl) rfl #[.string (t323 ++ (strOfNums y320))] rfl (by (try simp only [List.map_toArray, List.map_cons, List.map_nil]); first | done | rfl | (simp only [List.length_drop, List.length_take]; rfl)) ?_; (with_reducible refine (cell_GetValue.calls (t323 ++ (strOfNums y320)) t332 t333 t334 t335 t336 t337 _ A31.out).mono ?_); rintro e w67 ⟨rfl, hb⟩; refine ⟨_, rfl, ?_⟩; have n0_ := Aside0.mk (blk_below (g := gb314) (o := .cells #[.bool t316, .string t317, .int .i64 t318, .int .i64 t319] 23 (0, 0)) (by (with_reducible repeat (first | refine blk_drewN ?_ _ | refine blk_drew ?_ | refine blk_alloc ?_ _)); refine blk_far ?_ NB314_331.out _; (with_reducible repeat (first | refine blk_drewN ?_ _ | refine blk_drew ?_ | refine blk_alloc ?_ _)); refine blk_far ?_ NB314_331.out _; (with_reducible repeat (first | refine blk_drewN ?_ _ | refine blk_drew ?_ | refine blk_alloc ?_ _)); refine blk_far ?_ NB314_331.out _; (with_reducible repeat (first | refine blk_drewN ?_ _ | refine blk_drew ?_ | refine blk_alloc ?_ _)); refine blk_far ?_ NB314_331.out _; (with_reducible repeat (first | refine blk_drewN ?_ _ | refine blk_drew ?_ | refine blk_alloc ?_ _)); exact BK314.out) hb); have n1_ := Aside0.mk (blk_below (g := gb315) (o := .cells #[.int .u16 a2_0, .int .u8 a2_1, .int .i64 a2_2] 46 (0, 0)) (by (with_reducible repeat (first | refine blk_drewN ?_ _ | refine blk_drew ?_ | refine blk_alloc ?_ _)); refine blk_far ?_ NB315_331.out _; (with_reducible repeat (first | refine blk_drewN ?_ _ | refine blk_drew ?_ | refine blk_alloc ?_ _)); refine blk_far ?_ NB315_331.out _; (with_reducible repeat (first | refine blk_drewN ?_ _ | refine blk_drew ?_ | refine blk_alloc ?_ _)); refine blk_far ?_ NB315_331.out _; (with_reducible repeat (first | refine blk_drewN ?_ _ | refine blk_drew ?_ | refine blk_alloc ?_ _)); refine blk_far ?_ NB315_331.out _; (with_reducible repeat (first | refine blk_drewN ?_ _ | refine blk_drew ?_ | refine blk_alloc ?_ _)); exact BK315.out) hb); have n2_ := Aside0.mk (blk_below (g := gb331) (o := .cells #[.bool t326, .string t327, .int .i64 t328, .int .i64 t329] 23 (0, 0)) (by (with_reducible repeat (first | refine blk_drewN ?_ _ | refine blk_drew ?_ | refine blk_alloc ?_ _)); refine blk_put (cs := #[.bool t326, .string t327, .int .i64 t328, .int .i64 0]) ?_ 3 _ rfl; (with_reducible repeat (first | refine blk_drewN ?_ _ | refine blk_drew ?_ | refine blk_alloc ?_ _)); refine blk_put (cs := #[.bool t326, .string t327, .int .i64 0, .int .i64 0]) ?_ 2 _ rfl; (with_reducible repeat (first | refine blk_drewN ?_ _ | refine blk_drew ?_ | refine blk_alloc ?_ _)); refine blk_put (cs := #[.bool t326, .string (⟨#[]⟩ : ByteArray), .int .i64 0, .int .i64 0]) ?_ 1 _ rfl; (with_reducible repeat (first | refine blk_drewN ?_ _ | refine blk_drew ?_ | refine blk_alloc ?_ _)); refine blk_put (cs := #[.bool false, .string (⟨#[]⟩ : ByteArray), .int .i64 0, .int .i64 0]) ?_ 0 _ rfl; (with_reducible repeat (first | refine blk_drewN ?_ _ | refine blk_drew ?_ | refine blk_alloc ?_ _)); exact BK331.out) hb); have n3_ := Aside0.mk (below_step (by repeat (first | (with_reducible first | exact HB.out | apply below_alloc | apply pw_below_drewN | apply below_drew1 | refine below_set ?_ GE314.out | refine below_set ?_ GE315.out | refine below_set ?_ GE331.out) | exact HB.out)) hb); clear BK314; clear BK315; clear BK331; clear HB; have BK314 := n0_; have BK315 := n1_; have BK331 := n2_; have HB := n3_; clear n0_ n1_ n2_ n3_; (try clear hb); (try clear hb2); (try clear hk); (try clear hi)) | ((with_reducible refine gate_dst (N := 14) rfl ?_); (try (refine gate_guard (by rfl) ?_; dsimp only)); refine box_event ?hg (N := 14) ?hd (cs := #[.bool false, .string (⟨#[]⟩ : ByteArray), .int .i64 0, .int .i64 0]) (t := 23) ?hr ?_; (case hd => rfl); (case hg => rfl); (case hr => first | (go_simp; done) | (go_simp; rfl)); intro gb338 hg w68 hbox hb; have n0_ := Aside0.mk (blk_below (g := gb314) (o := .cells #[.bool t316, .string t317, .int .i64 t318, .int .i64 t319] 23 (0, 0)) (by (with_reducible repeat (first | refine blk_drewN ?_ _ | refine blk_drew ?_ | refine blk_alloc ?_ _)); exact BK314.out) hb); have n1_ := Aside0.mk (blk_below (g := gb315) (o := .cells #[.int .u16 a2_0, .int .u8 a2_1, .int .i64 a2_2] 46 (0, 0)) (by (with_reducible repeat (first | refine blk_drewN ?_ _ | refine blk_drew ?_ | refine blk_alloc ?_ _)); exact BK315.out) hb); have n2_ := Aside0.mk (blk_below (g := gb331) (o := .cells #[.bool t326, .string t327, .int .i64 t328, .int .i64 t329] 23 (0, 0)) (by (with_reducible repeat (first | refine blk_drewN ?_ _ | refine blk_drew ?_ | refine blk_alloc ?_ _)); exact BK331.out) hb); have n3_ := Aside0.mk (below_step (by repeat (first | (with_reducible first | exact HB.out | apply below_alloc | apply pw_below_drewN | apply below_drew1 | refine below_set ?_ GE314.out | refine below_set ?_ GE315.out | refine below_set ?_ GE331.out) | exact HB.out)) hb); have n4_ := Aside0.mk (hbox); have n5_ := Aside0.mk ((by rw [hg]; exact (below_size (by repeat (first | (with_reducible first | exact HB.out | apply below_alloc | apply pw_below_drewN | apply below_drew1 | refine below_set ?_ GE314.out | refine below_set ?_ GE315.out | refine below_set ?_ GE331.out) | exact HB.out))) : w.heap.size ≤ gb338)); have n6_ := Aside0.mk ((by rw [hg]; exact (below_size (by repeat (first | (with_reducible first | exact HB.out | apply below_alloc | apply pw_below_drewN | apply below_drew1 | refine below_set ?_ GE314.out | refine below_set ?_ GE315.out | refine below_set ?_ GE331.out) | exact HB.out))) : w.heap.size ≤ gb338)); have n7_ := Aside0.mk ((by rw [hg]; exact Nat.ne_of_lt (blk_lt (g := gb314) (o := .cells #[.bool t316, .string t317, .int .i64 t318, .int .i64 t319] 23 (0, 0)) (by (with_reducible repeat (first | refine blk_drewN ?_ _ | refine blk_drew ?_ | refine blk_alloc ?_ _)); exact BK314.out)) : gb314 ≠ gb338)); have n8_ := Aside0.mk ((by rw [hg]; exact Nat.ne_of_gt (blk_lt (g := gb314) (o := .cells #[.bool t316, .string t317, .int .i64 t318, .int .i64 t319] 23 (0, 0)) (by (with_reducible repeat (first | refine blk_drewN ?_ _ | refine blk_drew ?_ | refine blk_alloc ?_ _)); exact BK314.out)) : gb338 ≠ gb314)); have n9_ := Aside0.mk ((by rw [hg]; exact Nat.ne_of_lt (blk_lt (g := gb315) (o := .cells #[.int .u16 a2_0, .int .u8 a2_1, .int .i64 a2_2] 46 (0, 0)) (by (with_reducible repeat (first | refine blk_drewN ?_ _ | refine blk_drew ?_ | refine blk_alloc ?_ _)); exact BK315.out)) : gb315 ≠ gb338)); have n10_ := Aside0.mk ((by rw [hg]; exact Nat.ne_of_gt (blk_lt (g := gb315) (o := .cells #[.int .u16 a2_0, .int .u8 a2_1, .int .i64 a2_2] 46 (0, 0)) (by (with_reducible repeat (first | refine blk_drewN ?_ _ | refine blk_drew ?_ | refine blk_alloc ?_ _)); exact BK315.out)) : gb338 ≠ gb315)); have n11_ := Aside0.mk ((by rw [hg]; exact Nat.ne_of_lt (blk_lt (g := gb331) (o := .cells #[.bool t326, .string t327, .int .i64 t328, .int .i64 t329] 23 (0, 0)) (by (with_reducible repeat (first | refine blk_drewN ?_ _ | refine blk_drew ?_ | refine blk_alloc ?_ _)); exact BK331.out)) : gb331 ≠ gb338)); have n12_ := Aside0.mk ((by rw [hg]; exact Nat.ne_of_gt (blk_lt (g := gb331) (o := .cells #[.bool t326, .string t327, .int .i64 t328, .int .i64 t329] 23 (0, 0)) (by (with_reducible repeat (first | refine blk_drewN ?_ _ | refine blk_drew ?_ | refine blk_alloc ?_ _)); exact BK331.out)) : gb338 ≠ gb331)); clear BK314; clear BK315; clear BK331; clear HB; have BK314 := n0_; have BK315 := n1_; have BK331 := n2_; have HB := n3_; have BK338 := n4_; have GW338 := n5_; have GE338 := n6_; have NB314_338 := n7_; have NB338_314 := n8_; have NB315_338 := n9_; have NB338_315 := n10_; have NB331_338 := n11_; have NB338_331 := n12_; clear n0_ n1_ n2_ n3_ n4_ n5_ n6_ n7_ n8_ n9_ n10_ n11_ n12_; clear hb hbox hg; have hnb69 := NB338_314.out; have hnc69 := NB314_338.out; have hnb70 := NB338_315.out; have hnc70 := NB315_338.out; have hnb71 := NB338_331.out; have hnc71 := NB331_338.out; have hcz72_0 : w68.cell? ⟨gb338, 0, none⟩ = some (.bool false) := (blk_cell BK338.out 0).trans rfl; have hcz72_1 : w68.cell? ⟨gb338, 1, none⟩ = some (.string (⟨#[]⟩ : ByteArray)) := (blk_cell BK338.out 1).trans rfl; have hcz72_2 : w68.cell? ⟨gb338, 2, none⟩ = some (.int .i64 0) := (blk_cell BK338.out 2).trans rfl; have hcz72_3 : w68.cell? ⟨gb338, 3, none⟩ = some (.int .i64 0) := (blk_cell BK338.out 3).trans rfl; have hfz72_0 := blk_frozen BK338.out 0; have hfz72_1 := blk_frozen BK338.out 1; have hfz72_2 := blk_frozen BK338.out 2; have hfz72_3 := blk_frozen BK338.out 3))
                        go_ret
                        exact ⟨by first | rfl | (simp [errW_none, errW_some] <;> rfl) | (simp only [← hji4, ← hji26]; first | rfl | (simp [errW_none, errW_some] <;> rfl)) | (simp [*, errW_none, errW_some] <;> rfl), by repeat (first | (with_reducible first | exact HB.out | apply below_alloc | apply pw_below_drewN | apply below_drew1 | refine below_set ?_ GE314.out | refine below_set ?_ GE315.out | refine below_set ?_ GE331.out | refine below_set ?_ GE338.out) | exact HB.out)⟩
                    · rw [if_neg c30] at H
                      exact absurd H (by simp)
                  · rw [if_neg c28] at H
                    exact absurd H (by simp)
                · rw [if_neg c27] at H
                  exact absurd H (by simp)
            · replace c24 := Bool.eq_false_iff.mpr c24
              subst c24
              have H1 : (withylaw09_CellCut.j1 kj8 (a0.extract 0 ((ji4) : Int).toNat) (strOfNums y320) t324 t316 t317 t318 t319 a2_0 a2_1 a2_2) = some r := by rw [if_neg (show ¬ (false = true) by decide)] at H; exact H
              clear H
              have H := H1
              clear H1
              have H' := Aside0.mk H
              clear H
              go_wp2
              go_meet
              case rel => exact ⟨_, H', ⟨by have := HJ8.out; first | omega | exact Nat.le_refl _⟩, ⟨by (with_reducible repeat (first | refine blk_drewN ?_ _ | refine blk_drew ?_ | refine blk_alloc ?_ _)); exact BK314.out⟩, ⟨by (with_reducible repeat (first | refine blk_drewN ?_ _ | refine blk_drew ?_ | refine blk_alloc ?_ _)); exact BK315.out⟩, ⟨by repeat (first | (with_reducible first | exact HB.out | apply below_alloc | apply pw_below_drewN | apply below_drew1 | refine below_set ?_ GE314.out | refine below_set ?_ GE315.out) | exact HB.out)⟩⟩
          case rest =>
            clear HC23
            try clear c1
            try clear hcv1
            try clear c2
            try clear p2
            try clear c3
            try clear c4
            try clear c5
            try clear c5b0
            try clear c5b1
            try clear c6
            try clear c6b0
            try clear c6b1
            try clear p6
            try clear c7
            try clear c9
            try clear c10
            try clear c12
            try clear c15
            try clear hcv19
            try clear c22
            try clear c22b0
            try clear c22b1
            try clear c24
            try clear c25
            try clear c25b0
            try clear c25b1
            try clear c27
            try clear c27b0
            try clear c27b1
            try clear c28
            try clear c28b0
            try clear c28b1
            try clear c30
            try clear c30b0
            try clear c30b1
            try clear c30b2
            try clear c32
            try clear c32b0
            try clear c32b1
            try clear c33
            try clear c33b0
            try clear c33b1
            try clear c34
            try clear c38
            try clear c39
            try clear c43
            try clear c44
            try clear c45
            try clear c47
            try clear c51
            try clear c52
            try clear c56
            try clear c57
            try clear c58
            try clear c60
            try clear c64
            try clear p64
            try clear c65
            try clear c69
            try clear c70
            try clear c71
            try clear hcz13_0
            try clear hcz13_1
            try clear hcz13_2
            try clear hcz13_3
            try clear hcz15_0
            try clear hcz15_1
            try clear hcz15_2
            try clear hcz15_3
            try clear hcz16_0
            try clear hcz16_1
            try clear hcz16_2
            try clear hcz20_0
            try clear hcz20_1
            try clear hcz20_2
            try clear hcz20_3
            try clear hcz35_0
            try clear hcz35_1
            try clear hcz35_2
            try clear hcz40_0
            try clear hcz40_1
            try clear hcz40_2
            try clear hcz40_3
            try clear hcz46_0
            try clear hcz46_1
            try clear hcz46_2
            try clear hcz46_3
            try clear hcz48_0
            try clear hcz48_1
            try clear hcz48_2
            try clear hcz53_0
            try clear hcz53_1
            try clear hcz53_2
            try clear hcz53_3
            try clear hcz59_0
            try clear hcz59_1
            try clear hcz59_2
            try clear hcz59_3
            try clear hcz61_0
            try clear hcz61_1
            try clear hcz61_2
            try clear hcz66_0
            try clear hcz66_1
            try clear hcz66_2
            try clear hcz66_3
            try clear hcz72_0
            try clear hcz72_1
            try clear hcz72_2
            try clear hcz72_3
            try clear hfz13_0
            try clear hfz13_1
            try clear hfz13_2
            try clear hfz13_3
            try clear hfz15_0
            try clear hfz15_1
            try clear hfz15_2
            try clear hfz15_3
            try clear hfz16_0
            try clear hfz16_1
            try clear hfz16_2
            try clear hfz20_0
            try clear hfz20_1
            try clear hfz20_2
            try clear hfz20_3
            try clear hfz35_0
            try clear hfz35_1
            try clear hfz35_2
            try clear hfz40_0
            try clear hfz40_1
            try clear hfz40_2
            try clear hfz40_3
            try clear hfz46_0
            try clear hfz46_1
            try clear hfz46_2
            try clear hfz46_3
            try clear hfz48_0
            try clear hfz48_1
            try clear hfz48_2
            try clear hfz53_0
            try clear hfz53_1
            try clear hfz53_2
            try clear hfz53_3
            try clear hfz59_0
            try clear hfz59_1
            try clear hfz59_2
            try clear hfz59_3
            try clear hfz61_0
            try clear hfz61_1
            try clear hfz61_2
            try clear hfz66_0
            try clear hfz66_1
            try clear hfz66_2
            try clear hfz66_3
            try clear hfz72_0
            try clear hfz72_1
            try clear hfz72_2
            try clear hfz72_3
            try clear p2
            obtain ⟨kq, HA, HJ22, BK314, BK315, HB⟩ := hcut
            cases kq with
            | zero => exact absurd HA.out (by simp [withylaw09_CellCut.j1])
            | succ kj22 =>
              have H := HA.out
              clear HA
              simp only [withylaw09_CellCut.j1] at H
              replace H := Option.bind_eq_some_iff.mp H
              obtain ⟨⟨t339, t340⟩, A730, H⟩ := H
              replace H : (if t340 = 0 then (withylaw09_CellCut.j2 kj22 (strOfNums y320) t324 t339 t340 (decide ((t339.size : Int) > 0)) t316 t317 t318 t319 a2_0 a2_1 a2_2) else (withylaw09_CellCut.j2 kj22 (strOfNums y320) t324 t339 t340 false t316 t317 t318 t319 a2_0 a2_1 a2_2)) = some r := H
              have A73 := Aside0.mk A730
              clear A730
              have HC74 := Aside0.mk H
              clear H
              have hnb75 := NB315_314.out
              have hnc75 := NB314_315.out
              have hcz76_0 : wc.cell? ⟨gb315, 0, none⟩ = some (.int .u16 a2_0) := (blk_cell BK315.out 0).trans rfl
              have hcz76_1 : wc.cell? ⟨gb315, 1, none⟩ = some (.int .u8 a2_1) := (blk_cell BK315.out 1).trans rfl
              have hcz76_2 : wc.cell? ⟨gb315, 2, none⟩ = some (.int .i64 a2_2) := (blk_cell BK315.out 2).trans rfl
              have hfz76_0 := blk_frozen BK315.out 0
              have hfz76_1 := blk_frozen BK315.out 1
              have hfz76_2 := blk_frozen BK315.out 2
              go_upto_region 11 with (first | ((with_reducible refine gate_callee (f := 13) rfl ?_); refine goesL_ (some 79) rfl rfl Try.func13 (by kernel_rfl) rfl #[.int .i64 a2_2, .string (a0.extract 0 ((ji4) : Int).toNat)] rfl (by (try simp only [List.map_toArray, List.map_cons, List.map_nil]); first | done | (simp only [hji4]; rfl) | rfl | (simp only [List.length_drop, List.length_take]; rfl)) ?_; (with_reducible refine (cell_PutKid.calls kj22 a2_2 (a0.extract 0 ((ji4) : Int).toNat) t339 t340 _ A73.out).mono ?_); rintro e w77 ⟨rfl, hb⟩; refine ⟨_, rfl, ?_⟩; have n0_ := Aside0.mk (blk_below (g := gb314) (o := .cells #[.bool t316, .string t317, .int .i64 t318, .int .i64 t319] 23 (0, 0)) (by (with_reducible repeat (first | refine blk_drewN ?_ _ | refine blk_drew ?_ | refine blk_alloc ?_ _)); exact BK314.out) hb); have n1_ := Aside0.mk (blk_below (g := gb315) (o := .cells #[.int .u16 a2_0, .int .u8 a2_1, .int .i64 a2_2] 46 (0, 0)) (by (with_reducible repeat (first | refine blk_drewN ?_ _ | refine blk_drew ?_ | refine blk_alloc ?_ _)); exact BK315.out) hb); have n2_ := Aside0.mk (below_step (by repeat (first | (with_reducible first | exact HB.out | apply below_alloc | apply pw_below_drewN | apply below_drew1 | refine below_set ?_ GE314.out | refine below_set ?_ GE315.out) | exact HB.out)) hb); clear BK314; clear BK315; clear HB; have BK314 := n0_; have BK315 := n1_; have HB := n2_; clear n0_ n1_ n2_; (try clear hb); (try clear hb2); (try clear hk); (try clear hi)))
              (try simp only [Act.put, List.setIfInBounds_toArray, List.set_cons_zero, List.set_cons_succ])
              go_cut [88] (fun v88 wc => ∃ (kq : Nat) (x88_73 : Bool), v88 = .bool x88_73 ∧ Aside0 (withylaw09_CellCut.j2 kq (strOfNums y320) t324 t339 t340 x88_73 t316 t317 t318 t319 a2_0 a2_1 a2_2 = some r) ∧ Aside0 (kq ≤ kj22) ∧ Aside0 (wc.heap[gb314]? = some (.cells #[.bool t316, .string t317, .int .i64 t318, .int .i64 t319] 23 (0, 0))) ∧ Aside0 (wc.heap[gb315]? = some (.cells #[.int .u16 a2_0, .int .u8 a2_1, .int .i64 a2_2] 46 (0, 0))) ∧ Aside0 (Below w.heap.size w wc))
              case first =>
                have H := HC74.out
                clear HC74
                by_cases c78 : t340 = 0
                · rw [if_pos c78] at H
                  have c78b0 : (t340 == 0) = true := beq_iff_eq.mpr c78
                  have c78b1 : (t340 != 0) = false := bne_eq_false_iff_eq.mpr c78
                  clear c78
                  (first | rw [c78b0] | (simp only [i64_w, i32_w]; rw [c78b0]) | skip)
                  have H' := Aside0.mk H
                  clear H
                  go_wp2
                  go_meet
                  case rel => exact ⟨_, (decide ((t339.size : Int) > 0)), (by first | rfl | (simp; done) | (simp [*]; done)), H', ⟨by have := HJ8.out; have := HJ22.out; first | omega | exact Nat.le_refl _⟩, ⟨by (with_reducible repeat (first | refine blk_drewN ?_ _ | refine blk_drew ?_ | refine blk_alloc ?_ _)); exact BK314.out⟩, ⟨by (with_reducible repeat (first | refine blk_drewN ?_ _ | refine blk_drew ?_ | refine blk_alloc ?_ _)); exact BK315.out⟩, ⟨by repeat (first | (with_reducible first | exact HB.out | apply below_alloc | apply pw_below_drewN | apply below_drew1 | refine below_set ?_ GE314.out | refine below_set ?_ GE315.out) | exact HB.out)⟩⟩
                · rw [if_neg c78] at H
                  have c78b0 : (t340 == 0) = false := beq_eq_false_iff_ne.mpr c78
                  have c78b1 : (t340 != 0) = true := bne_iff_ne.mpr c78
                  (first | rw [c78b0] | (simp only [i64_w, i32_w]; rw [c78b0]) | skip)
                  have H' := Aside0.mk H
                  clear H
                  go_wp2
                  go_meet
                  case rel => exact ⟨_, (false), (by first | rfl | (simp; done) | (simp [*]; done)), H', ⟨by have := HJ8.out; have := HJ22.out; first | omega | exact Nat.le_refl _⟩, ⟨by (with_reducible repeat (first | refine blk_drewN ?_ _ | refine blk_drew ?_ | refine blk_alloc ?_ _)); exact BK314.out⟩, ⟨by (with_reducible repeat (first | refine blk_drewN ?_ _ | refine blk_drew ?_ | refine blk_alloc ?_ _)); exact BK315.out⟩, ⟨by repeat (first | (with_reducible first | exact HB.out | apply below_alloc | apply pw_below_drewN | apply below_drew1 | refine below_set ?_ GE314.out | refine below_set ?_ GE315.out) | exact HB.out)⟩⟩
              case rest =>
                clear HC74
                try clear c1
                try clear hcv1
                try clear c2
                try clear p2
                try clear c3
                try clear c4
                try clear c5
                try clear c5b0
                try clear c5b1
                try clear c6
                try clear c6b0
                try clear c6b1
                try clear p6
                try clear c7
                try clear c9
                try clear c10
                try clear c12
                try clear c13
                try clear c15
                try clear hcv19
                try clear c22
                try clear c22b0
                try clear c22b1
                try clear c24
                try clear c25
                try clear c25b0
                try clear c25b1
                try clear c27
                try clear c27b0
                try clear c27b1
                try clear c28
                try clear c28b0
                try clear c28b1
                try clear c30
                try clear c30b0
                try clear c30b1
                try clear c30b2
                try clear c32
                try clear c32b0
                try clear c32b1
                try clear c33
                try clear c33b0
                try clear c33b1
                try clear c34
                try clear c38
                try clear c39
                try clear c43
                try clear c44
                try clear c45
                try clear c47
                try clear c51
                try clear c52
                try clear c56
                try clear c57
                try clear c58
                try clear c60
                try clear c64
                try clear p64
                try clear c65
                try clear c69
                try clear c70
                try clear c71
                try clear c75
                try clear c78
                try clear c78b0
                try clear c78b1
                try clear hcz13_0
                try clear hcz13_1
                try clear hcz13_2
                try clear hcz13_3
                try clear hcz15_0
                try clear hcz15_1
                try clear hcz15_2
                try clear hcz15_3
                try clear hcz16_0
                try clear hcz16_1
                try clear hcz16_2
                try clear hcz20_0
                try clear hcz20_1
                try clear hcz20_2
                try clear hcz20_3
                try clear hcz35_0
                try clear hcz35_1
                try clear hcz35_2
                try clear hcz40_0
                try clear hcz40_1
                try clear hcz40_2
                try clear hcz40_3
                try clear hcz46_0
                try clear hcz46_1
                try clear hcz46_2
                try clear hcz46_3
                try clear hcz48_0
                try clear hcz48_1
                try clear hcz48_2
                try clear hcz53_0
                try clear hcz53_1
                try clear hcz53_2
                try clear hcz53_3
                try clear hcz59_0
                try clear hcz59_1
                try clear hcz59_2
                try clear hcz59_3
                try clear hcz61_0
                try clear hcz61_1
                try clear hcz61_2
                try clear hcz66_0
                try clear hcz66_1
                try clear hcz66_2
                try clear hcz66_3
                try clear hcz72_0
                try clear hcz72_1
                try clear hcz72_2
                try clear hcz72_3
                try clear hcz76_0
                try clear hcz76_1
                try clear hcz76_2
                try clear hfz13_0
                try clear hfz13_1
                try clear hfz13_2
                try clear hfz13_3
                try clear hfz15_0
                try clear hfz15_1
                try clear hfz15_2
                try clear hfz15_3
                try clear hfz16_0
                try clear hfz16_1
                try clear hfz16_2
                try clear hfz20_0
                try clear hfz20_1
                try clear hfz20_2
                try clear hfz20_3
                try clear hfz35_0
                try clear hfz35_1
                try clear hfz35_2
                try clear hfz40_0
                try clear hfz40_1
                try clear hfz40_2
                try clear hfz40_3
                try clear hfz46_0
                try clear hfz46_1
                try clear hfz46_2
                try clear hfz46_3
                try clear hfz48_0
                try clear hfz48_1
                try clear hfz48_2
                try clear hfz53_0
                try clear hfz53_1
                try clear hfz53_2
                try clear hfz53_3
                try clear hfz59_0
                try clear hfz59_1
                try clear hfz59_2
                try clear hfz59_3
                try clear hfz61_0
                try clear hfz61_1
                try clear hfz61_2
                try clear hfz66_0
                try clear hfz66_1
                try clear hfz66_2
                try clear hfz66_3
                try clear hfz72_0
                try clear hfz72_1
                try clear hfz72_2
                try clear hfz72_3
                try clear hfz76_0
                try clear hfz76_1
                try clear hfz76_2
                try clear p2
                try clear p6
                try clear p64
                obtain ⟨kq, x88_73, rfl, HA, HJ73, BK314, BK315, HB⟩ := hcut
                cases kq with
                | zero => exact absurd HA.out (by simp [withylaw09_CellCut.j2])
                | succ kj73 =>
                  have H := HA.out
                  clear HA
                  simp only [withylaw09_CellCut.j2] at H
                  by_cases c79 : x88_73 = true
                  · subst c79
                    have H1 : (if (t339.size : Int) = 0 then (none) else (if 0 ≤ (Int.tmod (wrap64 (a2_0)) (t339.size : Int)) then (if (Int.tmod (wrap64 (a2_0)) (t339.size : Int)) ≤ (t339.size : Int) then ((cell_GetKid.f (t339.extract 0 ((Int.tmod (wrap64 (a2_0)) (t339.size : Int)) : Int).toNat)).bind fun bt341 => (if t339.size + (strOfNums y320).size ≤ 9223372036854775807 then ((cell_GetKid.f (t339 ++ (strOfNums y320))).bind fun bt344 => (if bt341.2.2 = 3 then (withylaw09_CellCut.j3 kj73 t324 t340 (bt344.2.2 != 3) t316 t317 t318 t319 a2_0 a2_1 a2_2) else (withylaw09_CellCut.j3 kj73 t324 t340 true t316 t317 t318 t319 a2_0 a2_1 a2_2))) else (none))) else (none)) else (none))) = some r := by rw [if_pos rfl] at H; exact H
                    clear H
                    have H := H1
                    clear H1
                    by_cases c80 : (t339.size : Int) = 0
                    · rw [if_pos c80] at H
                      exact absurd H (by simp)
                    · rw [if_neg c80] at H
                      have c80b0 : ((t339.size : Int) == 0) = false := beq_eq_false_iff_ne.mpr c80
                      have c80b1 : ((t339.size : Int) != 0) = true := bne_iff_ne.mpr c80
                      obtain ⟨ji81, hji81⟩ : ∃ j_ : Int, (Int.tmod (wrap64 (a2_0)) (t339.size : Int)) = j_ := ⟨_, rfl⟩
                      replace H : (if 0 ≤ (ji81) then (if (ji81) ≤ (t339.size : Int) then ((cell_GetKid.f (t339.extract 0 ((ji81) : Int).toNat)).bind fun bt341 => (if t339.size + (strOfNums y320).size ≤ 9223372036854775807 then ((cell_GetKid.f (t339 ++ (strOfNums y320))).bind fun bt344 => (if bt341.2.2 = 3 then (withylaw09_CellCut.j3 kj73 t324 t340 (bt344.2.2 != 3) t316 t317 t318 t319 a2_0 a2_1 a2_2) else (withylaw09_CellCut.j3 kj73 t324 t340 true t316 t317 t318 t319 a2_0 a2_1 a2_2))) else (none))) else (none)) else (none)) = some r := by first | (rw [hji81] at H; exact H) | (simp only [hji81] at H ⊢; exact H)
                      by_cases c82 : 0 ≤ (ji81)
                      · rw [if_pos c82] at H
                        have c82b0 := eq_true c82
                        have c82b1 : decide (0 ≤ (ji81)) = true := decide_eq_true c82
                        clear c82
                        by_cases c83 : (ji81) ≤ (t339.size : Int)
                        · rw [if_pos c83] at H
                          have c83b0 := eq_true c83
                          have c83b1 : decide ((ji81) ≤ (t339.size : Int)) = true := decide_eq_true c83
                          clear c83
                          replace H := Option.bind_eq_some_iff.mp H
                          obtain ⟨⟨t341, t342, t343⟩, A840, H⟩ := H
                          replace H : (if t339.size + (strOfNums y320).size ≤ 9223372036854775807 then ((cell_GetKid.f (t339 ++ (strOfNums y320))).bind fun bt344 => (if t343 = 3 then (withylaw09_CellCut.j3 kj73 t324 t340 (bt344.2.2 != 3) t316 t317 t318 t319 a2_0 a2_1 a2_2) else (withylaw09_CellCut.j3 kj73 t324 t340 true t316 t317 t318 t319 a2_0 a2_1 a2_2))) else (none)) = some r := H
                          have A84 := Aside0.mk A840
                          clear A840
                          by_cases c85 : t339.size + (strOfNums y320).size ≤ 9223372036854775807
                          · rw [if_pos c85] at H
                            have c85b0 := eq_true c85
                            have c85b1 : decide (t339.size + (strOfNums y320).size ≤ 9223372036854775807) = true := decide_eq_true c85
                            try have c85b2 : (9223372036854775807 < t339.size + (strOfNums y320).size) = False := eq_false (Nat.not_lt.2 c85)
                            replace H := Option.bind_eq_some_iff.mp H
                            obtain ⟨⟨t344, t345, t346⟩, A860, H⟩ := H
                            replace H : (if t343 = 3 then (withylaw09_CellCut.j3 kj73 t324 t340 (t346 != 3) t316 t317 t318 t319 a2_0 a2_1 a2_2) else (withylaw09_CellCut.j3 kj73 t324 t340 true t316 t317 t318 t319 a2_0 a2_1 a2_2)) = some r := H
                            have A86 := Aside0.mk A860
                            clear A860
                            have HC87 := Aside0.mk H
                            clear H
                            have hnb88 := NB315_314.out
                            have hnc88 := NB314_315.out
                            have hcz89_0 : wc.cell? ⟨gb315, 0, none⟩ = some (.int .u16 a2_0) := (blk_cell BK315.out 0).trans rfl
                            have hcz89_1 : wc.cell? ⟨gb315, 1, none⟩ = some (.int .u8 a2_1) := (blk_cell BK315.out 1).trans rfl
                            have hcz89_2 : wc.cell? ⟨gb315, 2, none⟩ = some (.int .i64 a2_2) := (blk_cell BK315.out 2).trans rfl
                            have hfz89_0 := blk_frozen BK315.out 0
                            have hfz89_1 := blk_frozen BK315.out 1
                            have hfz89_2 := blk_frozen BK315.out 2
                            go_upto_region 14 with (first | ((with_reducible refine gate_callee (f := 17) rfl ?_); refine goesL_ (some 98) rfl rfl Try.func17 (by kernel_rfl) rfl #[.string (t339.extract 0 ((ji81) : Int).toNat)] rfl (by (try simp only [List.map_toArray, List.map_cons, List.map_nil]); first | done | (simp only [hji81]; rfl) | rfl | (simp only [List.length_drop, List.length_take]; rfl)) ?_; (with_reducible refine (cell_GetKid.calls (t339.extract 0 ((ji81) : Int).toNat) t341 t342 t343 _ A84.out).mono ?_); rintro e w90 ⟨rfl, hb⟩; refine ⟨_, rfl, ?_⟩; have n0_ := Aside0.mk (blk_below (g := gb314) (o := .cells #[.bool t316, .string t317, .int .i64 t318, .int .i64 t319] 23 (0, 0)) (by (with_reducible repeat (first | refine blk_drewN ?_ _ | refine blk_drew ?_ | refine blk_alloc ?_ _)); exact BK314.out) hb); have n1_ := Aside0.mk (blk_below (g := gb315) (o := .cells #[.int .u16 a2_0, .int .u8 a2_1, .int .i64 a2_2] 46 (0, 0)) (by (with_reducible repeat (first | refine blk_drewN ?_ _ | refine blk_drew ?_ | refine blk_alloc ?_ _)); exact BK315.out) hb); have n2_ := Aside0.mk (below_step (by repeat (first | (with_reducible first | exact HB.out | apply below_alloc | apply pw_below_drewN | apply below_drew1 | refine below_set ?_ GE314.out | refine below_set ?_ GE315.out) | exact HB.out)) hb); clear BK314; clear BK315; clear HB; have BK314 := n0_; have BK315 := n1_; have HB := n2_; clear n0_ n1_ n2_; (try clear hb); (try clear hb2); (try clear hk); (try clear hi)) | ((with_reducible refine gate_callee (f := 17) rfl ?_); refine goesL_ (some 106) rfl rfl Try.func17 (by kernel_rfl) rfl #[.string (t339 ++ (strOfNums y320))] rfl (by (try simp only [List.map_toArray, List.map_cons, List.map_nil]); first | done | rfl | (simp only [List.length_drop, List.length_take]; rfl)) ?_; (with_reducible refine (cell_GetKid.calls (t339 ++ (strOfNums y320)) t344 t345 t346 _ A86.out).mono ?_); rintro e w91 ⟨rfl, hb⟩; refine ⟨_, rfl, ?_⟩; have n0_ := Aside0.mk (blk_below (g := gb314) (o := .cells #[.bool t316, .string t317, .int .i64 t318, .int .i64 t319] 23 (0, 0)) (by (with_reducible repeat (first | refine blk_drewN ?_ _ | refine blk_drew ?_ | refine blk_alloc ?_ _)); exact BK314.out) hb); have n1_ := Aside0.mk (blk_below (g := gb315) (o := .cells #[.int .u16 a2_0, .int .u8 a2_1, .int .i64 a2_2] 46 (0, 0)) (by (with_reducible repeat (first | refine blk_drewN ?_ _ | refine blk_drew ?_ | refine blk_alloc ?_ _)); exact BK315.out) hb); have n2_ := Aside0.mk (below_step (by repeat (first | (with_reducible first | exact HB.out | apply below_alloc | apply pw_below_drewN | apply below_drew1 | refine below_set ?_ GE314.out | refine below_set ?_ GE315.out) | exact HB.out)) hb); clear BK314; clear BK315; clear HB; have BK314 := n0_; have BK315 := n1_; have HB := n2_; clear n0_ n1_ n2_; (try clear hb); (try clear hb2); (try clear hk); (try clear hi)))
                            (try simp only [Act.put, List.setIfInBounds_toArray, List.set_cons_zero, List.set_cons_succ])
                            go_cut [115] (fun v115 wc => ∃ (kq : Nat) (x115_86 : Bool), v115 = .bool x115_86 ∧ Aside0 (withylaw09_CellCut.j3 kq t324 t340 x115_86 t316 t317 t318 t319 a2_0 a2_1 a2_2 = some r) ∧ Aside0 (kq ≤ kj73) ∧ Aside0 (wc.heap[gb314]? = some (.cells #[.bool t316, .string t317, .int .i64 t318, .int .i64 t319] 23 (0, 0))) ∧ Aside0 (wc.heap[gb315]? = some (.cells #[.int .u16 a2_0, .int .u8 a2_1, .int .i64 a2_2] 46 (0, 0))) ∧ Aside0 (Below w.heap.size w wc))
                            case first =>
                              have H := HC87.out
                              clear HC87
                              by_cases c92 : t343 = 3
                              · rw [if_pos c92] at H
                                have c92b0 : (t343 == 3) = true := beq_iff_eq.mpr c92
                                have c92b1 : (t343 != 3) = false := bne_eq_false_iff_eq.mpr c92
                                clear c92
                                (first | rw [c92b0] | (simp only [i64_w, i32_w]; rw [c92b0]) | skip)
                                have H' := Aside0.mk H
                                clear H
                                go_wp2
                                go_meet
                                case rel => exact ⟨_, ((t346 != 3)), (by first | rfl | (simp; done) | (simp [*]; done)), H', ⟨by have := HJ8.out; have := HJ22.out; have := HJ73.out; first | omega | exact Nat.le_refl _⟩, ⟨by (with_reducible repeat (first | refine blk_drewN ?_ _ | refine blk_drew ?_ | refine blk_alloc ?_ _)); exact BK314.out⟩, ⟨by (with_reducible repeat (first | refine blk_drewN ?_ _ | refine blk_drew ?_ | refine blk_alloc ?_ _)); exact BK315.out⟩, ⟨by repeat (first | (with_reducible first | exact HB.out | apply below_alloc | apply pw_below_drewN | apply below_drew1 | refine below_set ?_ GE314.out | refine below_set ?_ GE315.out) | exact HB.out)⟩⟩
                              · rw [if_neg c92] at H
                                have c92b0 : (t343 == 3) = false := beq_eq_false_iff_ne.mpr c92
                                have c92b1 : (t343 != 3) = true := bne_iff_ne.mpr c92
                                (first | rw [c92b0] | (simp only [i64_w, i32_w]; rw [c92b0]) | skip)
                                have H' := Aside0.mk H
                                clear H
                                go_wp2
                                go_meet
                                case rel => exact ⟨_, (true), (by first | rfl | (simp; done) | (simp [*]; done)), H', ⟨by have := HJ8.out; have := HJ22.out; have := HJ73.out; first | omega | exact Nat.le_refl _⟩, ⟨by (with_reducible repeat (first | refine blk_drewN ?_ _ | refine blk_drew ?_ | refine blk_alloc ?_ _)); exact BK314.out⟩, ⟨by (with_reducible repeat (first | refine blk_drewN ?_ _ | refine blk_drew ?_ | refine blk_alloc ?_ _)); exact BK315.out⟩, ⟨by repeat (first | (with_reducible first | exact HB.out | apply below_alloc | apply pw_below_drewN | apply below_drew1 | refine below_set ?_ GE314.out | refine below_set ?_ GE315.out) | exact HB.out)⟩⟩
                            case rest =>
                              clear HC87
                              try clear c1
                              try clear hcv1
                              try clear c2
                              try clear p2
                              try clear c3
                              try clear c4
                              try clear c5
                              try clear c5b0
                              try clear c5b1
                              try clear c6
                              try clear c6b0
                              try clear c6b1
                              try clear p6
                              try clear c7
                              try clear c8
                              try clear c9
                              try clear c10
                              try clear c12
                              try clear c13
                              try clear c15
                              try clear c17
                              try clear hcv19
                              try clear c22
                              try clear c22b0
                              try clear c22b1
                              try clear c24
                              try clear c25
                              try clear c25b0
                              try clear c25b1
                              try clear c27
                              try clear c27b0
                              try clear c27b1
                              try clear c28
                              try clear c28b0
                              try clear c28b1
                              try clear c30
                              try clear c30b0
                              try clear c30b1
                              try clear c30b2
                              try clear c32
                              try clear c32b0
                              try clear c32b1
                              try clear c33
                              try clear c33b0
                              try clear c33b1
                              try clear c34
                              try clear c38
                              try clear c39
                              try clear c43
                              try clear c44
                              try clear c45
                              try clear c47
                              try clear c51
                              try clear c52
                              try clear c56
                              try clear c57
                              try clear c58
                              try clear c60
                              try clear c64
                              try clear p64
                              try clear c65
                              try clear c69
                              try clear c70
                              try clear c71
                              try clear c75
                              try clear c78
                              try clear c78b0
                              try clear c78b1
                              try clear c79
                              try clear c80
                              try clear c80b0
                              try clear c80b1
                              try clear c82
                              try clear c82b0
                              try clear c82b1
                              try clear c83
                              try clear c83b0
                              try clear c83b1
                              try clear c85
                              try clear c85b0
                              try clear c85b1
                              try clear c85b2
                              try clear c88
                              try clear c92
                              try clear c92b0
                              try clear c92b1
                              try clear hcz13_0
                              try clear hcz13_1
                              try clear hcz13_2
                              try clear hcz13_3
                              try clear hcz15_0
                              try clear hcz15_1
                              try clear hcz15_2
                              try clear hcz15_3
                              try clear hcz16_0
                              try clear hcz16_1
                              try clear hcz16_2
                              try clear hcz20_0
                              try clear hcz20_1
                              try clear hcz20_2
                              try clear hcz20_3
                              try clear hcz35_0
                              try clear hcz35_1
                              try clear hcz35_2
                              try clear hcz40_0
                              try clear hcz40_1
                              try clear hcz40_2
                              try clear hcz40_3
                              try clear hcz46_0
                              try clear hcz46_1
                              try clear hcz46_2
                              try clear hcz46_3
                              try clear hcz48_0
                              try clear hcz48_1
                              try clear hcz48_2
                              try clear hcz53_0
                              try clear hcz53_1
                              try clear hcz53_2
                              try clear hcz53_3
                              try clear hcz59_0
                              try clear hcz59_1
                              try clear hcz59_2
                              try clear hcz59_3
                              try clear hcz61_0
                              try clear hcz61_1
                              try clear hcz61_2
                              try clear hcz66_0
                              try clear hcz66_1
                              try clear hcz66_2
                              try clear hcz66_3
                              try clear hcz72_0
                              try clear hcz72_1
                              try clear hcz72_2
                              try clear hcz72_3
                              try clear hcz76_0
                              try clear hcz76_1
                              try clear hcz76_2
                              try clear hcz89_0
                              try clear hcz89_1
                              try clear hcz89_2
                              try clear hfz13_0
                              try clear hfz13_1
                              try clear hfz13_2
                              try clear hfz13_3
                              try clear hfz15_0
                              try clear hfz15_1
                              try clear hfz15_2
                              try clear hfz15_3
                              try clear hfz16_0
                              try clear hfz16_1
                              try clear hfz16_2
                              try clear hfz20_0
                              try clear hfz20_1
                              try clear hfz20_2
                              try clear hfz20_3
                              try clear hfz35_0
                              try clear hfz35_1
                              try clear hfz35_2
                              try clear hfz40_0
                              try clear hfz40_1
                              try clear hfz40_2
                              try clear hfz40_3
                              try clear hfz46_0
                              try clear hfz46_1
                              try clear hfz46_2
                              try clear hfz46_3
                              try clear hfz48_0
                              try clear hfz48_1
                              try clear hfz48_2
                              try clear hfz53_0
                              try clear hfz53_1
                              try clear hfz53_2
                              try clear hfz53_3
                              try clear hfz59_0
                              try clear hfz59_1
                              try clear hfz59_2
                              try clear hfz59_3
                              try clear hfz61_0
                              try clear hfz61_1
                              try clear hfz61_2
                              try clear hfz66_0
                              try clear hfz66_1
                              try clear hfz66_2
                              try clear hfz66_3
                              try clear hfz72_0
                              try clear hfz72_1
                              try clear hfz72_2
                              try clear hfz72_3
                              try clear hfz76_0
                              try clear hfz76_1
                              try clear hfz76_2
                              try clear hfz89_0
                              try clear hfz89_1
                              try clear hfz89_2
                              try clear p2
                              try clear p6
                              try clear p64
                              obtain ⟨kq, x115_86, rfl, HA, HJ86, BK314, BK315, HB⟩ := hcut
                              cases kq with
                              | zero => exact absurd HA.out (by simp [withylaw09_CellCut.j3])
                              | succ kj86 =>
                                have H := HA.out
                                clear HA
                                simp only [withylaw09_CellCut.j3] at H
                                by_cases c93 : x115_86 = true
                                · subst c93
                                  have H1 : (some false) = some r := by rw [if_pos rfl] at H; exact H
                                  clear H
                                  have H := H1
                                  clear H1
                                  obtain rfl := Option.some.inj H
                                  go_wp2
                                  go_ret
                                  exact ⟨by first | rfl | (simp [errW_none, errW_some] <;> rfl) | (simp only [← hji4, ← hji81]; first | rfl | (simp [errW_none, errW_some] <;> rfl)) | (simp [*, errW_none, errW_some] <;> rfl), by repeat (first | (with_reducible first | exact HB.out | apply below_alloc | apply pw_below_drewN | apply below_drew1 | refine below_set ?_ GE314.out | refine below_set ?_ GE315.out) | exact HB.out)⟩
                                · replace c93 := Bool.eq_false_iff.mpr c93
                                  subst c93
                                  have H1 : ((cell_Right.f t316 t317 t318 t319).bind fun t347 => (if ((t324 == 0) == t347) = true then (if a2_2 ≥ 1 then (if ((t340 == 0) == (decide (a2_2 ≤ 4095))) = true then ((withylaw09_fixed.f).bind fun t348 => (some t348)) else (some false)) else (if ((t340 == 0) == false) = true then ((withylaw09_fixed.f).bind fun t349 => (some t349)) else (some false))) else (some false))) = some r := by rw [if_neg (show ¬ (false = true) by decide)] at H; exact H
                                  clear H
                                  have H := H1
                                  clear H1
                                  replace H := Option.bind_eq_some_iff.mp H
                                  obtain ⟨t347, A940, H⟩ := H
                                  replace H : (if ((t324 == 0) == t347) = true then (if a2_2 ≥ 1 then (if ((t340 == 0) == (decide (a2_2 ≤ 4095))) = true then ((withylaw09_fixed.f).bind fun t348 => (some t348)) else (some false)) else (if ((t340 == 0) == false) = true then ((withylaw09_fixed.f).bind fun t349 => (some t349)) else (some false))) else (some false)) = some r := H
                                  have A94 := Aside0.mk A940
                                  clear A940
                                  by_cases c95 : ((t324 == 0) == t347) = true
                                  · rw [if_pos c95] at H
                                    have c95b0 : ((t324 == 0) == t347) = true := c95
                                    (try (have c95b1 : decide ((t324 == 0) = t347) = true := by simpa using c95))
                                    (try (have c95b2 : ((t324 == 0) == t347) = true := by simpa using c95))
                                    clear c95
                                    by_cases c96 : a2_2 ≥ 1
                                    · rw [if_pos c96] at H
                                      have c96b0 : decide (1 ≤ a2_2) = true := decide_eq_true c96
                                      clear c96
                                      by_cases c97 : ((t340 == 0) == (decide (a2_2 ≤ 4095))) = true
                                      · rw [if_pos c97] at H
                                        have c97b0 : ((t340 == 0) == (decide (a2_2 ≤ 4095))) = true := c97
                                        (try (have c97b1 : decide ((t340 == 0) = (decide (a2_2 ≤ 4095))) = true := by simpa using c97))
                                        (try (have c97b2 : ((t340 == 0) == (decide (a2_2 ≤ 4095))) = true := by simpa using c97))
                                        clear c97
                                        replace H := Option.bind_eq_some_iff.mp H
                                        obtain ⟨t348, A980, H⟩ := H
                                        replace H : (some t348) = some r := H
                                        have A98 := Aside0.mk A980
                                        clear A980
                                        obtain rfl := Option.some.inj H
                                        have hnb99 := NB314_315.out
                                        have hnc99 := NB315_314.out
                                        have hcz100_0 : wc.cell? ⟨gb314, 0, none⟩ = some (.bool t316) := (blk_cell BK314.out 0).trans rfl
                                        have hcz100_1 : wc.cell? ⟨gb314, 1, none⟩ = some (.string t317) := (blk_cell BK314.out 1).trans rfl
                                        have hcz100_2 : wc.cell? ⟨gb314, 2, none⟩ = some (.int .i64 t318) := (blk_cell BK314.out 2).trans rfl
                                        have hcz100_3 : wc.cell? ⟨gb314, 3, none⟩ = some (.int .i64 t319) := (blk_cell BK314.out 3).trans rfl
                                        have hfz100_0 := blk_frozen BK314.out 0
                                        have hfz100_1 := blk_frozen BK314.out 1
                                        have hfz100_2 := blk_frozen BK314.out 2
                                        have hfz100_3 := blk_frozen BK314.out 3
                                        go_wp2_with (first | ((with_reducible refine gate_callee (f := 19) rfl ?_); refine goesL_ (some 119) rfl rfl Try.func19 (by kernel_rfl) rfl #[.agg #[.bool t316, .string t317, .int .i64 t318, .int .i64 t319]] rfl (by (try simp only [List.map_toArray, List.map_cons, List.map_nil]); first | done | rfl | (simp only [List.length_drop, List.length_take]; rfl)) ?_; (with_reducible refine (cell_Right.calls t316 t317 t318 t319 t347 _ A94.out).mono ?_); rintro e w101 ⟨rfl, hb⟩; refine ⟨_, rfl, ?_⟩; have n0_ := Aside0.mk (blk_below (g := gb314) (o := .cells #[.bool t316, .string t317, .int .i64 t318, .int .i64 t319] 23 (0, 0)) (by (with_reducible repeat (first | refine blk_drewN ?_ _ | refine blk_drew ?_ | refine blk_alloc ?_ _)); exact BK314.out) hb); have n1_ := Aside0.mk (blk_below (g := gb315) (o := .cells #[.int .u16 a2_0, .int .u8 a2_1, .int .i64 a2_2] 46 (0, 0)) (by (with_reducible repeat (first | refine blk_drewN ?_ _ | refine blk_drew ?_ | refine blk_alloc ?_ _)); exact BK315.out) hb); have n2_ := Aside0.mk (below_step (by repeat (first | (with_reducible first | exact HB.out | apply below_alloc | apply pw_below_drewN | apply below_drew1 | refine below_set ?_ GE314.out | refine below_set ?_ GE315.out) | exact HB.out)) hb); clear BK314; clear BK315; clear HB; have BK314 := n0_; have BK315 := n1_; have HB := n2_; clear n0_ n1_ n2_; (try clear hb); (try clear hb2); (try clear hk); (try clear hi); have hcz102_0 : w101.cell? ⟨gb315, 0, none⟩ = some (.int .u16 a2_0) := (blk_cell BK315.out 0).trans rfl; have hcz102_1 : w101.cell? ⟨gb315, 1, none⟩ = some (.int .u8 a2_1) := (blk_cell BK315.out 1).trans rfl; have hcz102_2 : w101.cell? ⟨gb315, 2, none⟩ = some (.int .i64 a2_2) := (blk_cell BK315.out 2).trans rfl; have hfz102_0 := blk_frozen BK315.out 0; have hfz102_1 := blk_frozen BK315.out 1; have hfz102_2 := blk_frozen BK315.out 2) | (go_at_call 21; (with_reducible refine (withylaw09_fixed.calls  t348 _ A98.out).mono ?_); rintro e w103 ⟨rfl, hb⟩; have n0_ := Aside0.mk (blk_below (g := gb314) (o := .cells #[.bool t316, .string t317, .int .i64 t318, .int .i64 t319] 23 (0, 0)) (by (with_reducible repeat (first | refine blk_drewN ?_ _ | refine blk_drew ?_ | refine blk_alloc ?_ _)); exact BK314.out) hb); have n1_ := Aside0.mk (blk_below (g := gb315) (o := .cells #[.int .u16 a2_0, .int .u8 a2_1, .int .i64 a2_2] 46 (0, 0)) (by (with_reducible repeat (first | refine blk_drewN ?_ _ | refine blk_drew ?_ | refine blk_alloc ?_ _)); exact BK315.out) hb); have n2_ := Aside0.mk (below_step (by repeat (first | (with_reducible first | exact HB.out | apply below_alloc | apply pw_below_drewN | apply below_drew1 | refine below_set ?_ GE314.out | refine below_set ?_ GE315.out) | exact HB.out)) hb); clear BK314; clear BK315; clear HB; have BK314 := n0_; have BK315 := n1_; have HB := n2_; clear n0_ n1_ n2_; (try clear hb); (try clear hb2); (try clear hk); (try clear hi)))
                                        go_ret
                                        exact ⟨by first | rfl | (simp [errW_none, errW_some] <;> rfl) | (simp only [← hji4, ← hji81]; first | rfl | (simp [errW_none, errW_some] <;> rfl)) | (simp [*, errW_none, errW_some] <;> rfl), by repeat (first | (with_reducible first | exact HB.out | apply below_alloc | apply pw_below_drewN | apply below_drew1 | refine below_set ?_ GE314.out | refine below_set ?_ GE315.out) | exact HB.out)⟩
                                      · rw [if_neg c97] at H
                                        have c97b0 : ((t340 == 0) == (decide (a2_2 ≤ 4095))) = false := by simpa using c97
                                        (try (have c97b1 : decide ((t340 == 0) = (decide (a2_2 ≤ 4095))) = false := by simpa using c97))
                                        (try (have c97b2 : ((t340 == 0) == (decide (a2_2 ≤ 4095))) = false := by simpa using c97))
                                        (try (have c97b3 : ¬ ((t340 == 0) = (decide (a2_2 ≤ 4095))) := by simpa using c97))
                                        clear c97
                                        obtain rfl := Option.some.inj H
                                        have hnb104 := NB314_315.out
                                        have hnc104 := NB315_314.out
                                        have hcz105_0 : wc.cell? ⟨gb314, 0, none⟩ = some (.bool t316) := (blk_cell BK314.out 0).trans rfl
                                        have hcz105_1 : wc.cell? ⟨gb314, 1, none⟩ = some (.string t317) := (blk_cell BK314.out 1).trans rfl
                                        have hcz105_2 : wc.cell? ⟨gb314, 2, none⟩ = some (.int .i64 t318) := (blk_cell BK314.out 2).trans rfl
                                        have hcz105_3 : wc.cell? ⟨gb314, 3, none⟩ = some (.int .i64 t319) := (blk_cell BK314.out 3).trans rfl
                                        have hfz105_0 := blk_frozen BK314.out 0
                                        have hfz105_1 := blk_frozen BK314.out 1
                                        have hfz105_2 := blk_frozen BK314.out 2
                                        have hfz105_3 := blk_frozen BK314.out 3
                                        go_wp2_with (first | ((with_reducible refine gate_callee (f := 19) rfl ?_); refine goesL_ (some 119) rfl rfl Try.func19 (by kernel_rfl) rfl #[.agg #[.bool t316, .string t317, .int .i64 t318, .int .i64 t319]] rfl (by (try simp only [List.map_toArray, List.map_cons, List.map_nil]); first | done | rfl | (simp only [List.length_drop, List.length_take]; rfl)) ?_; (with_reducible refine (cell_Right.calls t316 t317 t318 t319 t347 _ A94.out).mono ?_); rintro e w106 ⟨rfl, hb⟩; refine ⟨_, rfl, ?_⟩; have n0_ := Aside0.mk (blk_below (g := gb314) (o := .cells #[.bool t316, .string t317, .int .i64 t318, .int .i64 t319] 23 (0, 0)) (by (with_reducible repeat (first | refine blk_drewN ?_ _ | refine blk_drew ?_ | refine blk_alloc ?_ _)); exact BK314.out) hb); have n1_ := Aside0.mk (blk_below (g := gb315) (o := .cells #[.int .u16 a2_0, .int .u8 a2_1, .int .i64 a2_2] 46 (0, 0)) (by (with_reducible repeat (first | refine blk_drewN ?_ _ | refine blk_drew ?_ | refine blk_alloc ?_ _)); exact BK315.out) hb); have n2_ := Aside0.mk (below_step (by repeat (first | (with_reducible first | exact HB.out | apply below_alloc | apply pw_below_drewN | apply below_drew1 | refine below_set ?_ GE314.out | refine below_set ?_ GE315.out) | exact HB.out)) hb); clear BK314; clear BK315; clear HB; have BK314 := n0_; have BK315 := n1_; have HB := n2_; clear n0_ n1_ n2_; (try clear hb); (try clear hb2); (try clear hk); (try clear hi); have hcz107_0 : w106.cell? ⟨gb315, 0, none⟩ = some (.int .u16 a2_0) := (blk_cell BK315.out 0).trans rfl; have hcz107_1 : w106.cell? ⟨gb315, 1, none⟩ = some (.int .u8 a2_1) := (blk_cell BK315.out 1).trans rfl; have hcz107_2 : w106.cell? ⟨gb315, 2, none⟩ = some (.int .i64 a2_2) := (blk_cell BK315.out 2).trans rfl; have hfz107_0 := blk_frozen BK315.out 0; have hfz107_1 := blk_frozen BK315.out 1; have hfz107_2 := blk_frozen BK315.out 2))
                                        go_ret
                                        exact ⟨by first | rfl | (simp [errW_none, errW_some] <;> rfl) | (simp only [← hji4, ← hji81]; first | rfl | (simp [errW_none, errW_some] <;> rfl)) | (simp [*, errW_none, errW_some] <;> rfl), by repeat (first | (with_reducible first | exact HB.out | apply below_alloc | apply pw_below_drewN | apply below_drew1 | refine below_set ?_ GE314.out | refine below_set ?_ GE315.out) | exact HB.out)⟩
                                    · rw [if_neg c96] at H
                                      have c96b0 : decide (1 ≤ a2_2) = false := decide_eq_false c96
                                      clear c96
                                      by_cases c108 : ((t340 == 0) == false) = true
                                      · rw [if_pos c108] at H
                                        have c108b0 : ((t340 == 0) == false) = true := c108
                                        (try (have c108b1 : decide ((t340 == 0) = false) = true := by simpa using c108))
                                        (try (have c108b2 : ((t340 == 0) == false) = true := by simpa using c108))
                                        clear c108
                                        replace H := Option.bind_eq_some_iff.mp H
                                        obtain ⟨t349, A1090, H⟩ := H
                                        replace H : (some t349) = some r := H
                                        have A109 := Aside0.mk A1090
                                        clear A1090
                                        obtain rfl := Option.some.inj H
                                        have hnb110 := NB314_315.out
                                        have hnc110 := NB315_314.out
                                        have hcz111_0 : wc.cell? ⟨gb314, 0, none⟩ = some (.bool t316) := (blk_cell BK314.out 0).trans rfl
                                        have hcz111_1 : wc.cell? ⟨gb314, 1, none⟩ = some (.string t317) := (blk_cell BK314.out 1).trans rfl
                                        have hcz111_2 : wc.cell? ⟨gb314, 2, none⟩ = some (.int .i64 t318) := (blk_cell BK314.out 2).trans rfl
                                        have hcz111_3 : wc.cell? ⟨gb314, 3, none⟩ = some (.int .i64 t319) := (blk_cell BK314.out 3).trans rfl
                                        have hfz111_0 := blk_frozen BK314.out 0
                                        have hfz111_1 := blk_frozen BK314.out 1
                                        have hfz111_2 := blk_frozen BK314.out 2
                                        have hfz111_3 := blk_frozen BK314.out 3
                                        go_wp2_with (first | ((with_reducible refine gate_callee (f := 19) rfl ?_); refine goesL_ (some 119) rfl rfl Try.func19 (by kernel_rfl) rfl #[.agg #[.bool t316, .string t317, .int .i64 t318, .int .i64 t319]] rfl (by (try simp only [List.map_toArray, List.map_cons, List.map_nil]); first | done | rfl | (simp only [List.length_drop, List.length_take]; rfl)) ?_; (with_reducible refine (cell_Right.calls t316 t317 t318 t319 t347 _ A94.out).mono ?_); rintro e w112 ⟨rfl, hb⟩; refine ⟨_, rfl, ?_⟩; have n0_ := Aside0.mk (blk_below (g := gb314) (o := .cells #[.bool t316, .string t317, .int .i64 t318, .int .i64 t319] 23 (0, 0)) (by (with_reducible repeat (first | refine blk_drewN ?_ _ | refine blk_drew ?_ | refine blk_alloc ?_ _)); exact BK314.out) hb); have n1_ := Aside0.mk (blk_below (g := gb315) (o := .cells #[.int .u16 a2_0, .int .u8 a2_1, .int .i64 a2_2] 46 (0, 0)) (by (with_reducible repeat (first | refine blk_drewN ?_ _ | refine blk_drew ?_ | refine blk_alloc ?_ _)); exact BK315.out) hb); have n2_ := Aside0.mk (below_step (by repeat (first | (with_reducible first | exact HB.out | apply below_alloc | apply pw_below_drewN | apply below_drew1 | refine below_set ?_ GE314.out | refine below_set ?_ GE315.out) | exact HB.out)) hb); clear BK314; clear BK315; clear HB; have BK314 := n0_; have BK315 := n1_; have HB := n2_; clear n0_ n1_ n2_; (try clear hb); (try clear hb2); (try clear hk); (try clear hi); have hcz113_0 : w112.cell? ⟨gb315, 0, none⟩ = some (.int .u16 a2_0) := (blk_cell BK315.out 0).trans rfl; have hcz113_1 : w112.cell? ⟨gb315, 1, none⟩ = some (.int .u8 a2_1) := (blk_cell BK315.out 1).trans rfl; have hcz113_2 : w112.cell? ⟨gb315, 2, none⟩ = some (.int .i64 a2_2) := (blk_cell BK315.out 2).trans rfl; have hfz113_0 := blk_frozen BK315.out 0; have hfz113_1 := blk_frozen BK315.out 1; have hfz113_2 := blk_frozen BK315.out 2) | (go_at_call 21; (with_reducible refine (withylaw09_fixed.calls  t349 _ A109.out).mono ?_); rintro e w114 ⟨rfl, hb⟩; have n0_ := Aside0.mk (blk_below (g := gb314) (o := .cells #[.bool t316, .string t317, .int .i64 t318, .int .i64 t319] 23 (0, 0)) (by (with_reducible repeat (first | refine blk_drewN ?_ _ | refine blk_drew ?_ | refine blk_alloc ?_ _)); exact BK314.out) hb); have n1_ := Aside0.mk (blk_below (g := gb315) (o := .cells #[.int .u16 a2_0, .int .u8 a2_1, .int .i64 a2_2] 46 (0, 0)) (by (with_reducible repeat (first | refine blk_drewN ?_ _ | refine blk_drew ?_ | refine blk_alloc ?_ _)); exact BK315.out) hb); have n2_ := Aside0.mk (below_step (by repeat (first | (with_reducible first | exact HB.out | apply below_alloc | apply pw_below_drewN | apply below_drew1 | refine below_set ?_ GE314.out | refine below_set ?_ GE315.out) | exact HB.out)) hb); clear BK314; clear BK315; clear HB; have BK314 := n0_; have BK315 := n1_; have HB := n2_; clear n0_ n1_ n2_; (try clear hb); (try clear hb2); (try clear hk); (try clear hi)))
                                        go_ret
                                        exact ⟨by first | rfl | (simp [errW_none, errW_some] <;> rfl) | (simp only [← hji4, ← hji81]; first | rfl | (simp [errW_none, errW_some] <;> rfl)) | (simp [*, errW_none, errW_some] <;> rfl), by repeat (first | (with_reducible first | exact HB.out | apply below_alloc | apply pw_below_drewN | apply below_drew1 | refine below_set ?_ GE314.out | refine below_set ?_ GE315.out) | exact HB.out)⟩
                                      · rw [if_neg c108] at H
                                        have c108b0 : ((t340 == 0) == false) = false := by simpa using c108
                                        (try (have c108b1 : decide ((t340 == 0) = false) = false := by simpa using c108))
                                        (try (have c108b2 : ((t340 == 0) == false) = false := by simpa using c108))
                                        (try (have c108b3 : ¬ ((t340 == 0) = false) := by simpa using c108))
                                        clear c108
                                        obtain rfl := Option.some.inj H
                                        have hnb115 := NB314_315.out
                                        have hnc115 := NB315_314.out
                                        have hcz116_0 : wc.cell? ⟨gb314, 0, none⟩ = some (.bool t316) := (blk_cell BK314.out 0).trans rfl
                                        have hcz116_1 : wc.cell? ⟨gb314, 1, none⟩ = some (.string t317) := (blk_cell BK314.out 1).trans rfl
                                        have hcz116_2 : wc.cell? ⟨gb314, 2, none⟩ = some (.int .i64 t318) := (blk_cell BK314.out 2).trans rfl
                                        have hcz116_3 : wc.cell? ⟨gb314, 3, none⟩ = some (.int .i64 t319) := (blk_cell BK314.out 3).trans rfl
                                        have hfz116_0 := blk_frozen BK314.out 0
                                        have hfz116_1 := blk_frozen BK314.out 1
                                        have hfz116_2 := blk_frozen BK314.out 2
                                        have hfz116_3 := blk_frozen BK314.out 3
                                        go_wp2_with (first | ((with_reducible refine gate_callee (f := 19) rfl ?_); refine goesL_ (some 119) rfl rfl Try.func19 (by kernel_rfl) rfl #[.agg #[.bool t316, .string t317, .int .i64 t318, .int .i64 t319]] rfl (by (try simp only [List.map_toArray, List.map_cons, List.map_nil]); first | done | rfl | (simp only [List.length_drop, List.length_take]; rfl)) ?_; (with_reducible refine (cell_Right.calls t316 t317 t318 t319 t347 _ A94.out).mono ?_); rintro e w117 ⟨rfl, hb⟩; refine ⟨_, rfl, ?_⟩; have n0_ := Aside0.mk (blk_below (g := gb314) (o := .cells #[.bool t316, .string t317, .int .i64 t318, .int .i64 t319] 23 (0, 0)) (by (with_reducible repeat (first | refine blk_drewN ?_ _ | refine blk_drew ?_ | refine blk_alloc ?_ _)); exact BK314.out) hb); have n1_ := Aside0.mk (blk_below (g := gb315) (o := .cells #[.int .u16 a2_0, .int .u8 a2_1, .int .i64 a2_2] 46 (0, 0)) (by (with_reducible repeat (first | refine blk_drewN ?_ _ | refine blk_drew ?_ | refine blk_alloc ?_ _)); exact BK315.out) hb); have n2_ := Aside0.mk (below_step (by repeat (first | (with_reducible first | exact HB.out | apply below_alloc | apply pw_below_drewN | apply below_drew1 | refine below_set ?_ GE314.out | refine below_set ?_ GE315.out) | exact HB.out)) hb); clear BK314; clear BK315; clear HB; have BK314 := n0_; have BK315 := n1_; have HB := n2_; clear n0_ n1_ n2_; (try clear hb); (try clear hb2); (try clear hk); (try clear hi); have hcz118_0 : w117.cell? ⟨gb315, 0, none⟩ = some (.int .u16 a2_0) := (blk_cell BK315.out 0).trans rfl; have hcz118_1 : w117.cell? ⟨gb315, 1, none⟩ = some (.int .u8 a2_1) := (blk_cell BK315.out 1).trans rfl; have hcz118_2 : w117.cell? ⟨gb315, 2, none⟩ = some (.int .i64 a2_2) := (blk_cell BK315.out 2).trans rfl; have hfz118_0 := blk_frozen BK315.out 0; have hfz118_1 := blk_frozen BK315.out 1; have hfz118_2 := blk_frozen BK315.out 2))
                                        go_ret
                                        exact ⟨by first | rfl | (simp [errW_none, errW_some] <;> rfl) | (simp only [← hji4, ← hji81]; first | rfl | (simp [errW_none, errW_some] <;> rfl)) | (simp [*, errW_none, errW_some] <;> rfl), by repeat (first | (with_reducible first | exact HB.out | apply below_alloc | apply pw_below_drewN | apply below_drew1 | refine below_set ?_ GE314.out | refine below_set ?_ GE315.out) | exact HB.out)⟩
                                  · rw [if_neg c95] at H
                                    have c95b0 : ((t324 == 0) == t347) = false := by simpa using c95
                                    (try (have c95b1 : decide ((t324 == 0) = t347) = false := by simpa using c95))
                                    (try (have c95b2 : ((t324 == 0) == t347) = false := by simpa using c95))
                                    (try (have c95b3 : ¬ ((t324 == 0) = t347) := by simpa using c95))
                                    clear c95
                                    obtain rfl := Option.some.inj H
                                    have hnb119 := NB314_315.out
                                    have hnc119 := NB315_314.out
                                    have hcz120_0 : wc.cell? ⟨gb314, 0, none⟩ = some (.bool t316) := (blk_cell BK314.out 0).trans rfl
                                    have hcz120_1 : wc.cell? ⟨gb314, 1, none⟩ = some (.string t317) := (blk_cell BK314.out 1).trans rfl
                                    have hcz120_2 : wc.cell? ⟨gb314, 2, none⟩ = some (.int .i64 t318) := (blk_cell BK314.out 2).trans rfl
                                    have hcz120_3 : wc.cell? ⟨gb314, 3, none⟩ = some (.int .i64 t319) := (blk_cell BK314.out 3).trans rfl
                                    have hfz120_0 := blk_frozen BK314.out 0
                                    have hfz120_1 := blk_frozen BK314.out 1
                                    have hfz120_2 := blk_frozen BK314.out 2
                                    have hfz120_3 := blk_frozen BK314.out 3
                                    go_wp2_with (first | ((with_reducible refine gate_callee (f := 19) rfl ?_); refine goesL_ (some 119) rfl rfl Try.func19 (by kernel_rfl) rfl #[.agg #[.bool t316, .string t317, .int .i64 t318, .int .i64 t319]] rfl (by (try simp only [List.map_toArray, List.map_cons, List.map_nil]); first | done | rfl | (simp only [List.length_drop, List.length_take]; rfl)) ?_; (with_reducible refine (cell_Right.calls t316 t317 t318 t319 t347 _ A94.out).mono ?_); rintro e w121 ⟨rfl, hb⟩; refine ⟨_, rfl, ?_⟩; have n0_ := Aside0.mk (blk_below (g := gb314) (o := .cells #[.bool t316, .string t317, .int .i64 t318, .int .i64 t319] 23 (0, 0)) (by (with_reducible repeat (first | refine blk_drewN ?_ _ | refine blk_drew ?_ | refine blk_alloc ?_ _)); exact BK314.out) hb); have n1_ := Aside0.mk (blk_below (g := gb315) (o := .cells #[.int .u16 a2_0, .int .u8 a2_1, .int .i64 a2_2] 46 (0, 0)) (by (with_reducible repeat (first | refine blk_drewN ?_ _ | refine blk_drew ?_ | refine blk_alloc ?_ _)); exact BK315.out) hb); have n2_ := Aside0.mk (below_step (by repeat (first | (with_reducible first | exact HB.out | apply below_alloc | apply pw_below_drewN | apply below_drew1 | refine below_set ?_ GE314.out | refine below_set ?_ GE315.out) | exact HB.out)) hb); clear BK314; clear BK315; clear HB; have BK314 := n0_; have BK315 := n1_; have HB := n2_; clear n0_ n1_ n2_; (try clear hb); (try clear hb2); (try clear hk); (try clear hi)))
                                    go_ret
                                    exact ⟨by first | rfl | (simp [errW_none, errW_some] <;> rfl) | (simp only [← hji4, ← hji81]; first | rfl | (simp [errW_none, errW_some] <;> rfl)) | (simp [*, errW_none, errW_some] <;> rfl), by repeat (first | (with_reducible first | exact HB.out | apply below_alloc | apply pw_below_drewN | apply below_drew1 | refine below_set ?_ GE314.out | refine below_set ?_ GE315.out) | exact HB.out)⟩
                          · rw [if_neg c85] at H
                            exact absurd H (by simp)
                        · rw [if_neg c83] at H
                          exact absurd H (by simp)
                      · rw [if_neg c82] at H
                        exact absurd H (by simp)
                  · replace c79 := Bool.eq_false_iff.mpr c79
                    subst c79
                    have H1 : ((cell_Right.f t316 t317 t318 t319).bind fun t350 => (if ((t324 == 0) == t350) = true then (if a2_2 ≥ 1 then (if ((t340 == 0) == (decide (a2_2 ≤ 4095))) = true then ((withylaw09_fixed.f).bind fun t351 => (some t351)) else (some false)) else (if ((t340 == 0) == false) = true then ((withylaw09_fixed.f).bind fun t352 => (some t352)) else (some false))) else (some false))) = some r := by rw [if_neg (show ¬ (false = true) by decide)] at H; exact H
                    clear H
                    have H := H1
                    clear H1
                    replace H := Option.bind_eq_some_iff.mp H
                    obtain ⟨t350, A1220, H⟩ := H
                    replace H : (if ((t324 == 0) == t350) = true then (if a2_2 ≥ 1 then (if ((t340 == 0) == (decide (a2_2 ≤ 4095))) = true then ((withylaw09_fixed.f).bind fun t351 => (some t351)) else (some false)) else (if ((t340 == 0) == false) = true then ((withylaw09_fixed.f).bind fun t352 => (some t352)) else (some false))) else (some false)) = some r := H
                    have A122 := Aside0.mk A1220
                    clear A1220
                    by_cases c123 : ((t324 == 0) == t350) = true
                    · rw [if_pos c123] at H
                      have c123b0 : ((t324 == 0) == t350) = true := c123
                      (try (have c123b1 : decide ((t324 == 0) = t350) = true := by simpa using c123))
                      (try (have c123b2 : ((t324 == 0) == t350) = true := by simpa using c123))
                      clear c123
                      by_cases c124 : a2_2 ≥ 1
                      · rw [if_pos c124] at H
                        have c124b0 : decide (1 ≤ a2_2) = true := decide_eq_true c124
                        clear c124
                        by_cases c125 : ((t340 == 0) == (decide (a2_2 ≤ 4095))) = true
                        · rw [if_pos c125] at H
                          have c125b0 : ((t340 == 0) == (decide (a2_2 ≤ 4095))) = true := c125
                          (try (have c125b1 : decide ((t340 == 0) = (decide (a2_2 ≤ 4095))) = true := by simpa using c125))
                          (try (have c125b2 : ((t340 == 0) == (decide (a2_2 ≤ 4095))) = true := by simpa using c125))
                          clear c125
                          replace H := Option.bind_eq_some_iff.mp H
                          obtain ⟨t351, A1260, H⟩ := H
                          replace H : (some t351) = some r := H
                          have A126 := Aside0.mk A1260
                          clear A1260
                          obtain rfl := Option.some.inj H
                          have hnb127 := NB314_315.out
                          have hnc127 := NB315_314.out
                          have hcz128_0 : wc.cell? ⟨gb314, 0, none⟩ = some (.bool t316) := (blk_cell BK314.out 0).trans rfl
                          have hcz128_1 : wc.cell? ⟨gb314, 1, none⟩ = some (.string t317) := (blk_cell BK314.out 1).trans rfl
                          have hcz128_2 : wc.cell? ⟨gb314, 2, none⟩ = some (.int .i64 t318) := (blk_cell BK314.out 2).trans rfl
                          have hcz128_3 : wc.cell? ⟨gb314, 3, none⟩ = some (.int .i64 t319) := (blk_cell BK314.out 3).trans rfl
                          have hfz128_0 := blk_frozen BK314.out 0
                          have hfz128_1 := blk_frozen BK314.out 1
                          have hfz128_2 := blk_frozen BK314.out 2
                          have hfz128_3 := blk_frozen BK314.out 3
                          go_wp2_with (first | ((with_reducible refine gate_callee (f := 19) rfl ?_); refine goesL_ (some 119) rfl rfl Try.func19 (by kernel_rfl) rfl #[.agg #[.bool t316, .string t317, .int .i64 t318, .int .i64 t319]] rfl (by (try simp only [List.map_toArray, List.map_cons, List.map_nil]); first | done | rfl | (simp only [List.length_drop, List.length_take]; rfl)) ?_; (with_reducible refine (cell_Right.calls t316 t317 t318 t319 t350 _ A122.out).mono ?_); rintro e w129 ⟨rfl, hb⟩; refine ⟨_, rfl, ?_⟩; have n0_ := Aside0.mk (blk_below (g := gb314) (o := .cells #[.bool t316, .string t317, .int .i64 t318, .int .i64 t319] 23 (0, 0)) (by (with_reducible repeat (first | refine blk_drewN ?_ _ | refine blk_drew ?_ | refine blk_alloc ?_ _)); exact BK314.out) hb); have n1_ := Aside0.mk (blk_below (g := gb315) (o := .cells #[.int .u16 a2_0, .int .u8 a2_1, .int .i64 a2_2] 46 (0, 0)) (by (with_reducible repeat (first | refine blk_drewN ?_ _ | refine blk_drew ?_ | refine blk_alloc ?_ _)); exact BK315.out) hb); have n2_ := Aside0.mk (below_step (by repeat (first | (with_reducible first | exact HB.out | apply below_alloc | apply pw_below_drewN | apply below_drew1 | refine below_set ?_ GE314.out | refine below_set ?_ GE315.out) | exact HB.out)) hb); clear BK314; clear BK315; clear HB; have BK314 := n0_; have BK315 := n1_; have HB := n2_; clear n0_ n1_ n2_; (try clear hb); (try clear hb2); (try clear hk); (try clear hi); have hcz130_0 : w129.cell? ⟨gb315, 0, none⟩ = some (.int .u16 a2_0) := (blk_cell BK315.out 0).trans rfl; have hcz130_1 : w129.cell? ⟨gb315, 1, none⟩ = some (.int .u8 a2_1) := (blk_cell BK315.out 1).trans rfl; have hcz130_2 : w129.cell? ⟨gb315, 2, none⟩ = some (.int .i64 a2_2) := (blk_cell BK315.out 2).trans rfl; have hfz130_0 := blk_frozen BK315.out 0; have hfz130_1 := blk_frozen BK315.out 1; have hfz130_2 := blk_frozen BK315.out 2) | (go_at_call 21; (with_reducible refine (withylaw09_fixed.calls  t351 _ A126.out).mono ?_); rintro e w131 ⟨rfl, hb⟩; have n0_ := Aside0.mk (blk_below (g := gb314) (o := .cells #[.bool t316, .string t317, .int .i64 t318, .int .i64 t319] 23 (0, 0)) (by (with_reducible repeat (first | refine blk_drewN ?_ _ | refine blk_drew ?_ | refine blk_alloc ?_ _)); exact BK314.out) hb); have n1_ := Aside0.mk (blk_below (g := gb315) (o := .cells #[.int .u16 a2_0, .int .u8 a2_1, .int .i64 a2_2] 46 (0, 0)) (by (with_reducible repeat (first | refine blk_drewN ?_ _ | refine blk_drew ?_ | refine blk_alloc ?_ _)); exact BK315.out) hb); have n2_ := Aside0.mk (below_step (by repeat (first | (with_reducible first | exact HB.out | apply below_alloc | apply pw_below_drewN | apply below_drew1 | refine below_set ?_ GE314.out | refine below_set ?_ GE315.out) | exact HB.out)) hb); clear BK314; clear BK315; clear HB; have BK314 := n0_; have BK315 := n1_; have HB := n2_; clear n0_ n1_ n2_; (try clear hb); (try clear hb2); (try clear hk); (try clear hi)))
                          go_ret
                          exact ⟨by first | rfl | (simp [errW_none, errW_some] <;> rfl) | (simp only [← hji4]; first | rfl | (simp [errW_none, errW_some] <;> rfl)) | (simp [*, errW_none, errW_some] <;> rfl), by repeat (first | (with_reducible first | exact HB.out | apply below_alloc | apply pw_below_drewN | apply below_drew1 | refine below_set ?_ GE314.out | refine below_set ?_ GE315.out) | exact HB.out)⟩
                        · rw [if_neg c125] at H
                          have c125b0 : ((t340 == 0) == (decide (a2_2 ≤ 4095))) = false := by simpa using c125
                          (try (have c125b1 : decide ((t340 == 0) = (decide (a2_2 ≤ 4095))) = false := by simpa using c125))
                          (try (have c125b2 : ((t340 == 0) == (decide (a2_2 ≤ 4095))) = false := by simpa using c125))
                          (try (have c125b3 : ¬ ((t340 == 0) = (decide (a2_2 ≤ 4095))) := by simpa using c125))
                          clear c125
                          obtain rfl := Option.some.inj H
                          have hnb132 := NB314_315.out
                          have hnc132 := NB315_314.out
                          have hcz133_0 : wc.cell? ⟨gb314, 0, none⟩ = some (.bool t316) := (blk_cell BK314.out 0).trans rfl
                          have hcz133_1 : wc.cell? ⟨gb314, 1, none⟩ = some (.string t317) := (blk_cell BK314.out 1).trans rfl
                          have hcz133_2 : wc.cell? ⟨gb314, 2, none⟩ = some (.int .i64 t318) := (blk_cell BK314.out 2).trans rfl
                          have hcz133_3 : wc.cell? ⟨gb314, 3, none⟩ = some (.int .i64 t319) := (blk_cell BK314.out 3).trans rfl
                          have hfz133_0 := blk_frozen BK314.out 0
                          have hfz133_1 := blk_frozen BK314.out 1
                          have hfz133_2 := blk_frozen BK314.out 2
                          have hfz133_3 := blk_frozen BK314.out 3
                          go_wp2_with (first | ((with_reducible refine gate_callee (f := 19) rfl ?_); refine goesL_ (some 119) rfl rfl Try.func19 (by kernel_rfl) rfl #[.agg #[.bool t316, .string t317, .int .i64 t318, .int .i64 t319]] rfl (by (try simp only [List.map_toArray, List.map_cons, List.map_nil]); first | done | rfl | (simp only [List.length_drop, List.length_take]; rfl)) ?_; (with_reducible refine (cell_Right.calls t316 t317 t318 t319 t350 _ A122.out).mono ?_); rintro e w134 ⟨rfl, hb⟩; refine ⟨_, rfl, ?_⟩; have n0_ := Aside0.mk (blk_below (g := gb314) (o := .cells #[.bool t316, .string t317, .int .i64 t318, .int .i64 t319] 23 (0, 0)) (by (with_reducible repeat (first | refine blk_drewN ?_ _ | refine blk_drew ?_ | refine blk_alloc ?_ _)); exact BK314.out) hb); have n1_ := Aside0.mk (blk_below (g := gb315) (o := .cells #[.int .u16 a2_0, .int .u8 a2_1, .int .i64 a2_2] 46 (0, 0)) (by (with_reducible repeat (first | refine blk_drewN ?_ _ | refine blk_drew ?_ | refine blk_alloc ?_ _)); exact BK315.out) hb); have n2_ := Aside0.mk (below_step (by repeat (first | (with_reducible first | exact HB.out | apply below_alloc | apply pw_below_drewN | apply below_drew1 | refine below_set ?_ GE314.out | refine below_set ?_ GE315.out) | exact HB.out)) hb); clear BK314; clear BK315; clear HB; have BK314 := n0_; have BK315 := n1_; have HB := n2_; clear n0_ n1_ n2_; (try clear hb); (try clear hb2); (try clear hk); (try clear hi); have hcz135_0 : w134.cell? ⟨gb315, 0, none⟩ = some (.int .u16 a2_0) := (blk_cell BK315.out 0).trans rfl; have hcz135_1 : w134.cell? ⟨gb315, 1, none⟩ = some (.int .u8 a2_1) := (blk_cell BK315.out 1).trans rfl; have hcz135_2 : w134.cell? ⟨gb315, 2, none⟩ = some (.int .i64 a2_2) := (blk_cell BK315.out 2).trans rfl; have hfz135_0 := blk_frozen BK315.out 0; have hfz135_1 := blk_frozen BK315.out 1; have hfz135_2 := blk_frozen BK315.out 2))
                          go_ret
                          exact ⟨by first | rfl | (simp [errW_none, errW_some] <;> rfl) | (simp only [← hji4]; first | rfl | (simp [errW_none, errW_some] <;> rfl)) | (simp [*, errW_none, errW_some] <;> rfl), by repeat (first | (with_reducible first | exact HB.out | apply below_alloc | apply pw_below_drewN | apply below_drew1 | refine below_set ?_ GE314.out | refine below_set ?_ GE315.out) | exact HB.out)⟩
                      · rw [if_neg c124] at H
                        have c124b0 : decide (1 ≤ a2_2) = false := decide_eq_false c124
                        clear c124
                        by_cases c136 : ((t340 == 0) == false) = true
                        · rw [if_pos c136] at H
                          have c136b0 : ((t340 == 0) == false) = true := c136
                          (try (have c136b1 : decide ((t340 == 0) = false) = true := by simpa using c136))
                          (try (have c136b2 : ((t340 == 0) == false) = true := by simpa using c136))
                          clear c136
                          replace H := Option.bind_eq_some_iff.mp H
                          obtain ⟨t352, A1370, H⟩ := H
                          replace H : (some t352) = some r := H
                          have A137 := Aside0.mk A1370
                          clear A1370
                          obtain rfl := Option.some.inj H
                          have hnb138 := NB314_315.out
                          have hnc138 := NB315_314.out
                          have hcz139_0 : wc.cell? ⟨gb314, 0, none⟩ = some (.bool t316) := (blk_cell BK314.out 0).trans rfl
                          have hcz139_1 : wc.cell? ⟨gb314, 1, none⟩ = some (.string t317) := (blk_cell BK314.out 1).trans rfl
                          have hcz139_2 : wc.cell? ⟨gb314, 2, none⟩ = some (.int .i64 t318) := (blk_cell BK314.out 2).trans rfl
                          have hcz139_3 : wc.cell? ⟨gb314, 3, none⟩ = some (.int .i64 t319) := (blk_cell BK314.out 3).trans rfl
                          have hfz139_0 := blk_frozen BK314.out 0
                          have hfz139_1 := blk_frozen BK314.out 1
                          have hfz139_2 := blk_frozen BK314.out 2
                          have hfz139_3 := blk_frozen BK314.out 3
                          go_wp2_with (first | ((with_reducible refine gate_callee (f := 19) rfl ?_); refine goesL_ (some 119) rfl rfl Try.func19 (by kernel_rfl) rfl #[.agg #[.bool t316, .string t317, .int .i64 t318, .int .i64 t319]] rfl (by (try simp only [List.map_toArray, List.map_cons, List.map_nil]); first | done | rfl | (simp only [List.length_drop, List.length_take]; rfl)) ?_; (with_reducible refine (cell_Right.calls t316 t317 t318 t319 t350 _ A122.out).mono ?_); rintro e w140 ⟨rfl, hb⟩; refine ⟨_, rfl, ?_⟩; have n0_ := Aside0.mk (blk_below (g := gb314) (o := .cells #[.bool t316, .string t317, .int .i64 t318, .int .i64 t319] 23 (0, 0)) (by (with_reducible repeat (first | refine blk_drewN ?_ _ | refine blk_drew ?_ | refine blk_alloc ?_ _)); exact BK314.out) hb); have n1_ := Aside0.mk (blk_below (g := gb315) (o := .cells #[.int .u16 a2_0, .int .u8 a2_1, .int .i64 a2_2] 46 (0, 0)) (by (with_reducible repeat (first | refine blk_drewN ?_ _ | refine blk_drew ?_ | refine blk_alloc ?_ _)); exact BK315.out) hb); have n2_ := Aside0.mk (below_step (by repeat (first | (with_reducible first | exact HB.out | apply below_alloc | apply pw_below_drewN | apply below_drew1 | refine below_set ?_ GE314.out | refine below_set ?_ GE315.out) | exact HB.out)) hb); clear BK314; clear BK315; clear HB; have BK314 := n0_; have BK315 := n1_; have HB := n2_; clear n0_ n1_ n2_; (try clear hb); (try clear hb2); (try clear hk); (try clear hi); have hcz141_0 : w140.cell? ⟨gb315, 0, none⟩ = some (.int .u16 a2_0) := (blk_cell BK315.out 0).trans rfl; have hcz141_1 : w140.cell? ⟨gb315, 1, none⟩ = some (.int .u8 a2_1) := (blk_cell BK315.out 1).trans rfl; have hcz141_2 : w140.cell? ⟨gb315, 2, none⟩ = some (.int .i64 a2_2) := (blk_cell BK315.out 2).trans rfl; have hfz141_0 := blk_frozen BK315.out 0; have hfz141_1 := blk_frozen BK315.out 1; have hfz141_2 := blk_frozen BK315.out 2) | (go_at_call 21; (with_reducible refine (withylaw09_fixed.calls  t352 _ A137.out).mono ?_); rintro e w142 ⟨rfl, hb⟩; have n0_ := Aside0.mk (blk_below (g := gb314) (o := .cells #[.bool t316, .string t317, .int .i64 t318, .int .i64 t319] 23 (0, 0)) (by (with_reducible repeat (first | refine blk_drewN ?_ _ | refine blk_drew ?_ | refine blk_alloc ?_ _)); exact BK314.out) hb); have n1_ := Aside0.mk (blk_below (g := gb315) (o := .cells #[.int .u16 a2_0, .int .u8 a2_1, .int .i64 a2_2] 46 (0, 0)) (by (with_reducible repeat (first | refine blk_drewN ?_ _ | refine blk_drew ?_ | refine blk_alloc ?_ _)); exact BK315.out) hb); have n2_ := Aside0.mk (below_step (by repeat (first | (with_reducible first | exact HB.out | apply below_alloc | apply pw_below_drewN | apply below_drew1 | refine below_set ?_ GE314.out | refine below_set ?_ GE315.out) | exact HB.out)) hb); clear BK314; clear BK315; clear HB; have BK314 := n0_; have BK315 := n1_; have HB := n2_; clear n0_ n1_ n2_; (try clear hb); (try clear hb2); (try clear hk); (try clear hi)))
                          go_ret
                          exact ⟨by first | rfl | (simp [errW_none, errW_some] <;> rfl) | (simp only [← hji4]; first | rfl | (simp [errW_none, errW_some] <;> rfl)) | (simp [*, errW_none, errW_some] <;> rfl), by repeat (first | (with_reducible first | exact HB.out | apply below_alloc | apply pw_below_drewN | apply below_drew1 | refine below_set ?_ GE314.out | refine below_set ?_ GE315.out) | exact HB.out)⟩
                        · rw [if_neg c136] at H
                          have c136b0 : ((t340 == 0) == false) = false := by simpa using c136
                          (try (have c136b1 : decide ((t340 == 0) = false) = false := by simpa using c136))
                          (try (have c136b2 : ((t340 == 0) == false) = false := by simpa using c136))
                          (try (have c136b3 : ¬ ((t340 == 0) = false) := by simpa using c136))
                          clear c136
                          obtain rfl := Option.some.inj H
                          have hnb143 := NB314_315.out
                          have hnc143 := NB315_314.out
                          have hcz144_0 : wc.cell? ⟨gb314, 0, none⟩ = some (.bool t316) := (blk_cell BK314.out 0).trans rfl
                          have hcz144_1 : wc.cell? ⟨gb314, 1, none⟩ = some (.string t317) := (blk_cell BK314.out 1).trans rfl
                          have hcz144_2 : wc.cell? ⟨gb314, 2, none⟩ = some (.int .i64 t318) := (blk_cell BK314.out 2).trans rfl
                          have hcz144_3 : wc.cell? ⟨gb314, 3, none⟩ = some (.int .i64 t319) := (blk_cell BK314.out 3).trans rfl
                          have hfz144_0 := blk_frozen BK314.out 0
                          have hfz144_1 := blk_frozen BK314.out 1
                          have hfz144_2 := blk_frozen BK314.out 2
                          have hfz144_3 := blk_frozen BK314.out 3
                          go_wp2_with (first | ((with_reducible refine gate_callee (f := 19) rfl ?_); refine goesL_ (some 119) rfl rfl Try.func19 (by kernel_rfl) rfl #[.agg #[.bool t316, .string t317, .int .i64 t318, .int .i64 t319]] rfl (by (try simp only [List.map_toArray, List.map_cons, List.map_nil]); first | done | rfl | (simp only [List.length_drop, List.length_take]; rfl)) ?_; (with_reducible refine (cell_Right.calls t316 t317 t318 t319 t350 _ A122.out).mono ?_); rintro e w145 ⟨rfl, hb⟩; refine ⟨_, rfl, ?_⟩; have n0_ := Aside0.mk (blk_below (g := gb314) (o := .cells #[.bool t316, .string t317, .int .i64 t318, .int .i64 t319] 23 (0, 0)) (by (with_reducible repeat (first | refine blk_drewN ?_ _ | refine blk_drew ?_ | refine blk_alloc ?_ _)); exact BK314.out) hb); have n1_ := Aside0.mk (blk_below (g := gb315) (o := .cells #[.int .u16 a2_0, .int .u8 a2_1, .int .i64 a2_2] 46 (0, 0)) (by (with_reducible repeat (first | refine blk_drewN ?_ _ | refine blk_drew ?_ | refine blk_alloc ?_ _)); exact BK315.out) hb); have n2_ := Aside0.mk (below_step (by repeat (first | (with_reducible first | exact HB.out | apply below_alloc | apply pw_below_drewN | apply below_drew1 | refine below_set ?_ GE314.out | refine below_set ?_ GE315.out) | exact HB.out)) hb); clear BK314; clear BK315; clear HB; have BK314 := n0_; have BK315 := n1_; have HB := n2_; clear n0_ n1_ n2_; (try clear hb); (try clear hb2); (try clear hk); (try clear hi); have hcz146_0 : w145.cell? ⟨gb315, 0, none⟩ = some (.int .u16 a2_0) := (blk_cell BK315.out 0).trans rfl; have hcz146_1 : w145.cell? ⟨gb315, 1, none⟩ = some (.int .u8 a2_1) := (blk_cell BK315.out 1).trans rfl; have hcz146_2 : w145.cell? ⟨gb315, 2, none⟩ = some (.int .i64 a2_2) := (blk_cell BK315.out 2).trans rfl; have hfz146_0 := blk_frozen BK315.out 0; have hfz146_1 := blk_frozen BK315.out 1; have hfz146_2 := blk_frozen BK315.out 2))
                          go_ret
                          exact ⟨by first | rfl | (simp [errW_none, errW_some] <;> rfl) | (simp only [← hji4]; first | rfl | (simp [errW_none, errW_some] <;> rfl)) | (simp [*, errW_none, errW_some] <;> rfl), by repeat (first | (with_reducible first | exact HB.out | apply below_alloc | apply pw_below_drewN | apply below_drew1 | refine below_set ?_ GE314.out | refine below_set ?_ GE315.out) | exact HB.out)⟩
                    · rw [if_neg c123] at H
                      have c123b0 : ((t324 == 0) == t350) = false := by simpa using c123
                      (try (have c123b1 : decide ((t324 == 0) = t350) = false := by simpa using c123))
                      (try (have c123b2 : ((t324 == 0) == t350) = false := by simpa using c123))
                      (try (have c123b3 : ¬ ((t324 == 0) = t350) := by simpa using c123))
                      clear c123
                      obtain rfl := Option.some.inj H
                      have hnb147 := NB314_315.out
                      have hnc147 := NB315_314.out
                      have hcz148_0 : wc.cell? ⟨gb314, 0, none⟩ = some (.bool t316) := (blk_cell BK314.out 0).trans rfl
                      have hcz148_1 : wc.cell? ⟨gb314, 1, none⟩ = some (.string t317) := (blk_cell BK314.out 1).trans rfl
                      have hcz148_2 : wc.cell? ⟨gb314, 2, none⟩ = some (.int .i64 t318) := (blk_cell BK314.out 2).trans rfl
                      have hcz148_3 : wc.cell? ⟨gb314, 3, none⟩ = some (.int .i64 t319) := (blk_cell BK314.out 3).trans rfl
                      have hfz148_0 := blk_frozen BK314.out 0
                      have hfz148_1 := blk_frozen BK314.out 1
                      have hfz148_2 := blk_frozen BK314.out 2
                      have hfz148_3 := blk_frozen BK314.out 3
                      go_wp2_with (first | ((with_reducible refine gate_callee (f := 19) rfl ?_); refine goesL_ (some 119) rfl rfl Try.func19 (by kernel_rfl) rfl #[.agg #[.bool t316, .string t317, .int .i64 t318, .int .i64 t319]] rfl (by (try simp only [List.map_toArray, List.map_cons, List.map_nil]); first | done | rfl | (simp only [List.length_drop, List.length_take]; rfl)) ?_; (with_reducible refine (cell_Right.calls t316 t317 t318 t319 t350 _ A122.out).mono ?_); rintro e w149 ⟨rfl, hb⟩; refine ⟨_, rfl, ?_⟩; have n0_ := Aside0.mk (blk_below (g := gb314) (o := .cells #[.bool t316, .string t317, .int .i64 t318, .int .i64 t319] 23 (0, 0)) (by (with_reducible repeat (first | refine blk_drewN ?_ _ | refine blk_drew ?_ | refine blk_alloc ?_ _)); exact BK314.out) hb); have n1_ := Aside0.mk (blk_below (g := gb315) (o := .cells #[.int .u16 a2_0, .int .u8 a2_1, .int .i64 a2_2] 46 (0, 0)) (by (with_reducible repeat (first | refine blk_drewN ?_ _ | refine blk_drew ?_ | refine blk_alloc ?_ _)); exact BK315.out) hb); have n2_ := Aside0.mk (below_step (by repeat (first | (with_reducible first | exact HB.out | apply below_alloc | apply pw_below_drewN | apply below_drew1 | refine below_set ?_ GE314.out | refine below_set ?_ GE315.out) | exact HB.out)) hb); clear BK314; clear BK315; clear HB; have BK314 := n0_; have BK315 := n1_; have HB := n2_; clear n0_ n1_ n2_; (try clear hb); (try clear hb2); (try clear hk); (try clear hi)))
                      go_ret
                      exact ⟨by first | rfl | (simp [errW_none, errW_some] <;> rfl) | (simp only [← hji4]; first | rfl | (simp [errW_none, errW_some] <;> rfl)) | (simp [*, errW_none, errW_some] <;> rfl), by repeat (first | (with_reducible first | exact HB.out | apply below_alloc | apply pw_below_drewN | apply below_drew1 | refine below_set ?_ GE314.out | refine below_set ?_ GE315.out) | exact HB.out)⟩
    · rw [if_neg c6] at H
      exact absurd H (by simp)
  · rw [if_neg c5] at H
    exact absurd H (by simp)

end Go.Proofs.Ytmpfnniekemkbaa.Q
