/-
  CellCut: a cell without its last bytes, or with one behind, is none: the plain law.
-/
import Derived.Test.YtmpfnniekemkbaaKid
import Derived.Test.YtmpfnniekemkbaaQx19
namespace Go.Proofs.Ytmpfnniekemkbaa.Pure
open Go.RowKit Go.Proofs.Ytmpfnniekemkbaa.Q Go.Proofs.YtmpfnniekemkbaaW.PrintWords Go.Proofs.YtmpfnniekemkbaaW.PrintLast Go.Proofs.YtmpfnniekemkbaaW.PrintMore
open Go.Proofs.Ytmpfnniekemkbaa.Hand (numF valueF getValueF getKidF)
set_option linter.unusedVariables false

theorem gv_eq (s : ByteArray) : cell_GetValue.f s = getValueF 100 s := rfl
theorem gk_eq (s : ByteArray) : cell_GetKid.f s = getKidF 100 s := rfl
theorem extract_left (a : ByteArray) (i : Nat) : L (a.extract 0 i) ++ (L a).drop i = L a := by
  rw [L_extract, List.drop_zero, Nat.sub_zero, List.take_append_drop]

theorem value_cut {t : ByteArray} {o : Bool} {S : ByteArray} {l p : Int} {a : ByteArray} (h : putV t o S l p = (a, 0)) (i : Nat) (hi : i < a.size) : cell_GetValue.f (a.extract 0 i) = some (⟨#[]⟩, false, ⟨#[]⟩, 0, 0, 3) := by
  obtain ⟨ht, hr, ha⟩ := putV_ok h
  have hz := body_size t o S l p ht hr
  rw [← ha] at hz
  obtain ⟨r, e, hg⟩ := getValue_tot (a.extract 0 i) (by rw [ByteArray.size_extract]; omega)
  rw [gv_eq, e]
  rcases hg with rfl | ⟨_, hp⟩
  · rfl
  · obtain ⟨ht', hr', ha'⟩ := putV_ok hp
    have hx := extract_left a i
    rw [ha', ha] at hx
    obtain ⟨hn, _⟩ := body_prefix ht' hr' ht hr hx
    rw [← ha] at hn
    have : ((L a).drop i).length = 0 := by rw [hn]; rfl
    rw [List.length_drop, L_length] at this
    omega
theorem value_more {t : ByteArray} {o : Bool} {S : ByteArray} {l p : Int} {a : ByteArray} (h : putV t o S l p = (a, 0)) (m : ByteArray) (hm : m.size = 1) : cell_GetValue.f (a ++ m) = some (⟨#[]⟩, false, ⟨#[]⟩, 0, 0, 3) := by
  obtain ⟨ht, hr, ha⟩ := putV_ok h
  have hz := body_size t o S l p ht hr
  rw [← ha] at hz
  obtain ⟨r, e, hg⟩ := getValue_tot (a ++ m) (by rw [ByteArray.size_append]; omega)
  rw [gv_eq, e]
  rcases hg with rfl | ⟨_, hp⟩
  · rfl
  · obtain ⟨ht', hr', ha'⟩ := putV_ok hp
    have hx : L a ++ L m = L (a ++ m) := (L_append a m).symm
    rw [ha', ha] at hx
    obtain ⟨hn, _⟩ := body_prefix ht hr ht' hr' hx
    have : (L m).length = 0 := by rw [hn]; rfl
    rw [L_length] at this
    omega
theorem kid_cut {kid : Int} {t a : ByteArray} (h : putK kid t = (a, 0)) (i : Nat) (hi : i < a.size) : cell_GetKid.f (a.extract 0 i) = some (0, ⟨#[]⟩, 3) := by
  obtain ⟨h1, h2, ht, ha⟩ := putK_ok h
  have hz := kid_size kid t ht
  rw [← ha] at hz
  obtain ⟨r, e, hg⟩ := getKid_tot (a.extract 0 i) (by rw [ByteArray.size_extract]; omega)
  rw [gk_eq, e]
  rcases hg with rfl | ⟨_, hp⟩
  · rfl
  · obtain ⟨h1', h2', ht', ha'⟩ := putK_ok hp
    have hx := extract_left a i
    rw [ha', ha] at hx
    obtain ⟨hn, _⟩ := kid_prefix h1' h2' ht' h1 h2 ht hx
    rw [← ha] at hn
    have : ((L a).drop i).length = 0 := by rw [hn]; rfl
    rw [List.length_drop, L_length] at this
    omega
theorem kid_more {kid : Int} {t a : ByteArray} (h : putK kid t = (a, 0)) (m : ByteArray) (hm : m.size = 1) : cell_GetKid.f (a ++ m) = some (0, ⟨#[]⟩, 3) := by
  obtain ⟨h1, h2, ht, ha⟩ := putK_ok h
  have hz := kid_size kid t ht
  rw [← ha] at hz
  obtain ⟨r, e, hg⟩ := getKid_tot (a ++ m) (by rw [ByteArray.size_append]; omega)
  rw [gk_eq, e]
  rcases hg with rfl | ⟨_, hp⟩
  · rfl
  · obtain ⟨h1', h2', ht', ha'⟩ := putK_ok hp
    have hx : L a ++ L m = L (a ++ m) := (L_append a m).symm
    rw [ha', ha] at hx
    obtain ⟨hn, _⟩ := kid_prefix h1 h2 ht h1' h2' ht' hx
    have : (L m).length = 0 := by rw [hn]; rfl
    rw [L_length] at this
    omega

theorem putV_size {t : ByteArray} {o : Bool} {S : ByteArray} {l p : Int} {a : ByteArray} (h : putV t o S l p = (a, 0)) : 0 < a.size ∧ a.size ≤ 500 := by
  obtain ⟨ht, hr, ha⟩ := putV_ok h
  have hz := body_size t o S l p ht hr
  have h1 := T_size t
  rw [ha]
  refine ⟨?_, hz⟩
  unfold body
  cases o <;> simp only [Bool.false_eq_true, if_false, if_true, ByteArray.size_append] <;> omega
theorem putK_size {kid : Int} {t a : ByteArray} (h : putK kid t = (a, 0)) : 4 < a.size ∧ a.size ≤ 200 := by
  obtain ⟨h1, h2, ht, ha⟩ := putK_ok h
  have hz := kid_size kid t ht
  have h3 := T_size t
  have h4 := F_size kid.toNat
  rw [ha]
  refine ⟨?_, hz⟩
  rw [ByteArray.size_append]
  omega
theorem putV_cases (t : ByteArray) (o : Bool) (S : ByteArray) (l p : Int) (ht : t.size ≤ 128) : (right o S l p = true ∧ ∃ a, putV t o S l p = (a, 0)) ∨ (right o S l p = false ∧ putV t o S l p = (⟨#[]⟩, 3)) := by
  unfold putV
  cases right o S l p
  · exact .inr ⟨rfl, by simp⟩
  · exact .inl ⟨rfl, _, by rw [if_pos ⟨ht, rfl⟩]⟩
theorem putK_cases (kid : Int) (t : ByteArray) (ht : t.size ≤ 128) : ((1 ≤ kid ∧ kid ≤ 4095) ∧ ∃ a, putK kid t = (a, 0)) ∨ (¬ (1 ≤ kid ∧ kid ≤ 4095) ∧ putK kid t = (⟨#[]⟩, 3)) := by
  unfold putK
  by_cases h : 1 ≤ kid ∧ kid ≤ 4095
  · exact .inl ⟨h, _, by rw [if_pos ⟨h.1, h.2, ht⟩]⟩
  · exact .inr ⟨h, by rw [if_neg (by omega)]⟩

theorem tmod_small (x : Int) (hx : (Lit.int .u16 x).wf = true) (n : Nat) (hn : 0 < n) : Int.tmod (wrap64 x) (n : Int) = ((x.toNat % n : Nat) : Int) := by
  simp [Lit.wf, IntKind.min, IntKind.max, IntKind.signed, IntKind.bits] at hx
  have e : wrap64 x = ((x.toNat : Nat) : Int) := by unfold wrap64; omega
  rw [e, Int.tmod_eq_emod_of_nonneg (by omega)]
  rfl

/-- what stands at the end of the law -/
theorem last_some (o : Bool) (S : ByteArray) (l p kid : Int) (e f : Int) (he : (e == 0) = right o S l p) (hf : (f == 0) = decide (1 ≤ kid ∧ kid ≤ 4095)) :
    ((cell_Right.f o S l p).bind fun t350 => (if ((e == 0) == t350) = true then (if kid ≥ 1 then (if ((f == 0) == (decide (kid ≤ 4095))) = true then ((withylaw09_fixed.f).bind fun t351 => (some t351)) else (some false)) else (if ((f == 0) == false) = true then ((withylaw09_fixed.f).bind fun t352 => (some t352)) else (some false))) else (some false))) = some true := by
  rw [right_some, he, hf]
  simp only [Option.bind_some, beq_self_eq_true, if_true]
  by_cases h1 : kid ≥ 1
  · rw [if_pos h1, if_pos]
    · rfl
    · by_cases h2 : kid ≤ 4095
      · simp [h1, h2]
      · simp [h2]
  · rw [if_neg h1, if_pos]
    · rfl
    · have : ¬ (1 ≤ kid) := h1
      simp [this]

theorem cut_kid (o : Bool) (S : ByteArray) (l p : Int) (x c kid : Int) (hx : (Lit.int .u16 x).wf = true) (s m : ByteArray) (hs : s.size ≤ 128) (hm : m.size = 1) (e : Int) (he : (e == 0) = right o S l p) (k : Nat) (hk : 100 < k) :
    withylaw09_CellCut.j1 k s m e o S l p x c kid = some true := by
  obtain ⟨j, rfl⟩ : ∃ j, k = j + 3 := ⟨k - 3, by omega⟩
  rw [withylaw09_CellCut.j1, putKid_some _ (by omega)]
  simp only [Option.bind_some]
  rcases putK_cases kid s hs with ⟨hr, b, hb⟩ | ⟨hr, hb⟩
  · have hz := putK_size hb
    rw [hb]
    simp only [if_true]
    rw [show decide ((b.size : Int) > 0) = true from decide_eq_true (by omega), withylaw09_CellCut.j2]
    simp only [if_true]
    have ht := tmod_small x hx b.size (by omega)
    have hl := Nat.mod_lt x.toNat (show 0 < b.size by omega)
    rw [ht, if_neg (by omega), if_pos (by omega), if_pos (by omega), Int.toNat_natCast, kid_cut hb _ hl]
    simp only [Option.bind_some]
    rw [if_pos (by omega), kid_more hb m hm]
    simp only [Option.bind_some, if_true]
    rw [withylaw09_CellCut.j3]
    rw [if_neg (by decide)]
    exact last_some o S l p kid e 0 he (by rw [decide_eq_true hr]; rfl)
  · rw [hb]
    simp only [show ¬ ((3 : Int) = 0) by decide, if_false]
    rw [withylaw09_CellCut.j2, if_neg (by decide)]
    exact last_some o S l p kid e 3 he (by rw [decide_eq_false hr]; rfl)

theorem cut_pure (a0 : ByteArray) (o : Bool) (S : ByteArray) (l p : Int) (x c kid : Int) (hx : (Lit.int .u16 x).wf = true) : withylaw09_CellCut.f 200 a0 o S l p x c kid = some true := by
  unfold withylaw09_CellCut.f
  obtain ⟨s, e1, h1, h2, h3⟩ := cut_tells a0 128 (by omega)
  obtain ⟨S', e2, h4, h5, h6⟩ := cut_tells S 300 (by omega)
  rw [if_pos h2, if_pos h3, e1]
  unfold withylaw09_Cut.f
  rw [if_pos h5, if_pos h6, e2]
  simp only [Option.bind_some]
  rw [putValue_some 200 (by omega)]
  simp only [Option.bind_some]
  have hm : (strOfNums [c]).size = 1 := rfl
  rcases putV_cases s o S' l p (by omega) with ⟨hr, a, ha⟩ | ⟨hr, ha⟩
  · have hz := putV_size ha
    rw [ha]
    simp only [if_true]
    rw [show decide ((a.size : Int) > 0) = true from decide_eq_true (by omega), withylaw09_CellCut.j0]
    simp only [if_true]
    have ht := tmod_small x hx a.size (by omega)
    have hl := Nat.mod_lt x.toNat (show 0 < a.size by omega)
    rw [ht, if_neg (by omega), if_pos (by omega), if_pos (by omega), Int.toNat_natCast, value_cut ha _ hl]
    simp only [Option.bind_some]
    rw [if_pos (by omega), value_more ha _ hm]
    simp only [Option.bind_some, if_true]
    exact cut_kid o S' l p x c kid hx s _ (by omega) hm 0 (by rw [hr]; rfl) _ (by omega)
  · rw [ha]
    simp only [show ¬ ((3 : Int) = 0) by decide, if_false]
    rw [withylaw09_CellCut.j0, if_neg (by decide)]
    exact cut_kid o S' l p x c kid hx s _ (by omega) hm 3 (by rw [hr]; rfl) _ (by omega)

theorem cut_walk (a0 : ByteArray) (o : Bool) (S : ByteArray) (l p : Int) (x c kid : Int) (hl : (Lit.int .i64 l).wf = true) (hp : (Lit.int .i64 p).wf = true) (hx : (Lit.int .u16 x).wf = true) (hc : (Lit.int .u8 c).wf = true) (hk : (Lit.int .i64 kid).wf = true) (W : World) :
    Calls Try.prog 5 #[.string a0, .agg #[.bool o, .string S, .int .i64 l, .int .i64 p], .agg #[.int .u16 x, .int .u8 c, .int .i64 kid]] W fun e w' => e = .returned (.bool true) ∧ Below W.heap.size W w' :=
  withylaw09_CellCut.calls 200 a0 o S l p x c kid true W (cut_pure a0 o S l p x c kid hx)
end Go.Proofs.Ytmpfnniekemkbaa.Pure
