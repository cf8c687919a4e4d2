/-
  SumLinear, in plain words: the sum of two texts, taken by exclusive or, is both sums and that of as many zeros, taken by exclusive or.
-/
import Derived.Test.YtlplhnfaohbkcaaPlain
import Derived.Test.YtlplhnfaohbkcaaQx3
namespace Go.Proofs.Ytlplhnfaohbkcaa.Pure
open Go.RowKit Go.Proofs.Ytlplhnfaohbkcaa.Q Go.Proofs.YtlplhnfaohbkcaaW.PrintWords Go.Proofs.YtlplhnfaohbkcaaW.PrintLast Go.Proofs.YtlplhnfaohbkcaaW.PrintMore

/-- bytes as the print's numbers -/
def nums (l : List UInt8) : List Int := l.map fun b => (b.toNat : Int)
theorem nums_str (l : List UInt8) : L (strOfNums (nums l)) = l := by
  unfold nums strOfNums L
  have h : ((fun n : Int => UInt8.ofNat n.toNat) ∘ fun b : UInt8 => (b.toNat : Int)) = id := by
    funext b
    simp
  simp only [List.map_map]
  rw [h]
  simp
theorem nums_snoc (l : List UInt8) (b : UInt8) : nums l ++ [(b.toNat : Int)] = nums (l ++ [b]) := by simp [nums]
theorem nums_length (l : List UInt8) : (nums l).length = l.length := by simp [nums]

theorem repeat_l (n d : Nat) : ∀ (k i : Nat), n ≤ 400 → i + d = n → d < k → withyref01_Repeat.l0 k 0 n (nums (List.replicate i 0)) (i : Int) = some (strOfNums (nums (List.replicate n 0))) := by
  induction d with
  | zero =>
    intro k i hn hi hk
    obtain ⟨k, rfl⟩ : ∃ m, k = m + 1 := ⟨k - 1, by omega⟩
    simp only [withyref01_Repeat.l0]
    rw [if_neg (by omega), show i = n by omega]
  | succ d ih =>
    intro k i hn hi hk
    obtain ⟨k, rfl⟩ : ∃ m, k = m + 1 := ⟨k - 1, by omega⟩
    have hw : wrap64 ((i : Int) + 1) = ((i + 1 : Nat) : Int) := by unfold wrap64; omega
    have hl : (nums (List.replicate i 0)).length = i := by rw [nums_length, List.length_replicate]
    have hs : nums (List.replicate i 0) ++ [(0 : Int)] = nums (List.replicate (i + 1) 0) := by
      have := nums_snoc (List.replicate i 0) 0
      rw [List.replicate_succ', ← this]; rfl
    simp only [withyref01_Repeat.l0]
    rw [if_pos (by omega), if_pos (by omega), hw, hs]
    exact ih k (i + 1) hn (by omega) (by omega)

theorem mix_take (s t : ByteArray) (i : Nat) (hs : i < s.size) (ht : i < t.size) : Sm.mix ((L s).take i) ((L t).take i) ++ [s[i] ^^^ t[i]] = Sm.mix ((L s).take (i + 1)) ((L t).take (i + 1)) := by
  have h1 : (L s).take (i + 1) = (L s).take i ++ [s[i]] := take_snoc s i hs
  have h2 : (L t).take (i + 1) = (L t).take i ++ [t[i]] := take_snoc t i ht
  rw [h1, h2]
  have : ∀ (l k : List UInt8) (a b : UInt8), l.length = k.length → Sm.mix l k ++ [a ^^^ b] = Sm.mix (l ++ [a]) (k ++ [b]) := by
    intro l
    induction l with
    | nil => intro k a b h; cases k with | nil => rfl | cons c k => simp at h
    | cons c l ih => intro k a b h; cases k with | nil => simp at h | cons d k => simp [Sm.mix, ih k a b (by simpa using h)]
  exact this _ _ _ _ (by simp only [List.length_take, L_length]; omega)

theorem SumLinear : withylaw02_SumLinear.Pure := by
  intro s t h0 h1
  obtain ⟨n, hn⟩ : ∃ n : Nat, mn (mn (s.size : Int) (t.size : Int)) 400 = (n : Int) ∧ n ≤ s.size ∧ n ≤ t.size ∧ n ≤ 400 := by
    refine ⟨(mn (mn (s.size : Int) (t.size : Int)) 400).toNat, ?_⟩
    unfold mn
    split <;> split <;> (try split) <;> omega
  obtain ⟨hm, hns, hnt, hn4⟩ := hn
  have core : ∀ (d k i : Nat), i + d = n → d + 500 < k → withylaw02_SumLinear.l0 k s t n (nums (Sm.mix ((L s).take i) ((L t).take i))) (i : Int) = some true := by
    intro d
    induction d with
    | zero =>
      intro k i hi hk
      obtain ⟨k, rfl⟩ : ∃ m, k = m + 1 := ⟨k - 1, by omega⟩
      obtain rfl : i = n := by omega
      have hl1 : ((L s).take i).length = i := by rw [List.length_take, L_length]; omega
      have hl2 : ((L t).take i).length = i := by rw [List.length_take, L_length]; omega
      have hml : (Sm.mix ((L s).take i) ((L t).take i)).length = i := by rw [Sm.mix_length _ _ (by omega), hl1]
      have e1 : L (s.extract 0 (i : Int).toNat) = (L s).take i := by simp [L]
      have e2 : L (t.extract 0 (i : Int).toNat) = (L t).take i := by simp [L]
      have z0 : (strOfNums (nums (Sm.mix ((L s).take i) ((L t).take i)))).size ≤ 100000 := by rw [← L_length, nums_str, hml]; omega
      have z1 : (s.extract 0 (i : Int).toNat).size ≤ 100000 := by rw [← L_length, e1, hl1]; omega
      have z2 : (t.extract 0 (i : Int).toNat).size ≤ 100000 := by rw [← L_length, e2, hl2]; omega
      have z3 : (strOfNums (nums (List.replicate i 0))).size ≤ 100000 := by rw [← L_length, nums_str, List.length_replicate]; omega
      have hr : withyref01_Repeat.f k 0 (i : Int) = some (strOfNums (nums (List.replicate i 0))) := repeat_l i i k 0 (by omega) (by omega) (by omega)
      have hmix := Sm.more_mix ((L s).take i) ((L t).take i) (by omega)
      rw [hl1] at hmix
      simp only [withylaw02_SumLinear.l0]
      rw [if_neg (by omega), table_some _ z0, nums_str, Option.bind_some, if_pos (by omega), if_pos (by omega), table_some _ z1, e1, Option.bind_some, if_pos (by omega), table_some _ z2, e2, Option.bind_some, hr, Option.bind_some,
        bits_some _ z3, nums_str, Option.bind_some, u32_xor _ _ (Sm.more_lt _ _) (Sm.more_lt _ _), u32_xor _ _ (Sm.xor_lt (Sm.more_lt _ _) (Sm.more_lt _ _)) (Sm.more_lt _ _), ← hmix, if_pos rfl, fixed_some]
      rfl
    | succ d ih =>
      intro k i hi hk
      obtain ⟨k, rfl⟩ : ∃ m, k = m + 1 := ⟨k - 1, by omega⟩
      have hw : wrap64 ((i : Int) + 1) = ((i + 1 : Nat) : Int) := by unfold wrap64; omega
      have hml : (nums (Sm.mix ((L s).take i) ((L t).take i))).length = i := by
        rw [nums_length, Sm.mix_length _ _ (by rw [List.length_take, List.length_take, L_length, L_length]; omega), List.length_take, L_length]; omega
      have hx : bits .xor .u8 (s[i].toNat : Int) (t[i].toNat : Int) = ((s[i] ^^^ t[i]).toNat : Int) := by
        rw [u8_xor _ _ (Sm.byte_lt _) (Sm.byte_lt _), UInt8.toNat_xor]
      simp only [withylaw02_SumLinear.l0]
      rw [if_pos (by omega), if_pos (by omega), if_pos (by omega), if_pos (by omega), if_pos (by omega), bt_nat s i (by omega), bt_nat t i (by omega), hx, nums_snoc, mix_take s t i (by omega) (by omega), hw]
      exact ih k (i + 1) (by omega) (by omega)
  refine ⟨1000, ?_⟩
  unfold withylaw02_SumLinear.f
  rw [hm]
  exact core n 1000 0 (by omega) (by omega)

end Go.Proofs.Ytlplhnfaohbkcaa.Pure
