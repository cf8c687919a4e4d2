/-
  WordLists, in plain words: lists of as many numbers, each put behind the other, are in the order of the lists.
-/
import Derived.Test.YtnjfgmabalmgnaaRead
import Derived.Test.YtnjfgmabalmgnaaQx12
namespace Go.Proofs.Ytnjfgmabalmgnaa.Pure
open Go.RowKit Go.Proofs.Ytnjfgmabalmgnaa.Q Go.Proofs.YtnjfgmabalmgnaaW.PrintWords Go.Proofs.YtnjfgmabalmgnaaW.PrintLast Go.Proofs.YtnjfgmabalmgnaaW.PrintMore

theorem less_nil_right (x : List UInt8) : Op.bytesLess x [] = false := by cases x <;> rfl
theorem less_self : ∀ x : List UInt8, Op.bytesLess x x = false
  | [] => rfl
  | a :: x => by simp [Op.bytesLess, less_self x]
theorem less_part {a b : List UInt8} (h : Wm.Part a b) : Op.bytesLess a b = true ∧ Op.bytesLess b a = false := by
  obtain ⟨p, a', b', x, y, rfl, rfl, hx⟩ := h
  induction p with
  | nil =>
    have h1 : x < y := UInt8.lt_iff_toNat_lt.2 hx
    have h2 : ¬ y < x := fun h => by have := UInt8.lt_iff_toNat_lt.1 h; omega
    have h3 : (y == x) = false := by rw [beq_eq_false_iff_ne]; intro e; subst e; omega
    simp [Op.bytesLess, h1, h2, h3]
  | cons c p ih => simp [Op.bytesLess, ih]

/-- what the loop knows: the texts are alike, or part, as c says -/
def Knows (s t : List UInt8) (c : Int) : Prop := (c = 0 ∧ s = t) ∨ (c = -1 ∧ Wm.Part s t) ∨ (c = 1 ∧ Wm.Part t s)
theorem Knows.ends {s t : ByteArray} {c : Int} (h : Knows (L s) (L t) c) : ((Op.bytesLess s.toList t.toList) == (decide (c < 0))) = true ∧ ((s.toList == t.toList) == (c == 0)) = true := by
  rw [L_toList, L_toList]
  rcases h with ⟨rfl, e⟩ | ⟨rfl, hp⟩ | ⟨rfl, hp⟩
  · rw [e, less_self]; simp
  · have h1 := less_part hp
    have h2 : (L s == L t) = false := by rw [beq_eq_false_iff_ne]; exact hp.ne
    rw [h1.1, h2]; exact ⟨rfl, rfl⟩
  · have h1 := less_part hp
    have h2 : (L s == L t) = false := by rw [beq_eq_false_iff_ne]; exact fun e => hp.ne e.symm
    rw [h1.2, h2]; exact ⟨rfl, rfl⟩

theorem lists_core (x y : List Int) (hx : ∀ v ∈ x, (Lit.int .u64 v).wf = true) (hy : ∀ v ∈ y, (Lit.int .u64 v).wf = true) (m : Nat) (hm8 : m ≤ 8) (hmx : m ≤ x.length) (hmy : m ≤ y.length) (d : Nat) :
    ∀ (k i : Nat) (s t : ByteArray) (c : Int), i + d = m → s.size ≤ 9 * i → t.size ≤ 9 * i → Knows (L s) (L t) c → 2 * d + 40 < k → withylaw01_WordLists.l0 k x y (m : Int) s t c (i : Int) = some true := by
  induction d with
  | zero =>
    intro k i s t c hi hs ht hK hk
    obtain ⟨k, rfl⟩ : ∃ q, k = q + 1 := ⟨k - 1, by omega⟩
    obtain ⟨e1, e2⟩ := hK.ends
    simp only [withylaw01_WordLists.l0]
    rw [if_neg (by omega), if_pos e1, if_pos e2, fixed_some]
    rfl
  | succ d ih =>
    intro k i s t c hi hs ht hK hk
    obtain ⟨k, rfl⟩ : ∃ q, k = q + 2 := ⟨k - 2, by omega⟩
    have hix : i < x.length := by omega
    have hiy : i < y.length := by omega
    have rx : rd x (i : Int) = x[i] := by unfold rd; simp [List.getD, hix]
    have ry : rd y (i : Int) = y[i] := by unfold rd; simp [List.getD, hiy]
    obtain ⟨a, ha, ha64⟩ := u64_nat (hx x[i] (List.getElem_mem hix))
    obtain ⟨b, hb, hb64⟩ := u64_nat (hy y[i] (List.getElem_mem hiy))
    rw [ha] at rx
    rw [hb] at ry
    have za := B_size_le a
    have zb := B_size_le b
    have zs : (s ++ B a).size = s.size + (B a).size := ByteArray.size_append
    have zt : (t ++ B b).size = t.size + (B b).size := ByteArray.size_append
    have q0 : (i : Int) < (m : Int) := by omega
    have q1 : (i : Int) < (x.length : Int) := by omega
    have q2 : (i : Int) < (y.length : Int) := by omega
    have q3 : s.size + (B a).size ≤ 9223372036854775807 := by omega
    have q4 : t.size + (B b).size ≤ 9223372036854775807 := by omega
    have z1 : (s ++ B a).size ≤ 9 * (i + 1) := by omega
    have z2 : (t ++ B b).size ≤ 9 * (i + 1) := by omega
    have go := fun c' (hK' : Knows (L (s ++ B a)) (L (t ++ B b)) c') => ih k (i + 1) (s ++ B a) (t ++ B b) c' (by omega) z1 z2 hK' (by omega)
    have hk1 : 30 < k + 1 := by omega
    have hi5 : i ≤ 5000 := by omega
    have keep : c ≠ 0 → Knows (L (s ++ B a)) (L (t ++ B b)) c := by
      intro hc
      rw [L_append, L_append]
      rcases hK with ⟨e, _⟩ | ⟨e, hp⟩ | ⟨e, hp⟩
      · exact absurd e hc
      · exact .inr (.inl ⟨e, hp.behind _ _⟩)
      · exact .inr (.inr ⟨e, hp.behind _ _⟩)
    simp only [withylaw01_WordLists.l0]
    rw [if_pos q0, if_pos (Int.natCast_nonneg _), if_pos q1, rx, put_some (k + 1) a ha64 hk1, Option.bind_some, if_pos q3, if_pos q2, ry, put_some (k + 1) b hb64 hk1, Option.bind_some, if_pos q4]
    by_cases hc : c = 0
    · have est : L s = L t := by
        rcases hK with ⟨_, e⟩ | ⟨e, _⟩ | ⟨e, _⟩
        · exact e
        · omega
        · omega
      rw [if_pos hc]
      simp only [withylaw01_WordLists.j1]
      by_cases hab : a = b
      · have hn : ((a : Int) != (b : Int)) = false := by rw [hab]; simp
        rw [hn, if_neg (by simp), w_one i hi5]
        refine go c (.inl ⟨hc, ?_⟩)
        rw [L_append, L_append, est, hab]
      · have hn : ((a : Int) != (b : Int)) = true := by rw [bne_iff_ne]; omega
        rw [hn, if_pos rfl, if_pos (Int.natCast_nonneg _), if_pos q1, if_pos q2, rx, ry, w_one i hi5]
        by_cases hlt : a < b
        · rw [if_pos (by omega)]
          refine go (-1) (.inr (.inl ⟨rfl, ?_⟩))
          rw [L_append, L_append, est, L_B, L_B]
          exact (Wm.enc_part hlt hb64).ahead _
        · rw [if_neg (by omega)]
          refine go 1 (.inr (.inr ⟨rfl, ?_⟩))
          rw [L_append, L_append, est, L_B, L_B]
          exact (Wm.enc_part (by omega) ha64).ahead _
    · rw [if_neg hc]
      simp only [withylaw01_WordLists.j1]
      rw [if_neg (by simp), w_one i hi5]
      exact go c (keep hc)

theorem WordLists : withylaw01_WordLists.Pure := by
  intro x y _ _ hx _ _ hy
  obtain ⟨m, hm, hmx, hmy, hm8⟩ : ∃ m : Nat, mn (mn (x.length : Int) (y.length : Int)) 8 = (m : Int) ∧ m ≤ x.length ∧ m ≤ y.length ∧ m ≤ 8 := by
    refine ⟨(mn (mn (x.length : Int) (y.length : Int)) 8).toNat, ?_⟩
    unfold mn
    split <;> split <;> (try split) <;> omega
  refine ⟨200, ?_⟩
  unfold withylaw01_WordLists.f
  rw [hm]
  exact lists_core x y hx hy m hm8 hmx hmy m 200 0 ⟨#[]⟩ ⟨#[]⟩ 0 (by omega) (by decide) (by decide) (.inl ⟨rfl, rfl⟩) (by omega)
end Go.Proofs.Ytnjfgmabalmgnaa.Pure
