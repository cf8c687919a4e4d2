/-
  CellStrip: the walk joined with what its calls come to: a suffix cut at its head makes a cell that is shorter by as much.
-/
import Derived.Test.YtmpfnniekemkbaaStrip
namespace Go.Proofs.Ytmpfnniekemkbaa.Strip
open Go.RowKit Go.Proofs.Ytmpfnniekemkbaa.Q Go.Proofs.Ytmpfnniekemkbaa.Pure
open Go.Proofs.YtmpfnniekemkbaaW.PrintWords Go.Proofs.YtmpfnniekemkbaaW.PrintMore
set_option linter.unusedVariables false

theorem calls_put (t : ByteArray) (o : Bool) (S : ByteArray) (l p : Int) (W : World) :
    Calls Try.prog 10 #[.string t, .agg #[.bool o, .string S, .int .i64 l, .int .i64 p]] W fun e' w' => e' = .returned (.tuple #[.string (putV t o S l p).1, .int .i64 (putV t o S l p).2]) ∧ Below W.heap.size W w' :=
  cell_PutValue.calls 100 t o S l p _ _ W (putValue_some 100 (by omega) t o S l p)
theorem calls_kid (kid : Int) (t : ByteArray) (W : World) :
    Calls Try.prog 13 #[.int .i64 kid, .string t] W fun e' w' => e' = .returned (.tuple #[.string (putK kid t).1, .int .i64 (putK kid t).2]) ∧ Below W.heap.size W w' :=
  cell_PutKid.calls 100 kid t _ _ W (putKid_some 100 (by omega) kid t)

theorem enc_one (n : Nat) (h : n ≤ 240) : (Wm.enc n).length = 1 := by
  unfold Wm.enc
  rw [if_pos h]
  rfl
theorem T_one (u : ByteArray) (hu : u.size ≤ 128) : (T u).size = 1 + u.size := by
  rw [← L_length, T_list, List.length_append, enc_one _ (by omega), L_length]
theorem cut_all (a : ByteArray) (i : Nat) : L (a.extract i a.size) = (L a).drop i := by
  rw [L_extract, List.take_of_length_le]
  rw [List.length_drop, L_length]
  omega
theorem T_drop (u R : ByteArray) (hu : u.size ≤ 128) (n : Nat) (hn : n ≤ u.size) : (L (T u ++ R)).drop (1 + n) = (L u).drop n ++ L R := by
  rw [L_append, T_list, List.append_assoc, ← List.drop_drop, List.drop_left' (enc_one u.size (by omega)), List.drop_append_of_le_length (by rw [L_length]; exact hn)]
theorem strip_bytes (u v R : ByteArray) (hu : u.size ≤ 128) (n : Nat) (hn : n ≤ u.size) (hv : u.extract n u.size = v) :
    (T u ++ R).extract (1 + n) (T u ++ R).size = (T v ++ R).extract 1 (T v ++ R).size ∧ (T u ++ R).size = (T v ++ R).size + n ∧ v.size + n = u.size := by
  have hv2 : v.size + n = u.size := by rw [← hv, ByteArray.size_extract]; omega
  have e : L v = (L u).drop n := by rw [← hv, cut_all]
  refine ⟨?_, ?_, hv2⟩
  · apply L_inj
    rw [cut_all, cut_all, T_drop u R hu n hn, T_drop v R (by omega) 0 (by omega), e, List.drop_zero]
  · rw [ByteArray.size_append, ByteArray.size_append, T_one u hu, T_one v (by omega)]
    omega

def tailV (o : Bool) (S : ByteArray) (l p : Int) : ByteArray := if o then ⟨#[1]⟩ ++ (B l.toNat ++ F p.toNat) else ⟨#[0]⟩ ++ T S
theorem body_tail (t : ByteArray) (o : Bool) (S : ByteArray) (l p : Int) : body t o S l p = T t ++ tailV o S l p := by
  unfold body tailV
  cases o <;> simp only [Bool.false_eq_true, if_false, if_true, ByteArray.append_assoc]

theorem strip_value (u v : ByteArray) (o : Bool) (S : ByteArray) (l p : Int) (hu : u.size ≤ 128) (n : Nat) (hn : n ≤ u.size) (hv : u.extract n u.size = v) :
    (putV v o S l p).2 = (putV u o S l p).2 ∧ (putV u o S l p).1.size ≤ 1000 ∧ ((putV u o S l p).2 = 3 ∨ ((putV u o S l p).2 = 0 ∧ (putV u o S l p).1.size = (putV v o S l p).1.size + n ∧ 1 + u.size ≤ (putV u o S l p).1.size ∧ 1 ≤ (putV v o S l p).1.size ∧
      (putV u o S l p).1.extract (1 + n) (putV u o S l p).1.size = (putV v o S l p).1.extract 1 (putV v o S l p).1.size)) := by
  obtain ⟨h1, h2, h3⟩ := strip_bytes u v (tailV o S l p) hu n hn hv
  cases hr : right o S l p with
  | false =>
    have e1 : putV u o S l p = (⟨#[]⟩, 3) := by unfold putV; rw [if_neg (by rw [hr]; simp)]
    have e2 : putV v o S l p = (⟨#[]⟩, 3) := by unfold putV; rw [if_neg (by rw [hr]; simp)]
    rw [e1, e2]
    exact ⟨rfl, Nat.zero_le _, .inl rfl⟩
  | true =>
    have e1 : putV u o S l p = (T u ++ tailV o S l p, 0) := by unfold putV; rw [if_pos ⟨hu, hr⟩, body_tail]
    have e2 : putV v o S l p = (T v ++ tailV o S l p, 0) := by unfold putV; rw [if_pos ⟨by omega, hr⟩, body_tail]
    have hz := body_size u o S l p hu hr
    rw [body_tail] at hz
    rw [e1, e2]
    refine ⟨rfl, by show (T u ++ tailV o S l p).size ≤ 1000; omega, .inr ⟨rfl, h2, ?_, ?_, h1⟩⟩
    · show 1 + u.size ≤ (T u ++ tailV o S l p).size
      rw [ByteArray.size_append, T_one u hu]
      omega
    · show 1 ≤ (T v ++ tailV o S l p).size
      rw [ByteArray.size_append, T_one v (by omega)]
      omega

theorem strip_kid (u v : ByteArray) (kid : Int) (hu : u.size ≤ 128) (n : Nat) (hn : n ≤ u.size) (hv : u.extract n u.size = v) :
    (putK kid v).2 = (putK kid u).2 ∧ (putK kid u).1.size ≤ 1000 ∧ ((putK kid u).2 = 3 ∨ ((putK kid u).2 = 0 ∧ (putK kid u).1.size = (putK kid v).1.size + n ∧ 5 ≤ (putK kid v).1.size ∧ (putK kid u).1.extract 0 4 = (putK kid v).1.extract 0 4 ∧
      (putK kid u).1.extract (5 + n) (putK kid u).1.size = (putK kid v).1.extract 5 (putK kid v).1.size)) := by
  obtain ⟨h1, h2, h3⟩ := strip_bytes u v ⟨#[]⟩ hu n hn hv
  by_cases hk : 1 ≤ kid ∧ kid ≤ 4095
  · have e1 : putK kid u = (F kid.toNat ++ T u, 0) := by unfold putK; rw [if_pos ⟨hk.1, hk.2, hu⟩]
    have e2 : putK kid v = (F kid.toNat ++ T v, 0) := by unfold putK; rw [if_pos ⟨hk.1, hk.2, by omega⟩]
    have hF : (L (F kid.toNat)).length = 4 := by rw [L_length, F_size]
    have head : ∀ t : ByteArray, L ((F kid.toNat ++ t).extract 0 4) = L (F kid.toNat) := fun t => by
      rw [L_extract, L_append, List.drop_zero, List.take_left' hF]
    have drop : ∀ (t : ByteArray) (i : Nat), (L (F kid.toNat ++ t)).drop (4 + i) = (L t).drop i := fun t i => by
      rw [L_append, ← List.drop_drop, List.drop_left' hF]
    have one : ∀ (t : ByteArray), L (t ++ ⟨#[]⟩) = L t := fun t => by rw [L_append]; exact List.append_nil _
    have s1 : (F kid.toNat ++ T u).size = 5 + u.size := by rw [ByteArray.size_append, F_size, T_one u hu]; omega
    have s2 : (F kid.toNat ++ T v).size = 5 + v.size := by rw [ByteArray.size_append, F_size, T_one v (by omega)]; omega
    rw [e1, e2]
    refine ⟨rfl, by show (F kid.toNat ++ T u).size ≤ 1000; omega, .inr ⟨rfl, ?_, ?_, ?_, ?_⟩⟩
    · show (F kid.toNat ++ T u).size = (F kid.toNat ++ T v).size + n
      omega
    · show 5 ≤ (F kid.toNat ++ T v).size
      omega
    · apply L_inj
      show L ((F kid.toNat ++ T u).extract 0 4) = L ((F kid.toNat ++ T v).extract 0 4)
      rw [head, head]
    · apply L_inj
      show L ((F kid.toNat ++ T u).extract (5 + n) (F kid.toNat ++ T u).size) = L ((F kid.toNat ++ T v).extract 5 (F kid.toNat ++ T v).size)
      rw [cut_all, cut_all, show 5 + n = 4 + (1 + n) by omega, drop, show (5 : Nat) = 4 + (1 + 0) from rfl, drop, ← one (T u), T_drop u ⟨#[]⟩ hu n hn, ← one (T v), T_drop v ⟨#[]⟩ (by omega) 0 (by omega), List.drop_zero, ← hv, cut_all]
  · have e1 : putK kid u = (⟨#[]⟩, 3) := by unfold putK; rw [if_neg (by omega)]
    have e2 : putK kid v = (⟨#[]⟩, 3) := by unfold putK; rw [if_neg (by omega)]
    rw [e1, e2]
    exact ⟨rfl, Nat.zero_le _, .inl rfl⟩

theorem walk (a0 : ByteArray) (o : Bool) (S : ByteArray) (l p : Int) (x c kid : Int) (hl : (Lit.int .i64 l).wf = true) (hp : (Lit.int .i64 p).wf = true) (hx : (Lit.int .u16 x).wf = true) (hc : (Lit.int .u8 c).wf = true) (hk : (Lit.int .i64 kid).wf = true) (W : World) :
    Calls Try.prog 8 #[.string a0, .agg #[.bool o, .string S, .int .i64 l, .int .i64 p], .agg #[.int .u16 x, .int .u8 c, .int .i64 kid]] W fun e w' => e = .returned (.bool true) ∧ Below W.heap.size W w' := by
  obtain ⟨S', e2, h4, h5, h6⟩ := cut_tells S 300 (by omega)
  obtain ⟨j, hj, hjs, hj2⟩ : ∃ j : Nat, (if 128 < (a0.size : Int) then 128 else (a0.size : Int)) = (j : Int) ∧ j ≤ a0.size ∧ j ≤ 128 := by
    by_cases h : 128 < (a0.size : Int)
    · exact ⟨128, by rw [if_pos h]; rfl, by omega, by omega⟩
    · exact ⟨a0.size, by rw [if_neg h], by omega, by omega⟩
  obtain ⟨u, hu⟩ : ∃ u, a0.extract 0 j = u := ⟨_, rfl⟩
  have hu2 : u.size ≤ 128 := by rw [← hu, ByteArray.size_extract]; omega
  have hn := tmod_small x hx (u.size + 1) (by omega)
  have hnl := Nat.mod_lt x.toNat (show 0 < u.size + 1 by omega)
  generalize x.toNat % (u.size + 1) = n at hn hnl
  obtain ⟨v, hv⟩ : ∃ v, u.extract n u.size = v := ⟨_, rfl⟩
  obtain ⟨q1, q2, q3⟩ := strip_value u v o S' l p hu2 n (by omega) hv
  obtain ⟨r1, r2, r3⟩ := strip_kid u v kid hu2 n (by omega) hv
  have c9 := fun W => withylaw09_Cut.calls o S l p o S' l p W (by unfold withylaw09_Cut.f; rw [if_pos h5, if_pos h6, e2])
  have cF := fun W => Hand.withylaw09_fixed.calls true W rfl
  have c10b := calls_put v o S' l p
  have c13b := calls_kid kid v
  rw [q1] at c10b
  rw [r1] at c13b
  exact strip_walk a0 u v S S' o l p x c kid j n (Lib.hid hj) hjs (Lib.hid hu) hu2 (Lib.hid hn) (by omega) (Lib.hid hv) _ _ _ _ _ _ (Lib.hid q3) q2 r2 (Lib.hid r3)
    (Lib.hid c9) (Lib.hid (calls_put u o S' l p)) (Lib.hid c10b) (Lib.hid (calls_kid kid u)) (Lib.hid c13b) (Lib.hid cF) W
end Go.Proofs.Ytmpfnniekemkbaa.Strip
