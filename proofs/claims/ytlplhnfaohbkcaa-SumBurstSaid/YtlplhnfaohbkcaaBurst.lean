/-
  The walk of SumBurst: bytes of which at most four, one behind the other, are turned.
-/
import Derived.Test.YtlplhnfaohbkcaaPlain
import Derived.Lib.ConvBytes
import Derived.Laws.BytesArg
import Derived.RegionTactic
import Derived.IntWalk
import Derived.BigRegion
import Derived.BigQuiet
namespace Go.Proofs.Ytlplhnfaohbkcaa.Burst
open Go.RowKit Go.Proofs.Ytlplhnfaohbkcaa.Pure Go.Proofs.Ytlplhnfaohbkcaa.Q
open Go.Proofs.YtlplhnfaohbkcaaW.PrintMore
attribute [local go_sem] max2_int min2_int max_two min_two

/-- the bytes behind k turns -/
def tw (l : List UInt8) (i : Nat) (x : List UInt8) : Nat → List UInt8
  | 0 => l
  | k + 1 => (tw l i x k).set (i + k) ((tw l i x k).getD (i + k) 0 ^^^ x.getD k 0)

/-- what holds in the loop: the bytes, the four, and nothing old has turned -/
structure Lo (w0 : World) (s : ByteArray) (x l : List UInt8) (w : World) : Prop where
  cells : ∀ j, j < s.size → w.cell? ⟨w0.heap.size + 1, j, none⟩ = some (.int .u8 (l.getD j 0).toNat)
  free : ∀ j, j < s.size → w.frozen? ⟨w0.heap.size + 1, j, none⟩ = false
  xs : ∀ j, j < 4 → w.cell? ⟨w0.heap.size, j, none⟩ = some (.int .u8 (x.getD j 0).toNat)
  below : Below w0.heap.size w0 w

theorem tw_length (l : List UInt8) (i : Nat) (x : List UInt8) : ∀ k, (tw l i x k).length = l.length
  | 0 => rfl
  | k + 1 => by rw [tw, List.length_set, tw_length l i x k]

theorem lo_step {w0 w : World} {s : ByteArray} {x l : List UInt8} {i k : Nat} (h : Lo w0 s x (tw l i x k) w) (hl : i + k < s.size) (hlen : l.length = s.size) (B X : UInt8)
    (hB : (tw l i x k).getD (i + k) 0 = B) (hX : x.getD k 0 = X) :
    Lo w0 s x (tw l i x (k + 1)) (w.setCell ⟨w0.heap.size + 1, i + k, none⟩ (.int .u8 ((B.toNat ^^^ X.toNat : Nat) : Int))).drew := by
  have hc := h.cells (i + k) hl
  refine ⟨fun j hj => ?_, fun j hj => ?_, fun j hj => ?_, ?_⟩
  · show (w.setCell _ _).cell? _ = _
    by_cases e : j = i + k
    · subst e
      rw [World.cell?_setCell_same _ _ _ hc]
      rw [tw, List.getD_eq_getElem?_getD, List.getElem?_set_self (by rw [tw_length]; omega), hB, hX]
      simp only [Option.getD_some, UInt8.toNat_xor]
    · rw [World.cell?_setCell_other _ _ _ _ (by first | (simp; done) | (simp; omega))]
      rw [tw, List.getD_eq_getElem?_getD, List.getElem?_set_ne (by omega), ← List.getD_eq_getElem?_getD]
      exact h.cells j hj
  · show (w.setCell _ _).frozen? _ = _
    rw [World.frozen?_setCell]; exact h.free j hj
  · show (w.setCell _ _).cell? _ = _
    rw [World.cell?_setCell_other _ _ _ _ (by simp)]
    exact h.xs j hj
  · exact (h.below.setCell (by simp) _).drew

theorem tw_window (l : List UInt8) (i : Nat) (x : List UInt8) : ∀ k, i + k ≤ l.length → ∃ m : List UInt8, m.length = k ∧ tw l i x k = l.take i ++ m ++ l.drop (i + k) := by
  intro k
  induction k with
  | zero => intro h; exact ⟨[], rfl, by simp [tw]⟩
  | succ k ih =>
    intro h
    obtain ⟨m, hm, e⟩ := ih (by omega)
    refine ⟨m ++ [(tw l i x k).getD (i + k) 0 ^^^ x.getD k 0], by simp [hm], ?_⟩
    rw [tw]
    generalize (tw l i x k).getD (i + k) 0 ^^^ x.getD k 0 = b
    rw [e]
    have hd : l.drop (i + k) = l[i + k]'(by omega) :: l.drop (i + (k + 1)) := List.drop_eq_getElem_cons (by omega)
    have hl : (l.take i ++ m).length = i + k := by simp [hm]; omega
    rw [hd, List.set_append_right _ _ (by omega), hl, Nat.sub_self, List.set_cons_zero]
    simp

/-- unlike bytes have unlike sums -/
theorem tw_more (l : List UInt8) (i : Nat) (x : List UInt8) (k : Nat) (hk : k ≤ 4) (h : i + k ≤ l.length) (he : Sm.more 0 (tw l i x k) = Sm.more 0 l) : tw l i x k = l := by
  obtain ⟨m, hm, e⟩ := tw_window l i x k h
  have h2 : l = l.take i ++ (l.drop i).take k ++ l.drop (i + k) := by
    rw [List.append_assoc, ← List.drop_drop, List.take_append_drop, List.take_append_drop]
  have hlen : ((l.drop i).take k).length = k := by rw [List.length_take, List.length_drop]; omega
  rw [e] at he ⊢
  have h3 : Sm.more 0 (l.take i ++ m ++ l.drop (i + k)) = Sm.more 0 (l.take i ++ (l.drop i).take k ++ l.drop (i + k)) := by rw [← h2]; exact he
  have h4 := Sm.more_burst (by omega) (by omega) h3
  rw [h4]
  exact h2.symm

theorem str_of (l : List UInt8) : L (strOfNums (l.map fun b => (b.toNat : Int))) = l := by
  unfold strOfNums L
  have h : ((fun n : Int => UInt8.ofNat n.toNat) ∘ fun b : UInt8 => (b.toNat : Int)) = id := by
    funext b
    simp
  simp only [List.map_map]
  rw [h]
  simp

/-- the bytes are read as a text -/
theorem lo_text {w0 w : World} {s : ByteArray} {x l : List UInt8} (h : Lo w0 s x l w) (hl : l.length = s.size) (cp : Nat) :
    ∃ t : ByteArray, L t = l ∧ (convert 31 9 (.slice (some ⟨w0.heap.size + 1, 0, none⟩) s.size cp)).run Try.prog w = .ok (.string t) w := by
  refine ⟨_, str_of l, run_convert_bytes_arg w 31 5 Try.underlying31 Try.underlying5 (w0.heap.size + 1) 0 s.size cp _ (by simpa using hl) (fun i hi => ?_) 9 Try.underlying9⟩
  rw [Nat.zero_add, h.cells i hi]
  have : i < l.length := by omega
  simp [List.getD, this]

theorem lo_start (w : World) (u : ByteArray) (x0 x1 x2 x3 : UInt8) : Lo w u [x0, x1, x2, x3] (L u) (Lib.bytesWorld (w.alloc (.cells #[.int .u8 x0.toNat, .int .u8 x1.toNat, .int .u8 x2.toNat, .int .u8 x3.toNat] 30)) 5 u) := by
  generalize hW : w.alloc (.cells #[.int .u8 x0.toNat, .int .u8 x1.toNat, .int .u8 x2.toNat, .int .u8 x3.toNat] 30) = W
  have hz : W.heap.size = w.heap.size + 1 := by rw [← hW]; simp
  refine ⟨fun j hj => ?_, fun j hj => ?_, fun j hj => ?_, ?_⟩
  · rw [← hz]; exact Lib.bytesWorld_cell W 5 u j hj
  · have h := Lib.bytesWorld_at_new W 5 u
    have hc : u.size ≤ (Lib.bytesCells W 5 u).size := by simp [Lib.bytesCells]
    rw [hz] at h
    simp only [World.frozen?, h]
    simp
    omega
  · rw [Lib.bytesWorld_old W 5 u _ (by rw [hz]; simp), ← hW]
    match j, hj with
    | 0, _ => simp
    | 1, _ => simp
    | 2, _ => simp
    | 3, _ => simp
  · refine ⟨?_, ?_, ?_, ?_, ?_⟩
    · rw [← hW]; rfl
    · rw [← hW]; rfl
    · rw [← hW]; rfl
    · rw [Lib.bytesWorld_size, hz]; omega
    · intro k hk
      rw [Lib.bytesWorld_at_old W 5 u k (by omega), ← hW]
      exact heap_alloc_old _ _ (by exact hk)

set_option maxHeartbeats 1000000 in
set_option maxRecDepth 100000 in
theorem burst_some (s u : ByteArray) (j : Nat) (hj : Hid ((if 400 < (s.size : Int) then 400 else (s.size : Int)) = (j : Int))) (hjs : j ≤ s.size) (hu : Hid (s.extract 0 j = u)) (hu0 : 0 < u.size) (hu4 : u.size ≤ 400)
    (a i : Nat) (ha : a < 65536) (hi : i < u.size) (hai : Hid ((a : Int) % (u.size : Int) = (i : Int))) (x0 x1 x2 x3 : UInt8) (w : World) :
    Calls Try.prog 5 #[.string s, .int .u16 a, .agg #[.int .u8 x0.toNat, .int .u8 x1.toNat, .int .u8 x2.toNat, .int .u8 x3.toNat]] w fun e w' => e = .returned (.bool true) ∧ Below w.heap.size w w' := by
  have h1 := hj.out
  have h2 := hu.out
  have h3 := hai.out
  have hz : ((u.size : Int) == 0) = false := by rw [beq_eq_false_iff_ne]; omega
  have hconv := fun W => Lib.run_convert_string_bytes (P := Try.prog) W 9 31 5 u Try.underlying9 Try.underlying31 Try.underlying5
  go_enter Try.func5, Try.ntmps5
  go_wp2
  clear hconv
  rw [h3]
  have hlo : Lo w u [x0, x1, x2, x3] (L u) (Lib.bytesWorld (w.alloc (.cells #[.int .u8 x0.toNat, .int .u8 x1.toNat, .int .u8 x2.toNat, .int .u8 x3.toNat] 30)) 5 u) := lo_start w u x0 x1 x2 x3
  have HL := Lib.hid hlo
  clear hlo
  generalize Lib.bytesWorld (w.alloc (.cells #[.int .u8 x0.toNat, .int .u8 x1.toNat, .int .u8 x2.toNat, .int .u8 x3.toNat] 30)) 5 u = w1 at *
  generalize grownCap (w.alloc (.cells #[.int .u8 x0.toNat, .int .u8 x1.toNat, .int .u8 x2.toNat, .int .u8 x3.toNat] 30)) u.size 0 5 = cp at *
  clear h1 h2 h3 hz
  go_loopw [9] (fun c wr => ∃ k : Nat, k ≤ 4 ∧ i + k ≤ u.size ∧ c = .int .i64 k ∧ Hid (Lo w u [x0, x1, x2, x3] (tw (L u) i [x0, x1, x2, x3] k) wr)) (fun c _ => 4 - (intOf c).toNat)
  case atStart => exact ⟨0, by omega, by omega, rfl, HL.out⟩
  case round =>
    obtain ⟨k, hk, hik, rfl, hH⟩ := hrel
    by_cases hlt : k < 4 ∧ i + k < u.size
    · obtain ⟨hk4, hku⟩ := hlt
      obtain ⟨B, hB⟩ : ∃ B : UInt8, (tw (L u) i [x0, x1, x2, x3] k).getD (i + k) 0 = B := ⟨_, rfl⟩
      obtain ⟨X, hX⟩ : ∃ X : UInt8, ([x0, x1, x2, x3] : List UInt8).getD k 0 = X := ⟨_, rfl⟩
      have hcb := hH.out.cells (i + k) hku
      have hfb := hH.out.free (i + k) hku
      have hcx := hH.out.xs k hk4
      rw [hB] at hcb
      rw [hX] at hcx
      have hst := Lib.hid (lo_step hH.out hku (L_length u) B X hB hX)
      clear hB hX
      have hx := u8_xor B.toNat X.toNat (Sm.byte_lt _) (Sm.byte_lt _)
      have hs1 : IntKind.i64.wrap ((i : Int) + (k : Int)) = (i : Int) + (k : Int) := IntWalk.i64_in _ (by omega)
      have hs2 : ((i : Int) + (k : Int)).toNat = i + k := by omega
      have hs3 : 0 ≤ (i : Int) + (k : Int) := by omega
      have hs4 : (i : Int) + (k : Int) < (u.size : Int) := by omega
      go_wp2
      go_region
      go_wp2
      go_roundw
      case rel => exact ⟨k + 1, by omega, by omega, by go_num, hst.out⟩
      case measure => simp [intOf]; omega
    · have hb := hH.out.below
      obtain ⟨t, ht, hct⟩ := lo_text hH.out (by rw [tw_length, L_length]) cp
      have hts : t.size = u.size := by rw [← L_length, ht, tw_length, L_length]
      have ct := fun W => sum_Table.calls t _ W (table_some t (by omega))
      have cu := fun W => sum_Table.calls u _ W (table_some u (by omega))
      have bt := fun W => sum_Bits.calls t _ W (bits_some t (by omega))
      have bu := fun W => sum_Bits.calls u _ W (bits_some u (by omega))
      have cf := fun W => withylaw02_fixed.calls _ W fixed_some
      have hne : Sm.more 0 (L t) = Sm.more 0 (L u) → t = u := by
        intro he
        rw [ht] at he
        have := tw_more (L u) i [x0, x1, x2, x3] k (by omega) (by rw [L_length]; omega) he
        rw [← ht] at this
        exact ByteArray.ext (Array.toList_inj.1 this)
      have hee : t = u → Sm.more 0 (L t) = Sm.more 0 (L u) := fun e => by rw [e]
      have HB := Lib.hid hb
      have CT := Lib.hid ct
      have CU := Lib.hid cu
      have BT := Lib.hid bt
      have BU := Lib.hid bu
      have CF := Lib.hid cf
      generalize Sm.more 0 (L t) = T1 at *
      generalize Sm.more 0 (L u) = T2 at *
      clear hb ct cu bt bu cf hH ht
      have HT := Lib.hid hts
      clear hts
      by_cases htu : t = u
      · obtain rfl : u = t := htu.symm
        have hn2 : (u.toList == u.toList) = true := by simp
        obtain rfl : T1 = T2 := hee rfl
        clear hne hee
        rcases Nat.lt_or_ge k 4 with hk4 | hk4
        · have hd : decide ((i : Int) + (k : Int) < (u.size : Int)) = false := by simp; omega
          clear hlt
          go_wp2_with fail
          refine (CT.out _).mono ?_
          rintro e w2 ⟨rfl, hb⟩
          have H2 := Lib.hid (show Below w.heap.size w w2 from HB.out.trans (hb.mono HB.out.size))
          clear hb
          go_wp2_with fail
          refine (CU.out _).mono ?_
          rintro e w3 ⟨rfl, hb⟩
          have H3 := Lib.hid (show Below w.heap.size w w3 from H2.out.trans (hb.mono H2.out.size))
          clear hb
          go_wp2_with fail
          refine (BT.out _).mono ?_
          rintro e w4 ⟨rfl, hb⟩
          have H4 := Lib.hid (show Below w.heap.size w w4 from H3.out.trans (hb.mono H3.out.size))
          clear hb
          go_wp2_with fail
          refine (BU.out _).mono ?_
          rintro e w5 ⟨rfl, hb⟩
          have H5 := Lib.hid (show Below w.heap.size w w5 from H4.out.trans (hb.mono H4.out.size))
          clear hb
          go_wp2_with fail
          refine (CF.out _).mono ?_
          rintro e w6 ⟨rfl, hb⟩
          have H6 := Lib.hid (show Below w.heap.size w w6 from H5.out.trans (hb.mono H5.out.size))
          clear hb
          go_wp2_with fail
          go_ret
          exact ⟨rfl, H6.out⟩
        · obtain rfl : k = 4 := by omega
          clear hlt
          go_wp2_with fail
          refine (CT.out _).mono ?_
          rintro e w2 ⟨rfl, hb⟩
          have H2 := Lib.hid (show Below w.heap.size w w2 from HB.out.trans (hb.mono HB.out.size))
          clear hb
          go_wp2_with fail
          refine (CU.out _).mono ?_
          rintro e w3 ⟨rfl, hb⟩
          have H3 := Lib.hid (show Below w.heap.size w w3 from H2.out.trans (hb.mono H2.out.size))
          clear hb
          go_wp2_with fail
          refine (BT.out _).mono ?_
          rintro e w4 ⟨rfl, hb⟩
          have H4 := Lib.hid (show Below w.heap.size w w4 from H3.out.trans (hb.mono H3.out.size))
          clear hb
          go_wp2_with fail
          refine (BU.out _).mono ?_
          rintro e w5 ⟨rfl, hb⟩
          have H5 := Lib.hid (show Below w.heap.size w w5 from H4.out.trans (hb.mono H4.out.size))
          clear hb
          go_wp2_with fail
          refine (CF.out _).mono ?_
          rintro e w6 ⟨rfl, hb⟩
          have H6 := Lib.hid (show Below w.heap.size w w6 from H5.out.trans (hb.mono H5.out.size))
          clear hb
          go_wp2_with fail
          go_ret
          exact ⟨rfl, H6.out⟩
      · have hn1 : ((T1 : Int) == (T2 : Int)) = false := by rw [beq_eq_false_iff_ne]; intro e; exact htu (hne (by omega))
        have hn2 : (t.toList == u.toList) = false := by
          rw [beq_eq_false_iff_ne, Go.ByteArray.toList_eq, Go.ByteArray.toList_eq]
          exact fun e => htu (ByteArray.ext (Array.toList_inj.1 e))
        clear hne hee
        rcases Nat.lt_or_ge k 4 with hk4 | hk4
        · have hd : decide ((i : Int) + (k : Int) < (u.size : Int)) = false := by simp; omega
          clear hlt
          go_wp2_with fail
          refine (CT.out _).mono ?_
          rintro e w2 ⟨rfl, hb⟩
          have H2 := Lib.hid (show Below w.heap.size w w2 from HB.out.trans (hb.mono HB.out.size))
          clear hb
          go_wp2_with fail
          refine (CU.out _).mono ?_
          rintro e w3 ⟨rfl, hb⟩
          have H3 := Lib.hid (show Below w.heap.size w w3 from H2.out.trans (hb.mono H2.out.size))
          clear hb
          go_wp2_with fail
          refine (BT.out _).mono ?_
          rintro e w4 ⟨rfl, hb⟩
          have H4 := Lib.hid (show Below w.heap.size w w4 from H3.out.trans (hb.mono H3.out.size))
          clear hb
          go_wp2_with fail
          refine (BU.out _).mono ?_
          rintro e w5 ⟨rfl, hb⟩
          have H5 := Lib.hid (show Below w.heap.size w w5 from H4.out.trans (hb.mono H4.out.size))
          clear hb
          go_wp2_with fail
          refine (CF.out _).mono ?_
          rintro e w6 ⟨rfl, hb⟩
          have H6 := Lib.hid (show Below w.heap.size w w6 from H5.out.trans (hb.mono H5.out.size))
          clear hb
          go_wp2_with fail
          go_ret
          exact ⟨rfl, H6.out⟩
        · obtain rfl : k = 4 := by omega
          clear hlt
          go_wp2_with fail
          refine (CT.out _).mono ?_
          rintro e w2 ⟨rfl, hb⟩
          have H2 := Lib.hid (show Below w.heap.size w w2 from HB.out.trans (hb.mono HB.out.size))
          clear hb
          go_wp2_with fail
          refine (CU.out _).mono ?_
          rintro e w3 ⟨rfl, hb⟩
          have H3 := Lib.hid (show Below w.heap.size w w3 from H2.out.trans (hb.mono H2.out.size))
          clear hb
          go_wp2_with fail
          refine (BT.out _).mono ?_
          rintro e w4 ⟨rfl, hb⟩
          have H4 := Lib.hid (show Below w.heap.size w w4 from H3.out.trans (hb.mono H3.out.size))
          clear hb
          go_wp2_with fail
          refine (BU.out _).mono ?_
          rintro e w5 ⟨rfl, hb⟩
          have H5 := Lib.hid (show Below w.heap.size w w5 from H4.out.trans (hb.mono H4.out.size))
          clear hb
          go_wp2_with fail
          refine (CF.out _).mono ?_
          rintro e w6 ⟨rfl, hb⟩
          have H6 := Lib.hid (show Below w.heap.size w w6 from H5.out.trans (hb.mono H5.out.size))
          clear hb
          go_wp2_with fail
          go_ret
          exact ⟨rfl, H6.out⟩
end Go.Proofs.Ytlplhnfaohbkcaa.Burst
