/-
  Plain facts on the register of CRC-32C: one shift, one byte, many bytes; no program in sight.
-/
namespace Sm

/-- one bit out of the register -/
def sh (r : Nat) : Nat := if r % 2 = 1 then (r / 2) ^^^ 2197175160 else r / 2
/-- one byte out of the register -/
def stp (r : Nat) : Nat := sh (sh (sh (sh (sh (sh (sh (sh r)))))))
/-- a register by a byte -/
def one (r c : Nat) : Nat := stp (r ^^^ c)
/-- a register by bytes -/
def run (r : Nat) (l : List UInt8) : Nat := l.foldl (fun r c => one r c.toNat) r
/-- all bits turned -/
def inv (r : Nat) : Nat := 4294967295 - r
/-- the sum of bytes, with a sum ahead -/
def more (c : Nat) (l : List UInt8) : Nat := inv (run (inv c) l)
/-- n bytes 0 by the register -/
def roll : Nat → Nat → Nat
  | 0, r => r
  | n + 1, r => roll n (stp r)

theorem xor_lt {a b : Nat} (ha : a < 4294967296) (hb : b < 4294967296) : a ^^^ b < 4294967296 := by
  have := Nat.xor_lt_two_pow (n := 32) (x := a) (y := b) (by simpa using ha) (by simpa using hb)
  simpa using this

theorem sh_lt {r : Nat} (h : r < 4294967296) : sh r < 4294967296 := by
  unfold sh
  split
  · exact xor_lt (by omega) (by decide)
  · omega

theorem xor_self_left (a b : Nat) : a ^^^ (a ^^^ b) = b := by
  rw [← Nat.xor_assoc, Nat.xor_self, Nat.zero_xor]
theorem xor_self_right (a b : Nat) : (a ^^^ b) ^^^ b = a := by
  rw [Nat.xor_assoc, Nat.xor_self, Nat.xor_zero]
theorem xor_left_comm (a b c : Nat) : a ^^^ (b ^^^ c) = b ^^^ (a ^^^ c) := by
  rw [← Nat.xor_assoc, Nat.xor_comm a b, Nat.xor_assoc]
theorem xor_zero_eq {a b : Nat} (h : a ^^^ b = 0) : a = b := by
  have := xor_self_right a b
  rw [h, Nat.zero_xor] at this
  exact this.symm
theorem xor_cancel_left {a b c : Nat} (h : a ^^^ b = a ^^^ c) : b = c := by
  have := congrArg (a ^^^ ·) h
  simpa [xor_self_left] using this

instance : Std.Associative (α := Nat) (· ^^^ ·) := ⟨Nat.xor_assoc⟩
instance : Std.Commutative (α := Nat) (· ^^^ ·) := ⟨Nat.xor_comm⟩

theorem sh_xor (a b : Nat) : sh (a ^^^ b) = sh a ^^^ sh b := by
  have hm : (a ^^^ b) % 2 = 1 ↔ ¬(a % 2 = 1 ↔ b % 2 = 1) := Nat.xor_mod_two_eq_one
  unfold sh
  rw [Nat.xor_div_two]
  rcases Nat.mod_two_eq_zero_or_one a with ha | ha <;> rcases Nat.mod_two_eq_zero_or_one b with hb | hb
  · rw [if_neg (by rw [hm]; omega), if_neg (by omega), if_neg (by omega)]
  · rw [if_pos (by rw [hm]; omega), if_neg (by omega), if_pos (by omega)]; ac_rfl
  · rw [if_pos (by rw [hm]; omega), if_pos (by omega), if_neg (by omega)]; ac_rfl
  · rw [if_neg (by rw [hm]; omega), if_pos (by omega), if_pos (by omega)]
    have : (a / 2 ^^^ 2197175160) ^^^ (b / 2 ^^^ 2197175160) = (a / 2 ^^^ b / 2) ^^^ (2197175160 ^^^ 2197175160) := by ac_rfl
    rw [this, Nat.xor_self, Nat.xor_zero]

theorem sh_none {x : Nat} (hx : x < 4294967296) (h : sh x = 0) : x = 0 := by
  unfold sh at h
  split at h
  · have := xor_zero_eq h
    omega
  · omega
theorem sh_inj {a b : Nat} (ha : a < 4294967296) (hb : b < 4294967296) (h : sh a = sh b) : a = b := by
  refine xor_zero_eq (sh_none (xor_lt ha hb) ?_)
  rw [sh_xor, h, Nat.xor_self]

theorem stp_zero : stp 0 = 0 := by decide
theorem stp_xor (a b : Nat) : stp (a ^^^ b) = stp a ^^^ stp b := by
  unfold stp; simp only [sh_xor]
theorem stp_lt {r : Nat} (h : r < 4294967296) : stp r < 4294967296 := by
  unfold stp
  exact sh_lt (sh_lt (sh_lt (sh_lt (sh_lt (sh_lt (sh_lt (sh_lt h)))))))
theorem stp_inj {a b : Nat} (ha : a < 4294967296) (hb : b < 4294967296) (h : stp a = stp b) : a = b := by
  unfold stp at h
  have l1 := @sh_lt
  exact sh_inj ha hb (sh_inj (l1 ha) (l1 hb) (sh_inj (l1 (l1 ha)) (l1 (l1 hb)) (sh_inj (l1 (l1 (l1 ha))) (l1 (l1 (l1 hb)))
    (sh_inj (l1 (l1 (l1 (l1 ha)))) (l1 (l1 (l1 (l1 hb)))) (sh_inj (l1 (l1 (l1 (l1 (l1 ha))))) (l1 (l1 (l1 (l1 (l1 hb)))))
    (sh_inj (l1 (l1 (l1 (l1 (l1 (l1 ha)))))) (l1 (l1 (l1 (l1 (l1 (l1 hb)))))) (sh_inj (l1 (l1 (l1 (l1 (l1 (l1 (l1 ha))))))) (l1 (l1 (l1 (l1 (l1 (l1 (l1 hb))))))) h)))))))

theorem sh_even (x : Nat) : sh (2 * x) = x := by unfold sh; rw [if_neg (by omega)]; omega
theorem stp_high (x : Nat) : stp (256 * x) = x := by
  have h : 256 * x = 2 * (2 * (2 * (2 * (2 * (2 * (2 * (2 * x))))))) := by omega
  rw [h]; unfold stp; simp only [sh_even]

/-- a byte and what stands above it -/
theorem byte_high {c : Nat} (hc : c < 256) (x : Nat) : c ^^^ 256 * x = 256 * x + c := by
  have h8 : c < 2 ^ 8 := by simpa using hc
  have e : 256 * x + c = 2 ^ 8 * x + c := by simp
  refine Nat.eq_of_testBit_eq fun i => ?_
  rw [e, Nat.testBit_two_pow_mul_add _ h8, Nat.testBit_xor]
  have e2 : 256 * x = 2 ^ 8 * x := by simp
  rw [e2, Nat.testBit_two_pow_mul]
  by_cases hi : i < 8
  · rw [if_pos hi]
    have : ¬ i ≥ 8 := by omega
    simp [this]
  · rw [if_neg hi]
    have hge : i ≥ 8 := by omega
    have : c.testBit i = false := Nat.testBit_lt_two_pow (Nat.lt_of_lt_of_le h8 (Nat.pow_le_pow_right (by decide) (by omega)))
    rw [this]; simp [hge]

theorem split_byte (r : Nat) : (r % 256) ^^^ (256 * (r / 256)) = r := by
  rw [byte_high (Nat.mod_lt _ (by decide))]; omega

theorem stp_split (r : Nat) : stp r = stp (r % 256) ^^^ (r / 256) := by
  conv => lhs; rw [← split_byte r]
  rw [stp_xor, stp_high]

theorem xor_byte {a b : Nat} (ha : a < 256) (hb : b < 256) : a ^^^ b < 256 := by
  have := Nat.xor_lt_two_pow (n := 8) (x := a) (y := b) (by simpa using ha) (by simpa using hb)
  simpa using this

/-- the step by the table -/
theorem one_table (r : Nat) {c : Nat} (hc : c < 256) : stp ((r % 256) ^^^ c) ^^^ (r / 256) = one r c := by
  unfold one
  rw [stp_split (r ^^^ c)]
  have h1 : (r ^^^ c) % 256 = (r % 256) ^^^ c := by
    have := Nat.xor_mod_two_pow (a := r) (b := c) (n := 8)
    simp at this
    rw [this, Nat.mod_eq_of_lt hc]
  have h2 : (r ^^^ c) / 256 = r / 256 := by
    have := Nat.xor_div_two_pow (a := r) (b := c) (n := 8)
    simp at this
    rw [this, Nat.div_eq_of_lt hc, Nat.xor_zero]
  rw [h1, h2]

theorem byte_lt (c : UInt8) : c.toNat < 256 := c.toNat_lt
theorem one_lt {r c : Nat} (h : r < 4294967296) (hc : c < 256) : one r c < 4294967296 := stp_lt (xor_lt h (by omega))
theorem run_nil (r : Nat) : run r [] = r := rfl
theorem run_cons (r : Nat) (c : UInt8) (l : List UInt8) : run r (c :: l) = run (one r c.toNat) l := rfl
theorem run_append (r : Nat) (l k : List UInt8) : run r (l ++ k) = run (run r l) k := by simp [run, List.foldl_append]
theorem run_snoc (r : Nat) (l : List UInt8) (c : UInt8) : run r (l ++ [c]) = one (run r l) c.toNat := by rw [run_append]; rfl
theorem run_lt {l : List UInt8} : ∀ {r : Nat}, r < 4294967296 → run r l < 4294967296 := by
  induction l with
  | nil => intro r h; exact h
  | cons c l ih => intro r h; exact ih (one_lt h (byte_lt c))
theorem roll_lt {n : Nat} : ∀ {r : Nat}, r < 4294967296 → roll n r < 4294967296 := by
  induction n with
  | zero => intro r h; exact h
  | succ n ih => intro r h; exact ih (stp_lt h)
theorem roll_xor (n : Nat) : ∀ a b : Nat, roll n (a ^^^ b) = roll n a ^^^ roll n b := by
  induction n with
  | zero => intro a b; rfl
  | succ n ih => intro a b; simp only [roll, stp_xor, ih]
theorem roll_snoc (n : Nat) : ∀ a : Nat, roll (n + 1) a = stp (roll n a) := by
  induction n with
  | zero => intro a; rfl
  | succ n ih => intro a; exact ih (stp a)
theorem roll_add (n m : Nat) : ∀ a : Nat, roll (n + m) a = roll m (roll n a) := by
  induction n with
  | zero => intro a; simp [roll]
  | succ n ih => intro a; rw [Nat.add_right_comm]; exact ih (stp a)
theorem roll_inj {n : Nat} : ∀ {a b : Nat}, a < 4294967296 → b < 4294967296 → roll n a = roll n b → a = b := by
  induction n with
  | zero => intro a b _ _ h; exact h
  | succ n ih => intro a b ha hb h; exact stp_inj ha hb (ih (stp_lt ha) (stp_lt hb) h)

/-- bytes as one number, the first one lowest -/
def le : List UInt8 → Nat
  | [] => 0
  | c :: l => c.toNat ^^^ 256 * le l

theorem run_le (l : List UInt8) : ∀ r : Nat, run r l = roll l.length (r ^^^ le l) := by
  induction l with
  | nil => intro r; simp [run, roll, le]
  | cons c l ih =>
    intro r
    rw [run_cons, ih, List.length_cons, roll, le]
    congr 1
    unfold one
    rw [← Nat.xor_assoc, stp_xor (r ^^^ c.toNat), stp_high]

/-- bytes behind a register: what the register gives, and what the bytes give alone -/
theorem run_parts (r : Nat) (l : List UInt8) : run r l = roll l.length r ^^^ run 0 l := by
  rw [run_le l r, run_le l 0, roll_xor, Nat.zero_xor]

theorem le_cons (c : UInt8) (l : List UInt8) : le (c :: l) = 256 * le l + c.toNat := byte_high (byte_lt c) _
theorem le_inj : ∀ {l k : List UInt8}, l.length = k.length → le l = le k → l = k := by
  intro l
  induction l with
  | nil => intro k h _; cases k with | nil => rfl | cons c k => simp at h
  | cons c l ih =>
    intro k h e
    cases k with
    | nil => simp at h
    | cons d k =>
      rw [le_cons, le_cons] at e
      have hc := byte_lt c
      have hd := byte_lt d
      have h1 : c.toNat = d.toNat := by omega
      have h2 : le l = le k := by omega
      rw [ih (by simpa using h) h2, UInt8.toNat_inj.1 h1]
theorem le_lt : ∀ l : List UInt8, le l < 256 ^ l.length := by
  intro l
  induction l with
  | nil => simp [le]
  | cons c l ih =>
    rw [le_cons, List.length_cons, Nat.pow_succ]
    have hc := byte_lt c
    omega
theorem le_lt4 {l : List UInt8} (h : l.length ≤ 4) : le l < 4294967296 := by
  have h1 := le_lt l
  have h2 : 256 ^ l.length ≤ 256 ^ 4 := Nat.pow_le_pow_right (by decide) h
  have h3 : (256 : Nat) ^ 4 = 4294967296 := by decide
  omega

theorem run_inj {l : List UInt8} {a b : Nat} (ha : a < 4294967296) (hb : b < 4294967296) (h : run a l = run b l) : a = b := by
  rw [run_parts a, run_parts b] at h
  have : roll l.length a = roll l.length b := by
    have := congrArg (· ^^^ run 0 l) h
    simpa [xor_self_right] using this
  exact roll_inj ha hb this

/-- at most four bytes turned -/
theorem run_burst {r : Nat} (hr : r < 4294967296) {m k q : List UInt8} (hl : m.length = k.length) (h4 : m.length ≤ 4)
    (h : run r (m ++ q) = run r (k ++ q)) : m = k := by
  rw [run_append, run_append] at h
  have h1 := run_inj (run_lt hr) (run_lt hr) h
  rw [run_le, run_le, ← hl] at h1
  have h2 := roll_inj (xor_lt hr (le_lt4 h4)) (xor_lt hr (le_lt4 (by omega))) h1
  exact le_inj hl (xor_cancel_left h2)

theorem inv_lt (r : Nat) : inv r < 4294967296 := by unfold inv; omega
theorem inv_inv {r : Nat} (h : r < 4294967296) : inv (inv r) = r := by unfold inv; omega
theorem inv_inj {a b : Nat} (ha : a < 4294967296) (hb : b < 4294967296) (h : inv a = inv b) : a = b := by unfold inv at h; omega
theorem ones_xor {x : Nat} : ∀ n : Nat, x < 2 ^ n → (2 ^ n - 1) ^^^ x = 2 ^ n - 1 - x := by
  intro n h
  refine Nat.eq_of_testBit_eq fun i => ?_
  have e : 2 ^ n - 1 - x = 2 ^ n - (x + 1) := by omega
  rw [e, Nat.testBit_xor, Nat.testBit_two_pow_sub_succ h, Nat.testBit_two_pow_sub_one]
  by_cases hi : i < n
  · simp [hi]
  · have : x.testBit i = false := Nat.testBit_lt_two_pow (Nat.lt_of_lt_of_le h (Nat.pow_le_pow_right (by decide) (by omega)))
    simp [hi, this]
theorem inv_xor {r : Nat} (h : r < 4294967296) : inv r = 4294967295 ^^^ r := by
  have := ones_xor (x := r) 32 (by simpa using h)
  unfold inv
  simpa using this.symm

theorem more_lt (c : Nat) (l : List UInt8) : more c l < 4294967296 := inv_lt _
theorem more_nil {c : Nat} (h : c < 4294967296) : more c [] = c := by unfold more; rw [run_nil, inv_inv h]
theorem more_append (c : Nat) (l k : List UInt8) : more c (l ++ k) = more (more c l) k := by
  unfold more
  rw [run_append, inv_inv (run_lt (inv_lt c))]
theorem more_inj {a b : Nat} {l : List UInt8} (ha : a < 4294967296) (hb : b < 4294967296) (h : more a l = more b l) : a = b := by
  unfold more at h
  exact inv_inj ha hb (run_inj (inv_lt _) (inv_lt _) (inv_inj (run_lt (inv_lt _)) (run_lt (inv_lt _)) h))
theorem more_burst {c : Nat} {p m k q : List UInt8} (hl : m.length = k.length) (h4 : m.length ≤ 4)
    (h : more c (p ++ m ++ q) = more c (p ++ k ++ q)) : m = k := by
  rw [List.append_assoc, List.append_assoc, more_append c p, more_append c p] at h
  unfold more at h
  exact run_burst (inv_lt _) hl h4 (inv_inj (run_lt (inv_lt _)) (run_lt (inv_lt _)) h)

/-- the sum with a sum ahead, by its parts -/
theorem more_parts {c : Nat} (h : c < 4294967296) (l : List UInt8) : more c l = roll l.length c ^^^ more 0 l := by
  unfold more
  rw [inv_xor (run_lt (inv_lt _)), inv_xor (run_lt (inv_lt _)), run_parts (inv c), run_parts (inv 0), inv_xor h, roll_xor]
  have : inv 0 = 4294967295 := rfl
  rw [this]
  ac_rfl
theorem join_tells (s t : List UInt8) : roll t.length (more 0 s) ^^^ more 0 t = more 0 (s ++ t) := by
  rw [more_append, more_parts (more_lt _ _)]
theorem run_zeros (n : Nat) : ∀ r, run r (List.replicate n 0) = roll n r := by
  intro r
  rw [run_parts]
  have : ∀ n, run 0 (List.replicate n 0) = 0 := by
    intro n
    induction n with
    | zero => rfl
    | succ n ih => rw [List.replicate_succ, run_cons]; simpa [one, stp_zero] using ih
  rw [this, Nat.xor_zero, List.length_replicate]
theorem more_zeros {c : Nat} (h : c < 4294967296) (n : Nat) : more c (List.replicate n 0) = roll n c ^^^ more 0 (List.replicate n 0) := by
  rw [more_parts h, List.length_replicate]
/-- the document's join is the program's -/
theorem join_ref {a : Nat} (h : a < 4294967296) (b n : Nat) : (more a (List.replicate n 0) ^^^ b) ^^^ more 0 (List.replicate n 0) = roll n a ^^^ b := by
  rw [more_zeros h]
  have : ((roll n a ^^^ more 0 (List.replicate n 0)) ^^^ b) ^^^ more 0 (List.replicate n 0) = (roll n a ^^^ b) ^^^ (more 0 (List.replicate n 0) ^^^ more 0 (List.replicate n 0)) := by ac_rfl
  rw [this, Nat.xor_self, Nat.xor_zero]
theorem join_inj {a b c n : Nat} (ha : a < 4294967296) (hb : b < 4294967296) (h : roll n a ^^^ c = roll n b ^^^ c) : a = b := by
  refine roll_inj ha hb (n := n) ?_
  have := congrArg (· ^^^ c) h
  simpa [xor_self_right] using this
theorem three_joins (a b c n m : Nat) : roll m (roll n a ^^^ b) ^^^ c = roll (n + m) a ^^^ (roll m b ^^^ c) := by
  rw [roll_xor, roll_add, Nat.xor_assoc]

/-- two texts, byte by byte, by exclusive or -/
def mix : List UInt8 → List UInt8 → List UInt8
  | a :: l, b :: k => (a ^^^ b) :: mix l k
  | _, _ => []
theorem run_mix : ∀ (l k : List UInt8) (a b : Nat), l.length = k.length → run (a ^^^ b) (mix l k) = run a l ^^^ run b k := by
  intro l
  induction l with
  | nil => intro k a b h; cases k with | nil => rfl | cons c k => simp at h
  | cons c l ih =>
    intro k a b h
    cases k with
    | nil => simp at h
    | cons d k =>
      rw [mix, run_cons, run_cons, run_cons, ← ih k _ _ (by simpa using h)]
      congr 1
      unfold one
      rw [← stp_xor, UInt8.toNat_xor]
      congr 1
      ac_rfl
theorem mix_length : ∀ (l k : List UInt8), l.length = k.length → (mix l k).length = l.length := by
  intro l
  induction l with
  | nil => intro k h; cases k <;> rfl
  | cons c l ih => intro k h; cases k with | nil => simp at h | cons d k => simp [mix, ih k (by simpa using h)]
theorem more_mix (l k : List UInt8) (h : l.length = k.length) : more 0 (mix l k) = (more 0 l ^^^ more 0 k) ^^^ more 0 (List.replicate l.length 0) := by
  have e : inv 0 = 4294967295 := rfl
  unfold more
  rw [inv_xor (run_lt (inv_lt _)), inv_xor (run_lt (inv_lt _)), inv_xor (run_lt (inv_lt _)), inv_xor (run_lt (inv_lt _)), e, run_zeros,
    run_parts _ l, run_parts _ k, run_parts _ (mix l k), mix_length l k h, ← h]
  have := run_mix l k 0 0 h
  rw [Nat.xor_self] at this
  rw [this]
  generalize roll l.length 4294967295 = R
  generalize run 0 l = A
  generalize run 0 k = B
  have : (4294967295 ^^^ (R ^^^ A) ^^^ (4294967295 ^^^ (R ^^^ B))) ^^^ (4294967295 ^^^ R) = (4294967295 ^^^ (R ^^^ (A ^^^ B))) ^^^ ((4294967295 ^^^ 4294967295) ^^^ (R ^^^ R)) := by ac_rfl
  rw [this, Nat.xor_self, Nat.xor_self, Nat.xor_zero, Nat.xor_zero]
end Sm
