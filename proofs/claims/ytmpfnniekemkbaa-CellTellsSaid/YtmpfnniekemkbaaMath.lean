/-
  Plain facts on numbers whose bytes are in order: their bytes, what bytes tell, their order; no program in sight.
-/
namespace Wm

/-- a number's last m bytes of base 256, the highest first -/
def be : Nat → Nat → List UInt8
  | 0, _ => []
  | m + 1, n => be m (n / 256) ++ [UInt8.ofNat (n % 256)]
theorem be_length (m : Nat) : ∀ n, (be m n).length = m := by
  induction m with
  | zero => intro n; rfl
  | succ m ih => intro n; simp [be, ih]

/-- how many bytes a great number has -/
def width (n : Nat) : Nat := if n < 16777216 then 3 else if n < 4294967296 then 4 else if n < 1099511627776 then 5 else if n < 281474976710656 then 6 else if n < 72057594037927936 then 7 else 8
theorem width_3 (n : Nat) : 3 ≤ width n ∧ width n ≤ 8 := by unfold width; (repeat' split) <;> omega
theorem width_lt {n : Nat} (h : n < 18446744073709551616) : n < 256 ^ width n := by
  unfold width; (repeat' split) <;> omega
theorem width_ge {n : Nat} (h : 67823 < n) : 256 ^ (width n - 1) ≤ n := by
  unfold width; (repeat' split) <;> omega
theorem width_mono {a b : Nat} (h : a ≤ b) : width a ≤ width b := by
  unfold width; (repeat' split) <;> omega

/-- a number's bytes -/
def enc (n : Nat) : List UInt8 :=
  if n ≤ 240 then [UInt8.ofNat n]
  else if n ≤ 2287 then [UInt8.ofNat (241 + (n - 240) / 256), UInt8.ofNat ((n - 240) % 256)]
  else if n ≤ 67823 then 249 :: be 2 (n - 2288)
  else UInt8.ofNat (247 + width n) :: be (width n) n

/-- the first byte, as a number -/
def hd (n : Nat) : Nat := if n ≤ 240 then n else if n ≤ 2287 then 241 + (n - 240) / 256 else if n ≤ 67823 then 249 else 247 + width n
/-- how many bytes a first one asks for behind it -/
def fol (c : Nat) : Nat := if c ≤ 240 then 0 else if c ≤ 248 then 1 else c - 247
/-- the bytes behind the first one -/
def tl (n : Nat) : List UInt8 := if n ≤ 240 then [] else if n ≤ 2287 then [UInt8.ofNat ((n - 240) % 256)] else if n ≤ 67823 then be 2 (n - 2288) else be (width n) n

theorem hd_lt (n : Nat) : hd n < 256 := by
  have := width_3 n
  unfold hd; (repeat' split) <;> omega
theorem enc_eq (n : Nat) : enc n = UInt8.ofNat (hd n) :: tl n := by
  unfold enc hd tl
  (repeat' split) <;> rfl
theorem tl_length (n : Nat) : (tl n).length = fol (hd n) := by
  have := width_3 n
  unfold tl fol hd
  (repeat' split) <;> first | omega | (simp [be_length] <;> omega)
theorem enc_length (n : Nat) : (enc n).length = 1 + fol (hd n) := by
  rw [enc_eq, List.length_cons, tl_length]; omega
theorem toNat_ofNat {c : Nat} (h : c < 256) : (UInt8.ofNat c).toNat = c := by
  rw [UInt8.toNat_ofNat']; omega
theorem fol_le (c : Nat) (h : c < 256) : fol c ≤ 8 := by unfold fol; (repeat' split) <;> omega
theorem fol_hd_le (n : Nat) : fol (hd n) ≤ 8 := fol_le _ (hd_lt n)

/-- what bytes of base 256 tell -/
def val (l : List UInt8) : Nat := l.foldl (fun n c => n * 256 + c.toNat) 0
theorem val_snoc (l : List UInt8) (c : UInt8) : val (l ++ [c]) = val l * 256 + c.toNat := by simp [val, List.foldl_append]
theorem val_be (m : Nat) : ∀ n, n < 256 ^ m → val (be m n) = n := by
  induction m with
  | zero => intro n h; simp at h; subst h; rfl
  | succ m ih =>
    intro n h
    rw [Nat.pow_succ] at h
    rw [be, val_snoc, ih (n / 256) (by omega), toNat_ofNat (by omega)]
    omega
theorem val_lt (l : List UInt8) : val l < 256 ^ l.length := by
  have : ∀ (l : List UInt8) (n : Nat), l.foldl (fun n c => n * 256 + c.toNat) n + 1 ≤ (n + 1) * 256 ^ l.length := by
    intro l
    induction l with
    | nil => intro n; simp
    | cons c l ih =>
      intro n
      have h := ih (n * 256 + c.toNat)
      have hc := c.toNat_lt
      have h2 : (n * 256 + c.toNat + 1) * 256 ^ l.length ≤ ((n + 1) * 256) * 256 ^ l.length := Nat.mul_le_mul_right _ (by omega)
      rw [List.foldl_cons, List.length_cons, Nat.pow_succ, Nat.mul_comm (256 ^ l.length) 256, ← Nat.mul_assoc]
      omega
  have h := this l 0
  unfold val
  omega

/-- the number that a first byte and the bytes behind it tell -/
def dec (c : Nat) (l : List UInt8) : Nat := if c ≤ 240 then c else if c ≤ 248 then 240 + 256 * (c - 241) + val l else if c = 249 then 2288 + val l else val l
theorem dec_enc {n : Nat} (h : n < 18446744073709551616) : dec (hd n) (tl n) = n := by
  have hw := width_3 n
  by_cases h1 : n ≤ 240
  · simp [dec, hd, h1]
  by_cases h2 : n ≤ 2287
  · have e1 : hd n = 241 + (n - 240) / 256 := by unfold hd; rw [if_neg h1, if_pos h2]
    have e2 : tl n = [UInt8.ofNat ((n - 240) % 256)] := by unfold tl; rw [if_neg h1, if_pos h2]
    have e3 : val [UInt8.ofNat ((n - 240) % 256)] = (n - 240) % 256 := by simp only [val, List.foldl_cons, List.foldl_nil]; rw [toNat_ofNat (by omega)]; omega
    unfold dec
    rw [e1, e2, e3, if_neg (by omega), if_pos (by omega)]
    omega
  by_cases h3 : n ≤ 67823
  · have e1 : hd n = 249 := by unfold hd; rw [if_neg h1, if_neg h2, if_pos h3]
    have e2 : tl n = be 2 (n - 2288) := by unfold tl; rw [if_neg h1, if_neg h2, if_pos h3]
    unfold dec
    rw [e1, e2, if_neg (by omega), if_neg (by omega), if_pos rfl, val_be 2 _ (by omega)]
    omega
  · have e1 : hd n = 247 + width n := by unfold hd; rw [if_neg h1, if_neg h2, if_neg h3]
    have e2 : tl n = be (width n) n := by unfold tl; rw [if_neg h1, if_neg h2, if_neg h3]
    unfold dec
    rw [e1, e2, if_neg (by omega), if_neg (by omega), if_neg (by omega), val_be _ _ (width_lt h)]
theorem dec_lt {c : Nat} (hc : c < 256) {l : List UInt8} (hl : l.length = fol c) : dec c l < 18446744073709551616 := by
  have h := val_lt l
  have h8 := fol_le c hc
  have : 256 ^ l.length ≤ 256 ^ 8 := Nat.pow_le_pow_right (by decide) (by omega)
  have h3 : (256 : Nat) ^ 8 = 18446744073709551616 := by decide
  by_cases h1 : c ≤ 240
  · unfold dec; rw [if_pos h1]; omega
  by_cases h2 : c ≤ 248
  · have hf : fol c = 1 := by unfold fol; rw [if_neg h1, if_pos h2]
    rw [hl, hf] at h
    unfold dec; rw [if_neg h1, if_pos h2]; omega
  by_cases h4 : c = 249
  · have hf : fol c = 2 := by subst h4; rfl
    rw [hl, hf] at h
    unfold dec; rw [if_neg h1, if_neg h2, if_pos h4]; omega
  · unfold dec; rw [if_neg h1, if_neg h2, if_neg h4]; omega

/-- two lists part at some place, the first one below the second one there -/
def Part (a b : List UInt8) : Prop := ∃ (p a' b' : List UInt8) (x y : UInt8), a = p ++ x :: a' ∧ b = p ++ y :: b' ∧ x.toNat < y.toNat
theorem Part.behind {a b : List UInt8} (h : Part a b) (u v : List UInt8) : Part (a ++ u) (b ++ v) := by
  obtain ⟨p, a', b', x, y, rfl, rfl, hx⟩ := h
  exact ⟨p, a' ++ u, b' ++ v, x, y, by simp, by simp, hx⟩
theorem Part.ahead {a b : List UInt8} (h : Part a b) (u : List UInt8) : Part (u ++ a) (u ++ b) := by
  obtain ⟨p, a', b', x, y, rfl, rfl, hx⟩ := h
  exact ⟨u ++ p, a', b', x, y, by simp, by simp, hx⟩
theorem be_part (m : Nat) : ∀ a b, a < b → b < 256 ^ m → Part (be m a) (be m b) := by
  induction m with
  | zero => intro a b h hb; simp at hb; omega
  | succ m ih =>
    intro a b h hb
    rw [Nat.pow_succ] at hb
    rw [be, be]
    by_cases e : a / 256 < b / 256
    · exact (ih _ _ e (by omega)).behind _ _
    · have e2 : a / 256 = b / 256 := by omega
      refine ⟨be m (a / 256), [], [], UInt8.ofNat (a % 256), UInt8.ofNat (b % 256), rfl, by rw [e2], ?_⟩
      rw [toNat_ofNat (by omega), toNat_ofNat (by omega)]
      omega
theorem hd_mono {a b : Nat} (h : a < b) : hd a ≤ hd b := by
  have h1 := width_mono (Nat.le_of_lt h)
  have h2 := width_3 a
  have h3 := width_3 b
  unfold hd; (repeat' split) <;> omega
theorem enc_part {a b : Nat} (h : a < b) (hb : b < 18446744073709551616) : Part (enc a) (enc b) := by
  rw [enc_eq, enc_eq]
  have hm := hd_mono h
  have ha' := hd_lt a
  have hb' := hd_lt b
  rcases Nat.lt_or_ge (hd a) (hd b) with e | e
  · exact ⟨[], tl a, tl b, _, _, rfl, rfl, by rw [toNat_ofNat ha', toNat_ofNat hb']; exact e⟩
  · have e2 : hd a = hd b := by omega
    have wa := width_3 a
    have wb := width_3 b
    have ht : Part (tl a) (tl b) := by
      unfold hd at e2
      unfold tl
      by_cases a1 : a ≤ 240
      · rw [if_pos a1] at e2
        exfalso
        revert e2; (repeat' split) <;> omega
      by_cases a2 : a ≤ 2287
      · have b2 : b ≤ 2287 := by
          rw [if_neg a1, if_pos a2] at e2
          revert e2; (repeat' split) <;> omega
        rw [if_neg a1, if_pos a2, if_neg (by omega), if_pos b2] at e2
        rw [if_neg a1, if_pos a2, if_neg (by omega), if_pos b2]
        refine ⟨[], [], [], _, _, rfl, rfl, ?_⟩
        rw [toNat_ofNat (by omega), toNat_ofNat (by omega)]
        omega
      by_cases a3 : a ≤ 67823
      · have b3 : b ≤ 67823 := by
          rw [if_neg a1, if_neg a2, if_pos a3] at e2
          revert e2; (repeat' split) <;> omega
        rw [if_neg a1, if_neg a2, if_pos a3, if_neg (by omega), if_neg (by omega), if_pos b3]
        exact be_part 2 _ _ (by omega) (by omega)
      · rw [if_neg a1, if_neg a2, if_neg a3, if_neg (by omega), if_neg (by omega), if_neg (by omega)] at e2
        have ew : width a = width b := by omega
        rw [if_neg a1, if_neg a2, if_neg a3, if_neg (by omega), if_neg (by omega), if_neg (by omega), ew]
        exact be_part _ _ _ h (width_lt hb)
    have := ht.ahead [UInt8.ofNat (hd a)]
    rw [e2] at this ⊢
    exact this

/-- parted lists: neither begins the other one, and their order is that of the place -/
theorem Part.lt {a b : List UInt8} (h : Part a b) : a < b := by
  obtain ⟨p, a', b', x, y, rfl, rfl, hx⟩ := h
  induction p with
  | nil => exact List.Lex.rel (by simpa [UInt8.lt_iff_toNat_lt] using hx)
  | cons c p ih => exact List.Lex.cons ih
theorem Part.ne {a b : List UInt8} (h : Part a b) : a ≠ b := by
  obtain ⟨p, a', b', x, y, rfl, rfl, hx⟩ := h
  intro e
  have := List.append_cancel_left e
  injection this with h1 _
  subst h1
  omega
theorem Part.not_prefix {a b : List UInt8} (h : Part a b) : ¬ a <+: b ∧ ¬ b <+: a := by
  constructor
  · rintro ⟨u, hu⟩
    have := (h.behind u [])
    rw [List.append_nil, hu] at this
    exact this.ne rfl
  · rintro ⟨u, hu⟩
    have := (h.behind [] u)
    rw [List.append_nil, hu] at this
    exact this.ne rfl

theorem width_iff {n j : Nat} (h3 : 3 ≤ j) (h8 : j < 8) : j < width n ↔ 0 < n / 256 ^ j := by
  have hp : 0 < 256 ^ j := Nat.pow_pos (by decide)
  rw [Nat.div_pos_iff]
  rcases (show j = 3 ∨ j = 4 ∨ j = 5 ∨ j = 6 ∨ j = 7 by omega) with rfl | rfl | rfl | rfl | rfl <;> unfold width <;> (repeat' split) <;> omega
theorem be_get (m : Nat) : ∀ n i, i < m → (be m n)[i]? = some (UInt8.ofNat (n / 256 ^ (m - 1 - i) % 256)) := by
  induction m with
  | zero => intro n i h; omega
  | succ m ih =>
    intro n i h
    rw [be]
    rcases Nat.lt_or_ge i m with hi | hi
    · rw [List.getElem?_append_left (by rw [be_length]; exact hi), ih _ _ hi, Nat.div_div_eq_div_mul]
      have : 256 * 256 ^ (m - 1 - i) = 256 ^ (m + 1 - 1 - i) := by
        rw [Nat.mul_comm, ← Nat.pow_succ]
        congr 1
        omega
      rw [this]
    · have e : i = m := by omega
      subst e
      rw [List.getElem?_append_right (by rw [be_length]; omega), be_length]
      have : i + 1 - 1 - i = 0 := by omega
      rw [this]
      simp
theorem be_take (m n i : Nat) (h : i < m) : (be m n).take i ++ [UInt8.ofNat (n / 256 ^ (m - 1 - i) % 256)] = (be m n).take (i + 1) := by
  have hl := be_length m n
  rw [List.take_add_one, be_get m n i h]
  rfl
end Wm
