/-
Plain facts about a number's bytes (seven bits a byte, the lowest ones first): how they are laid, how they are read, how many there are. No program and no memory here.
-/
namespace Go.Proofs.Ytmemmhalcieelaa.M

/-- A number's bytes, at most d + 1 of them. -/
def enc : Nat → Int → List Int
  | 0, n => [n]
  | d + 1, n => if n < 128 then [n] else (n % 128 + 128) :: enc d (n / 128)

/-- A number's bytes. -/
def E (n : Int) : List Int := enc 9 n

theorem enc_small (d : Nat) (n : Int) (h : n < 128) : enc d n = [n] := by
  cases d with
  | zero => rfl
  | succ d => rw [enc, if_pos h]

theorem enc_big (d : Nat) (n : Int) (h : ¬ n < 128) : enc (d + 1) n = (n % 128 + 128) :: enc d (n / 128) := by
  rw [enc, if_neg h]

theorem enc_pos (d : Nat) (n : Int) : 0 < (enc d n).length := by
  cases d with
  | zero => simp [enc]
  | succ d => rw [enc]; split <;> simp

theorem enc_le : ∀ (d : Nat) (n : Int), (enc d n).length ≤ d + 1
  | 0, n => by simp [enc]
  | d + 1, n => by
    rw [enc]
    split
    · simp
    · have := enc_le d (n / 128)
      simp only [List.length_cons]
      omega

theorem E_pos (n : Int) : 0 < (E n).length := enc_pos 9 n
theorem E_le (n : Int) : (E n).length ≤ 10 := enc_le 9 n

/-- More room for bytes than is wanted turns nothing. -/
theorem enc_room : ∀ (d : Nat) (n : Int), n < 128 ^ (d + 1) → enc (d + 1) n = enc d n
  | 0, n, h => by
    have h' : n < 128 := by simpa using h
    rw [enc_small _ n h', enc_small _ n h']
  | d + 1, n, h => by
    by_cases c : n < 128
    · rw [enc_small _ n c, enc_small _ n c]
    · rw [enc_big (d + 1) n c, enc_big d n c, enc_room d (n / 128)]
      rw [Int.pow_succ] at h
      omega

theorem enc_bytes : ∀ (d : Nat) (n : Int), 0 ≤ n → n < 128 ^ (d + 1) → ∀ x ∈ enc d n, 0 ≤ x ∧ x < 256
  | 0, n, h0, h1 => by
    have h' : n < 128 := by simpa using h1
    intro x hx
    simp only [enc, List.mem_singleton] at hx
    omega
  | d + 1, n, h0, h1 => by
    intro x hx
    by_cases c : n < 128
    · rw [enc_small _ n c, List.mem_singleton] at hx
      omega
    · rw [enc_big d n c, List.mem_cons] at hx
      rcases hx with hx | hx
      · omega
      · exact enc_bytes d (n / 128) (by omega) (by rw [Int.pow_succ] at h1; omega) x hx

theorem pow10 {n : Int} (h : n < 18446744073709551616) : n < (128 : Int) ^ (9 + 1) := by
  have : (128 : Int) ^ (9 + 1) = 1180591620717411303424 := by decide
  omega

theorem E_bytes {n : Int} (h0 : 0 ≤ n) (h1 : n < 18446744073709551616) : ∀ x ∈ E n, 0 ≤ x ∧ x < 256 := enc_bytes 9 n h0 (pow10 h1)

/-- What bytes read as, from byte i on, acc being what the bytes ahead tell: the number, how many bytes, the error. -/
def rdv : Nat → Int → List Int → Int × Int × Int
  | _, _, [] => (0, 0, 5)
  | i, acc, c :: cs =>
    if c < 128 then (if (c = 0 ∧ 0 < i) ∨ (i = 9 ∧ c ≠ 1) then (0, 0, 4) else (acc + c * 128 ^ i, (i : Int) + 1, 0))
    else if i = 9 then (0, 0, 4) else rdv (i + 1) (acc + (c - 128) * 128 ^ i) cs

/-- What bytes read as. -/
def V (b : List Int) : Int × Int × Int := rdv 0 0 b

/-- What is laid is read, whatever stands behind. -/
theorem rdv_enc : ∀ (d i : Nat) (n acc : Int) (more : List Int), i + d = 9 → 0 ≤ n → n < 128 ^ (d + 1) → n * 128 ^ i < 18446744073709551616 → (0 < i → 0 < n) →
    rdv i acc (enc d n ++ more) = (acc + n * 128 ^ i, (i : Int) + (enc d n).length, 0)
  | 0, i, n, acc, more, hi, h0, h1, h2, h3 => by
    obtain rfl : i = 9 := by omega
    have e9 : (128 : Int) ^ 9 = 9223372036854775808 := by decide
    have h1' : n < 128 := by simpa using h1
    have hn : n = 1 := by rw [e9] at h2; have := h3 (by decide); omega
    subst hn
    simp only [enc, List.singleton_append, rdv]
    rw [if_pos (by decide), if_neg (by decide)]
    simp
  | d + 1, i, n, acc, more, hi, h0, h1, h2, h3 => by
    by_cases c : n < 128
    · rw [enc_small _ n c]
      simp only [List.singleton_append, rdv]
      rw [if_pos c, if_neg (by omega)]
      simp
    · rw [enc_big d n c]
      have e : (128 : Int) ^ (i + 1) = 128 ^ i * 128 := Int.pow_succ _ _
      have hp : (0 : Int) < 128 ^ i := Int.pow_pos (by decide)
      have hq : n / 128 * 128 ^ (i + 1) + n % 128 * 128 ^ i = n * 128 ^ i := by
        rw [e, Int.mul_comm (128 ^ i) 128, ← Int.mul_assoc, ← Int.add_mul]
        congr 1
        omega
      have hr : 0 ≤ n % 128 * 128 ^ i := Int.mul_nonneg (by omega) (by omega)
      simp only [List.cons_append, rdv]
      rw [if_neg (by omega), if_neg (by omega), rdv_enc d (i + 1) (n / 128) _ more (by omega) (by omega) (by rw [Int.pow_succ] at h1; omega) (by omega) (by omega)]
      simp only [List.length_cons, Prod.mk.injEq, and_true]
      constructor
      · rw [show n % 128 + 128 - 128 = n % 128 by omega]
        omega
      · omega

theorem V_E {n : Int} (h0 : 0 ≤ n) (h1 : n < 18446744073709551616) (more : List Int) : V (E n ++ more) = (n, ((E n).length : Int), 0) := by
  have := rdv_enc 9 0 n 0 more rfl h0 (pow10 h1) (by simpa using h1) (by omega)
  unfold V E
  rw [this]
  simp

/-- No number's bytes begin with another one's. -/
theorem E_apart {n m : Int} (h0 : 0 ≤ n) (h1 : n < 18446744073709551616) (k0 : 0 ≤ m) (k1 : m < 18446744073709551616) (t : List Int) (h : E n = E m ++ t) : n = m := by
  have a := V_E h0 h1 []
  have b := V_E k0 k1 t
  rw [List.append_nil, h, b] at a
  exact (congrArg Prod.fst a).symm

theorem enc_mono : ∀ (d : Nat) (n m : Int), n ≤ m → (enc d n).length ≤ (enc d m).length
  | 0, n, m, _ => by simp [enc]
  | d + 1, n, m, h => by
    by_cases c : n < 128
    · rw [enc_small _ n c]
      exact enc_pos _ _
    · rw [enc_big d n c, enc_big d m (by omega)]
      have := enc_mono d (n / 128) (m / 128) (by omega)
      simpa using this

theorem E_mono {n m : Int} (h : n ≤ m) : (E n).length ≤ (E m).length := enc_mono 9 n m h

theorem pow_mono (i : Nat) : ∀ j : Nat, i ≤ j → (128 : Int) ^ i ≤ 128 ^ j
  | 0, h => by rw [show i = 0 by omega]; exact Int.le_refl _
  | j + 1, h => by
    by_cases e : i = j + 1
    · rw [e]; exact Int.le_refl _
    · have := pow_mono i j (by omega)
      have hp : (0 : Int) < 128 ^ j := Int.pow_pos (by decide)
      rw [Int.pow_succ]
      omega

/-- What a number reads as has at least one byte, and no more than there are; the number is one of 64 bits; there are no other errors. -/
theorem rdv_tells : ∀ (l : List Int) (i : Nat) (acc : Int), i ≤ 9 → 0 ≤ acc → acc < 128 ^ i → (∀ x ∈ l, 0 ≤ x ∧ x < 256) →
    (rdv i acc l = (0, 0, 5) ∨ rdv i acc l = (0, 0, 4) ∨
      ∃ n j : Int, rdv i acc l = (n, j, 0) ∧ 0 ≤ n ∧ n < 18446744073709551616 ∧ (i : Int) < j ∧ j ≤ i + l.length ∧ j ≤ 10 ∧ n < 128 ^ (j.toNat))
  | [], i, acc, _, _, _, _ => .inl rfl
  | c :: cs, i, acc, hi, h0, h1, hb => by
    have hc := hb c (List.mem_cons_self ..)
    have hp : (0 : Int) < 128 ^ i := Int.pow_pos (by decide)
    simp only [rdv]
    by_cases c1 : c < 128
    · rw [if_pos c1]
      by_cases c2 : (c = 0 ∧ 0 < i) ∨ (i = 9 ∧ c ≠ 1)
      · rw [if_pos c2]; exact .inr (.inl rfl)
      · rw [if_neg c2]
        have hm : 0 ≤ c * 128 ^ i := Int.mul_nonneg (by omega) (by omega)
        have hlt : acc + c * 128 ^ i < 128 ^ (i + 1) := by
          have e : (128 : Int) ^ (i + 1) = 128 ^ i * 128 := Int.pow_succ _ _
          have e2 : c * 128 ^ i ≤ 127 * 128 ^ i := Int.mul_le_mul_of_nonneg_right (by omega) (by omega)
          omega
        refine .inr (.inr ⟨_, _, rfl, by omega, ?_, by omega, by simp only [List.length_cons]; omega, by omega, ?_⟩)
        · by_cases e9 : i = 9
          · subst e9
            obtain rfl : c = 1 := by omega
            have e9 : (128 : Int) ^ 9 = 9223372036854775808 := by decide
            omega
          · have : (128 : Int) ^ (i + 1) ≤ 128 ^ 9 := pow_mono (i + 1) 9 (by omega)
            have e9 : (128 : Int) ^ 9 = 9223372036854775808 := by decide
            omega
        · rw [show ((i : Int) + 1).toNat = i + 1 by omega]; exact hlt
    · rw [if_neg c1]
      by_cases c2 : i = 9
      · rw [if_pos c2]; exact .inr (.inl rfl)
      · rw [if_neg c2]
        have hm : 0 ≤ (c - 128) * 128 ^ i := Int.mul_nonneg (by omega) (by omega)
        have hlt : acc + (c - 128) * 128 ^ i < 128 ^ (i + 1) := by
          have e : (128 : Int) ^ (i + 1) = 128 ^ i * 128 := Int.pow_succ _ _
          have e2 : (c - 128) * 128 ^ i ≤ 127 * 128 ^ i := Int.mul_le_mul_of_nonneg_right (by omega) (by omega)
          omega
        rcases rdv_tells cs (i + 1) _ (by omega) (by omega) hlt (fun x hx => hb x (List.mem_cons_of_mem _ hx)) with h | h | ⟨n, j, h, a, b, d, e, f, g⟩
        · exact .inl h
        · exact .inr (.inl h)
        · exact .inr (.inr ⟨n, j, h, a, b, by omega, by simp only [List.length_cons]; omega, f, g⟩)

/-- What bytes tell, by division. -/
def valOf : List Int → Int
  | [] => 0
  | c :: cs => c % 128 + 128 * valOf cs

theorem valOf_pos : ∀ (p : List Int) (c : Int), (∀ x ∈ p, 0 ≤ x) → 0 < c → c < 128 → 0 < valOf (p ++ [c])
  | [], c, _, h0, h1 => by simp [valOf]; omega
  | x :: p, c, hp, h0, h1 => by
    have := valOf_pos p c (fun y hy => hp y (List.mem_cons_of_mem _ hy)) h0 h1
    simp only [List.cons_append, valOf]
    omega

/-- Bytes that are canonical are their number's. -/
theorem enc_valOf : ∀ (p : List Int) (c : Int) (d : Nat), p.length ≤ d → (∀ x ∈ p, 128 ≤ x ∧ x < 256) → 0 ≤ c → c < 128 → (p ≠ [] → 0 < c) → enc d (valOf (p ++ [c])) = p ++ [c]
  | [], c, d, _, _, h0, h1, _ => by
    simp only [List.nil_append, valOf]
    rw [enc_small d _ (by omega)]
    congr 1
    omega
  | x :: p, c, 0, hd, _, _, _, _ => by simp at hd
  | x :: p, c, d + 1, hd, hp, h0, h1, hc => by
    have hx := hp x (List.mem_cons_self ..)
    have hc' := hc (by simp)
    have hpos := valOf_pos p c (fun y hy => by have := hp y (List.mem_cons_of_mem _ hy); omega) hc' h1
    simp only [List.cons_append, valOf]
    rw [enc_big d _ (by omega)]
    rw [show (x % 128 + 128 * valOf (p ++ [c])) % 128 + 128 = x by omega, show (x % 128 + 128 * valOf (p ++ [c])) / 128 = valOf (p ++ [c]) by omega]
    rw [enc_valOf p c d (by simpa using hd) (fun y hy => hp y (List.mem_cons_of_mem _ hy)) h0 h1 (fun _ => hc')]

/-- No number's bytes, but the number 0's, end in 0. -/
theorem enc_last : ∀ (d : Nat) (n : Int) (p : List Int), 0 ≤ n → n < 128 ^ (d + 1) → enc d n = p ++ [0] → p = []
  | 0, n, p, h0, h1, h => by
    cases p with
    | nil => rfl
    | cons x p => simp [enc] at h
  | d + 1, n, p, h0, h1, h => by
    by_cases c : n < 128
    · rw [enc_small _ n c] at h
      cases p with
      | nil => rfl
      | cons x p => simp at h
    · rw [enc_big d n c] at h
      cases p with
      | nil => rfl
      | cons x p =>
        simp only [List.cons_append, List.cons.injEq] at h
        have hp := enc_last d (n / 128) p (by omega) (by rw [Int.pow_succ] at h1; omega) h.2
        subst hp
        have h2 := h.2
        cases d with
        | zero => simp only [enc, List.nil_append, List.cons.injEq, and_true] at h2; omega
        | succ d =>
          rw [enc] at h2
          split at h2
          · simp at h2; omega
          · have := congrArg List.length h2
            have p1 := enc_pos d (n / 128 / 128)
            simp at this
            rw [this] at p1
            simp at p1

end Go.Proofs.Ytmemmhalcieelaa.M
