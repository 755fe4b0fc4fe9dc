/-
Plain facts about delays: the delay behind the n-th failure, and sums of delays. No program here.
-/
namespace Go.Proofs.Ytmemmhalcieelaa.M

/-- May a rule be? -/
def Ok (b c t m : Int) : Prop := 1 ≤ b ∧ b ≤ c ∧ c ≤ 1000000 ∧ 1 ≤ t ∧ t ≤ 100 ∧ 1 ≤ m ∧ m ≤ 1000000
instance okDec (b c t m : Int) : Decidable (Ok b c t m) := by unfold Ok; infer_instance

/-- Powers of two, as whole numbers. -/
def two (k : Nat) : Int := 2 ^ k
theorem two_zero : two 0 = 1 := rfl
theorem two_succ (k : Nat) : two (k + 1) = two k * 2 := Int.pow_succ _ _
theorem two_pos (k : Nat) : 1 ≤ two k := by
  have : (0 : Int) < 2 ^ k := Int.pow_pos (by decide)
  unfold two
  omega
theorem two_le (i : Nat) : ∀ j : Nat, i ≤ j → two i ≤ two j
  | 0, h => by rw [show i = 0 by omega]; exact Int.le_refl _
  | j + 1, h => by
    by_cases e : i = j + 1
    · rw [e]; exact Int.le_refl _
    · have := two_le i j (by omega)
      have hp := two_pos j
      rw [two_succ]
      omega
theorem two_big {k : Nat} (h : 20 ≤ k) : 1048576 ≤ two k := by
  have := two_le 20 k h
  have e : two 20 = 1048576 := by decide
  omega

/-- The delay behind the (k + 1)-th failure, of a rule that may be. -/
def dl (b c : Int) (k : Nat) : Int := min (b * two k) c
theorem dl_zero {b c : Int} (h : b ≤ c) : dl b c 0 = b := by
  unfold dl
  rw [two_zero]
  omega
theorem dl_le (b c : Int) (k : Nat) : dl b c k ≤ c := by unfold dl; omega
theorem mul_two_ge {b : Int} (hb : 1 ≤ b) (k : Nat) : two k ≤ b * two k ∧ b ≤ b * two k := by
  have hp := two_pos k
  have h1 : 1 * two k ≤ b * two k := Int.mul_le_mul_of_nonneg_right hb (by omega)
  have h2 : b * 1 ≤ b * two k := Int.mul_le_mul_of_nonneg_left hp (by omega)
  omega
theorem dl_ge {b c : Int} (hb : 1 ≤ b) (hc : b ≤ c) (k : Nat) : b ≤ dl b c k := by
  have := mul_two_ge hb k
  unfold dl
  omega
theorem dl_step {b c : Int} (hb : 1 ≤ b) (hc : b ≤ c) (k : Nat) : dl b c (k + 1) = min (2 * dl b c k) c ∧ dl b c k ≤ dl b c (k + 1) := by
  have h := mul_two_ge hb k
  have hp := two_pos k
  have e : b * two (k + 1) = 2 * (b * two k) := by rw [two_succ, ← Int.mul_assoc, Int.mul_comm]
  unfold dl
  rw [e]
  generalize b * two k = X at h ⊢
  simp only [Int.min_def]
  constructor
  · split <;> split <;> (try split) <;> omega
  · split <;> split <;> omega
theorem dl_cap {b c : Int} (hb : 1 ≤ b) (hc : c ≤ 1000000) {k : Nat} (h : 20 ≤ k) : dl b c k = c := by
  have := mul_two_ge hb k
  have := two_big h
  unfold dl
  omega
theorem dl_stay {b c : Int} (hb : 1 ≤ b) (hc : b ≤ c) {k : Nat} (h : dl b c k = c) : ∀ j, k ≤ j → dl b c j = c
  | 0, hj => by rw [show k = 0 by omega] at h; exact h
  | j + 1, hj => by
    by_cases e : k = j + 1
    · rw [← e]; exact h
    · have ih := dl_stay hb hc h j (by omega)
      have h1 := (dl_step hb hc j).2
      have h2 := dl_le b c (j + 1)
      omega

/-- The sum of the first n delays. -/
def sm (b c : Int) : Nat → Int
  | 0 => 0
  | n + 1 => sm b c n + dl b c n
theorem sm_bd {b c : Int} (hb : 1 ≤ b) (hc : b ≤ c) : ∀ n : Nat, 0 ≤ sm b c n ∧ sm b c n ≤ n * c
  | 0 => by simp [sm]
  | n + 1 => by
    have ih := sm_bd hb hc n
    have h1 := dl_ge hb hc n
    have h2 := dl_le b c n
    have e : ((n + 1 : Nat) : Int) * c = n * c + c := by rw [Int.natCast_add, Int.add_mul]; simp
    rw [e, sm]
    omega
/-- From where the delays are the cap on. -/
theorem sm_cap {b c : Int} (hb : 1 ≤ b) (hc : b ≤ c) {k : Nat} (h : dl b c k = c) : ∀ m : Nat, sm b c (k + m) = sm b c k + m * c
  | 0 => by simp
  | m + 1 => by
    rw [← Nat.add_assoc, sm, sm_cap hb hc h m, dl_stay hb hc h (k + m) (by omega), Int.natCast_add, Int.add_mul]
    simp
    omega

/-- Any rule's delay. -/
def delay (b c t m n : Int) : Int := if Ok b c t m then (if n < 1 then 0 else dl b c (n - 1).toNat) else 0
/-- Any rule's sum. -/
def total (b c t m n : Int) : Int := if Ok b c t m then min (sm b c n.toNat) 1152921504606846976 else 0

end Go.Proofs.Ytmemmhalcieelaa.M
