/-
What the functions of backoff and clock come to: contracts at the plain functions M.delay, M.total.
-/
import Derived.Test.YtmemmhalcieelaaM4
import Derived.Test.YtmemmhalcieelaaPBackoffDelaysx2
import Derived.Test.YtmemmhalcieelaaPBackoffDelaysx4
namespace Go.Proofs.Ytmemmhalcieelaa.B
open Go.RowKit Go.Proofs.YtmemmhalcieelaaW.PrintWords Go.Proofs.YtmemmhalcieelaaW.PrintLast Go.Proofs.YtmemmhalcieelaaW.PrintMore Go.Proofs.Ytmemmhalcieelaa.PBackoffDelays

theorem in_f (n m : Int) : backoff_in.f n m = some (decide (1 ≤ n ∧ n ≤ m)) := by
  unfold backoff_in.f
  by_cases h : 1 ≤ n
  · rw [if_pos h]; simp [h]
  · rw [if_neg h]; simp [h]

theorem dec_eq {p : Prop} [Decidable p] {x : Bool} (h : x = true ↔ p) : x = decide p := by
  rw [Bool.eq_iff_iff, decide_eq_true_iff]
  exact h

theorem right_f (b c t m : Int) : backoff_Right.f b c t m = some (decide (M.Ok b c t m)) := by
  unfold backoff_Right.f
  simp only [in_f, Option.bind_some]
  by_cases z : b = 0 ∧ c = 0 ∧ t = 0 ∧ m = 0
  · obtain ⟨rfl, rfl, rfl, rfl⟩ := z
    rfl
  · have hz : ¬ ((b == 0 && (c == 0 && (t == 0 && m == 0))) = true) := by simpa using z
    rw [if_neg hz]
    by_cases h1 : 1 ≤ b ∧ b ≤ c
    · rw [decide_eq_true h1, if_pos rfl]
      by_cases h2 : 1 ≤ c ∧ c ≤ 1000000
      · rw [decide_eq_true h2, if_pos rfl]
        by_cases h3 : 1 ≤ t ∧ t ≤ 100
        · rw [decide_eq_true h3, if_pos rfl]
          refine congrArg some (dec_eq ?_)
          unfold M.Ok
          simp only [decide_eq_true_eq]
          omega
        · rw [decide_eq_false h3, if_neg (by decide)]
          refine congrArg some (dec_eq ?_)
          unfold M.Ok
          simp only [Bool.false_eq_true, false_iff]
          omega
      · rw [decide_eq_false h2, if_neg (by decide)]
        refine congrArg some (dec_eq ?_)
        unfold M.Ok
        simp only [Bool.false_eq_true, false_iff]
        omega
    · rw [decide_eq_false h1, if_neg (by decide)]
      refine congrArg some (dec_eq ?_)
      unfold M.Ok
      simp only [Bool.false_eq_true, false_iff]
      omega

theorem lawright_f (b c t m : Int) : flangelaw15_right.f b c t m = some (decide (M.Ok b c t m)) := by
  unfold flangelaw15_right.f
  repeat' split
  all_goals
    refine congrArg some (dec_eq ?_)
    unfold M.Ok
    first | simp only [Bool.false_eq_true, false_iff] | simp only [decide_eq_true_eq]
    omega

theorem mn_min (a b : Int) : mn a b = min a b := by unfold mn; omega
theorem mx_max (a b : Int) : mx a b = max a b := by unfold mx; omega

/-- The loop of Delay, from whatever number on. -/
theorem delay_l0 : ∀ (j k : Nat) (n d b c t m : Int), 1 ≤ d → c ≤ 1000000 → d < 2000001 → (c - d).toNat ≤ j → j < k → 1 ≤ n → n ≤ 9223372036854775807 →
    backoff_Delay.l0 k n d b c t m = some (min (d * M.two (n - 1).toNat) c)
  | j, k, n, d, b, c, t, m, hd, hc, hd2, hj, hk, hn, hn2 => by
    obtain ⟨k, rfl⟩ : ∃ i, k = i + 1 := ⟨k - 1, by omega⟩
    simp only [backoff_Delay.l0]
    by_cases h1 : 1 < n
    · rw [if_pos h1]
      by_cases h2 : d < c
      · rw [if_pos h2]
        obtain ⟨j, rfl⟩ : ∃ i, j = i + 1 := ⟨j - 1, by omega⟩
        have e1 : wrap64 (n - 1) = n - 1 := by unfold wrap64; omega
        have e2 : wrap64 (d * 2) = d * 2 := by unfold wrap64; omega
        rw [e1, e2, delay_l0 j k (n - 1) (d * 2) b c t m (by omega) hc (by omega) (by omega) (by omega) (by omega) (by omega)]
        rw [show (n - 1).toNat = (n - 1 - 1).toNat + 1 by omega, M.two_succ, Int.mul_assoc, Int.mul_comm 2]
      · rw [if_neg h2, mn_min]
        have := M.mul_two_ge hd (n - 1).toNat
        congr 1
        omega
    · rw [if_neg h1, mn_min, show (n - 1).toNat = 0 by omega, M.two_zero, Int.mul_one]

theorem delay_f (k : Nat) (b c t m n : Int) (hk : 1000002 ≤ k) (hn2 : n ≤ 9223372036854775807) : backoff_Delay.f k b c t m n = some (M.delay b c t m n) := by
  unfold backoff_Delay.f M.delay
  rw [right_f]
  simp only [Option.bind_some]
  obtain ⟨k, rfl⟩ : ∃ i, k = i + 1 := ⟨k - 1, by omega⟩
  by_cases h : M.Ok b c t m
  · rw [decide_eq_true h, if_pos rfl, if_pos h]
    simp only [backoff_Delay.j0]
    by_cases h1 : n < 1
    · rw [if_pos (by simpa using h1), if_pos h1]
    · rw [if_neg (by simpa using h1), if_neg h1]
      have h' := h
      unfold M.Ok at h'
      rw [delay_l0 1000000 k n b b c t m (by omega) (by omega) (by omega) (by omega) (by omega) (by omega) hn2]
      rfl
  · rw [decide_eq_false h, if_neg (by decide), if_neg h]
    simp only [backoff_Delay.j0, if_true]

theorem lawdelay_l0 : ∀ (j k : Nat) (n d i b c t m : Int), 1 ≤ d → d * M.two (30 - i).toNat < 9223372036854775808 → c ≤ 1000000 → 1 ≤ i → i ≤ 30 → (30 - i).toNat = j → j < k → i ≤ max n 1 →
    (1048576 ≤ d * M.two (30 - i).toNat) → flangelaw15_delay.l0 k n d i b c t m = some (min (d * M.two (n - i).toNat) c)
  | j, k, n, d, i, b, c, t, m, hd, hd2, hc, hi, hi2, hj, hk, hn, hbig => by
    obtain ⟨k, rfl⟩ : ∃ x, k = x + 1 := ⟨k - 1, by omega⟩
    simp only [flangelaw15_delay.l0]
    by_cases h1 : i < n
    · rw [if_pos h1]
      by_cases h2 : i < 30
      · rw [if_pos h2]
        obtain ⟨j, rfl⟩ : ∃ x, j = x + 1 := ⟨j - 1, by omega⟩
        have e0 : (30 - i).toNat = (30 - (i + 1)).toNat + 1 := by omega
        have e3 : (n - i).toNat = (n - (i + 1)).toNat + 1 := by omega
        have hp := M.mul_two_ge hd (30 - i).toNat
        rw [e0, M.two_succ] at hd2 hbig
        have hp2 := M.two_pos (30 - (i + 1)).toNat
        have e4 : d * (M.two (30 - (i + 1)).toNat * 2) = 2 * d * M.two (30 - (i + 1)).toNat := by rw [Int.mul_comm 2 d, Int.mul_assoc, Int.mul_comm 2]
        rw [e4] at hd2 hbig
        have hq := M.mul_two_ge (show (1 : Int) ≤ 2 * d by omega) (30 - (i + 1)).toNat
        have e1 : wrap64 (i + 1) = i + 1 := by unfold wrap64; omega
        have e2 : wrap64 (2 * d) = 2 * d := by unfold wrap64; omega
        rw [e1, e2, lawdelay_l0 j k n (2 * d) (i + 1) b c t m (by omega) hd2 hc (by omega) (by omega) (by omega) (by omega) (by omega) hbig]
        rw [e3, M.two_succ, Int.mul_comm 2 d, Int.mul_assoc, Int.mul_comm 2]
      · obtain rfl : i = 30 := by omega
        rw [if_neg h2, mn_min]
        rw [show (30 - 30 : Int).toNat = 0 from rfl, M.two_zero, Int.mul_one] at hbig
        have := M.mul_two_ge hd (n - 30).toNat
        congr 1
        omega
    · rw [if_neg h1, mn_min, show (n - i).toNat = 0 by omega, M.two_zero, Int.mul_one]

theorem lawdelay_f (k : Nat) (b c t m n : Int) (hk : 40 ≤ k) : flangelaw15_delay.f k b c t m n = some (M.delay b c t m n) := by
  unfold flangelaw15_delay.f M.delay
  rw [lawright_f]
  simp only [Option.bind_some]
  obtain ⟨k, rfl⟩ : ∃ i, k = i + 1 := ⟨k - 1, by omega⟩
  by_cases h : M.Ok b c t m
  · rw [decide_eq_true h, if_pos rfl, if_pos h]
    simp only [flangelaw15_delay.j0]
    by_cases h1 : n < 1
    · rw [if_pos (by simpa using h1), if_pos h1]
    · rw [if_neg (by simpa using h1), if_neg h1]
      have h' := h
      unfold M.Ok at h'
      have e29 : M.two (30 - 1 : Int).toNat = 536870912 := by decide
      rw [lawdelay_l0 29 k n b 1 b c t m (by omega) (by rw [e29]; omega) (by omega) (by omega) (by omega) (by decide) (by omega) (by omega) (by rw [e29]; omega)]
      rfl
  · rw [decide_eq_false h, if_neg (by decide), if_neg h]
    simp only [flangelaw15_delay.j0, if_true]

theorem clip_f (n : Int) : clock_Clip.f n = some (min (max n 0) 1152921504606846976) := by
  unfold clock_Clip.f
  rw [mn_min, mx_max]
theorem add_f (x y : Int) (hx : 0 ≤ x) (hx2 : x ≤ 1152921504606846976) (hy : 0 ≤ y) (hy2 : y ≤ 1152921504606846976) : clock_Add.f x y = some (min (x + y) 1152921504606846976) := by
  unfold clock_Add.f
  simp only [clip_f, Option.bind_some]
  congr 1
  rw [show min (max x 0) 1152921504606846976 = x by omega, show min (max y 0) 1152921504606846976 = y by omega]
  have e : wrap64 (x + y) = x + y := by unfold wrap64; omega
  rw [e]
  omega

/-- A rule, as a value. -/
def rv (b c t m : Int) : Value := .agg #[.int .i64 b, .int .i64 c, .int .i64 t, .int .i64 m]

theorem right_c (b c t m : Int) (w : World) : Calls Try.prog 26 #[.agg #[.int .i64 b, .int .i64 c, .int .i64 t, .int .i64 m]] w fun e w' => e = .returned (.bool (decide (M.Ok b c t m))) ∧ Below w.heap.size w w' :=
  backoff_Right.calls b c t m _ w (right_f b c t m)
theorem lawright_c (b c t m : Int) (w : World) : Calls Try.prog 23 #[.agg #[.int .i64 b, .int .i64 c, .int .i64 t, .int .i64 m]] w fun e w' => e = .returned (.bool (decide (M.Ok b c t m))) ∧ Below w.heap.size w w' :=
  flangelaw15_right.calls b c t m _ w (lawright_f b c t m)
theorem delay_c (b c t m n : Int) (w : World) (hn : n ≤ 9223372036854775807) : Calls Try.prog 21 #[.agg #[.int .i64 b, .int .i64 c, .int .i64 t, .int .i64 m], .int .i64 n] w fun e w' => e = .returned (.int .i64 (M.delay b c t m n)) ∧ Below w.heap.size w w' :=
  backoff_Delay.calls 1000002 b c t m n _ w (delay_f 1000002 b c t m n (Nat.le_refl _) hn)
theorem lawdelay_c (b c t m n : Int) (w : World) : Calls Try.prog 22 #[.agg #[.int .i64 b, .int .i64 c, .int .i64 t, .int .i64 m], .int .i64 n] w fun e w' => e = .returned (.int .i64 (M.delay b c t m n)) ∧ Below w.heap.size w w' :=
  flangelaw15_delay.calls 40 b c t m n _ w (lawdelay_f 40 b c t m n (Nat.le_refl _))
theorem add_c (x y : Int) (w : World) (hx : 0 ≤ x) (hx2 : x ≤ 1152921504606846976) (hy : 0 ≤ y) (hy2 : y ≤ 1152921504606846976) :
    Calls Try.prog 52 #[.int .i64 x, .int .i64 y] w fun e w' => e = .returned (.int .i64 (min (x + y) 1152921504606846976)) ∧ Below w.heap.size w w' :=
  clock_Add.calls x y _ w (add_f x y hx hx2 hy hy2)
theorem clip_c (x : Int) (w : World) : Calls Try.prog 58 #[.int .i64 x] w fun e w' => e = .returned (.int .i64 (min (max x 0) 1152921504606846976)) ∧ Below w.heap.size w w' :=
  clock_Clip.calls x _ w (clip_f x)
theorem lawclip_c (x : Int) (w : World) : Calls Try.prog 24 #[.int .i64 x] w fun e w' => e = .returned (.int .i64 (min (max x 0) 1152921504606846976)) ∧ Below w.heap.size w w' :=
  flangelaw15_clip.calls x _ w (by unfold flangelaw15_clip.f; rw [mn_min, mx_max])

end Go.Proofs.Ytmemmhalcieelaa.B
