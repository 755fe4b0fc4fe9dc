/-
The example of layer 15; the law BackoffSums: its call answers true, whatever the rule and the number.
-/
import Derived.Test.YtmemmhalcieelaaBb
namespace Go.Proofs.Ytmemmhalcieelaa.B
open Go.RowKit Go.Proofs.YtmemmhalcieelaaW.PrintWords Go.Proofs.YtmemmhalcieelaaW.PrintLast Go.Proofs.YtmemmhalcieelaaW.PrintMore
attribute [local go_sem] max2_int min2_int max_two min_two
set_option linter.unusedSimpArgs false

set_option maxHeartbeats 1000000 in
theorem awake_c (w : World) : Calls Try.prog 19 #[] w fun e w' => e = .returned (.bool true) ∧ Below w.heap.size w w' := by
  have hu30 := Try.underlying30
  have h0 : M.Ok 2 10 5 100 := by decide
  have hR := fun W => right_c 2 10 5 100 W
  rw [decide_eq_true h0] at hR
  have hD1 := fun W => delay_c 2 10 5 100 1 W (by decide)
  rw [show M.delay 2 10 5 100 1 = 2 by decide] at hD1
  have hD3 := fun W => delay_c 2 10 5 100 3 W (by decide)
  rw [show M.delay 2 10 5 100 3 = 8 by decide] at hD3
  have hD4 := fun W => delay_c 2 10 5 100 4 W (by decide)
  rw [show M.delay 2 10 5 100 4 = 10 by decide] at hD4
  have hT := fun W => total_c 2 10 5 100 5 W (by decide) (by decide)
  rw [show M.total 2 10 5 100 5 = 34 by decide] at hT
  have HR := Aside0.mk hR
  have HD1 := Aside0.mk hD1
  have HD3 := Aside0.mk hD3
  have HD4 := Aside0.mk hD4
  have HT := Aside0.mk hT
  clear hR hD1 hD3 hD4 hT h0
  go_enter Try.func19, Try.ntmps19
  go_wp2_with fail
  refine (HR.out _).mono ?_
  rintro e w1 ⟨rfl, hB⟩
  have BK1 := Aside0.mk (blk_below (blk_new w (.cells #[.int .i64 2, .int .i64 10, .int .i64 5, .int .i64 100] 30)) hB)
  have HB1 := Aside0.mk (below_step (below_alloc (Below.refl w.heap.size w) (.cells #[.int .i64 2, .int .i64 10, .int .i64 5, .int .i64 100] 30)) hB)
  clear hB
  obtain ⟨s0, s1, s2, s3⟩ := cells4 BK1.out
  go_wp2_with fail
  refine (HD1.out _).mono ?_
  rintro e w2 ⟨rfl, hB⟩
  have BK2 := Aside0.mk (blk_below BK1.out hB)
  have HB2 := Aside0.mk (below_step HB1.out hB)
  clear hB s0 s1 s2 s3
  obtain ⟨s0, s1, s2, s3⟩ := cells4 BK2.out
  go_wp2_with fail
  refine (HD3.out _).mono ?_
  rintro e w3 ⟨rfl, hB⟩
  have BK3 := Aside0.mk (blk_below BK2.out hB)
  have HB3 := Aside0.mk (below_step HB2.out hB)
  clear hB s0 s1 s2 s3
  obtain ⟨s0, s1, s2, s3⟩ := cells4 BK3.out
  go_wp2_with fail
  refine (HD4.out _).mono ?_
  rintro e w4 ⟨rfl, hB⟩
  have BK4 := Aside0.mk (blk_below BK3.out hB)
  have HB4 := Aside0.mk (below_step HB3.out hB)
  clear hB s0 s1 s2 s3
  obtain ⟨s0, s1, s2, s3⟩ := cells4 BK4.out
  go_wp2_with fail
  refine (HT.out _).mono ?_
  rintro e w5 ⟨rfl, hB⟩
  have HB5 := Aside0.mk (below_step HB4.out hB)
  clear hB
  go_wp2_with fail
  go_ret
  exact ⟨rfl, HB5.out⟩

def sumsT : Bool × List (List Nat × List Nat) := (true, [([], []), ([], []), ([1], [1]), ([0, 2], [0, 2]), ([], []), ([], []), ([4, 5, 3], [4, 5]), ([], []), ([], []), ([8], [8]), ([7, 9, 6], [7, 9]), ([6, 10], [6, 10]), ([3, 11], [3, 11]), ([12, 10], [12]), ([13], [13]), ([14, 13, 13], [13, 14]), ([15, 13], [13, 15]), ([13, 16], [13, 16]), ([17, 15], [17]), ([18], [18]), ([19, 18, 18], [18, 19]), ([20, 18], [18, 20]), ([18, 21], [18, 21]), ([22, 20, 0, 1, 2, 3, 4, 5, 6, 7, 8, 9, 10, 11, 12, 13, 14, 15, 16, 17, 18, 19, 20, 21, 22], [22])])
def sumsB : List Nat := [0, 0, 2, 7, 0, 0, 63, 0, 0, 256, 1023, 2047, 4095, 8191, 16383, 32767, 65535, 131071, 262143, 524287, 1048575, 2097151, 4194303, 8388607]
theorem sumsTab : rtab .any (opsOf Try.f4 4) = sumsT := by kernel_rfl
theorem sumsBits : waitsOk sumsT.2 sumsB = true := by kernel_rfl

theorem total_bd {b c t m : Int} (hok : M.Ok b c t m) {k : Nat} (h : k ≤ 1000000) : M.total b c t m k = M.sm b c k ∧ M.sm b c k ≤ 1000000000000 := by
  have hok' := hok
  unfold M.Ok at hok'
  have h1 := (M.sm_bd (show 1 ≤ b by omega) (show b ≤ c by omega) k).2
  have h2 : (k : Int) * c ≤ 1000000 * c := Int.mul_le_mul_of_nonneg_right (by omega) (by omega)
  have h3 : (1000000 : Int) * c ≤ 1000000 * 1000000 := Int.mul_le_mul_of_nonneg_left (by omega) (by decide)
  unfold M.total
  rw [if_pos hok, Int.toNat_natCast]
  omega

theorem sums_plain (b c t m J : Int) (h0 : 0 ≤ J) (h1 : J ≤ 100000) : M.total b c t m (J + 1) = M.total b c t m J + M.delay b c t m (J + 1) ∧ 0 ≤ M.total b c t m J ∧ M.total b c t m J ≤ 1000000000000 ∧ 0 ≤ M.delay b c t m (J + 1) ∧ M.delay b c t m (J + 1) ≤ 1000000 := by
  obtain ⟨k, rfl⟩ := Int.eq_ofNat_of_zero_le h0
  by_cases hok : M.Ok b c t m
  · have e1 := total_bd hok (show k ≤ 1000000 by omega)
    have e2 := total_bd hok (show k + 1 ≤ 1000000 by omega)
    have e3 := dl_small hok k
    have e4 := dl_nonneg hok k
    have e5 := sm_nonneg hok k
    rw [delay_succ hok k, e1.1]
    rw [show ((k : Int) + 1) = ((k + 1 : Nat) : Int) by omega, e2.1, M.sm]
    omega
  · unfold M.total M.delay
    rw [if_neg hok, if_neg hok, if_neg hok]
    decide

set_option maxHeartbeats 4000000 in
set_option maxRecDepth 100000 in
theorem sums_c (b c t m n : Int) (w : World) (hn0 : -9223372036854775808 ≤ n) (hn1 : n ≤ 9223372036854775807) :
    Calls Try.prog 4 #[.agg #[.int .i64 b, .int .i64 c, .int .i64 t, .int .i64 m], .int .i64 n] w fun e w' => e = .returned (.bool true) ∧ Below w.heap.size w w' := by
  have hu30 := Try.underlying30
  obtain ⟨J3, hJ3⟩ : ∃ j : Int, (if n < 0 then 0 else n) = j := ⟨_, rfl⟩
  obtain ⟨J, hJ⟩ : ∃ j : Int, (if 100000 < J3 then 100000 else J3) = j := ⟨_, rfl⟩
  have hb : 0 ≤ J ∧ J ≤ 100000 := by
    rw [← hJ, ← hJ3]
    repeat' split
    all_goals omega
  have hb0 := hb.1
  have hb1 := hb.2
  clear hb
  have hp := sums_plain b c t m J hb0 hb1
  obtain ⟨X1, hX1⟩ : ∃ x : Int, M.total b c t m (J + 1) = x := ⟨_, rfl⟩
  obtain ⟨X2, hX2⟩ : ∃ x : Int, M.total b c t m J = x := ⟨_, rfl⟩
  obtain ⟨X3, hX3⟩ : ∃ x : Int, M.delay b c t m (J + 1) = x := ⟨_, rfl⟩
  have H1 := Aside0.mk (fun W => total_c b c t m (J + 1) W (by omega) (by omega))
  have H2 := Aside0.mk (fun W => total_c b c t m J W (by omega) (by omega))
  have H3 := Aside0.mk (fun W => delay_c b c t m (J + 1) W (by omega))
  have H4 := Aside0.mk (fun W => total_c b c t m 0 W (by decide) (by decide))
  have H5 := Aside0.mk (fun W => total_c b c t m (-1) W (by decide) (by decide))
  rw [hX1, hX2, hX3] at hp
  rw [hX1] at H1
  rw [hX2] at H2
  rw [hX3] at H3
  rw [show M.total b c t m 0 = 0 by unfold M.total; split <;> rfl] at H4
  rw [show M.total b c t m (-1) = 0 by unfold M.total; split <;> rfl] at H5
  clear hX1 hX2 hX3
  have HP := Aside0.mk hp
  have hw1 : IntKind.i64.wrap (J + 1) = J + 1 := IntWalk.i64_in _ (by omega)
  have hw2 : IntKind.i64.wrap (X2 + X3) = X2 + X3 := IntWalk.i64_in _ (by omega)
  have hq : (X1 == X2 + X3) = true := beq_iff_eq.mpr hp.1
  clear hp
  have HW := Aside0.mk (And.intro hw1 hw2)
  clear hw1 hw2 hn0 hn1
  go_enter Try.func4, Try.ntmps4
  go_wp2_with fail
  refine (awake_c _).mono ?_
  rintro e w1 ⟨rfl, hB⟩
  have BK0 := Aside0.mk (blk_below (blk_new w (.cells #[.int .i64 b, .int .i64 c, .int .i64 t, .int .i64 m] 30)) hB)
  have HB0 := Aside0.mk (below_step (below_alloc (Below.refl w.heap.size w) (.cells #[.int .i64 b, .int .i64 c, .int .i64 t, .int .i64 m] 30)) hB)
  clear hB
  go_wp2_with fail
  obtain ⟨hw1, hw2⟩ := HW.out
  have BK1 := Aside0.mk (blk_drew BK0.out)
  have HB1 := Aside0.mk (below_drew1 HB0.out)
  have HS1 := Aside0.mk (cells4 BK1.out)
  refine start_ (n := 24) (S := fun w' => w'.cell? ⟨w.heap.size, 0, none⟩ = some (.int .i64 b) ∧ w'.cell? ⟨w.heap.size, 1, none⟩ = some (.int .i64 c) ∧ w'.cell? ⟨w.heap.size, 2, none⟩ = some (.int .i64 t) ∧ w'.cell? ⟨w.heap.size, 3, none⟩ = some (.int .i64 m)) (ds := []) #[false, false, false, false, false, false, false, false, false, false, false, false, false, false, false, false, false, false, false, false, false, false, false, false] (by kernel_rfl) rfl rfl HS1.out (fun hHeld0 => ?_)
  refine with_tabW sumsTab sumsBits (fun HT_ HW_ => ?_)
  clear hHeld0
  refine pure_ (i := 1) (N := some 12) (v := ?_) (a' := ?_) #[false, true, false, false, false, false, false, false, false, false, false, false, false, false, false, false, false, false, false, false, false, false, false, false] rfl rfl (any_of HT_.out (by kernel_rfl)) (fun _ _ _ h => h) (Or.inl ⟨by rfl, ?_⟩) ?_ ?_
  rotate_left
  · intro w'
    go_simp
    with_reducible rfl
  rotate_left
  · simp only [Act.put, List.setIfInBounds_toArray, List.set_cons_zero, List.set_cons_succ]
    rfl
  refine pure_ (i := 2) (N := some 13) (v := ?_) (a' := ?_) #[false, true, true, false, false, false, false, false, false, false, false, false, false, false, false, false, false, false, false, false, false, false, false, false] rfl rfl (any_of HT_.out (by kernel_rfl)) (fun _ _ _ h => h) (Or.inl ⟨by rfl, ?_⟩) ?_ ?_
  rotate_left
  · intro w'
    go_simp
    with_reducible rfl
  rotate_left
  · simp only [Act.put, List.setIfInBounds_toArray, List.set_cons_zero, List.set_cons_succ]
    rfl
  refine pure_ (i := 5) (N := some 16) (v := ?_) (a' := ?_) #[false, true, true, false, false, true, false, false, false, false, false, false, false, false, false, false, false, false, false, false, false, false, false, false] rfl rfl (any_of HT_.out (by kernel_rfl)) (fun _ _ _ h => h) (Or.inl ⟨by rfl, ?_⟩) ?_ ?_
  rotate_left
  · intro w'
    go_simp
    with_reducible rfl
  rotate_left
  · simp only [Act.put, List.setIfInBounds_toArray, List.set_cons_zero, List.set_cons_succ]
    rfl
  refine pure_ (i := 8) (N := some 19) (v := ?_) (a' := ?_) #[false, true, true, false, false, true, false, false, true, false, false, false, false, false, false, false, false, false, false, false, false, false, false, false] rfl rfl (any_of HT_.out (by kernel_rfl)) (fun _ _ _ h => h) (Or.inl ⟨by rfl, ?_⟩) ?_ ?_
  rotate_left
  · intro w'
    go_simp
    with_reducible rfl
  rotate_left
  · simp only [Act.put, List.setIfInBounds_toArray, List.set_cons_zero, List.set_cons_succ]
    rfl
  refine pure_ (i := 9) (N := some 20) (v := ?_) (a' := ?_) #[false, true, true, false, false, true, false, false, true, true, false, false, false, false, false, false, false, false, false, false, false, false, false, false] rfl rfl (any_of HT_.out (by kernel_rfl)) (fun _ _ _ h => h) (Or.inl ⟨by rfl, ?_⟩) ?_ ?_
  rotate_left
  · intro w'
    go_simp
    with_reducible rfl
  rotate_left
  · simp only [Act.put, List.setIfInBounds_toArray, List.set_cons_zero, List.set_cons_succ]
    rfl
  refine take_ (i := 0) (N := some 11) (v := ?_) (a' := ?_) #[true, true, true, false, false, true, false, false, true, true, false, false, false, false, false, false, false, false, false, false, false, false, false, false] rfl rfl (take_ofW HT_.out HW_.out (by kernel_rfl)) (fun _ _ _ h => h) (Or.inl ⟨by rfl, ?_⟩) HS1.out ?_ ?_
  rotate_left
  · intro w' hw'
    obtain ⟨s0, s1, s2, s3⟩ := hw'
    go_simp
    with_reducible rfl
  rotate_left
  · simp only [Act.put, List.setIfInBounds_toArray, List.set_cons_zero, List.set_cons_succ]
    rfl
  refine take_ (i := 4) (N := some 15) (v := ?_) (a' := ?_) #[true, true, true, false, true, true, false, false, true, true, false, false, false, false, false, false, false, false, false, false, false, false, false, false] rfl rfl (take_ofW HT_.out HW_.out (by kernel_rfl)) (fun _ _ _ h => h) (Or.inl ⟨by rfl, ?_⟩) HS1.out ?_ ?_
  rotate_left
  · intro w' hw'
    obtain ⟨s0, s1, s2, s3⟩ := hw'
    go_simp
    with_reducible rfl
  rotate_left
  · simp only [Act.put, List.setIfInBounds_toArray, List.set_cons_zero, List.set_cons_succ]
    rfl
  refine take_ (i := 7) (N := some 18) (v := ?_) (a' := ?_) #[true, true, true, false, true, true, false, true, true, true, false, false, false, false, false, false, false, false, false, false, false, false, false, false] rfl rfl (take_ofW HT_.out HW_.out (by kernel_rfl)) (fun _ _ _ h => h) (Or.inl ⟨by rfl, ?_⟩) HS1.out ?_ ?_
  rotate_left
  · intro w' hw'
    obtain ⟨s0, s1, s2, s3⟩ := hw'
    go_simp
    with_reducible rfl
  rotate_left
  · simp only [Act.put, List.setIfInBounds_toArray, List.set_cons_zero, List.set_cons_succ]
    rfl
  refine one_ (i := 3) (N := some 14) #[true, true, true, true, true, true, false, true, true, true, false, false, false, false, false, false, false, false, false, false, false, false, false, false] rfl rfl (one_of HT_.out (by kernel_rfl)) (by decide) (fun K hK => ?_)
  refine goes_ Try.func20 (by kernel_rfl) rfl #[.agg #[.int .i64 b, .int .i64 c, .int .i64 t, .int .i64 m], .int .i64 (J + 1)] (by rfl) rfl rfl (by (try simp only [List.map_toArray, List.map_cons, List.map_nil]); first | done | rfl) ?_
  refine (H1.out _).mono ?_
  rintro e w2 ⟨rfl, hB2⟩
  refine ⟨_, rfl, ?_⟩
  have BK2 := Aside0.mk (blk_below BK1.out hB2)
  have HB2 := Aside0.mk (below_step HB1.out hB2)
  have HS2 := Aside0.mk (cells4 BK2.out)
  clear hB2
  refine hK.out _ _ HS2.out (fun hHeld0 => ?_)
  clear hK K hHeld0
  refine norm_ (a' := ?_) ?_ ?_
  rotate_left
  · show Act.put _ (some 14) _ = _
    simp only [Act.put, List.setIfInBounds_toArray, List.set_cons_zero, List.set_cons_succ]
    rfl
  refine one_ (i := 6) (N := some 17) #[true, true, true, true, true, true, true, true, true, true, false, false, false, false, false, false, false, false, false, false, false, false, false, false] rfl rfl (one_of HT_.out (by kernel_rfl)) (by decide) (fun K hK => ?_)
  refine goes_ Try.func20 (by kernel_rfl) rfl #[.agg #[.int .i64 b, .int .i64 c, .int .i64 t, .int .i64 m], .int .i64 J] (by rfl) rfl rfl (by (try simp only [List.map_toArray, List.map_cons, List.map_nil]); first | done | rfl) ?_
  refine (H2.out _).mono ?_
  rintro e w3 ⟨rfl, hB3⟩
  refine ⟨_, rfl, ?_⟩
  have BK3 := Aside0.mk (blk_below BK2.out hB3)
  have HB3 := Aside0.mk (below_step HB2.out hB3)
  have HS3 := Aside0.mk (cells4 BK3.out)
  clear hB3
  refine hK.out _ _ HS3.out (fun hHeld0 => ?_)
  clear hK K hHeld0
  refine norm_ (a' := ?_) ?_ ?_
  rotate_left
  · show Act.put _ (some 17) _ = _
    simp only [Act.put, List.setIfInBounds_toArray, List.set_cons_zero, List.set_cons_succ]
    rfl
  refine one_ (i := 10) (N := some 21) #[true, true, true, true, true, true, true, true, true, true, true, false, false, false, false, false, false, false, false, false, false, false, false, false] rfl rfl (one_of HT_.out (by kernel_rfl)) (by decide) (fun K hK => ?_)
  refine goes_ Try.func21 (by kernel_rfl) rfl #[.agg #[.int .i64 b, .int .i64 c, .int .i64 t, .int .i64 m], .int .i64 (J + 1)] (by rfl) rfl rfl (by (try simp only [List.map_toArray, List.map_cons, List.map_nil]); first | done | rfl) ?_
  refine (H3.out _).mono ?_
  rintro e w4 ⟨rfl, hB4⟩
  refine ⟨_, rfl, ?_⟩
  have BK4 := Aside0.mk (blk_below BK3.out hB4)
  have HB4 := Aside0.mk (below_step HB3.out hB4)
  have HS4 := Aside0.mk (cells4 BK4.out)
  clear hB4
  refine hK.out _ _ HS4.out (fun hHeld0 => ?_)
  clear hK K hHeld0
  refine norm_ (a' := ?_) ?_ ?_
  rotate_left
  · show Act.put _ (some 21) _ = _
    simp only [Act.put, List.setIfInBounds_toArray, List.set_cons_zero, List.set_cons_succ]
    rfl
  refine pure_ (i := 11) (N := some 22) (v := ?_) (a' := ?_) #[true, true, true, true, true, true, true, true, true, true, true, true, false, false, false, false, false, false, false, false, false, false, false, false] rfl rfl (any_of HT_.out (by kernel_rfl)) (fun _ _ _ h => h) (Or.inl ⟨by rfl, ?_⟩) ?_ ?_
  rotate_left
  · intro w'
    go_simp
    with_reducible rfl
  rotate_left
  · simp only [Act.put, List.setIfInBounds_toArray, List.set_cons_zero, List.set_cons_succ]
    rfl
  refine pure_ (i := 12) (N := some 23) (v := ?_) (a' := ?_) #[true, true, true, true, true, true, true, true, true, true, true, true, true, false, false, false, false, false, false, false, false, false, false, false] rfl rfl (any_of HT_.out (by kernel_rfl)) (fun _ _ _ h => h) (Or.inl ⟨by rfl, ?_⟩) ?_ ?_
  rotate_left
  · intro w'
    go_simp
    with_reducible rfl
  rotate_left
  · simp only [Act.put, List.setIfInBounds_toArray, List.set_cons_zero, List.set_cons_succ]
    rfl
  refine pure_ (i := 13) (N := some 24) (v := ?_) (a' := ?_) #[true, true, true, true, true, true, true, true, true, true, true, true, true, true, false, false, false, false, false, false, false, false, false, false] rfl rfl (any_of HT_.out (by kernel_rfl)) (fun _ _ _ h => h) (Or.inl ⟨by rfl, ?_⟩) ?_ ?_
  rotate_left
  · intro w'
    go_simp
    with_reducible rfl
  rotate_left
  · simp only [Act.put, List.setIfInBounds_toArray, List.set_cons_zero, List.set_cons_succ]
    rfl
  refine take_ (i := 14) (N := some 25) (v := ?_) (a' := ?_) #[true, true, true, true, true, true, true, true, true, true, true, true, true, true, true, false, false, false, false, false, false, false, false, false] rfl rfl (take_ofW HT_.out HW_.out (by kernel_rfl)) (fun _ _ _ h => h) (Or.inl ⟨by rfl, ?_⟩) HS4.out ?_ ?_
  rotate_left
  · intro w' hw'
    obtain ⟨s0, s1, s2, s3⟩ := hw'
    go_simp
    with_reducible rfl
  rotate_left
  · simp only [Act.put, List.setIfInBounds_toArray, List.set_cons_zero, List.set_cons_succ]
    rfl
  refine one_ (i := 15) (N := some 26) #[true, true, true, true, true, true, true, true, true, true, true, true, true, true, true, true, false, false, false, false, false, false, false, false] rfl rfl (one_of HT_.out (by kernel_rfl)) (by decide) (fun K hK => ?_)
  refine goes_ Try.func20 (by kernel_rfl) rfl #[.agg #[.int .i64 b, .int .i64 c, .int .i64 t, .int .i64 m], .int .i64 0] (by rfl) rfl rfl (by (try simp only [List.map_toArray, List.map_cons, List.map_nil]); first | done | rfl) ?_
  refine (H4.out _).mono ?_
  rintro e w5 ⟨rfl, hB5⟩
  refine ⟨_, rfl, ?_⟩
  have BK5 := Aside0.mk (blk_below BK4.out hB5)
  have HB5 := Aside0.mk (below_step HB4.out hB5)
  have HS5 := Aside0.mk (cells4 BK5.out)
  clear hB5
  refine hK.out _ _ HS5.out (fun hHeld0 => ?_)
  clear hK K hHeld0
  refine norm_ (a' := ?_) ?_ ?_
  rotate_left
  · show Act.put _ (some 26) _ = _
    simp only [Act.put, List.setIfInBounds_toArray, List.set_cons_zero, List.set_cons_succ]
    rfl
  refine pure_ (i := 16) (N := some 27) (v := ?_) (a' := ?_) #[true, true, true, true, true, true, true, true, true, true, true, true, true, true, true, true, true, false, false, false, false, false, false, false] rfl rfl (any_of HT_.out (by kernel_rfl)) (fun _ _ _ h => h) (Or.inl ⟨by rfl, ?_⟩) ?_ ?_
  rotate_left
  · intro w'
    go_simp
    with_reducible rfl
  rotate_left
  · simp only [Act.put, List.setIfInBounds_toArray, List.set_cons_zero, List.set_cons_succ]
    rfl
  refine pure_ (i := 17) (N := some 28) (v := ?_) (a' := ?_) #[true, true, true, true, true, true, true, true, true, true, true, true, true, true, true, true, true, true, false, false, false, false, false, false] rfl rfl (any_of HT_.out (by kernel_rfl)) (fun _ _ _ h => h) (Or.inl ⟨by rfl, ?_⟩) ?_ ?_
  rotate_left
  · intro w'
    go_simp
    with_reducible rfl
  rotate_left
  · simp only [Act.put, List.setIfInBounds_toArray, List.set_cons_zero, List.set_cons_succ]
    rfl
  refine pure_ (i := 18) (N := some 29) (v := ?_) (a' := ?_) #[true, true, true, true, true, true, true, true, true, true, true, true, true, true, true, true, true, true, true, false, false, false, false, false] rfl rfl (any_of HT_.out (by kernel_rfl)) (fun _ _ _ h => h) (Or.inl ⟨by rfl, ?_⟩) ?_ ?_
  rotate_left
  · intro w'
    go_simp
    with_reducible rfl
  rotate_left
  · simp only [Act.put, List.setIfInBounds_toArray, List.set_cons_zero, List.set_cons_succ]
    rfl
  refine take_ (i := 19) (N := some 30) (v := ?_) (a' := ?_) #[true, true, true, true, true, true, true, true, true, true, true, true, true, true, true, true, true, true, true, true, false, false, false, false] rfl rfl (take_ofW HT_.out HW_.out (by kernel_rfl)) (fun _ _ _ h => h) (Or.inl ⟨by rfl, ?_⟩) HS5.out ?_ ?_
  rotate_left
  · intro w' hw'
    obtain ⟨s0, s1, s2, s3⟩ := hw'
    go_simp
    with_reducible rfl
  rotate_left
  · simp only [Act.put, List.setIfInBounds_toArray, List.set_cons_zero, List.set_cons_succ]
    rfl
  refine one_ (i := 20) (N := some 31) #[true, true, true, true, true, true, true, true, true, true, true, true, true, true, true, true, true, true, true, true, true, false, false, false] rfl rfl (one_of HT_.out (by kernel_rfl)) (by decide) (fun K hK => ?_)
  refine goes_ Try.func20 (by kernel_rfl) rfl #[.agg #[.int .i64 b, .int .i64 c, .int .i64 t, .int .i64 m], .int .i64 (-1)] (by rfl) rfl rfl (by (try simp only [List.map_toArray, List.map_cons, List.map_nil]); first | done | rfl) ?_
  refine (H5.out _).mono ?_
  rintro e w6 ⟨rfl, hB6⟩
  refine ⟨_, rfl, ?_⟩
  have BK6 := Aside0.mk (blk_below BK5.out hB6)
  have HB6 := Aside0.mk (below_step HB5.out hB6)
  have HS6 := Aside0.mk (cells4 BK6.out)
  clear hB6
  refine hK.out _ _ HS6.out (fun hHeld0 => ?_)
  clear hK K hHeld0
  refine norm_ (a' := ?_) ?_ ?_
  rotate_left
  · show Act.put _ (some 31) _ = _
    simp only [Act.put, List.setIfInBounds_toArray, List.set_cons_zero, List.set_cons_succ]
    rfl
  refine pure_ (i := 21) (N := some 32) (v := ?_) (a' := ?_) #[true, true, true, true, true, true, true, true, true, true, true, true, true, true, true, true, true, true, true, true, true, true, false, false] rfl rfl (any_of HT_.out (by kernel_rfl)) (fun _ _ _ h => h) (Or.inl ⟨by rfl, ?_⟩) ?_ ?_
  rotate_left
  · intro w'
    go_simp
    with_reducible rfl
  rotate_left
  · simp only [Act.put, List.setIfInBounds_toArray, List.set_cons_zero, List.set_cons_succ]
    rfl
  refine pure_ (i := 22) (N := some 33) (v := ?_) (a' := ?_) #[true, true, true, true, true, true, true, true, true, true, true, true, true, true, true, true, true, true, true, true, true, true, true, false] rfl rfl (any_of HT_.out (by kernel_rfl)) (fun _ _ _ h => h) (Or.inl ⟨by rfl, ?_⟩) ?_ ?_
  rotate_left
  · intro w'
    go_simp
    with_reducible rfl
  rotate_left
  · simp only [Act.put, List.setIfInBounds_toArray, List.set_cons_zero, List.set_cons_succ]
    rfl
  refine pure_ (i := 23) (N := some 4) (v := ?_) (a' := ?_) #[true, true, true, true, true, true, true, true, true, true, true, true, true, true, true, true, true, true, true, true, true, true, true, true] rfl rfl (any_of HT_.out (by kernel_rfl)) (fun _ _ _ h => h) (Or.inl ⟨by rfl, ?_⟩) ?_ ?_
  rotate_left
  · intro w'
    go_simp
    with_reducible rfl
  rotate_left
  · simp only [Act.put, List.setIfInBounds_toArray, List.set_cons_zero, List.set_cons_succ]
    rfl
  refine done_ (done_of HT_.out (by kernel_rfl)) ?_
  clear hw1 hw2
  go_wp2_with fail
  go_ret
  exact ⟨rfl, HB6.out⟩

theorem int_range {n : Int} (h : (Lit.int .i64 n).wf = true) : -9223372036854775808 ≤ n ∧ n ≤ 9223372036854775807 := by
  simp [Lit.wf, IntKind.min, IntKind.max, IntKind.bits, IntKind.signed] at h
  omega

end Go.Proofs.Ytmemmhalcieelaa.B
