/-
The law BackoffRises: its call answers true, whatever the rule and the number.
-/
import Derived.Test.YtmemmhalcieelaaBg

namespace Go.Proofs.Ytmemmhalcieelaa.B
open Go.RowKit Go.Proofs.YtmemmhalcieelaaW.PrintWords Go.Proofs.YtmemmhalcieelaaW.PrintLast Go.Proofs.YtmemmhalcieelaaW.PrintMore
attribute [local go_sem] max2_int min2_int max_two min_two
set_option linter.unusedSimpArgs false

def risesT : Bool × List (List Nat × List Nat) := (true, [([], []), ([], []), ([0, 1], [0, 1]), ([], []), ([], []), ([4], [4]), ([3, 5, 2], [3, 5]), ([2, 6], [2, 6]), ([7, 6], [7]), ([8], [8]), ([8], [8]), ([9, 10, 8, 8], [8, 9, 10]), ([8], [8]), ([12, 8], [8, 12]), ([11, 13, 8], [8, 11, 13]), ([8, 14], [8, 14]), ([15, 11], [15]), ([16], [16]), ([16], [16]), ([17, 18, 16, 16], [16, 17, 18]), ([16], [16]), ([20, 16], [16, 20]), ([19, 21, 16], [16, 19, 21]), ([16, 22], [16, 22]), ([23, 19], [23]), ([24], [24]), ([25, 24, 24], [24, 25]), ([24], [24]), ([27, 24], [24, 27]), ([26, 28, 24], [24, 26, 28]), ([24, 29], [24, 29])])
def risesB : List Nat := [0, 0, 3, 0, 0, 16, 63, 127, 255, 511, 511, 2047, 511, 4607, 16383, 32767, 65535, 131071, 131071, 524287, 131071, 1179647, 4194303, 8388607, 16777215, 33554431, 67108863, 33554431, 167772159, 536870911, 1073741823]
theorem risesTab : rtab .any (opsOf Try.f11 4) = risesT := by kernel_rfl
theorem risesBits : waitsOk risesT.2 risesB = true := by kernel_rfl

theorem rises_no (b c t m n : Int) (w : World) (hok : ¬ M.Ok b c t m) (hn1 : n ≤ 9223372036854775807) :
    Calls Try.prog 11 #[.agg #[.int .i64 b, .int .i64 c, .int .i64 t, .int .i64 m], .int .i64 n] w fun e w' => e = .returned (.bool true) ∧ Below w.heap.size w w' := by
  have hu30 := Try.underlying30
  have hR0 := fun W => right_c b c t m W
  rw [decide_eq_false hok] at hR0
  have hD0 := fun W => delay_c b c t m n W hn1
  rw [show M.delay b c t m n = 0 by unfold M.delay; rw [if_neg hok]] at hD0
  have HR := Aside0.mk hR0
  have HD := Aside0.mk hD0
  clear hR0 hD0 hok hn1
  go_enter Try.func11, Try.ntmps11
  go_wp2_with fail
  refine (HR.out _).mono ?_
  rintro e w1 ⟨rfl, hB⟩
  have BK1 := Aside0.mk (blk_below (blk_new w (.cells #[.int .i64 b, .int .i64 c, .int .i64 t, .int .i64 m] 30)) hB)
  have HB1 := Aside0.mk (below_step (below_alloc (Below.refl w.heap.size w) (.cells #[.int .i64 b, .int .i64 c, .int .i64 t, .int .i64 m] 30)) hB)
  clear hB
  go_wp2_with fail
  refine (awake_c _).mono ?_
  rintro e w2 ⟨rfl, hB⟩
  have BK2 := Aside0.mk (blk_below BK1.out hB)
  have HB2 := Aside0.mk (below_step HB1.out hB)
  clear hB
  obtain ⟨s0, s1, s2, s3⟩ := cells4 BK2.out
  go_wp2_with fail
  refine (HD.out _).mono ?_
  rintro e w3 ⟨rfl, hB⟩
  have HB3 := Aside0.mk (below_step HB2.out hB)
  clear hB s0 s1 s2 s3
  go_wp2_with fail
  go_ret
  exact ⟨rfl, HB3.out⟩

theorem rises_plain {b c t m J : Int} (hok : M.Ok b c t m) (h1 : 1 ≤ J) : M.delay b c t m J ≤ M.delay b c t m (J + 1) ∧ M.delay b c t m J ≤ c ∧ b ≤ M.delay b c t m J ∧ M.delay b c t m 60 = c := by
  obtain ⟨i, hi⟩ := Int.eq_ofNat_of_zero_le (show 0 ≤ J - 1 by omega)
  obtain rfl : J = (i : Int) + 1 := by omega
  have hok' := hok
  unfold M.Ok at hok'
  have e1 := delay_succ hok i
  have e2 := delay_succ hok (i + 1)
  have e3 := delay_succ hok 59
  rw [show ((i + 1 : Nat) : Int) + 1 = (i : Int) + 1 + 1 by omega] at e2
  rw [show ((59 : Nat) : Int) + 1 = 60 by decide, M.dl_cap (show 1 ≤ b by omega) (show c ≤ 1000000 by omega) (show 20 ≤ 59 by decide)] at e3
  rw [e1, e2, e3]
  exact ⟨(M.dl_step (show 1 ≤ b by omega) (show b ≤ c by omega) i).2, M.dl_le b c i, M.dl_ge (show 1 ≤ b by omega) (show b ≤ c by omega) i, rfl⟩

set_option maxHeartbeats 8000000 in
set_option maxRecDepth 100000 in
theorem rises_ok (b c t m n : Int) (w : World) (hok : M.Ok b c t m) :
    Calls Try.prog 11 #[.agg #[.int .i64 b, .int .i64 c, .int .i64 t, .int .i64 m], .int .i64 n] w fun e w' => e = .returned (.bool true) ∧ Below w.heap.size w w' := by
  have hu30 := Try.underlying30
  have HOK := Aside0.mk hok
  have hR0 := fun W => right_c b c t m W
  rw [decide_eq_true hok] at hR0
  have HR := Aside0.mk hR0
  have HN := Aside0.mk (fun W => new_ok b c t m W hok)
  obtain ⟨J3, hJ3⟩ : ∃ j : Int, (if n < 1 then 1 else n) = j := ⟨_, rfl⟩
  obtain ⟨J, hJ⟩ : ∃ j : Int, (if 1000000 < J3 then 1000000 else J3) = j := ⟨_, rfl⟩
  have hJ1 : 1 ≤ J := by
    rw [← hJ, ← hJ3]
    repeat' split
    all_goals omega
  have hJ2 : J ≤ 1000000 := by
    rw [← hJ]
    split <;> omega
  have hp := rises_plain hok hJ1
  obtain ⟨D0, hD0⟩ : ∃ x : Int, M.delay b c t m J = x := ⟨_, rfl⟩
  obtain ⟨D1, hD1⟩ : ∃ x : Int, M.delay b c t m (J + 1) = x := ⟨_, rfl⟩
  rw [hD0, hD1] at hp
  have h0 := fun W => delay_c b c t m J W (by omega)
  have h1 := fun W => delay_c b c t m (J + 1) W (by omega)
  have h6 := fun W => delay_c b c t m 60 W (by decide)
  rw [hD0] at h0
  rw [hD1] at h1
  rw [hp.2.2.2] at h6
  have HD0 := Aside0.mk h0
  have HD1 := Aside0.mk h1
  have HD6 := Aside0.mk h6
  have hg0 : decide (D1 < D0) = false := decide_eq_false (by omega)
  have hg1 : decide (c < D0) = false := decide_eq_false (by omega)
  have hg2 : decide (D0 < b) = false := decide_eq_false (by omega)
  have HW := Aside0.mk (show IntKind.i64.wrap (J + 1) = J + 1 from IntWalk.i64_in _ (by omega))
  have hq : (c == c) = true := by simp
  clear hR0 hok hp h0 h1 h6 hD0 hD1
  go_enter Try.func11, Try.ntmps11
  go_wp2_with fail
  refine (HR.out _).mono ?_
  rintro e w1 ⟨rfl, hB⟩
  have BK1 := Aside0.mk (blk_below (blk_new w (.cells #[.int .i64 b, .int .i64 c, .int .i64 t, .int .i64 m] 30)) hB)
  have HB1 := Aside0.mk (below_step (below_alloc (Below.refl w.heap.size w) (.cells #[.int .i64 b, .int .i64 c, .int .i64 t, .int .i64 m] 30)) hB)
  clear hB
  go_wp2_with fail
  refine (awake_c _).mono ?_
  rintro e w2 ⟨rfl, hB⟩
  have BK2 := Aside0.mk (blk_below BK1.out hB)
  have HB2 := Aside0.mk (below_step HB1.out hB)
  clear hB
  go_wp2_with fail
  have hw1 := HW.out
  have BKq1 := Aside0.mk (blk_drew BK2.out)
  have HBq1 := Aside0.mk (below_drew1 HB2.out)
  have HSq1 := Aside0.mk (cells4 BKq1.out)
  refine start_ (n := 31) (S := fun w' => w'.cell? ⟨w.heap.size, 0, none⟩ = some (.int .i64 b) ∧ w'.cell? ⟨w.heap.size, 1, none⟩ = some (.int .i64 c) ∧ w'.cell? ⟨w.heap.size, 2, none⟩ = some (.int .i64 t) ∧ w'.cell? ⟨w.heap.size, 3, none⟩ = some (.int .i64 m)) (ds := []) #[false, false, false, false, false, false, false, false, false, false, false, false, false, false, false, false, false, false, false, false, false, false, false, false, false, false, false, false, false, false, false] (by kernel_rfl) rfl rfl HSq1.out (fun hHeld0 => ?_)
  refine with_tabW risesTab risesBits (fun HT_ HW_ => ?_)
  clear hHeld0
  refine pure_ (i := 1) (N := some 30) (v := ?_) (a' := ?_) #[false, true, false, false, false, false, false, false, false, false, false, false, false, false, false, false, false, false, false, false, false, false, false, false, false, false, false, false, false, false, false] rfl rfl (any_of HT_.out (by kernel_rfl)) (fun _ _ _ h => h) (Or.inl ⟨by rfl, ?_⟩) ?_ ?_
  rotate_left
  · intro w'
    go_simp
    with_reducible rfl
  rotate_left
  · simp only [Act.put, List.setIfInBounds_toArray, List.set_cons_zero, List.set_cons_succ]
    rfl
  refine pure_ (i := 4) (N := some 33) (v := ?_) (a' := ?_) #[false, true, false, false, true, false, false, false, false, false, false, false, false, false, false, false, false, false, false, false, false, false, false, false, false, false, false, false, false, false, false] rfl rfl (any_of HT_.out (by kernel_rfl)) (fun _ _ _ h => h) (Or.inl ⟨by rfl, ?_⟩) ?_ ?_
  rotate_left
  · intro w'
    go_simp
    with_reducible rfl
  rotate_left
  · simp only [Act.put, List.setIfInBounds_toArray, List.set_cons_zero, List.set_cons_succ]
    rfl
  refine pure_ (i := 5) (N := some 34) (v := ?_) (a' := ?_) #[false, true, false, false, true, true, false, false, false, false, false, false, false, false, false, false, false, false, false, false, false, false, false, false, false, false, false, false, false, false, false] rfl rfl (any_of HT_.out (by kernel_rfl)) (fun _ _ _ h => h) (Or.inl ⟨by rfl, ?_⟩) ?_ ?_
  rotate_left
  · intro w'
    go_simp
    with_reducible rfl
  rotate_left
  · simp only [Act.put, List.setIfInBounds_toArray, List.set_cons_zero, List.set_cons_succ]
    rfl
  refine take_ (i := 0) (N := some 29) (v := ?_) (a' := ?_) #[true, true, false, false, true, true, false, false, false, false, false, false, false, false, false, false, false, false, false, false, false, false, false, false, false, false, false, false, false, false, false] rfl rfl (take_ofW HT_.out HW_.out (by kernel_rfl)) (fun _ _ _ h => h) (Or.inl ⟨by rfl, ?_⟩) HSq1.out ?_ ?_
  rotate_left
  · intro w' hw'
    obtain ⟨s0, s1, s2, s3⟩ := hw'
    go_simp
    with_reducible rfl
  rotate_left
  · simp only [Act.put, List.setIfInBounds_toArray, List.set_cons_zero, List.set_cons_succ]
    rfl
  refine take_ (i := 3) (N := some 32) (v := ?_) (a' := ?_) #[true, true, false, true, true, true, false, false, false, false, false, false, false, false, false, false, false, false, false, false, false, false, false, false, false, false, false, false, false, false, false] rfl rfl (take_ofW HT_.out HW_.out (by kernel_rfl)) (fun _ _ _ h => h) (Or.inl ⟨by rfl, ?_⟩) HSq1.out ?_ ?_
  rotate_left
  · intro w' hw'
    obtain ⟨s0, s1, s2, s3⟩ := hw'
    go_simp
    with_reducible rfl
  rotate_left
  · simp only [Act.put, List.setIfInBounds_toArray, List.set_cons_zero, List.set_cons_succ]
    rfl
  refine one_ (i := 2) (N := some 31) #[true, true, true, true, true, true, false, false, false, false, false, false, false, false, false, false, false, false, false, false, false, false, false, false, false, false, false, false, false, false, false] rfl rfl (one_of HT_.out (by kernel_rfl)) (by decide) (fun K hK => ?_)
  refine goes_ Try.func21 (by kernel_rfl) rfl #[.agg #[.int .i64 b, .int .i64 c, .int .i64 t, .int .i64 m], .int .i64 J] (by rfl) rfl rfl (by (try simp only [List.map_toArray, List.map_cons, List.map_nil]); first | done | rfl) ?_
  refine (HD0.out _).mono ?_
  rintro e wq2 ⟨rfl, hBq2⟩
  refine ⟨_, rfl, ?_⟩
  have BKq2 := Aside0.mk (blk_below BKq1.out hBq2)
  have HBq2 := Aside0.mk (below_step HBq1.out hBq2)
  have HSq2 := Aside0.mk (cells4 BKq2.out)
  clear hBq2
  refine hK.out _ _ HSq2.out (fun hHeld0 => ?_)
  clear hK K hHeld0
  refine norm_ (a' := ?_) ?_ ?_
  rotate_left
  · show Act.put _ (some 31) _ = _
    simp only [Act.put, List.setIfInBounds_toArray, List.set_cons_zero, List.set_cons_succ]
    rfl
  refine one_ (i := 6) (N := some 35) #[true, true, true, true, true, true, true, false, false, false, false, false, false, false, false, false, false, false, false, false, false, false, false, false, false, false, false, false, false, false, false] rfl rfl (one_of HT_.out (by kernel_rfl)) (by decide) (fun K hK => ?_)
  refine goes_ Try.func21 (by kernel_rfl) rfl #[.agg #[.int .i64 b, .int .i64 c, .int .i64 t, .int .i64 m], .int .i64 (J + 1)] (by rfl) rfl rfl (by (try simp only [List.map_toArray, List.map_cons, List.map_nil]); first | done | rfl) ?_
  refine (HD1.out _).mono ?_
  rintro e wq3 ⟨rfl, hBq3⟩
  refine ⟨_, rfl, ?_⟩
  have BKq3 := Aside0.mk (blk_below BKq2.out hBq3)
  have HBq3 := Aside0.mk (below_step HBq2.out hBq3)
  have HSq3 := Aside0.mk (cells4 BKq3.out)
  clear hBq3
  refine hK.out _ _ HSq3.out (fun hHeld0 => ?_)
  clear hK K hHeld0
  refine norm_ (a' := ?_) ?_ ?_
  rotate_left
  · show Act.put _ (some 35) _ = _
    simp only [Act.put, List.setIfInBounds_toArray, List.set_cons_zero, List.set_cons_succ]
    rfl
  refine pure_ (i := 7) (N := some 36) (v := ?_) (a' := ?_) #[true, true, true, true, true, true, true, true, false, false, false, false, false, false, false, false, false, false, false, false, false, false, false, false, false, false, false, false, false, false, false] rfl rfl (any_of HT_.out (by kernel_rfl)) (fun _ _ _ h => h) (Or.inl ⟨by rfl, ?_⟩) ?_ ?_
  rotate_left
  · intro w'
    go_simp
    with_reducible rfl
  rotate_left
  · simp only [Act.put, List.setIfInBounds_toArray, List.set_cons_zero, List.set_cons_succ]
    rfl
  refine pure_ (i := 8) (N := some 37) (v := ?_) (a' := ?_) #[true, true, true, true, true, true, true, true, true, false, false, false, false, false, false, false, false, false, false, false, false, false, false, false, false, false, false, false, false, false, false] rfl rfl (any_of HT_.out (by kernel_rfl)) (fun _ _ _ h => h) (Or.inl ⟨by rfl, ?_⟩) ?_ ?_
  rotate_left
  · intro w'
    go_simp
    with_reducible rfl
  rotate_left
  · simp only [Act.put, List.setIfInBounds_toArray, List.set_cons_zero, List.set_cons_succ]
    rfl
  refine pure_ (i := 10) (N := some 39) (v := ?_) (a' := ?_) #[true, true, true, true, true, true, true, true, true, false, true, false, false, false, false, false, false, false, false, false, false, false, false, false, false, false, false, false, false, false, false] rfl rfl (any_of HT_.out (by kernel_rfl)) (fun _ _ _ h => h) (Or.inl ⟨by rfl, ?_⟩) ?_ ?_
  rotate_left
  · intro w'
    go_simp
    with_reducible rfl
  rotate_left
  · simp only [Act.put, List.setIfInBounds_toArray, List.set_cons_zero, List.set_cons_succ]
    rfl
  refine pure_ (i := 12) (N := some 41) (v := ?_) (a' := ?_) #[true, true, true, true, true, true, true, true, true, false, true, false, true, false, false, false, false, false, false, false, false, false, false, false, false, false, false, false, false, false, false] rfl rfl (any_of HT_.out (by kernel_rfl)) (fun _ _ _ h => h) (Or.inl ⟨by rfl, ?_⟩) ?_ ?_
  rotate_left
  · intro w'
    go_simp
    with_reducible rfl
  rotate_left
  · simp only [Act.put, List.setIfInBounds_toArray, List.set_cons_zero, List.set_cons_succ]
    rfl
  refine take_ (i := 9) (N := some 38) (v := ?_) (a' := ?_) #[true, true, true, true, true, true, true, true, true, true, true, false, true, false, false, false, false, false, false, false, false, false, false, false, false, false, false, false, false, false, false] rfl rfl (take_ofW HT_.out HW_.out (by kernel_rfl)) (fun _ _ _ h => h) (Or.inl ⟨by rfl, ?_⟩) HSq3.out ?_ ?_
  rotate_left
  · intro w' hw'
    obtain ⟨s0, s1, s2, s3⟩ := hw'
    go_simp
    with_reducible rfl
  rotate_left
  · simp only [Act.put, List.setIfInBounds_toArray, List.set_cons_zero, List.set_cons_succ]
    rfl
  refine take_ (i := 13) (N := some 42) (v := ?_) (a' := ?_) #[true, true, true, true, true, true, true, true, true, true, true, false, true, true, false, false, false, false, false, false, false, false, false, false, false, false, false, false, false, false, false] rfl rfl (take_ofW HT_.out HW_.out (by kernel_rfl)) (fun _ _ _ h => h) (Or.inl ⟨by rfl, ?_⟩) HSq3.out ?_ ?_
  rotate_left
  · intro w' hw'
    obtain ⟨s0, s1, s2, s3⟩ := hw'
    go_simp
    with_reducible rfl
  rotate_left
  · simp only [Act.put, List.setIfInBounds_toArray, List.set_cons_zero, List.set_cons_succ]
    rfl
  refine one_ (i := 11) (N := some 40) #[true, true, true, true, true, true, true, true, true, true, true, true, true, true, false, false, false, false, false, false, false, false, false, false, false, false, false, false, false, false, false] rfl rfl (one_of HT_.out (by kernel_rfl)) (by decide) (fun K hK => ?_)
  refine goes_ Try.func21 (by kernel_rfl) rfl #[.agg #[.int .i64 b, .int .i64 c, .int .i64 t, .int .i64 m], .int .i64 J] (by rfl) rfl rfl (by (try simp only [List.map_toArray, List.map_cons, List.map_nil]); first | done | rfl) ?_
  refine (HD0.out _).mono ?_
  rintro e wq4 ⟨rfl, hBq4⟩
  refine ⟨_, rfl, ?_⟩
  have BKq4 := Aside0.mk (blk_below BKq3.out hBq4)
  have HBq4 := Aside0.mk (below_step HBq3.out hBq4)
  have HSq4 := Aside0.mk (cells4 BKq4.out)
  clear hBq4
  refine hK.out _ _ HSq4.out (fun hHeld0 => ?_)
  clear hK K hHeld0
  refine norm_ (a' := ?_) ?_ ?_
  rotate_left
  · show Act.put _ (some 40) _ = _
    simp only [Act.put, List.setIfInBounds_toArray, List.set_cons_zero, List.set_cons_succ]
    rfl
  refine pure_ (i := 14) (N := some 43) (v := ?_) (a' := ?_) #[true, true, true, true, true, true, true, true, true, true, true, true, true, true, true, false, false, false, false, false, false, false, false, false, false, false, false, false, false, false, false] rfl rfl (any_of HT_.out (by kernel_rfl)) (fun _ _ _ h => h) (Or.inl ⟨by rfl, ?_⟩) ?_ ?_
  rotate_left
  · intro w'
    go_simp
    with_reducible rfl
  rotate_left
  · simp only [Act.put, List.setIfInBounds_toArray, List.set_cons_zero, List.set_cons_succ]
    rfl
  refine pure_ (i := 15) (N := some 44) (v := ?_) (a' := ?_) #[true, true, true, true, true, true, true, true, true, true, true, true, true, true, true, true, false, false, false, false, false, false, false, false, false, false, false, false, false, false, false] rfl rfl (any_of HT_.out (by kernel_rfl)) (fun _ _ _ h => h) (Or.inl ⟨by rfl, ?_⟩) ?_ ?_
  rotate_left
  · intro w'
    go_simp
    with_reducible rfl
  rotate_left
  · simp only [Act.put, List.setIfInBounds_toArray, List.set_cons_zero, List.set_cons_succ]
    rfl
  refine pure_ (i := 16) (N := some 45) (v := ?_) (a' := ?_) #[true, true, true, true, true, true, true, true, true, true, true, true, true, true, true, true, true, false, false, false, false, false, false, false, false, false, false, false, false, false, false] rfl rfl (any_of HT_.out (by kernel_rfl)) (fun _ _ _ h => h) (Or.inl ⟨by rfl, ?_⟩) ?_ ?_
  rotate_left
  · intro w'
    go_simp
    with_reducible rfl
  rotate_left
  · simp only [Act.put, List.setIfInBounds_toArray, List.set_cons_zero, List.set_cons_succ]
    rfl
  refine pure_ (i := 18) (N := some 47) (v := ?_) (a' := ?_) #[true, true, true, true, true, true, true, true, true, true, true, true, true, true, true, true, true, false, true, false, false, false, false, false, false, false, false, false, false, false, false] rfl rfl (any_of HT_.out (by kernel_rfl)) (fun _ _ _ h => h) (Or.inl ⟨by rfl, ?_⟩) ?_ ?_
  rotate_left
  · intro w'
    go_simp
    with_reducible rfl
  rotate_left
  · simp only [Act.put, List.setIfInBounds_toArray, List.set_cons_zero, List.set_cons_succ]
    rfl
  refine pure_ (i := 20) (N := some 49) (v := ?_) (a' := ?_) #[true, true, true, true, true, true, true, true, true, true, true, true, true, true, true, true, true, false, true, false, true, false, false, false, false, false, false, false, false, false, false] rfl rfl (any_of HT_.out (by kernel_rfl)) (fun _ _ _ h => h) (Or.inl ⟨by rfl, ?_⟩) ?_ ?_
  rotate_left
  · intro w'
    go_simp
    with_reducible rfl
  rotate_left
  · simp only [Act.put, List.setIfInBounds_toArray, List.set_cons_zero, List.set_cons_succ]
    rfl
  refine take_ (i := 17) (N := some 46) (v := ?_) (a' := ?_) #[true, true, true, true, true, true, true, true, true, true, true, true, true, true, true, true, true, true, true, false, true, false, false, false, false, false, false, false, false, false, false] rfl rfl (take_ofW HT_.out HW_.out (by kernel_rfl)) (fun _ _ _ h => h) (Or.inl ⟨by rfl, ?_⟩) HSq4.out ?_ ?_
  rotate_left
  · intro w' hw'
    obtain ⟨s0, s1, s2, s3⟩ := hw'
    go_simp
    with_reducible rfl
  rotate_left
  · simp only [Act.put, List.setIfInBounds_toArray, List.set_cons_zero, List.set_cons_succ]
    rfl
  refine take_ (i := 21) (N := some 50) (v := ?_) (a' := ?_) #[true, true, true, true, true, true, true, true, true, true, true, true, true, true, true, true, true, true, true, false, true, true, false, false, false, false, false, false, false, false, false] rfl rfl (take_ofW HT_.out HW_.out (by kernel_rfl)) (fun _ _ _ h => h) (Or.inl ⟨by rfl, ?_⟩) HSq4.out ?_ ?_
  rotate_left
  · intro w' hw'
    obtain ⟨s0, s1, s2, s3⟩ := hw'
    go_simp
    with_reducible rfl
  rotate_left
  · simp only [Act.put, List.setIfInBounds_toArray, List.set_cons_zero, List.set_cons_succ]
    rfl
  refine one_ (i := 19) (N := some 48) #[true, true, true, true, true, true, true, true, true, true, true, true, true, true, true, true, true, true, true, true, true, true, false, false, false, false, false, false, false, false, false] rfl rfl (one_of HT_.out (by kernel_rfl)) (by decide) (fun K hK => ?_)
  refine goes_ Try.func21 (by kernel_rfl) rfl #[.agg #[.int .i64 b, .int .i64 c, .int .i64 t, .int .i64 m], .int .i64 J] (by rfl) rfl rfl (by (try simp only [List.map_toArray, List.map_cons, List.map_nil]); first | done | rfl) ?_
  refine (HD0.out _).mono ?_
  rintro e wq5 ⟨rfl, hBq5⟩
  refine ⟨_, rfl, ?_⟩
  have BKq5 := Aside0.mk (blk_below BKq4.out hBq5)
  have HBq5 := Aside0.mk (below_step HBq4.out hBq5)
  have HSq5 := Aside0.mk (cells4 BKq5.out)
  clear hBq5
  refine hK.out _ _ HSq5.out (fun hHeld0 => ?_)
  clear hK K hHeld0
  refine norm_ (a' := ?_) ?_ ?_
  rotate_left
  · show Act.put _ (some 48) _ = _
    simp only [Act.put, List.setIfInBounds_toArray, List.set_cons_zero, List.set_cons_succ]
    rfl
  refine pure_ (i := 22) (N := some 51) (v := ?_) (a' := ?_) #[true, true, true, true, true, true, true, true, true, true, true, true, true, true, true, true, true, true, true, true, true, true, true, false, false, false, false, false, false, false, false] rfl rfl (any_of HT_.out (by kernel_rfl)) (fun _ _ _ h => h) (Or.inl ⟨by rfl, ?_⟩) ?_ ?_
  rotate_left
  · intro w'
    go_simp
    with_reducible rfl
  rotate_left
  · simp only [Act.put, List.setIfInBounds_toArray, List.set_cons_zero, List.set_cons_succ]
    rfl
  refine pure_ (i := 23) (N := some 52) (v := ?_) (a' := ?_) #[true, true, true, true, true, true, true, true, true, true, true, true, true, true, true, true, true, true, true, true, true, true, true, true, false, false, false, false, false, false, false] rfl rfl (any_of HT_.out (by kernel_rfl)) (fun _ _ _ h => h) (Or.inl ⟨by rfl, ?_⟩) ?_ ?_
  rotate_left
  · intro w'
    go_simp
    with_reducible rfl
  rotate_left
  · simp only [Act.put, List.setIfInBounds_toArray, List.set_cons_zero, List.set_cons_succ]
    rfl
  refine pure_ (i := 24) (N := some 53) (v := ?_) (a' := ?_) #[true, true, true, true, true, true, true, true, true, true, true, true, true, true, true, true, true, true, true, true, true, true, true, true, true, false, false, false, false, false, false] rfl rfl (any_of HT_.out (by kernel_rfl)) (fun _ _ _ h => h) (Or.inl ⟨by rfl, ?_⟩) ?_ ?_
  rotate_left
  · intro w'
    go_simp
    with_reducible rfl
  rotate_left
  · simp only [Act.put, List.setIfInBounds_toArray, List.set_cons_zero, List.set_cons_succ]
    rfl
  refine pure_ (i := 27) (N := some 56) (v := ?_) (a' := ?_) #[true, true, true, true, true, true, true, true, true, true, true, true, true, true, true, true, true, true, true, true, true, true, true, true, true, false, false, true, false, false, false] rfl rfl (any_of HT_.out (by kernel_rfl)) (fun _ _ _ h => h) (Or.inl ⟨by rfl, ?_⟩) ?_ ?_
  rotate_left
  · intro w'
    go_simp
    with_reducible rfl
  rotate_left
  · simp only [Act.put, List.setIfInBounds_toArray, List.set_cons_zero, List.set_cons_succ]
    rfl
  refine take_ (i := 25) (N := some 54) (v := ?_) (a' := ?_) #[true, true, true, true, true, true, true, true, true, true, true, true, true, true, true, true, true, true, true, true, true, true, true, true, true, true, false, true, false, false, false] rfl rfl (take_ofW HT_.out HW_.out (by kernel_rfl)) (fun _ _ _ h => h) (Or.inl ⟨by rfl, ?_⟩) HSq5.out ?_ ?_
  rotate_left
  · intro w' hw'
    obtain ⟨s0, s1, s2, s3⟩ := hw'
    go_simp
    with_reducible rfl
  rotate_left
  · simp only [Act.put, List.setIfInBounds_toArray, List.set_cons_zero, List.set_cons_succ]
    rfl
  refine take_ (i := 28) (N := some 57) (v := ?_) (a' := ?_) #[true, true, true, true, true, true, true, true, true, true, true, true, true, true, true, true, true, true, true, true, true, true, true, true, true, true, false, true, true, false, false] rfl rfl (take_ofW HT_.out HW_.out (by kernel_rfl)) (fun _ _ _ h => h) (Or.inl ⟨by rfl, ?_⟩) HSq5.out ?_ ?_
  rotate_left
  · intro w' hw'
    obtain ⟨s0, s1, s2, s3⟩ := hw'
    go_simp
    with_reducible rfl
  rotate_left
  · simp only [Act.put, List.setIfInBounds_toArray, List.set_cons_zero, List.set_cons_succ]
    rfl
  refine one_ (i := 26) (N := some 55) #[true, true, true, true, true, true, true, true, true, true, true, true, true, true, true, true, true, true, true, true, true, true, true, true, true, true, true, true, true, false, false] rfl rfl (one_of HT_.out (by kernel_rfl)) (by decide) (fun K hK => ?_)
  refine goes_ Try.func21 (by kernel_rfl) rfl #[.agg #[.int .i64 b, .int .i64 c, .int .i64 t, .int .i64 m], .int .i64 60] (by rfl) rfl rfl (by (try simp only [List.map_toArray, List.map_cons, List.map_nil]); first | done | rfl) ?_
  refine (HD6.out _).mono ?_
  rintro e wq6 ⟨rfl, hBq6⟩
  refine ⟨_, rfl, ?_⟩
  have BKq6 := Aside0.mk (blk_below BKq5.out hBq6)
  have HBq6 := Aside0.mk (below_step HBq5.out hBq6)
  have HSq6 := Aside0.mk (cells4 BKq6.out)
  clear hBq6
  refine hK.out _ _ HSq6.out (fun hHeld0 => ?_)
  clear hK K hHeld0
  refine norm_ (a' := ?_) ?_ ?_
  rotate_left
  · show Act.put _ (some 55) _ = _
    simp only [Act.put, List.setIfInBounds_toArray, List.set_cons_zero, List.set_cons_succ]
    rfl
  refine pure_ (i := 29) (N := some 58) (v := ?_) (a' := ?_) #[true, true, true, true, true, true, true, true, true, true, true, true, true, true, true, true, true, true, true, true, true, true, true, true, true, true, true, true, true, true, false] rfl rfl (any_of HT_.out (by kernel_rfl)) (fun _ _ _ h => h) (Or.inl ⟨by rfl, ?_⟩) ?_ ?_
  rotate_left
  · intro w'
    go_simp
    with_reducible rfl
  rotate_left
  · simp only [Act.put, List.setIfInBounds_toArray, List.set_cons_zero, List.set_cons_succ]
    rfl
  refine pure_ (i := 30) (N := some 59) (v := ?_) (a' := ?_) #[true, true, true, true, true, true, true, true, true, true, true, true, true, true, true, true, true, true, true, true, true, true, true, true, true, true, true, true, true, true, true] rfl rfl (any_of HT_.out (by kernel_rfl)) (fun _ _ _ h => h) (Or.inl ⟨by rfl, ?_⟩) ?_ ?_
  rotate_left
  · intro w'
    go_simp
    with_reducible rfl
  rotate_left
  · simp only [Act.put, List.setIfInBounds_toArray, List.set_cons_zero, List.set_cons_succ]
    rfl
  refine done_ (done_of HT_.out (by kernel_rfl)) ?_
  clear hw1
  obtain ⟨s0, s1, s2, s3⟩ := cells4 BKq6.out
  go_wp2_with fail
  refine (HN.out _).mono ?_
  rintro e w7 ⟨B, rfl, hle, hBK, hB⟩
  have BK7 := Aside0.mk (blk_below BKq6.out hB)
  have HB7 := Aside0.mk (below_step HBq6.out hB)
  have ST7 := Aside0.mk hBK
  have HL := Aside0.mk (show w.heap.size < B from Nat.lt_of_lt_of_le (blk_lt BKq6.out) hle)
  clear hB hBK hle s0 s1 s2 s3
  go_wp2_with fail
  go_loopw [8, 9] (fun v8 v9 wr => ∃ (i wt : Nat) (s k : Int) (l : Bool), v8 = .int .i64 wt ∧ v9 = .int .i64 i ∧ i ≤ 200 ∧ wt ≤ i ∧ Aside0 (wr.heap[B]? = some (.cells (stc b c t m s k l) 76 (0, 0))) ∧ Aside0 (0 ≤ s ∧ s ≤ i) ∧ Aside0 ((l = false ∧ k = i ∧ wt = i ∧ (i : Int) < t) ∨ (l = true ∧ (wt : Int) = t - 1 ∧ t ≤ i)) ∧ Aside0 (wr.heap[w.heap.size]? = some (.cells #[.int .i64 b, .int .i64 c, .int .i64 t, .int .i64 m] 30 (0, 0))) ∧ Aside0 (Below w.heap.size w wr)) (fun _ v _ => 300 - (intOf v).toNat)
  case atStart => exact ⟨0, 0, 0, 0, false, rfl, rfl, by decide, by decide, ST7, ⟨by decide⟩, ⟨.inl ⟨rfl, rfl, rfl, by have := HOK.out; unfold M.Ok at this; omega⟩⟩, BK7, HB7⟩
  case round =>
    obtain ⟨i, wt, s, k, l, rfl, rfl, hi, hwt, ST, Hs, HI, BK, HB⟩ := hrel
    clear ST7 BK7 HB7
    by_cases h2 : i < 200
    · have hg : decide ((i : Int) < 200) = true := decide_eq_true (by omega)
      have Hi2 := Aside0.mk h2
      clear h2
      rcases HI.out with ⟨rfl, hki, hwi, hit⟩ | ⟨rfl, hwt2, hti⟩
      · obtain rfl : i = wt := hwi.symm
        subst hki
        have hclip : min (max (i : Int) 0) 1152921504606846976 = i := by omega
        have HSt := Aside0.mk (fun W h => start_c b c t m s i i B W h)
        rw [hclip] at HSt
        by_cases hend : t ≤ (i : Int) + 1
        · have HF := Aside0.mk (fun W h => fail_end b c t m i i i B W h (by rw [hclip]; have := HOK.out; unfold M.Ok at this; omega) (by omega) (by omega) (by omega) (by omega) hend)
          have HE := Aside0.mk (And.intro hend hit)
          clear hend hit hclip
          go_wp2_with fail
          refine (HSt.out _ ST.out).mono ?_
          rintro e w8 ⟨rfl, hST, hB⟩
          have ST8 := Aside0.mk hST
          have BK8 := Aside0.mk ((hB.block _ HL.out).trans BK.out)
          have HB8 := Aside0.mk (HB.out.trans (hB.mono (Nat.le_of_lt HL.out)))
          clear hST hB
          go_wp2_with fail
          refine (HF.out _ ST8.out).mono ?_
          rintro e w9 ⟨rfl, hST, hB⟩
          have ST9 := Aside0.mk hST
          have BK9 := Aside0.mk ((hB.block _ HL.out).trans BK8.out)
          have HB9 := Aside0.mk (HB8.out.trans (hB.mono (Nat.le_of_lt HL.out)))
          clear hST hB
          go_wp2_with fail
          go_roundw
          case rel => exact ⟨i + 1, i, i, (i : Int) + 1, true, rfl, by go_num, by have := Hi2.out; omega, by omega, ST9, ⟨by omega⟩, ⟨.inr ⟨rfl, by have := HE.out; omega, by have := HE.out; omega⟩⟩, BK9, HB9⟩
          case measure => have := Hi2.out; simp [intOf]; omega
        · have HF := Aside0.mk (fun W h => fail_go b c t m i i i B W h (by rw [hclip]; have := HOK.out; unfold M.Ok at this; omega) (by omega) (by omega) (by omega) (by omega) hend)
          have HE := Aside0.mk hend
          clear hend hit hclip
          go_wp2_with fail
          refine (HSt.out _ ST.out).mono ?_
          rintro e w8 ⟨rfl, hST, hB⟩
          have ST8 := Aside0.mk hST
          have BK8 := Aside0.mk ((hB.block _ HL.out).trans BK.out)
          have HB8 := Aside0.mk (HB.out.trans (hB.mono (Nat.le_of_lt HL.out)))
          clear hST hB
          go_wp2_with fail
          refine (HF.out _ ST8.out).mono ?_
          rintro e w9 ⟨rfl, hST, hB⟩
          have ST9 := Aside0.mk hST
          have BK9 := Aside0.mk ((hB.block _ HL.out).trans BK8.out)
          have HB9 := Aside0.mk (HB8.out.trans (hB.mono (Nat.le_of_lt HL.out)))
          clear hST hB
          go_wp2_with fail
          go_roundw
          case rel => exact ⟨i + 1, i + 1, i, (i : Int) + 1, false, by go_num, by go_num, by have := Hi2.out; omega, by omega, ST9, ⟨by omega⟩, ⟨.inl ⟨rfl, by omega, rfl, by have := HE.out; omega⟩⟩, BK9, HB9⟩
          case measure => have := Hi2.out; simp [intOf]; omega
      · have HE := Aside0.mk (And.intro hwt2 hti)
        clear hwt2 hti
        go_wp2_with fail
        refine (start_lost b c t m s k i B _ ST.out).mono ?_
        rintro e w' ⟨rfl, rfl⟩
        go_wp2_with fail
        refine (fail_lost b c t m s k i B _ ST.out).mono ?_
        rintro e w' ⟨rfl, rfl⟩
        go_wp2_with fail
        go_roundw
        case rel => exact ⟨i + 1, wt, s, k, true, rfl, by go_num, by have := Hi2.out; omega, by omega, ST, ⟨by have := Hs.out; omega⟩, ⟨.inr ⟨rfl, HE.out.1, by have := HE.out.2; omega⟩⟩, BK, HB⟩
        case measure => have := Hi2.out; simp [intOf]; omega
    · have hg : decide ((i : Int) < 200) = false := decide_eq_false (by omega)
      have ht := HOK.out
      unfold M.Ok at ht
      have ht1 := ht.2.2.2.1
      have ht2 := ht.2.2.2.2.1
      clear ht
      rcases HI.out with ⟨_, _, _, hit⟩ | ⟨rfl, hwt2, hti⟩
      · omega
      · have hqw : ((wt : Int) == t - 1) = true := beq_iff_eq.mpr hwt2
        clear hwt2 hti h2
        obtain ⟨s0, s1, s2, s3⟩ := cells4 BK.out
        go_wp2_with fail
        refine (lost_c b c t m s k true B _ ST.out).mono ?_
        rintro e w' ⟨rfl, rfl⟩
        go_wp2_with fail
        go_ret
        exact ⟨rfl, HB.out⟩

/-- The law BackoffRises. -/
theorem rises_c (b c t m n : Int) (w : World) (_hn0 : -9223372036854775808 ≤ n) (hn1 : n ≤ 9223372036854775807) :
    Calls Try.prog 11 #[.agg #[.int .i64 b, .int .i64 c, .int .i64 t, .int .i64 m], .int .i64 n] w fun e w' => e = .returned (.bool true) ∧ Below w.heap.size w w' := by
  by_cases h : M.Ok b c t m
  · exact rises_ok b c t m n w h
  · exact rises_no b c t m n w h hn1

end Go.Proofs.Ytmemmhalcieelaa.B
