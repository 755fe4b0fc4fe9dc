/-
backoff.Total: its contract at M.total; the example of layer 15.
-/
import Derived.Test.YtmemmhalcieelaaBa
import Derived.IntWalk
namespace Go.Proofs.Ytmemmhalcieelaa.B
open Go.RowKit Go.Proofs.YtmemmhalcieelaaW.PrintWords Go.Proofs.YtmemmhalcieelaaW.PrintLast Go.Proofs.YtmemmhalcieelaaW.PrintMore
attribute [local go_sem] max2_int min2_int max_two min_two
set_option linter.unusedSimpArgs false

def totalT : Bool × List (List Nat × List Nat) := (true, [([], []), ([], []), ([0, 1], [0, 1]), ([2], [2]), ([3], [3]), ([3], [3]), ([4, 5, 3, 3], [3, 4, 5]), ([3], [3]), ([7, 3], [3, 7]), ([6, 8, 3], [3, 6, 8]), ([3, 9], [3, 9])])
def totalB : List Nat := [0, 0, 3, 7, 15, 15, 63, 15, 143, 511, 1023]
theorem totalTab : rtab .any (opsOf Try.f20 4) = totalT := by kernel_rfl
theorem totalBits : waitsOk totalT.2 totalB = true := by kernel_rfl

theorem cells4 {w : World} {B : Nat} {b c t m : Int} (h : w.heap[B]? = some (.cells #[.int .i64 b, .int .i64 c, .int .i64 t, .int .i64 m] 30 (0, 0))) :
    w.cell? ⟨B, 0, none⟩ = some (.int .i64 b) ∧ w.cell? ⟨B, 1, none⟩ = some (.int .i64 c) ∧ w.cell? ⟨B, 2, none⟩ = some (.int .i64 t) ∧ w.cell? ⟨B, 3, none⟩ = some (.int .i64 m) :=
  ⟨(blk_cell h 0).trans rfl, (blk_cell h 1).trans rfl, (blk_cell h 2).trans rfl, (blk_cell h 3).trans rfl⟩

theorem quot_eq {b c t m Q : Int} (hok : M.Ok b c t m) (hQ : wrap64 (Int.tdiv 1152921504606846976 c) = Q) : 0 < Q ∧ Q * c ≤ 1152921504606846976 ∧ 1152921504606846976 < (Q + 1) * c := by
  unfold M.Ok at hok
  have e : Int.tdiv 1152921504606846976 c = 1152921504606846976 / c := Int.tdiv_eq_ediv_of_nonneg (by decide)
  have h1 := Int.emod_add_mul_ediv 1152921504606846976 c
  have h2 := Int.emod_nonneg 1152921504606846976 (show c ≠ 0 by omega)
  have h3 := Int.emod_lt_of_pos 1152921504606846976 (show 0 < c by omega)
  have h4 : 0 < 1152921504606846976 / c := by
    have : (1152921504606 : Int) ≤ 1152921504606846976 / c := by
      rw [Int.le_ediv_iff_mul_le (by omega)]
      have : (1152921504606 : Int) * c ≤ 1152921504606 * 1000000 := Int.mul_le_mul_of_nonneg_left (by omega) (by decide)
      omega
    omega
  have h5 : (1152921504606846976 : Int) / c ≤ 1152921504606846976 := Int.ediv_le_self _ (by decide)
  have h6 : wrap64 (1152921504606846976 / c) = 1152921504606846976 / c := by unfold wrap64; omega
  rw [e, h6] at hQ
  subst hQ
  rw [Int.add_mul, Int.mul_comm (1152921504606846976 / c) c]
  omega

theorem rest_eq {n R : Int} {i : Nat} (hn0 : -9223372036854775808 ≤ n) (hn1 : n ≤ 9223372036854775807) (hi : i ≤ 20) (hin : i = 0 ∨ (i : Int) ≤ n) (hR : wrap64 (wrap64 (n - ((i : Int) + 1)) + 1) = R) : R = n - i := by
  unfold wrap64 at hR
  omega

theorem total_low {b c t m n : Int} {i : Nat} (hok : M.Ok b c t m) (hn : n ≤ (i : Int)) (hin : i = 0 ∨ (i : Int) ≤ n) : M.total b c t m n = min (M.sm b c i) 1152921504606846976 := by
  unfold M.total
  rw [if_pos hok, show n.toNat = i by omega]

theorem dl_nonneg {b c t m : Int} (hok : M.Ok b c t m) (i : Nat) : 0 ≤ M.dl b c i := by
  unfold M.Ok at hok
  have := M.dl_ge (show 1 ≤ b by omega) (show b ≤ c by omega) i
  omega
theorem dl_small {b c t m : Int} (hok : M.Ok b c t m) (i : Nat) : M.dl b c i ≤ 1000000 := by
  unfold M.Ok at hok
  have := M.dl_le b c i
  omega
theorem dl_lt {b c t m : Int} (hok : M.Ok b c t m) {i : Nat} (h : M.dl b c i < c) : i < 20 := by
  unfold M.Ok at hok
  by_cases g : i < 20
  · exact g
  · have := M.dl_cap (show 1 ≤ b by omega) (show c ≤ 1000000 by omega) (show 20 ≤ i by omega)
    omega
theorem sm_small {b c t m : Int} (hok : M.Ok b c t m) {i : Nat} (h : i ≤ 20) : M.sm b c i ≤ 100000000 := by
  unfold M.Ok at hok
  have h1 := (M.sm_bd (show 1 ≤ b by omega) (show b ≤ c by omega) i).2
  have h2 : (i : Int) * c ≤ 20 * c := Int.mul_le_mul_of_nonneg_right (by omega) (by omega)
  omega
theorem sm_nonneg {b c t m : Int} (hok : M.Ok b c t m) (i : Nat) : 0 ≤ M.sm b c i := by
  unfold M.Ok at hok
  exact (M.sm_bd (show 1 ≤ b by omega) (show b ≤ c by omega) i).1
theorem delay_succ {b c t m : Int} (hok : M.Ok b c t m) (i : Nat) : M.delay b c t m ((i : Int) + 1) = M.dl b c i := by
  unfold M.delay
  rw [if_pos hok, if_neg (by omega), show ((i : Int) + 1 - 1).toNat = i by omega]
theorem delay_at {b c t m : Int} {i : Nat} (w : World) (hok : M.Ok b c t m) (hn : (i : Int) + 1 ≤ 9223372036854775807) : Calls Try.prog 21 #[.agg #[.int .i64 b, .int .i64 c, .int .i64 t, .int .i64 m], .int .i64 ((i : Int) + 1)] w fun e w' => e = .returned (.int .i64 (M.dl b c i)) ∧ Below w.heap.size w w' := by
  rw [← delay_succ hok i]
  exact delay_c b c t m ((i : Int) + 1) w hn
theorem add_low {b c t m : Int} {i : Nat} (w : World) (hok : M.Ok b c t m) (hi : i ≤ 20) : Calls Try.prog 52 #[.int .i64 (M.sm b c i), .int .i64 0] w fun e w' => e = .returned (.int .i64 (min (M.sm b c i) 1152921504606846976)) ∧ Below w.heap.size w w' := by
  have := add_c (M.sm b c i) 0 w (sm_nonneg hok i) (by have := sm_small hok hi; omega) (by decide) (by decide)
  rwa [Int.add_zero] at this

theorem total_high {b c t m n R : Int} {i : Nat} (hok : M.Ok b c t m) (hn : (i : Int) + 1 ≤ n) (hd : M.dl b c i = c) (hR : R = n - i) : M.total b c t m n = min (M.sm b c i + R * c) 1152921504606846976 := by
  have hok' := hok
  unfold M.Ok at hok'
  unfold M.total
  have e := M.sm_cap (show 1 ≤ b by omega) (show b ≤ c by omega) hd (n.toNat - i)
  rw [show i + (n.toNat - i) = n.toNat by omega, show ((n.toNat - i : Nat) : Int) = R by omega] at e
  rw [if_pos hok, e]
theorem total_top {b c t m n R Q : Int} {i : Nat} (hok : M.Ok b c t m) (hQ : 1152921504606846976 < (Q + 1) * c) (h : Q < R) (hT : M.total b c t m n = min (M.sm b c i + R * c) 1152921504606846976) : M.total b c t m n = 1152921504606846976 := by
  have hs := sm_nonneg hok i
  unfold M.Ok at hok
  have := Int.mul_le_mul_of_nonneg_right (show Q + 1 ≤ R by omega) (show 0 ≤ c by omega)
  omega
theorem mul_small {b c t m R Q : Int} (hok : M.Ok b c t m) (hR : 1 ≤ R) (hRQ : R ≤ Q) (hQ : Q * c ≤ 1152921504606846976) : wrap64 (R * c) = R * c ∧ 0 ≤ R * c ∧ R * c ≤ 1152921504606846976 := by
  unfold M.Ok at hok
  have h1 := Int.mul_le_mul_of_nonneg_right hRQ (show 0 ≤ c by omega)
  have h2 : 0 ≤ R * c := Int.mul_nonneg (by omega) (by omega)
  refine ⟨?_, h2, by omega⟩
  unfold wrap64
  omega

set_option maxHeartbeats 4000000 in
set_option maxRecDepth 100000 in
theorem total_ok (b c t m n : Int) (w : World) (hok : M.Ok b c t m) (hn0 : -9223372036854775808 ≤ n) (hn1 : n ≤ 9223372036854775807) :
    Calls Try.prog 20 #[.agg #[.int .i64 b, .int .i64 c, .int .i64 t, .int .i64 m], .int .i64 n] w fun e w' => e = .returned (.int .i64 (M.total b c t m n)) ∧ Below w.heap.size w w' := by
  have hu30 := Try.underlying30
  have HOK := Aside0.mk hok
  have hR0 := fun W => right_c b c t m W
  rw [decide_eq_true hok] at hR0
  have HR := Aside0.mk hR0
  have Hn := Aside0.mk (And.intro hn0 hn1)
  have hc0 : ¬ c = 0 := by unfold M.Ok at hok; omega
  obtain ⟨Q, hQ0⟩ : ∃ Q : Int, wrap64 (Int.tdiv 1152921504606846976 c) = Q := ⟨_, rfl⟩
  have HQ := Aside0.mk (quot_eq hok hQ0)
  have hQ1 : 0 < Q := HQ.out.1
  clear hR0 hok hn0 hn1
  go_enter Try.func20, Try.ntmps20
  go_wp2_with fail
  refine (HR.out _).mono ?_
  rintro e w1 ⟨rfl, hB⟩
  have BK0 := Aside0.mk (blk_below (blk_new w (.cells #[.int .i64 b, .int .i64 c, .int .i64 t, .int .i64 m] 30)) hB)
  have HB0 := Aside0.mk (below_step (below_alloc (Below.refl w.heap.size w) (.cells #[.int .i64 b, .int .i64 c, .int .i64 t, .int .i64 m] 30)) hB)
  clear hB
  go_wp2_with fail
  go_loopw [5, 6] (fun v5 v6 wr => ∃ i : Nat, v5 = .int .i64 (M.sm b c i) ∧ v6 = .int .i64 ((i : Int) + 1) ∧ i ≤ 20 ∧ Aside0 (i = 0 ∨ (i : Int) ≤ n) ∧ Aside0 (wr.heap[w.heap.size]? = some (.cells #[.int .i64 b, .int .i64 c, .int .i64 t, .int .i64 m] 30 (0, 0))) ∧ Aside0 (Below w.heap.size w wr)) (fun _ v _ => 30 - (intOf v).toNat)
  case atStart => exact ⟨0, rfl, rfl, by decide, ⟨.inl rfl⟩, BK0, HB0⟩
  case round =>
    obtain ⟨i, rfl, rfl, hi, Hin, BK1, HB1⟩ := hrel
    clear BK0 HB0
    obtain ⟨R, hR⟩ : ∃ R : Int, wrap64 (wrap64 (n - ((i : Int) + 1)) + 1) = R := ⟨_, rfl⟩
    have HR0 := Aside0.mk (rest_eq Hn.out.1 Hn.out.2 hi Hin.out hR)
    by_cases h1 : (i : Int) + 1 ≤ n
    · have hg : decide ((i : Int) + 1 ≤ n) = true := decide_eq_true h1
      have HI := Aside0.mk h1
      have HD := Aside0.mk (fun W => delay_at W HOK.out (show ((i : Int) + 1) ≤ 9223372036854775807 by omega))
      clear h1 Hin
      by_cases h2 : M.dl b c i < c
      · have hg2 : decide (M.dl b c i < c) = true := decide_eq_true h2
        have HL := Aside0.mk h2
        clear h2 hR
        go_wp2_with fail
        have BK1' := Aside0.mk (blk_drew BK1.out)
        have HB1' := Aside0.mk (below_drew1 HB1.out)
        clear BK1 HB1
        have BK1 := BK1'
        have HB1 := HB1'
        clear BK1' HB1'
        have HS0 := Aside0.mk (cells4 BK1.out)
        refine start_ (n := 11) (S := fun w' => w'.cell? ⟨w.heap.size, 0, none⟩ = some (.int .i64 b) ∧ w'.cell? ⟨w.heap.size, 1, none⟩ = some (.int .i64 c) ∧ w'.cell? ⟨w.heap.size, 2, none⟩ = some (.int .i64 t) ∧ w'.cell? ⟨w.heap.size, 3, none⟩ = some (.int .i64 m)) (ds := []) #[false, false, false, false, false, false, false, false, false, false, false] (by kernel_rfl) rfl rfl HS0.out (fun hHeld0 => ?_)
        refine with_tabW totalTab totalBits (fun HT_ HW_ => ?_)
        clear hHeld0
        refine pure_ (i := 0) (N := some 11) (v := ?_) (a' := ?_) #[true, false, false, false, false, false, false, false, false, false, false] rfl rfl (any_of HT_.out (by kernel_rfl)) (fun _ _ _ h => h) (Or.inl ⟨by rfl, ?_⟩) ?_ ?_
        rotate_left
        · intro w'
          go_simp
          with_reducible rfl
        rotate_left
        · simp only [Act.put, List.setIfInBounds_toArray, List.set_cons_zero, List.set_cons_succ]
          rfl
        refine pure_ (i := 1) (N := some 12) (v := ?_) (a' := ?_) #[true, true, false, false, false, false, false, false, false, false, false] rfl rfl (any_of HT_.out (by kernel_rfl)) (fun _ _ _ h => h) (Or.inl ⟨by rfl, ?_⟩) ?_ ?_
        rotate_left
        · intro w'
          go_simp
          with_reducible rfl
        rotate_left
        · simp only [Act.put, List.setIfInBounds_toArray, List.set_cons_zero, List.set_cons_succ]
          rfl
        refine pure_ (i := 2) (N := some 13) (v := ?_) (a' := ?_) #[true, true, true, false, false, false, false, false, false, false, false] rfl rfl (any_of HT_.out (by kernel_rfl)) (fun _ _ _ h => h) (Or.inl ⟨by rfl, ?_⟩) ?_ ?_
        rotate_left
        · intro w'
          go_simp
          with_reducible rfl
        rotate_left
        · simp only [Act.put, List.setIfInBounds_toArray, List.set_cons_zero, List.set_cons_succ]
          rfl
        refine pure_ (i := 3) (N := some 14) (v := ?_) (a' := ?_) #[true, true, true, true, false, false, false, false, false, false, false] rfl rfl (any_of HT_.out (by kernel_rfl)) (fun _ _ _ h => h) (Or.inl ⟨by rfl, ?_⟩) ?_ ?_
        rotate_left
        · intro w'
          go_simp
          with_reducible rfl
        rotate_left
        · simp only [Act.put, List.setIfInBounds_toArray, List.set_cons_zero, List.set_cons_succ]
          rfl
        refine pure_ (i := 5) (N := some 16) (v := ?_) (a' := ?_) #[true, true, true, true, false, true, false, false, false, false, false] rfl rfl (any_of HT_.out (by kernel_rfl)) (fun _ _ _ h => h) (Or.inl ⟨by rfl, ?_⟩) ?_ ?_
        rotate_left
        · intro w'
          go_simp
          with_reducible rfl
        rotate_left
        · simp only [Act.put, List.setIfInBounds_toArray, List.set_cons_zero, List.set_cons_succ]
          rfl
        refine pure_ (i := 7) (N := some 18) (v := ?_) (a' := ?_) #[true, true, true, true, false, true, false, true, false, false, false] rfl rfl (any_of HT_.out (by kernel_rfl)) (fun _ _ _ h => h) (Or.inl ⟨by rfl, ?_⟩) ?_ ?_
        rotate_left
        · intro w'
          go_simp
          with_reducible rfl
        rotate_left
        · simp only [Act.put, List.setIfInBounds_toArray, List.set_cons_zero, List.set_cons_succ]
          rfl
        refine take_ (i := 4) (N := some 15) (v := ?_) (a' := ?_) #[true, true, true, true, true, true, false, true, false, false, false] rfl rfl (take_ofW HT_.out HW_.out (by kernel_rfl)) (fun _ _ _ h => h) (Or.inl ⟨by rfl, ?_⟩) HS0.out ?_ ?_
        rotate_left
        · intro w' hw'
          obtain ⟨s0, s1, s2, s3⟩ := hw'
          go_simp
          with_reducible rfl
        rotate_left
        · simp only [Act.put, List.setIfInBounds_toArray, List.set_cons_zero, List.set_cons_succ]
          rfl
        refine take_ (i := 8) (N := some 19) (v := ?_) (a' := ?_) #[true, true, true, true, true, true, false, true, true, false, false] rfl rfl (take_ofW HT_.out HW_.out (by kernel_rfl)) (fun _ _ _ h => h) (Or.inl ⟨by rfl, ?_⟩) HS0.out ?_ ?_
        rotate_left
        · intro w' hw'
          obtain ⟨s0, s1, s2, s3⟩ := hw'
          go_simp
          with_reducible rfl
        rotate_left
        · simp only [Act.put, List.setIfInBounds_toArray, List.set_cons_zero, List.set_cons_succ]
          rfl
        refine one_ (i := 6) (N := some 17) #[true, true, true, true, true, true, true, true, true, false, false] rfl rfl (one_of HT_.out (by kernel_rfl)) (by decide) (fun K hK => ?_)
        refine goes_ Try.func21 (by kernel_rfl) rfl #[.agg #[.int .i64 b, .int .i64 c, .int .i64 t, .int .i64 m], .int .i64 ((i : Int) + 1)] (by rfl) rfl rfl (by (try simp only [List.map_toArray, List.map_cons, List.map_nil]); first | done | rfl) ?_
        refine (HD.out _).mono ?_
        rintro e w2 ⟨rfl, hB2⟩
        refine ⟨_, rfl, ?_⟩
        have BK2 := Aside0.mk (blk_below BK1.out hB2)
        have HB2 := Aside0.mk (below_step HB1.out hB2)
        have HS2 := Aside0.mk (cells4 BK2.out)
        clear hB2
        refine hK.out _ _ HS2.out (fun hHeld0 => ?_)
        clear hK K hHeld0
        refine norm_ (a' := ?_) ?_ ?_
        rotate_left
        · show Act.put _ (some 17) _ = _
          simp only [Act.put, List.setIfInBounds_toArray, List.set_cons_zero, List.set_cons_succ]
          rfl
        refine pure_ (i := 9) (N := some 20) (v := ?_) (a' := ?_) #[true, true, true, true, true, true, true, true, true, true, false] rfl rfl (any_of HT_.out (by kernel_rfl)) (fun _ _ _ h => h) (Or.inl ⟨by rfl, ?_⟩) ?_ ?_
        rotate_left
        · intro w'
          go_simp
          with_reducible rfl
        rotate_left
        · simp only [Act.put, List.setIfInBounds_toArray, List.set_cons_zero, List.set_cons_succ]
          rfl
        refine pure_ (i := 10) (N := some 21) (v := ?_) (a' := ?_) #[true, true, true, true, true, true, true, true, true, true, true] rfl rfl (any_of HT_.out (by kernel_rfl)) (fun _ _ _ h => h) (Or.inl ⟨by rfl, ?_⟩) ?_ ?_
        rotate_left
        · intro w'
          go_simp
          with_reducible rfl
        rotate_left
        · simp only [Act.put, List.setIfInBounds_toArray, List.set_cons_zero, List.set_cons_succ]
          rfl
        refine done_ (done_of HT_.out (by kernel_rfl)) ?_
        obtain ⟨s0, s1, s2, s3⟩ := HS2.out
        go_wp2_with fail
        refine (HD.out _).mono ?_
        rintro e w3 ⟨rfl, hB3⟩
        have BK3 := Aside0.mk (blk_below BK2.out hB3)
        have HB3 := Aside0.mk (below_step HB2.out hB3)
        clear hB3 s0 s1 s2 s3
        have hsum := M.sm_bd (show 1 ≤ b by have := HOK.out; unfold M.Ok at this; omega) (show b ≤ c by have := HOK.out; unfold M.Ok at this; omega) i
        have hs0 := hsum.1
        have hs1 : M.sm b c i ≤ 100000000 := sm_small HOK.out (by omega)
        have hd0 : 0 ≤ M.dl b c i := dl_nonneg HOK.out i
        have hd1 : M.dl b c i ≤ 1000000 := dl_small HOK.out i
        have Hi20 := Aside0.mk (dl_lt HOK.out HL.out)
        clear hsum
        go_wp2_with fail
        go_roundw
        case rel => exact ⟨i + 1, rfl, by go_num, by have := Hi20.out; omega, ⟨.inr (by have := HI.out; omega)⟩, BK3, HB3⟩
        case measure => have := Hi20.out; simp [intOf]; omega
      · have hg2 : decide (M.dl b c i < c) = false := decide_eq_false h2
        have hdc : M.dl b c i = c := by have := M.dl_le b c i; omega
        have HRn := Aside0.mk (show 1 ≤ R by rw [HR0.out]; have := HI.out; omega)
        have HTot := Aside0.mk (total_high HOK.out HI.out hdc HR0.out)
        have hRn : ¬ R < 0 := by have := HRn.out; omega
        clear h2 hdc
        go_wp2_with fail
        have BK1' := Aside0.mk (blk_drew BK1.out)
        have HB1' := Aside0.mk (below_drew1 HB1.out)
        clear BK1 HB1
        have BK1 := BK1'
        have HB1 := HB1'
        clear BK1' HB1'
        have HS0 := Aside0.mk (cells4 BK1.out)
        refine start_ (n := 11) (S := fun w' => w'.cell? ⟨w.heap.size, 0, none⟩ = some (.int .i64 b) ∧ w'.cell? ⟨w.heap.size, 1, none⟩ = some (.int .i64 c) ∧ w'.cell? ⟨w.heap.size, 2, none⟩ = some (.int .i64 t) ∧ w'.cell? ⟨w.heap.size, 3, none⟩ = some (.int .i64 m)) (ds := []) #[false, false, false, false, false, false, false, false, false, false, false] (by kernel_rfl) rfl rfl HS0.out (fun hHeld0 => ?_)
        refine with_tabW totalTab totalBits (fun HT_ HW_ => ?_)
        clear hHeld0
        refine pure_ (i := 0) (N := some 11) (v := ?_) (a' := ?_) #[true, false, false, false, false, false, false, false, false, false, false] rfl rfl (any_of HT_.out (by kernel_rfl)) (fun _ _ _ h => h) (Or.inl ⟨by rfl, ?_⟩) ?_ ?_
        rotate_left
        · intro w'
          go_simp
          with_reducible rfl
        rotate_left
        · simp only [Act.put, List.setIfInBounds_toArray, List.set_cons_zero, List.set_cons_succ]
          rfl
        refine pure_ (i := 1) (N := some 12) (v := ?_) (a' := ?_) #[true, true, false, false, false, false, false, false, false, false, false] rfl rfl (any_of HT_.out (by kernel_rfl)) (fun _ _ _ h => h) (Or.inl ⟨by rfl, ?_⟩) ?_ ?_
        rotate_left
        · intro w'
          go_simp
          with_reducible rfl
        rotate_left
        · simp only [Act.put, List.setIfInBounds_toArray, List.set_cons_zero, List.set_cons_succ]
          rfl
        refine pure_ (i := 2) (N := some 13) (v := ?_) (a' := ?_) #[true, true, true, false, false, false, false, false, false, false, false] rfl rfl (any_of HT_.out (by kernel_rfl)) (fun _ _ _ h => h) (Or.inl ⟨by rfl, ?_⟩) ?_ ?_
        rotate_left
        · intro w'
          go_simp
          with_reducible rfl
        rotate_left
        · simp only [Act.put, List.setIfInBounds_toArray, List.set_cons_zero, List.set_cons_succ]
          rfl
        refine pure_ (i := 3) (N := some 14) (v := ?_) (a' := ?_) #[true, true, true, true, false, false, false, false, false, false, false] rfl rfl (any_of HT_.out (by kernel_rfl)) (fun _ _ _ h => h) (Or.inl ⟨by rfl, ?_⟩) ?_ ?_
        rotate_left
        · intro w'
          go_simp
          with_reducible rfl
        rotate_left
        · simp only [Act.put, List.setIfInBounds_toArray, List.set_cons_zero, List.set_cons_succ]
          rfl
        refine pure_ (i := 5) (N := some 16) (v := ?_) (a' := ?_) #[true, true, true, true, false, true, false, false, false, false, false] rfl rfl (any_of HT_.out (by kernel_rfl)) (fun _ _ _ h => h) (Or.inl ⟨by rfl, ?_⟩) ?_ ?_
        rotate_left
        · intro w'
          go_simp
          with_reducible rfl
        rotate_left
        · simp only [Act.put, List.setIfInBounds_toArray, List.set_cons_zero, List.set_cons_succ]
          rfl
        refine pure_ (i := 7) (N := some 18) (v := ?_) (a' := ?_) #[true, true, true, true, false, true, false, true, false, false, false] rfl rfl (any_of HT_.out (by kernel_rfl)) (fun _ _ _ h => h) (Or.inl ⟨by rfl, ?_⟩) ?_ ?_
        rotate_left
        · intro w'
          go_simp
          with_reducible rfl
        rotate_left
        · simp only [Act.put, List.setIfInBounds_toArray, List.set_cons_zero, List.set_cons_succ]
          rfl
        refine take_ (i := 4) (N := some 15) (v := ?_) (a' := ?_) #[true, true, true, true, true, true, false, true, false, false, false] rfl rfl (take_ofW HT_.out HW_.out (by kernel_rfl)) (fun _ _ _ h => h) (Or.inl ⟨by rfl, ?_⟩) HS0.out ?_ ?_
        rotate_left
        · intro w' hw'
          obtain ⟨s0, s1, s2, s3⟩ := hw'
          go_simp
          with_reducible rfl
        rotate_left
        · simp only [Act.put, List.setIfInBounds_toArray, List.set_cons_zero, List.set_cons_succ]
          rfl
        refine take_ (i := 8) (N := some 19) (v := ?_) (a' := ?_) #[true, true, true, true, true, true, false, true, true, false, false] rfl rfl (take_ofW HT_.out HW_.out (by kernel_rfl)) (fun _ _ _ h => h) (Or.inl ⟨by rfl, ?_⟩) HS0.out ?_ ?_
        rotate_left
        · intro w' hw'
          obtain ⟨s0, s1, s2, s3⟩ := hw'
          go_simp
          with_reducible rfl
        rotate_left
        · simp only [Act.put, List.setIfInBounds_toArray, List.set_cons_zero, List.set_cons_succ]
          rfl
        refine one_ (i := 6) (N := some 17) #[true, true, true, true, true, true, true, true, true, false, false] rfl rfl (one_of HT_.out (by kernel_rfl)) (by decide) (fun K hK => ?_)
        refine goes_ Try.func21 (by kernel_rfl) rfl #[.agg #[.int .i64 b, .int .i64 c, .int .i64 t, .int .i64 m], .int .i64 ((i : Int) + 1)] (by rfl) rfl rfl (by (try simp only [List.map_toArray, List.map_cons, List.map_nil]); first | done | rfl) ?_
        refine (HD.out _).mono ?_
        rintro e w2 ⟨rfl, hB2⟩
        refine ⟨_, rfl, ?_⟩
        have BK2 := Aside0.mk (blk_below BK1.out hB2)
        have HB2 := Aside0.mk (below_step HB1.out hB2)
        have HS2 := Aside0.mk (cells4 BK2.out)
        clear hB2
        refine hK.out _ _ HS2.out (fun hHeld0 => ?_)
        clear hK K hHeld0
        refine norm_ (a' := ?_) ?_ ?_
        rotate_left
        · show Act.put _ (some 17) _ = _
          simp only [Act.put, List.setIfInBounds_toArray, List.set_cons_zero, List.set_cons_succ]
          rfl
        refine pure_ (i := 9) (N := some 20) (v := ?_) (a' := ?_) #[true, true, true, true, true, true, true, true, true, true, false] rfl rfl (any_of HT_.out (by kernel_rfl)) (fun _ _ _ h => h) (Or.inl ⟨by rfl, ?_⟩) ?_ ?_
        rotate_left
        · intro w'
          go_simp
          with_reducible rfl
        rotate_left
        · simp only [Act.put, List.setIfInBounds_toArray, List.set_cons_zero, List.set_cons_succ]
          rfl
        refine pure_ (i := 10) (N := some 21) (v := ?_) (a' := ?_) #[true, true, true, true, true, true, true, true, true, true, true] rfl rfl (any_of HT_.out (by kernel_rfl)) (fun _ _ _ h => h) (Or.inl ⟨by rfl, ?_⟩) ?_ ?_
        rotate_left
        · intro w'
          go_simp
          with_reducible rfl
        rotate_left
        · simp only [Act.put, List.setIfInBounds_toArray, List.set_cons_zero, List.set_cons_succ]
          rfl
        refine done_ (done_of HT_.out (by kernel_rfl)) ?_
        obtain ⟨s0, s1, s2, s3⟩ := HS2.out
        by_cases h3 : Q < R
        · have HT := Aside0.mk (total_top HOK.out HQ.out.2.2 h3 HTot.out)
          go_wp2_with fail
          go_ret
          exact ⟨by rw [HT.out]; rfl, HB2.out⟩
        · have HM := mul_small HOK.out HRn.out (show R ≤ Q by omega) HQ.out.2.1
          obtain ⟨Y, hY⟩ : ∃ Y : Int, wrap64 (R * c) = Y := ⟨_, rfl⟩
          have HA := Aside0.mk (fun W => add_c (M.sm b c i) Y W (sm_nonneg HOK.out i) (by have := sm_small HOK.out (show i ≤ 20 from hi); omega) (by rw [← hY, HM.1]; exact HM.2.1) (by rw [← hY, HM.1]; exact HM.2.2))
          have HT := Aside0.mk (show M.total b c t m n = min (M.sm b c i + Y) 1152921504606846976 by rw [HTot.out, ← hY, HM.1])
          clear HM
          go_wp2_with fail
          refine (HA.out _).mono ?_
          rintro e w4 ⟨rfl, hB4⟩
          have HB4 := Aside0.mk (below_step HB2.out hB4)
          clear hB4
          go_wp2_with fail
          go_ret
          exact ⟨by rw [HT.out]; rfl, HB4.out⟩
    · have hg : decide ((i : Int) + 1 ≤ n) = false := decide_eq_false h1
      have hRle : R ≤ 0 := by rw [HR0.out]; omega
      have HT := Aside0.mk (total_low HOK.out (show n ≤ (i : Int) by omega) Hin.out)
      have HA0 := Aside0.mk (fun W => add_low W HOK.out (show i ≤ 20 from hi))
      clear h1
      have hcell : wr.cell? ⟨w.heap.size, 1, none⟩ = some (.int .i64 c) := (blk_cell BK1.out 1).trans rfl
      by_cases hR0 : R < 0
      · go_wp2_with fail
        go_quiet (fail)
        go_wp2_with fail
        refine (HA0.out _).mono ?_
        rintro e w4 ⟨rfl, hB4⟩
        have HB4 := Aside0.mk (below_step (pw_below_drewN HB1.out nq) hB4)
        clear hB4
        go_wp2_with fail
        go_ret
        exact ⟨by rw [HT.out]; rfl, HB4.out⟩
      · obtain rfl : R = 0 := by omega
        go_wp2_with fail
        go_quiet (fail)
        go_wp2_with fail
        refine (HA0.out _).mono ?_
        rintro e w4 ⟨rfl, hB4⟩
        have HB4 := Aside0.mk (below_step (pw_below_drewN HB1.out nq) hB4)
        clear hB4
        go_wp2_with fail
        go_ret
        exact ⟨by rw [HT.out]; rfl, HB4.out⟩

theorem total_no (b c t m n : Int) (w : World) (hok : ¬ M.Ok b c t m) :
    Calls Try.prog 20 #[.agg #[.int .i64 b, .int .i64 c, .int .i64 t, .int .i64 m], .int .i64 n] w fun e w' => e = .returned (.int .i64 (M.total b c t m n)) ∧ Below w.heap.size w w' := by
  have hu30 := Try.underlying30
  have hR0 := fun W => right_c b c t m W
  rw [decide_eq_false hok] at hR0
  have HR := Aside0.mk hR0
  have HT := Aside0.mk (show M.total b c t m n = 0 by unfold M.total; rw [if_neg hok])
  clear hR0 hok
  go_enter Try.func20, Try.ntmps20
  go_wp2_with fail
  refine (HR.out _).mono ?_
  rintro e w1 ⟨rfl, hB⟩
  have HB0 := Aside0.mk (below_step (below_alloc (Below.refl w.heap.size w) (.cells #[.int .i64 b, .int .i64 c, .int .i64 t, .int .i64 m] 30)) hB)
  clear hB
  go_wp2_with fail
  go_ret
  exact ⟨by rw [HT.out]; rfl, HB0.out⟩

/-- backoff.Total. -/
theorem total_c (b c t m n : Int) (w : World) (hn0 : -9223372036854775808 ≤ n) (hn1 : n ≤ 9223372036854775807) :
    Calls Try.prog 20 #[.agg #[.int .i64 b, .int .i64 c, .int .i64 t, .int .i64 m], .int .i64 n] w fun e w' => e = .returned (.int .i64 (M.total b c t m n)) ∧ Below w.heap.size w w' := by
  by_cases h : M.Ok b c t m
  · exact total_ok b c t m n w h hn0 hn1
  · exact total_no b c t m n w h

end Go.Proofs.Ytmemmhalcieelaa.B
