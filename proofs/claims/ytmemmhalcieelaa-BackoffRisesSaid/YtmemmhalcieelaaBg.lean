/-
The methods of a backoff state: what Start, Fail and Lost answer and what they leave.
-/
import Derived.Test.YtmemmhalcieelaaBf
namespace Go.Proofs.Ytmemmhalcieelaa.B
open Go.RowKit Go.Proofs.YtmemmhalcieelaaW.PrintWords Go.Proofs.YtmemmhalcieelaaW.PrintLast Go.Proofs.YtmemmhalcieelaaW.PrintMore
attribute [local go_sem] max2_int min2_int max_two min_two
set_option linter.unusedSimpArgs false

def failAT : Bool × List (List Nat × List Nat) := (true, [([], []), ([0], [0]), ([], []), ([2], [2]), ([3], [3]), ([4], [4]), ([1, 5], [1, 5]), ([], []), ([7], [7]), ([8], [8]), ([9], [9]), ([10], [10]), ([6, 11], [6, 11])])
def failAB : List Nat := [0, 1, 0, 4, 12, 28, 63, 0, 128, 384, 896, 1920, 4095]
theorem failATab : rtab .any (opsOf Try.f45 3) = failAT := by kernel_rfl
theorem failABits : waitsOk failAT.2 failAB = true := by kernel_rfl

def failBT : Bool × List (List Nat × List Nat) := (true, [([], []), ([0], [0]), ([1], [1]), ([2], [2]), ([], []), ([4], [4]), ([5], [5]), ([6], [6]), ([3, 7], [3, 7]), ([8, 8, 0, 1, 2, 3, 4, 5, 6, 7, 8], [8]), ([9, 0, 1, 2, 3, 4, 5, 6, 7, 8, 9], [])])
def failBB : List Nat := [0, 1, 3, 7, 0, 16, 48, 112, 255, 511, 1023]
theorem failBTab : rtab .any (opsOf Try.f45 9) = failBT := by kernel_rfl
theorem failBBits : waitsOk failBT.2 failBB = true := by kernel_rfl

theorem cells7 {w : World} {B : Nat} {b c t m s k : Int} {l : Bool} (h : w.heap[B]? = some (.cells (stc b c t m s k l) 76 (0, 0))) :
    w.cell? ⟨B, 0, none⟩ = some (.int .i64 b) ∧ w.cell? ⟨B, 1, none⟩ = some (.int .i64 c) ∧ w.cell? ⟨B, 2, none⟩ = some (.int .i64 t) ∧ w.cell? ⟨B, 3, none⟩ = some (.int .i64 m) ∧ w.cell? ⟨B, 4, none⟩ = some (.int .i64 s) ∧ w.cell? ⟨B, 5, none⟩ = some (.int .i64 k) ∧ w.cell? ⟨B, 6, none⟩ = some (.bool l) :=
  ⟨(blk_cell h 0).trans rfl, (blk_cell h 1).trans rfl, (blk_cell h 2).trans rfl, (blk_cell h 3).trans rfl, (blk_cell h 4).trans rfl, (blk_cell h 5).trans rfl, (blk_cell h 6).trans rfl⟩

theorem lost_c (b c t m s k : Int) (l : Bool) (B : Nat) (w : World) (h : w.heap[B]? = some (.cells (stc b c t m s k l) 76 (0, 0))) :
    Calls Try.prog 46 #[.pointer (some ⟨B, 0, none⟩)] w fun e w' => e = .returned (.bool l) ∧ w = w' := by
  obtain ⟨s0, s1, s2, s3, s4, s5, s6⟩ := cells7 h
  clear h s0 s1 s2 s3 s4 s5
  go_enter Try.func46, Try.ntmps46
  go_wp2
  go_ret
  exact ⟨rfl, rfl⟩

theorem start_lost (b c t m s k now : Int) (B : Nat) (w : World) (h : w.heap[B]? = some (.cells (stc b c t m s k true) 76 (0, 0))) :
    Calls Try.prog 44 #[.pointer (some ⟨B, 0, none⟩), .int .i64 now] w fun e w' => e = .returned (.int .i64 11) ∧ w = w' := by
  obtain ⟨s0, s1, s2, s3, s4, s5, s6⟩ := cells7 h
  clear h s0 s1 s2 s3 s4 s5
  go_enter Try.func44, Try.ntmps44
  go_wp2
  go_ret
  exact ⟨rfl, rfl⟩

theorem fail_lost (b c t m s k now : Int) (B : Nat) (w : World) (h : w.heap[B]? = some (.cells (stc b c t m s k true) 76 (0, 0))) :
    Calls Try.prog 45 #[.pointer (some ⟨B, 0, none⟩), .int .i64 now] w fun e w' => e = .returned (.tuple #[.int .i64 0, .bool false]) ∧ w = w' := by
  obtain ⟨s0, s1, s2, s3, s4, s5, s6⟩ := cells7 h
  clear h s0 s1 s2 s3 s4 s5
  go_enter Try.func45, Try.ntmps45
  go_wp2
  go_ret2
  exact ⟨rfl, rfl⟩

theorem start_c (b c t m s k now : Int) (B : Nat) (w : World) (h : w.heap[B]? = some (.cells (stc b c t m s k false) 76 (0, 0))) :
    Calls Try.prog 44 #[.pointer (some ⟨B, 0, none⟩), .int .i64 now] w fun e w' => e = .returned (.int .i64 0) ∧ w'.heap[B]? = some (.cells (stc b c t m (min (max now 0) 1152921504606846976) k false) 76 (0, 0)) ∧ Below B w w' := by
  have hlt := Aside0.mk (blk_lt h)
  have BK := Aside0.mk h
  obtain ⟨s0, s1, s2, s3, s4, s5, s6⟩ := cells7 h
  clear h s0 s1 s2 s3 s5
  have hfz := blk_frozen BK.out 4
  go_enter Try.func44, Try.ntmps44
  go_wp2_with fail
  refine (clip_c now _).mono ?_
  rintro e w1 ⟨rfl, hB⟩
  have BK1 := Aside0.mk (blk_below BK.out hB)
  have HB1 := Aside0.mk (hB.mono (Nat.le_of_lt hlt.out))
  clear s4 s6 hB hfz
  obtain ⟨s0, s1, s2, s3, s4, s5, s6⟩ := cells7 BK1.out
  have hfz := blk_frozen BK1.out 4
  go_wp2_with fail
  go_ret
  exact ⟨rfl, blk_set BK1.out 4 _, HB1.out.setCell (Nat.le_refl _) _⟩

set_option maxHeartbeats 4000000 in
set_option maxRecDepth 100000 in
theorem fail_end (b c t m s k now : Int) (B : Nat) (w : World) (h : w.heap[B]? = some (.cells (stc b c t m s k false) 76 (0, 0))) (hp : min (max now 0) 1152921504606846976 - s ≤ m) (hs0 : 0 ≤ s) (hs1 : s ≤ 1152921504606846976) (hk0 : 0 ≤ k) (hk1 : k ≤ 1000000) (ht : t ≤ k + 1) :
    Calls Try.prog 45 #[.pointer (some ⟨B, 0, none⟩), .int .i64 now] w fun e w' => e = .returned (.tuple #[.int .i64 0, .bool false]) ∧ w'.heap[B]? = some (.cells (stc b c t m s (k + 1) true) 76 (0, 0)) ∧ Below B w w' := by
  have hlt := Aside0.mk (blk_lt h)
  have BK := Aside0.mk h
  obtain ⟨C, hC⟩ : ∃ x : Int, min (max now 0) 1152921504606846976 = x := ⟨_, rfl⟩
  have hC0 : 0 ≤ C := by omega
  have hC1 : C ≤ 1152921504606846976 := by omega
  rw [hC] at hp
  have hCl := fun W => clip_c now W
  rw [hC] at hCl
  have HCl := Aside0.mk hCl
  have hw1 : IntKind.i64.wrap (C - s) = C - s := IntWalk.i64_in _ (by omega)
  have HW := Aside0.mk hw1
  have HD := Aside0.mk (fun W => delay_c b c t m (k + 1) W (by omega))
  have hg1 : decide (m < C - s) = false := decide_eq_false (by omega)
  obtain ⟨s0, s1, s2, s3, s4, s5, s6⟩ := cells7 h
  have HT := Aside0.mk ht
  clear ht h s0 s1 s2 s3 s4 s5 hC hCl hw1 hp
  go_enter Try.func45, Try.ntmps45
  go_wp2_with fail
  clear s6
  have hw1 := HW.out
  have BKq1 := Aside0.mk (blk_drew BK.out)
  have HBq1 := Aside0.mk (below_drew (Below.refl B w))
  have HLq1 := Aside0.mk (show B ≤ w.drew.heap.size from Nat.le_of_lt hlt.out)
  have HSq1 := Aside0.mk (cells7 BKq1.out)
  refine start_ (n := 13) (S := fun w' => w'.cell? ⟨B, 0, none⟩ = some (.int .i64 b) ∧ w'.cell? ⟨B, 1, none⟩ = some (.int .i64 c) ∧ w'.cell? ⟨B, 2, none⟩ = some (.int .i64 t) ∧ w'.cell? ⟨B, 3, none⟩ = some (.int .i64 m) ∧ w'.cell? ⟨B, 4, none⟩ = some (.int .i64 s) ∧ w'.cell? ⟨B, 5, none⟩ = some (.int .i64 k) ∧ w'.cell? ⟨B, 6, none⟩ = some (.bool false)) (ds := []) #[false, false, false, false, false, false, false, false, false, false, false, false, false] (by kernel_rfl) rfl rfl HSq1.out (fun hHeld0 => ?_)
  refine with_tabW failATab failABits (fun HT_ HW_ => ?_)
  clear hHeld0
  refine pure_ (i := 0) (N := some 14) (v := ?_) (a' := ?_) #[true, false, false, false, false, false, false, false, false, false, false, false, false] rfl rfl (any_of HT_.out (by kernel_rfl)) (fun _ _ _ h => h) (Or.inl ⟨by rfl, ?_⟩) ?_ ?_
  rotate_left
  · intro w'
    go_simp
    with_reducible rfl
  rotate_left
  · simp only [Act.put, List.setIfInBounds_toArray, List.set_cons_zero, List.set_cons_succ]
    rfl
  refine pure_ (i := 2) (N := some 16) (v := ?_) (a' := ?_) #[true, false, true, false, false, false, false, false, false, false, false, false, false] rfl rfl (any_of HT_.out (by kernel_rfl)) (fun _ _ _ h => h) (Or.inl ⟨by rfl, ?_⟩) ?_ ?_
  rotate_left
  · intro w'
    go_simp
    with_reducible rfl
  rotate_left
  · simp only [Act.put, List.setIfInBounds_toArray, List.set_cons_zero, List.set_cons_succ]
    rfl
  refine pure_ (i := 3) (N := some 17) (v := ?_) (a' := ?_) #[true, false, true, true, false, false, false, false, false, false, false, false, false] rfl rfl (any_of HT_.out (by kernel_rfl)) (fun _ _ _ h => h) (Or.inl ⟨by rfl, ?_⟩) ?_ ?_
  rotate_left
  · intro w'
    go_simp
    with_reducible rfl
  rotate_left
  · simp only [Act.put, List.setIfInBounds_toArray, List.set_cons_zero, List.set_cons_succ]
    rfl
  refine pure_ (i := 4) (N := some 18) (v := ?_) (a' := ?_) #[true, false, true, true, true, false, false, false, false, false, false, false, false] rfl rfl (any_of HT_.out (by kernel_rfl)) (fun _ _ _ h => h) (Or.inl ⟨by rfl, ?_⟩) ?_ ?_
  rotate_left
  · intro w'
    go_simp
    with_reducible rfl
  rotate_left
  · simp only [Act.put, List.setIfInBounds_toArray, List.set_cons_zero, List.set_cons_succ]
    rfl
  refine pure_ (i := 7) (N := some 21) (v := ?_) (a' := ?_) #[true, false, true, true, true, false, false, true, false, false, false, false, false] rfl rfl (any_of HT_.out (by kernel_rfl)) (fun _ _ _ h => h) (Or.inl ⟨by rfl, ?_⟩) ?_ ?_
  rotate_left
  · intro w'
    go_simp
    with_reducible rfl
  rotate_left
  · simp only [Act.put, List.setIfInBounds_toArray, List.set_cons_zero, List.set_cons_succ]
    rfl
  refine pure_ (i := 8) (N := some 22) (v := ?_) (a' := ?_) #[true, false, true, true, true, false, false, true, true, false, false, false, false] rfl rfl (any_of HT_.out (by kernel_rfl)) (fun _ _ _ h => h) (Or.inl ⟨by rfl, ?_⟩) ?_ ?_
  rotate_left
  · intro w'
    go_simp
    with_reducible rfl
  rotate_left
  · simp only [Act.put, List.setIfInBounds_toArray, List.set_cons_zero, List.set_cons_succ]
    rfl
  refine pure_ (i := 9) (N := some 23) (v := ?_) (a' := ?_) #[true, false, true, true, true, false, false, true, true, true, false, false, false] rfl rfl (any_of HT_.out (by kernel_rfl)) (fun _ _ _ h => h) (Or.inl ⟨by rfl, ?_⟩) ?_ ?_
  rotate_left
  · intro w'
    go_simp
    with_reducible rfl
  rotate_left
  · simp only [Act.put, List.setIfInBounds_toArray, List.set_cons_zero, List.set_cons_succ]
    rfl
  refine pure_ (i := 10) (N := some 24) (v := ?_) (a' := ?_) #[true, false, true, true, true, false, false, true, true, true, true, false, false] rfl rfl (any_of HT_.out (by kernel_rfl)) (fun _ _ _ h => h) (Or.inl ⟨by rfl, ?_⟩) ?_ ?_
  rotate_left
  · intro w'
    go_simp
    with_reducible rfl
  rotate_left
  · simp only [Act.put, List.setIfInBounds_toArray, List.set_cons_zero, List.set_cons_succ]
    rfl
  refine take_ (i := 5) (N := some 19) (v := ?_) (a' := ?_) #[true, false, true, true, true, true, false, true, true, true, true, false, false] rfl rfl (take_ofW HT_.out HW_.out (by kernel_rfl)) (fun _ _ _ h => h) (Or.inl ⟨by rfl, ?_⟩) HSq1.out ?_ ?_
  rotate_left
  · intro w' hw'
    obtain ⟨s0, s1, s2, s3, s4, s5, s6⟩ := hw'
    go_simp
    with_reducible rfl
  rotate_left
  · simp only [Act.put, List.setIfInBounds_toArray, List.set_cons_zero, List.set_cons_succ]
    rfl
  refine take_ (i := 11) (N := some 25) (v := ?_) (a' := ?_) #[true, false, true, true, true, true, false, true, true, true, true, true, false] rfl rfl (take_ofW HT_.out HW_.out (by kernel_rfl)) (fun _ _ _ h => h) (Or.inl ⟨by rfl, ?_⟩) HSq1.out ?_ ?_
  rotate_left
  · intro w' hw'
    obtain ⟨s0, s1, s2, s3, s4, s5, s6⟩ := hw'
    go_simp
    with_reducible rfl
  rotate_left
  · simp only [Act.put, List.setIfInBounds_toArray, List.set_cons_zero, List.set_cons_succ]
    rfl
  refine one_ (i := 1) (N := some 15) #[true, true, true, true, true, true, false, true, true, true, true, true, false] rfl rfl (one_of HT_.out (by kernel_rfl)) (by decide) (fun K hK => ?_)
  refine goes_ Try.func58 (by kernel_rfl) rfl #[.int .i64 now] (by rfl) rfl rfl (by (try simp only [List.map_toArray, List.map_cons, List.map_nil]); first | done | rfl) ?_
  refine (HCl.out _).mono ?_
  rintro e wq2 ⟨rfl, hBq2⟩
  refine ⟨_, rfl, ?_⟩
  have BKq2 := Aside0.mk (blk_below BKq1.out hBq2)
  have HBq2 := Aside0.mk ((HBq1.out).trans (hBq2.mono (HLq1.out)))
  have HLq2 := Aside0.mk (Nat.le_trans HLq1.out hBq2.size)
  have HSq2 := Aside0.mk (cells7 BKq2.out)
  clear hBq2
  refine hK.out _ _ HSq2.out (fun hHeld0 => ?_)
  clear hK K hHeld0
  refine norm_ (a' := ?_) ?_ ?_
  rotate_left
  · show Act.put _ (some 15) _ = _
    simp only [Act.put, List.setIfInBounds_toArray, List.set_cons_zero, List.set_cons_succ]
    rfl
  refine pure_ (i := 6) (N := some 20) (v := ?_) (a' := ?_) #[true, true, true, true, true, true, true, true, true, true, true, true, false] rfl rfl (any_of HT_.out (by kernel_rfl)) (fun _ _ _ h => h) (Or.inl ⟨by rfl, ?_⟩) ?_ ?_
  rotate_left
  · intro w'
    go_simp
    with_reducible rfl
  rotate_left
  · simp only [Act.put, List.setIfInBounds_toArray, List.set_cons_zero, List.set_cons_succ]
    rfl
  refine pure_ (i := 12) (N := some 26) (v := ?_) (a' := ?_) #[true, true, true, true, true, true, true, true, true, true, true, true, true] rfl rfl (any_of HT_.out (by kernel_rfl)) (fun _ _ _ h => h) (Or.inl ⟨by rfl, ?_⟩) ?_ ?_
  rotate_left
  · intro w'
    go_simp
    with_reducible rfl
  rotate_left
  · simp only [Act.put, List.setIfInBounds_toArray, List.set_cons_zero, List.set_cons_succ]
    rfl
  refine done_ (done_of HT_.out (by kernel_rfl)) ?_
  clear hw1
  obtain ⟨s0, s1, s2, s3, s4, s5, s6⟩ := cells7 BKq2.out
  have hfz := blk_frozen BKq2.out 5
  go_wp2_with fail
  have BK3 : (wq2.setCell ⟨B, 5, none⟩ (.int .i64 (k + 1))).heap[B]? = some (.cells (stc b c t m s (k + 1) false) 76 (0, 0)) := blk_set BKq2.out 5 _
  have HB3 : Below B w (wq2.setCell ⟨B, 5, none⟩ (.int .i64 (k + 1))) := HBq2.out.setCell (Nat.le_refl _) _
  have HL3 : B ≤ (wq2.setCell ⟨B, 5, none⟩ (.int .i64 (k + 1))).heap.size := Nat.le_of_lt (blk_lt BK3)
  generalize wq2.setCell ⟨B, 5, none⟩ (.int .i64 (k + 1)) = w3 at BK3 HB3 HL3 ⊢
  have BKq3 := Aside0.mk BK3
  have HBq3 := Aside0.mk HB3
  have HLq3 := Aside0.mk HL3
  clear BK3 HB3 HL3 s0 s1 s2 s3 s4 s5 s6 hfz
  obtain ⟨s0, s1, s2, s3, s4, s5, s6⟩ := cells7 BKq3.out
  have hg2 : decide (t ≤ k + 1) = true := decide_eq_true HT.out
  have hfz := blk_frozen BKq3.out 6
  go_quiet (fail)
  go_wp2_with fail
  go_ret2
  exact ⟨rfl, blk_set (w := w3.drewN nq) BKq3.out 6 _, (pw_below_drewN HBq3.out nq).setCell (Nat.le_refl _) _⟩

set_option maxHeartbeats 4000000 in
set_option maxRecDepth 100000 in
theorem fail_go (b c t m s k now : Int) (B : Nat) (w : World) (h : w.heap[B]? = some (.cells (stc b c t m s k false) 76 (0, 0))) (hp : min (max now 0) 1152921504606846976 - s ≤ m) (hs0 : 0 ≤ s) (hs1 : s ≤ 1152921504606846976) (hk0 : 0 ≤ k) (hk1 : k ≤ 1000000) (ht : ¬ t ≤ k + 1) :
    Calls Try.prog 45 #[.pointer (some ⟨B, 0, none⟩), .int .i64 now] w fun e w' => e = .returned (.tuple #[.int .i64 (M.delay b c t m (k + 1)), .bool true]) ∧ w'.heap[B]? = some (.cells (stc b c t m s (k + 1) false) 76 (0, 0)) ∧ Below B w w' := by
  have hlt := Aside0.mk (blk_lt h)
  have BK := Aside0.mk h
  obtain ⟨C, hC⟩ : ∃ x : Int, min (max now 0) 1152921504606846976 = x := ⟨_, rfl⟩
  have hC0 : 0 ≤ C := by omega
  have hC1 : C ≤ 1152921504606846976 := by omega
  rw [hC] at hp
  have hCl := fun W => clip_c now W
  rw [hC] at hCl
  have HCl := Aside0.mk hCl
  have hw1 : IntKind.i64.wrap (C - s) = C - s := IntWalk.i64_in _ (by omega)
  have HW := Aside0.mk hw1
  have HD := Aside0.mk (fun W => delay_c b c t m (k + 1) W (by omega))
  have hg1 : decide (m < C - s) = false := decide_eq_false (by omega)
  obtain ⟨s0, s1, s2, s3, s4, s5, s6⟩ := cells7 h
  have HT := Aside0.mk ht
  clear ht h s0 s1 s2 s3 s4 s5 hC hCl hw1 hp
  go_enter Try.func45, Try.ntmps45
  go_wp2_with fail
  clear s6
  have hw1 := HW.out
  have BKq1 := Aside0.mk (blk_drew BK.out)
  have HBq1 := Aside0.mk (below_drew (Below.refl B w))
  have HLq1 := Aside0.mk (show B ≤ w.drew.heap.size from Nat.le_of_lt hlt.out)
  have HSq1 := Aside0.mk (cells7 BKq1.out)
  refine start_ (n := 13) (S := fun w' => w'.cell? ⟨B, 0, none⟩ = some (.int .i64 b) ∧ w'.cell? ⟨B, 1, none⟩ = some (.int .i64 c) ∧ w'.cell? ⟨B, 2, none⟩ = some (.int .i64 t) ∧ w'.cell? ⟨B, 3, none⟩ = some (.int .i64 m) ∧ w'.cell? ⟨B, 4, none⟩ = some (.int .i64 s) ∧ w'.cell? ⟨B, 5, none⟩ = some (.int .i64 k) ∧ w'.cell? ⟨B, 6, none⟩ = some (.bool false)) (ds := []) #[false, false, false, false, false, false, false, false, false, false, false, false, false] (by kernel_rfl) rfl rfl HSq1.out (fun hHeld0 => ?_)
  refine with_tabW failATab failABits (fun HT_ HW_ => ?_)
  clear hHeld0
  refine pure_ (i := 0) (N := some 14) (v := ?_) (a' := ?_) #[true, false, false, false, false, false, false, false, false, false, false, false, false] rfl rfl (any_of HT_.out (by kernel_rfl)) (fun _ _ _ h => h) (Or.inl ⟨by rfl, ?_⟩) ?_ ?_
  rotate_left
  · intro w'
    go_simp
    with_reducible rfl
  rotate_left
  · simp only [Act.put, List.setIfInBounds_toArray, List.set_cons_zero, List.set_cons_succ]
    rfl
  refine pure_ (i := 2) (N := some 16) (v := ?_) (a' := ?_) #[true, false, true, false, false, false, false, false, false, false, false, false, false] rfl rfl (any_of HT_.out (by kernel_rfl)) (fun _ _ _ h => h) (Or.inl ⟨by rfl, ?_⟩) ?_ ?_
  rotate_left
  · intro w'
    go_simp
    with_reducible rfl
  rotate_left
  · simp only [Act.put, List.setIfInBounds_toArray, List.set_cons_zero, List.set_cons_succ]
    rfl
  refine pure_ (i := 3) (N := some 17) (v := ?_) (a' := ?_) #[true, false, true, true, false, false, false, false, false, false, false, false, false] rfl rfl (any_of HT_.out (by kernel_rfl)) (fun _ _ _ h => h) (Or.inl ⟨by rfl, ?_⟩) ?_ ?_
  rotate_left
  · intro w'
    go_simp
    with_reducible rfl
  rotate_left
  · simp only [Act.put, List.setIfInBounds_toArray, List.set_cons_zero, List.set_cons_succ]
    rfl
  refine pure_ (i := 4) (N := some 18) (v := ?_) (a' := ?_) #[true, false, true, true, true, false, false, false, false, false, false, false, false] rfl rfl (any_of HT_.out (by kernel_rfl)) (fun _ _ _ h => h) (Or.inl ⟨by rfl, ?_⟩) ?_ ?_
  rotate_left
  · intro w'
    go_simp
    with_reducible rfl
  rotate_left
  · simp only [Act.put, List.setIfInBounds_toArray, List.set_cons_zero, List.set_cons_succ]
    rfl
  refine pure_ (i := 7) (N := some 21) (v := ?_) (a' := ?_) #[true, false, true, true, true, false, false, true, false, false, false, false, false] rfl rfl (any_of HT_.out (by kernel_rfl)) (fun _ _ _ h => h) (Or.inl ⟨by rfl, ?_⟩) ?_ ?_
  rotate_left
  · intro w'
    go_simp
    with_reducible rfl
  rotate_left
  · simp only [Act.put, List.setIfInBounds_toArray, List.set_cons_zero, List.set_cons_succ]
    rfl
  refine pure_ (i := 8) (N := some 22) (v := ?_) (a' := ?_) #[true, false, true, true, true, false, false, true, true, false, false, false, false] rfl rfl (any_of HT_.out (by kernel_rfl)) (fun _ _ _ h => h) (Or.inl ⟨by rfl, ?_⟩) ?_ ?_
  rotate_left
  · intro w'
    go_simp
    with_reducible rfl
  rotate_left
  · simp only [Act.put, List.setIfInBounds_toArray, List.set_cons_zero, List.set_cons_succ]
    rfl
  refine pure_ (i := 9) (N := some 23) (v := ?_) (a' := ?_) #[true, false, true, true, true, false, false, true, true, true, false, false, false] rfl rfl (any_of HT_.out (by kernel_rfl)) (fun _ _ _ h => h) (Or.inl ⟨by rfl, ?_⟩) ?_ ?_
  rotate_left
  · intro w'
    go_simp
    with_reducible rfl
  rotate_left
  · simp only [Act.put, List.setIfInBounds_toArray, List.set_cons_zero, List.set_cons_succ]
    rfl
  refine pure_ (i := 10) (N := some 24) (v := ?_) (a' := ?_) #[true, false, true, true, true, false, false, true, true, true, true, false, false] rfl rfl (any_of HT_.out (by kernel_rfl)) (fun _ _ _ h => h) (Or.inl ⟨by rfl, ?_⟩) ?_ ?_
  rotate_left
  · intro w'
    go_simp
    with_reducible rfl
  rotate_left
  · simp only [Act.put, List.setIfInBounds_toArray, List.set_cons_zero, List.set_cons_succ]
    rfl
  refine take_ (i := 5) (N := some 19) (v := ?_) (a' := ?_) #[true, false, true, true, true, true, false, true, true, true, true, false, false] rfl rfl (take_ofW HT_.out HW_.out (by kernel_rfl)) (fun _ _ _ h => h) (Or.inl ⟨by rfl, ?_⟩) HSq1.out ?_ ?_
  rotate_left
  · intro w' hw'
    obtain ⟨s0, s1, s2, s3, s4, s5, s6⟩ := hw'
    go_simp
    with_reducible rfl
  rotate_left
  · simp only [Act.put, List.setIfInBounds_toArray, List.set_cons_zero, List.set_cons_succ]
    rfl
  refine take_ (i := 11) (N := some 25) (v := ?_) (a' := ?_) #[true, false, true, true, true, true, false, true, true, true, true, true, false] rfl rfl (take_ofW HT_.out HW_.out (by kernel_rfl)) (fun _ _ _ h => h) (Or.inl ⟨by rfl, ?_⟩) HSq1.out ?_ ?_
  rotate_left
  · intro w' hw'
    obtain ⟨s0, s1, s2, s3, s4, s5, s6⟩ := hw'
    go_simp
    with_reducible rfl
  rotate_left
  · simp only [Act.put, List.setIfInBounds_toArray, List.set_cons_zero, List.set_cons_succ]
    rfl
  refine one_ (i := 1) (N := some 15) #[true, true, true, true, true, true, false, true, true, true, true, true, false] rfl rfl (one_of HT_.out (by kernel_rfl)) (by decide) (fun K hK => ?_)
  refine goes_ Try.func58 (by kernel_rfl) rfl #[.int .i64 now] (by rfl) rfl rfl (by (try simp only [List.map_toArray, List.map_cons, List.map_nil]); first | done | rfl) ?_
  refine (HCl.out _).mono ?_
  rintro e wq2 ⟨rfl, hBq2⟩
  refine ⟨_, rfl, ?_⟩
  have BKq2 := Aside0.mk (blk_below BKq1.out hBq2)
  have HBq2 := Aside0.mk ((HBq1.out).trans (hBq2.mono (HLq1.out)))
  have HLq2 := Aside0.mk (Nat.le_trans HLq1.out hBq2.size)
  have HSq2 := Aside0.mk (cells7 BKq2.out)
  clear hBq2
  refine hK.out _ _ HSq2.out (fun hHeld0 => ?_)
  clear hK K hHeld0
  refine norm_ (a' := ?_) ?_ ?_
  rotate_left
  · show Act.put _ (some 15) _ = _
    simp only [Act.put, List.setIfInBounds_toArray, List.set_cons_zero, List.set_cons_succ]
    rfl
  refine pure_ (i := 6) (N := some 20) (v := ?_) (a' := ?_) #[true, true, true, true, true, true, true, true, true, true, true, true, false] rfl rfl (any_of HT_.out (by kernel_rfl)) (fun _ _ _ h => h) (Or.inl ⟨by rfl, ?_⟩) ?_ ?_
  rotate_left
  · intro w'
    go_simp
    with_reducible rfl
  rotate_left
  · simp only [Act.put, List.setIfInBounds_toArray, List.set_cons_zero, List.set_cons_succ]
    rfl
  refine pure_ (i := 12) (N := some 26) (v := ?_) (a' := ?_) #[true, true, true, true, true, true, true, true, true, true, true, true, true] rfl rfl (any_of HT_.out (by kernel_rfl)) (fun _ _ _ h => h) (Or.inl ⟨by rfl, ?_⟩) ?_ ?_
  rotate_left
  · intro w'
    go_simp
    with_reducible rfl
  rotate_left
  · simp only [Act.put, List.setIfInBounds_toArray, List.set_cons_zero, List.set_cons_succ]
    rfl
  refine done_ (done_of HT_.out (by kernel_rfl)) ?_
  clear hw1
  obtain ⟨s0, s1, s2, s3, s4, s5, s6⟩ := cells7 BKq2.out
  have hfz := blk_frozen BKq2.out 5
  go_wp2_with fail
  have BK3 : (wq2.setCell ⟨B, 5, none⟩ (.int .i64 (k + 1))).heap[B]? = some (.cells (stc b c t m s (k + 1) false) 76 (0, 0)) := blk_set BKq2.out 5 _
  have HB3 : Below B w (wq2.setCell ⟨B, 5, none⟩ (.int .i64 (k + 1))) := HBq2.out.setCell (Nat.le_refl _) _
  have HL3 : B ≤ (wq2.setCell ⟨B, 5, none⟩ (.int .i64 (k + 1))).heap.size := Nat.le_of_lt (blk_lt BK3)
  generalize wq2.setCell ⟨B, 5, none⟩ (.int .i64 (k + 1)) = w3 at BK3 HB3 HL3 ⊢
  have BKq3 := Aside0.mk BK3
  have HBq3 := Aside0.mk HB3
  have HLq3 := Aside0.mk HL3
  clear BK3 HB3 HL3 s0 s1 s2 s3 s4 s5 s6 hfz
  obtain ⟨s0, s1, s2, s3, s4, s5, s6⟩ := cells7 BKq3.out
  have hg2 : decide (t ≤ k + 1) = false := decide_eq_false (by have := HT.out; omega)
  go_quiet (fail)
  go_wp2_with fail
  have BKq5 := Aside0.mk (blk_drew (w := w3.drewN nq) BKq3.out)
  have HBq5 := Aside0.mk (below_drew (pw_below_drewN HBq3.out nq))
  have HLq5 := Aside0.mk (show B ≤ (w3.drewN nq).drew.heap.size from HLq3.out)
  have HSq5 := Aside0.mk (cells7 BKq5.out)
  clear s0 s1 s2 s3 s4 s5 s6
  refine start_ (n := 11) (S := fun w' => w'.cell? ⟨B, 0, none⟩ = some (.int .i64 b) ∧ w'.cell? ⟨B, 1, none⟩ = some (.int .i64 c) ∧ w'.cell? ⟨B, 2, none⟩ = some (.int .i64 t) ∧ w'.cell? ⟨B, 3, none⟩ = some (.int .i64 m) ∧ w'.cell? ⟨B, 4, none⟩ = some (.int .i64 s) ∧ w'.cell? ⟨B, 5, none⟩ = some (.int .i64 (k + 1)) ∧ w'.cell? ⟨B, 6, none⟩ = some (.bool false)) (ds := []) #[false, false, false, false, false, false, false, false, false, false, false] (by kernel_rfl) rfl rfl HSq5.out (fun hHeld0 => ?_)
  refine with_tabW failBTab failBBits (fun HT_ HW_ => ?_)
  clear hHeld0
  refine pure_ (i := 0) (N := some 50) (v := ?_) (a' := ?_) #[true, false, false, false, false, false, false, false, false, false, false] rfl rfl (any_of HT_.out (by kernel_rfl)) (fun _ _ _ h => h) (Or.inl ⟨by rfl, ?_⟩) ?_ ?_
  rotate_left
  · intro w'
    go_simp
    with_reducible rfl
  rotate_left
  · simp only [Act.put, List.setIfInBounds_toArray, List.set_cons_zero, List.set_cons_succ]
    rfl
  refine pure_ (i := 1) (N := some 51) (v := ?_) (a' := ?_) #[true, true, false, false, false, false, false, false, false, false, false] rfl rfl (any_of HT_.out (by kernel_rfl)) (fun _ _ _ h => h) (Or.inl ⟨by rfl, ?_⟩) ?_ ?_
  rotate_left
  · intro w'
    go_simp
    with_reducible rfl
  rotate_left
  · simp only [Act.put, List.setIfInBounds_toArray, List.set_cons_zero, List.set_cons_succ]
    rfl
  refine pure_ (i := 2) (N := some 52) (v := ?_) (a' := ?_) #[true, true, true, false, false, false, false, false, false, false, false] rfl rfl (any_of HT_.out (by kernel_rfl)) (fun _ _ _ h => h) (Or.inl ⟨by rfl, ?_⟩) ?_ ?_
  rotate_left
  · intro w'
    go_simp
    with_reducible rfl
  rotate_left
  · simp only [Act.put, List.setIfInBounds_toArray, List.set_cons_zero, List.set_cons_succ]
    rfl
  refine pure_ (i := 4) (N := some 54) (v := ?_) (a' := ?_) #[true, true, true, false, true, false, false, false, false, false, false] rfl rfl (any_of HT_.out (by kernel_rfl)) (fun _ _ _ h => h) (Or.inl ⟨by rfl, ?_⟩) ?_ ?_
  rotate_left
  · intro w'
    go_simp
    with_reducible rfl
  rotate_left
  · simp only [Act.put, List.setIfInBounds_toArray, List.set_cons_zero, List.set_cons_succ]
    rfl
  refine pure_ (i := 5) (N := some 55) (v := ?_) (a' := ?_) #[true, true, true, false, true, true, false, false, false, false, false] rfl rfl (any_of HT_.out (by kernel_rfl)) (fun _ _ _ h => h) (Or.inl ⟨by rfl, ?_⟩) ?_ ?_
  rotate_left
  · intro w'
    go_simp
    with_reducible rfl
  rotate_left
  · simp only [Act.put, List.setIfInBounds_toArray, List.set_cons_zero, List.set_cons_succ]
    rfl
  refine pure_ (i := 6) (N := some 56) (v := ?_) (a' := ?_) #[true, true, true, false, true, true, true, false, false, false, false] rfl rfl (any_of HT_.out (by kernel_rfl)) (fun _ _ _ h => h) (Or.inl ⟨by rfl, ?_⟩) ?_ ?_
  rotate_left
  · intro w'
    go_simp
    with_reducible rfl
  rotate_left
  · simp only [Act.put, List.setIfInBounds_toArray, List.set_cons_zero, List.set_cons_succ]
    rfl
  refine take_ (i := 3) (N := some 53) (v := ?_) (a' := ?_) #[true, true, true, true, true, true, true, false, false, false, false] rfl rfl (take_ofW HT_.out HW_.out (by kernel_rfl)) (fun _ _ _ h => h) (Or.inl ⟨by rfl, ?_⟩) HSq5.out ?_ ?_
  rotate_left
  · intro w' hw'
    obtain ⟨s0, s1, s2, s3, s4, s5, s6⟩ := hw'
    go_simp
    with_reducible rfl
  rotate_left
  · simp only [Act.put, List.setIfInBounds_toArray, List.set_cons_zero, List.set_cons_succ]
    rfl
  refine take_ (i := 7) (N := some 57) (v := ?_) (a' := ?_) #[true, true, true, true, true, true, true, true, false, false, false] rfl rfl (take_ofW HT_.out HW_.out (by kernel_rfl)) (fun _ _ _ h => h) (Or.inl ⟨by rfl, ?_⟩) HSq5.out ?_ ?_
  rotate_left
  · intro w' hw'
    obtain ⟨s0, s1, s2, s3, s4, s5, s6⟩ := hw'
    go_simp
    with_reducible rfl
  rotate_left
  · simp only [Act.put, List.setIfInBounds_toArray, List.set_cons_zero, List.set_cons_succ]
    rfl
  refine one_ (i := 8) (N := some 58) #[true, true, true, true, true, true, true, true, true, false, false] rfl rfl (one_of HT_.out (by kernel_rfl)) (by decide) (fun K hK => ?_)
  refine goes_ Try.func21 (by kernel_rfl) rfl #[.agg #[.int .i64 b, .int .i64 c, .int .i64 t, .int .i64 m], .int .i64 (k + 1)] (by rfl) rfl rfl (by (try simp only [List.map_toArray, List.map_cons, List.map_nil]); first | done | rfl) ?_
  refine (HD.out _).mono ?_
  rintro e wq6 ⟨rfl, hBq6⟩
  refine ⟨_, rfl, ?_⟩
  have BKq6 := Aside0.mk (blk_below BKq5.out hBq6)
  have HBq6 := Aside0.mk ((HBq5.out).trans (hBq6.mono (HLq5.out)))
  have HLq6 := Aside0.mk (Nat.le_trans HLq5.out hBq6.size)
  have HSq6 := Aside0.mk (cells7 BKq6.out)
  clear hBq6
  refine hK.out _ _ HSq6.out (fun hHeld0 => ?_)
  clear hK K hHeld0
  refine norm_ (a' := ?_) ?_ ?_
  rotate_left
  · show Act.put _ (some 58) _ = _
    simp only [Act.put, List.setIfInBounds_toArray, List.set_cons_zero, List.set_cons_succ]
    rfl
  refine pure_ (i := 9) (N := some 4) (v := ?_) (a' := ?_) #[true, true, true, true, true, true, true, true, true, true, false] rfl rfl (any_of HT_.out (by kernel_rfl)) (fun _ _ _ h => h) (Or.inl ⟨by rfl, ?_⟩) ?_ ?_
  rotate_left
  · intro w'
    go_simp
    with_reducible rfl
  rotate_left
  · simp only [Act.put, List.setIfInBounds_toArray, List.set_cons_zero, List.set_cons_succ]
    rfl
  refine pure_ (i := 10) (N := some 5) (v := ?_) (a' := ?_) #[true, true, true, true, true, true, true, true, true, true, true] rfl rfl (any_of HT_.out (by kernel_rfl)) (fun _ _ _ h => h) (Or.inl ⟨by rfl, ?_⟩) ?_ ?_
  rotate_left
  · intro w'
    go_simp
    with_reducible rfl
  rotate_left
  · simp only [Act.put, List.setIfInBounds_toArray, List.set_cons_zero, List.set_cons_succ]
    rfl
  refine done_ (done_of HT_.out (by kernel_rfl)) ?_
  go_wp2_with fail
  go_ret2
  exact ⟨rfl, BKq6.out, HBq6.out⟩

end Go.Proofs.Ytmemmhalcieelaa.B
