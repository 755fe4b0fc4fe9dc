/-
frame: what a live assembler tells; the document's example.
-/
import Derived.Test.YtmemmhalcieelaaFc
namespace Go.Proofs.Ytmemmhalcieelaa.F
open Go.RowKit Go.Proofs.YtmemmhalcieelaaW.PrintWords Go.Proofs.YtmemmhalcieelaaW.PrintLast Go.Proofs.YtmemmhalcieelaaW.PrintMore Go.Proofs.Ytmemmhalcieelaa.V

theorem fault_c (a : Nat) (v : Value) (f lim tot : Int) (w : World) (h : w.heap[a]? = some (.cells (stc v f lim tot) 81 (0, 0))) :
    Calls Try.prog 30 #[.pointer (some ⟨a, 0, none⟩)] w fun e w' => e = .returned (.int .i64 f) ∧ w = w' := by
  obtain ⟨s0, s1, s2, s3⟩ := cells_st h
  clear h s0 s2 s3
  go_enter Try.func30, Try.ntmps30
  go_wp2
  go_ret
  exact ⟨rfl, rfl⟩

theorem total_c (a : Nat) (v : Value) (f lim tot : Int) (w : World) (h : w.heap[a]? = some (.cells (stc v f lim tot) 81 (0, 0))) :
    Calls Try.prog 32 #[.pointer (some ⟨a, 0, none⟩)] w fun e w' => e = .returned (.int .i64 tot) ∧ w = w' := by
  obtain ⟨s0, s1, s2, s3⟩ := cells_st h
  clear h s0 s1 s2
  go_enter Try.func32, Try.ntmps32
  go_wp2
  go_ret
  exact ⟨rfl, rfl⟩

theorem buffered_c (a : Nat) (A : Option Addr) (n c : Nat) (f lim tot : Int) (w : World) (h : w.heap[a]? = some (.cells (stc (.slice A n c) f lim tot) 81 (0, 0))) :
    Calls Try.prog 29 #[.pointer (some ⟨a, 0, none⟩)] w fun e w' => e = .returned (.int .i64 (n : Int)) ∧ w = w' := by
  obtain ⟨s0, s1, s2, s3⟩ := cells_st h
  clear h s1 s2 s3
  go_enter Try.func29, Try.ntmps29
  go_wp2
  go_ret
  exact ⟨rfl, rfl⟩

theorem feed_lost (a : Nat) (v : Value) (f lim tot : Int) (ch : Value) (w : World) (hf : f ≠ 0) (h : w.heap[a]? = some (.cells (stc v f lim tot) 81 (0, 0))) :
    Calls Try.prog 28 #[.pointer (some ⟨a, 0, none⟩), ch] w fun e w' => e = .returned (.tuple #[.slice none 0 0, .int .i64 11]) ∧ w = w' := by
  obtain ⟨s0, s1, s2, s3⟩ := cells_st h
  have hf' : (f != 0) = true := by simpa using hf
  clear h s0 s2 s3 hf
  go_enter Try.func28, Try.ntmps28
  go_wp2
  go_ret2
  exact ⟨rfl, rfl⟩

/-- How many bytes a frame lacks. -/
def need (b : List Int) : Int := if b = [] then 0 else if (head b).2.2 = 0 then (head b).2.1 + (head b).1 - b.length else 1

theorem need_c (a : Nat) (A : Option Addr) (b : List Int) (c : Nat) (f lim tot : Int) (w : World) (h : w.heap[a]? = some (.cells (stc (.slice A b.length c) f lim tot) 81 (0, 0)))
    (hC : Kd.C (Kd.int .u8) w A b.length b) (hc : b.length ≤ c) (hb : M.Bytes b) (hl : b.length ≤ 1000000) :
    Calls Try.prog 31 #[.pointer (some ⟨a, 0, none⟩)] w fun e w' => e = .returned (.int .i64 (need b)) ∧ Drawn0 w w' := by
  obtain ⟨s0, s1, s2, s3⟩ := cells_st h
  have HB := Aside0.mk (buffered_c a A b.length c f lim tot w h)
  have HH := Aside0.mk (head_c ⟨a, 0, none⟩ A c b w s0 hC hc hb (by omega))
  have HD := Aside0.mk (show ∀ n, (w.drewN n).cell? ⟨a, 0, none⟩ = some (.slice A b.length c) from fun n => s0)
  clear h s1 s2 s3 hC
  unfold need
  by_cases h0 : b = []
  · rw [if_pos h0]
    subst h0
    have hz : (((([] : List Int).length : Nat) : Int) == 0) = true := rfl
    go_enter Try.func31, Try.ntmps31
    go_wp2_with (go_at_call 29; refine HB.out.mono ?_; rintro e w' ⟨rfl, rfl⟩)
    go_ret
    exact ⟨rfl, 0, rfl⟩
  · rw [if_neg h0]
    have hpos : 0 < b.length := List.length_pos_iff.2 h0
    have hz : ((b.length : Int) == 0) = false := by simp; omega
    have Hok := Aside0.mk (head_ok hb)
    obtain ⟨N, hN⟩ : ∃ x, (head b).1 = x := ⟨_, rfl⟩
    obtain ⟨S, hS⟩ : ∃ x, (head b).2.1 = x := ⟨_, rfl⟩
    obtain ⟨e, he⟩ : ∃ x, (head b).2.2 = x := ⟨_, rfl⟩
    rw [hN, hS, he] at HH Hok ⊢
    clear hN hS he h0 hpos
    by_cases h1 : e = 0
    · rw [if_pos h1]
      subst h1
      obtain ⟨hS1, hS10, hSb, hN0, hN4⟩ := Hok.out rfl
      have hw : wrap64 (wrap64 (S + N) - b.length) = S + N - b.length := by unfold wrap64; omega
      have HW := Aside0.mk hw
      clear hw hS1 hS10 hSb hN0 hN4
      go_enter Try.func31, Try.ntmps31
      go_wp2_with (first | (go_at_call 29; refine HB.out.mono ?_; rintro e w' ⟨rfl, rfl⟩) | (go_at_call 55; refine HH.out.mono ?_; rintro e w' ⟨rfl, ⟨nd, rfl⟩⟩; have s1 := HD.out nd))
      go_ret
      exact ⟨by rw [← HW.out]; rfl, _, rfl⟩
    · rw [if_neg h1]
      have h1' : (e != 0) = true := by simpa using h1
      clear h1
      go_enter Try.func31, Try.ntmps31
      go_wp2_with (first | (go_at_call 29; refine HB.out.mono ?_; rintro e w' ⟨rfl, rfl⟩) | (go_at_call 55; refine HH.out.mono ?_; rintro e w' ⟨rfl, ⟨nd, rfl⟩⟩; have s1 := HD.out nd))
      go_ret
      exact ⟨rfl, _, rfl⟩

theorem run_a : run 10 ([] ++ [2, 7] : List Int).length ([] ++ [2, 7]) = ([], [2, 7], 0) := by decide +kernel
theorem run_b : run 10 ([2, 7] ++ [8, 0] : List Int).length ([2, 7] ++ [8, 0]) = ([[7, 8], []], [], 0) := by decide +kernel

theorem lit_C (W : World) (x y : Int) : Kd.C (Kd.int .u8) (W.alloc (.cells #[.int .u8 x, .int .u8 y] 5)) (some ⟨W.heap.size, 0, none⟩) ([x, y] : List Int).length [x, y] :=
  (Kd.R_reads' (Kd.R_of_own (h1 := fun _ => rfl) (ok := fun _ => True) (own_lit W 0 5 .u8 [x, y] (Nat.zero_le _) (by simp)) (fun _ _ => trivial))).2.2

theorem below_keep {w w' : World} {n a : Nat} {row : Option Nat} (hk : KeepBut w w' a row) (he : Env w w') (hn : n ≤ w.heap.size) (ha : n ≤ a) (hr : ∀ k, row = some k → n ≤ k) : Below n w w' :=
  ⟨he.os, he.tape, he.output, hk.1, fun k hlt => hk.2 k (by omega) (by omega) (fun e => by have := hr k e.symm; omega)⟩

/-- The states of the example. -/
theorem feed_1 (n a : Nat) (w : World) (ha : n ≤ a) (h : w.heap[a]? = some (.cells (stc (.slice none 0 0) 0 10 0) 81 (0, 0))) :
    Calls Try.prog 28 #[.pointer (some ⟨a, 0, none⟩), .slice (some ⟨w.heap.size, 0, none⟩) 2 2] (w.alloc (.cells #[.int .u8 2, .int .u8 7] 5)) fun e w' => ∃ c0 A bv, e = .returned (.tuple #[.slice A 0 c0, .int .i64 0]) ∧
      w'.heap[a]? = some (.cells (stc bv 0 10 0) 81 (0, 0)) ∧ w'.ownsRow n 5 1 bv 2 (nums .u8 [2, 7]) ∧ Below n w w' := by
  have hB : M.Bytes ([2, 7] : List Int) := by intro x hx; simp at hx; omega
  have hlt := blk_lt h
  have := feed_c a n 10 0 (.slice none 0 0) [] (some ⟨w.heap.size, 0, none⟩) 2 [2, 7] (w.alloc (.cells #[.int .u8 2, .int .u8 7] 5)) (by decide) (by decide) (by intro x hx; simp at hx) hB (by decide) (blk_alloc h _) (World.ownsRow_nil _ _ _ _) (by simp; omega) (lit_C w 2 7)
  rw [run_a] at this
  refine this.mono ?_
  rintro e w' ⟨lv, bv, rfl, hst, hrow, hR, _, hk, he⟩
  obtain ⟨A, c, rfl, _⟩ := Kd.R_reads hR
  exact ⟨c, A, bv, rfl, by simpa [size] using hst, hrow, ((Below.refl n w).alloc (by omega) _).trans (below_keep hk he (by simp; omega) ha (fun k hk => by simp [Value.ownBlock] at hk))⟩

theorem feed_2 (n a : Nat) (bv : Value) (w : World) (ha : n ≤ a) (h : w.heap[a]? = some (.cells (stc bv 0 10 0) 81 (0, 0))) (hrow : w.ownsRow n 5 1 bv 2 (nums .u8 [2, 7])) :
    Calls Try.prog 28 #[.pointer (some ⟨a, 0, none⟩), .slice (some ⟨w.heap.size, 0, none⟩) 2 2] (w.alloc (.cells #[.int .u8 8, .int .u8 0] 5)) fun e w' => ∃ lv : Value, e = .returned (.tuple #[lv, .int .i64 0]) ∧
      (∃ ad c A0 c0 A1 c1, lv = .slice (some ad) 2 c ∧ w'.cell? (ad.add 0) = some (.slice A0 2 c0) ∧ w'.cell? (ad.add 1) = some (.slice A1 0 c1) ∧ Kd.C (Kd.int .u8) w' A0 2 [7, 8]) ∧ Below n w w' := by
  have hB : M.Bytes ([2, 7] : List Int) := by intro x hx; simp at hx; omega
  have hB2 : M.Bytes ([8, 0] : List Int) := by intro x hx; simp at hx; omega
  have hlt := blk_lt h
  have := feed_c a n 10 0 bv [2, 7] (some ⟨w.heap.size, 0, none⟩) 2 [8, 0] (w.alloc (.cells #[.int .u8 8, .int .u8 0] 5)) (by decide) (by decide) hB hB2 (by decide) (blk_alloc h _) (hrow.alloc _) (by simp; omega) (lit_C w 8 0)
  rw [run_b] at this
  refine this.mono ?_
  rintro e w' ⟨lv, bv', rfl, hst, hrow', hR, _, hk, he⟩
  obtain ⟨A, c, rfl, _, hC⟩ := Kd.R_reads hR
  obtain ⟨ad, A0, c0, rfl, h0, _, hC0⟩ := at_L1 hC 0 (by decide) (by decide)
  obtain ⟨ad', A1, c1, hq, h1, _, hC1⟩ := at_L1 hC 1 (by decide) (by decide)
  cases hq
  exact ⟨_, rfl, ⟨ad, c, A0, c0, A1, c1, rfl, h0, h1, hC0⟩, ((Below.refl n w).alloc (by omega) _).trans (below_keep hk he (by simp; omega) ha (fun k hk => own_base hrow k hk))⟩

set_option maxHeartbeats 1000000 in
theorem awake_c (w : World) : Calls Try.prog 27 #[] w fun e w' => e = .returned (.bool true) ∧ Below w.heap.size w w' := by
  go_enter Try.func27, Try.ntmps27
  go_wp2_with fail
  refine (new_ok 10 _ (by decide)).mono ?_
  rintro e w1 ⟨a, rfl, ha, hst, hB⟩
  have HA := Aside0.mk ha
  have HB1 := Aside0.mk hB
  have HF1 := Aside0.mk (feed_1 w.heap.size a w1 ha hst)
  clear ha hst hB
  go_wp2_with fail
  refine HF1.out.mono ?_
  rintro e w2 ⟨c0, A, bv, rfl, hst, hrow, hb⟩
  have HB2 := Aside0.mk (HB1.out.trans hb)
  have HF2 := Aside0.mk (feed_2 w.heap.size a bv w2 HA.out hst hrow)
  clear hst hrow HF1 hb HB1
  go_wp2_with fail
  refine HF2.out.mono ?_
  rintro e w3 ⟨lv, rfl, ⟨ad, c1, A0, c2, A1, c3, rfl, h0, h1, hC⟩, hb⟩
  have HB3 := Aside0.mk (HB2.out.trans hb)
  have e0 : ad.add 0 = ad := by simp [Addr.add]
  have h0' : w3.cell? ad = some (.slice A0 2 c2) := by rw [← e0]; exact h0
  have h1' : w3.cell? ⟨ad.block, ad.off + 1, none⟩ = some (.slice A1 0 c3) := h1
  have e78 : strOfNums [7, 8] = { data := #[7, 8] } := rfl
  have hcv0 := Kd.C_string (P := Try.prog) (A := A0) (c := c2) Try.underlying23 Try.underlying5 Try.underlying9 hC
  rw [e78] at hcv0
  clear h0 h1 e0 hC HF2 hb HB2 e78
  go_wp2
  go_ret
  exact ⟨rfl, HB3.out⟩

end Go.Proofs.Ytmemmhalcieelaa.F
