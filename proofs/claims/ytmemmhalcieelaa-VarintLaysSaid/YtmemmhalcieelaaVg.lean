/-
The law VarintReads: its call answers true, whatever the bytes.
-/
import Derived.Test.YtmemmhalcieelaaVf
namespace Go.Proofs.Ytmemmhalcieelaa.V
open Go.RowKit Go.Proofs.YtmemmhalcieelaaW.PrintWords Go.Proofs.YtmemmhalcieelaaW.PrintLast Go.Proofs.YtmemmhalcieelaaW.PrintMore

theorem bytes_new (n : Int) (w : World) (h0 : 0 ≤ n) (h1 : n < 18446744073709551616) :
    Calls Try.prog 35 #[.int .u64 n] w fun e w' => ∃ (A : Option Addr) (c : Nat), e = .returned (.slice A (M.E n).length c) ∧ (M.E n).length ≤ c ∧ Kd.C (Kd.int .u8) w' A (M.E n).length (M.E n) ∧ Below w.heap.size w w' := by
  refine (bytes_c n w h0 h1).mono ?_
  rintro e w' ⟨v, rfl, hR, hB⟩
  obtain ⟨A, c, rfl, hle, hC⟩ := Kd.R_reads hR
  exact ⟨A, c, rfl, hle, hC, hB⟩

theorem starts_prefix {l : List Int} {n : Int} {rest : List Int} (h : l = M.E n ++ rest) : startsB l (M.E n) = true := by
  unfold startsB
  rw [h, if_pos (by simp), List.take_left]
  simp

theorem wf_bytes {l : List Int} (h : ∀ x ∈ l, (Lit.int .u8 x).wf = true) : M.Bytes l := M.Bytes.of_wf h

set_option maxHeartbeats 1000000 in
theorem reads_c (A : Option Addr) (c : Nat) (l : List Int) (w : World) (hr : Kd.C (Kd.int .u8) w A l.length l) (hc : l.length ≤ c) (hb : M.Bytes l) (hl : l.length ≤ 140737488351232) :
    Calls Try.prog 9 #[.slice A l.length c] w fun e w' => e = .returned (.bool true) ∧ Below w.heap.size w w' := by
  have HB0 := Aside0.mk (Below.refl w.heap.size w)
  by_cases h40 : 40 < l.length
  · have hd : decide ((40 : Int) < (l.length : Int)) = true := decide_eq_true (by omega)
    have hd2 : decide (40 < l.length) = true := decide_eq_true h40
    clear hr h40
    go_enter Try.func9, Try.ntmps9
    go_wp2_with (go_at_call 18; refine (awake_c _).mono ?_; rintro e w' ⟨rfl, hB⟩; have HB3 := Aside0.mk hB; clear hB)
    go_ret
    exact ⟨rfl, HB3.out⟩
  · have hd : decide ((40 : Int) < (l.length : Int)) = false := decide_eq_false (by omega)
    have hd2 : decide (40 < l.length) = false := decide_eq_false h40
    obtain ⟨n, j, f, hV⟩ : ∃ n j f, M.V l = (n, j, f) := ⟨_, _, _, rfl⟩
    have HR1 := fun W (h : Kd.C (Kd.int .u8) W A l.length l) => read_c A c l W h hc hb hl
    have HR2 := fun W (h : Kd.C (Kd.int .u8) W A l.length l) => refread_c A c l W h hc hb hl
    rw [hV] at HR1 HR2
    have H1 := Aside0.mk HR1
    have H2 := Aside0.mk HR2
    have HC := Aside0.mk hr
    have HV := Aside0.mk hV
    clear HR1 HR2 hr hV h40
    have hn : (n == n) = true := by simp
    have hj : (j == j) = true := by simp
    by_cases hf : f = 0
    · subst hf
      obtain ⟨rest, he, hjl, h0, h1⟩ := M.V_inv hb HV.out
      have HS := Aside0.mk (starts_prefix he)
      clear he hjl
      go_enter Try.func9, Try.ntmps9
      go_wp2_with fail
      refine (H1.out _ HC.out).mono ?_
      rintro e w' ⟨rfl, ⟨nd, rfl⟩⟩
      go_wp2_with fail
      refine (H2.out _ (Kd.C_drewN HC.out _)).mono ?_
      rintro e w2 ⟨rfl, hB⟩
      have HB2 := Aside0.mk (below_step (pw_below_drewN HB0.out nd) hB)
      have HC2 := Aside0.mk (Kd.C_below (Kd.C_drewN HC.out nd) hB)
      clear hB
      go_wp2_with fail
      refine (bytes_new n _ h0 h1).mono ?_
      rintro e w3 ⟨B, c3, rfl, hle, hCB, hB⟩
      have HB3 := Aside0.mk (below_step HB2.out hB)
      have HC3 := Aside0.mk (Kd.C_below HC2.out hB)
      have HD3 := Aside0.mk hCB
      clear hB hle hCB
      go_wp2_with fail
      refine (starts_c _ _ _ _ _ _ _ HC3.out hc HD3.out).mono ?_
      rw [HS.out]
      rintro e w' ⟨rfl, ⟨nd2, rfl⟩⟩
      go_wp2_with (go_at_call 18; refine (awake_c _).mono ?_; rintro e w' ⟨rfl, hB⟩; have HB4 := Aside0.mk (below_step (by repeat (first | exact HB3.out | apply pw_below_drewN)) hB); clear hB)
      go_ret
      exact ⟨rfl, HB4.out⟩
    · have hff : (f == f) = true := by simp
      have hf0 : (f == 0) = false := by simpa using hf
      have hf1 : (f != 0) = true := by simpa using hf
      clear hf
      go_enter Try.func9, Try.ntmps9
      go_wp2_with fail
      refine (H1.out _ HC.out).mono ?_
      rintro e w' ⟨rfl, ⟨nd, rfl⟩⟩
      go_wp2_with fail
      refine (H2.out _ (Kd.C_drewN HC.out _)).mono ?_
      rintro e w2 ⟨rfl, hB⟩
      have HB2 := Aside0.mk (below_step (pw_below_drewN HB0.out nd) hB)
      clear hB
      go_wp2_with (go_at_call 18; refine (awake_c _).mono ?_; rintro e w' ⟨rfl, hB⟩; have HB4 := Aside0.mk (below_step HB2.out hB); clear hB)
      go_ret
      exact ⟨rfl, HB4.out⟩

/-- As the row wants it. -/
theorem reads_walk (a0 : Option Addr) (len0 cap0 : Nat) (z0 : List Int) (w : World) (w0 : (a0 = none ∧ len0 = 0 ∧ cap0 = 0 ∧ z0 = []) ∨ ∃ x, a0 = some x ∧ len0 ≤ cap0 ∧ cap0 ≤ maxLen ∧ z0.length = cap0 ∧ (∀ i, i < z0.length → w.cell? (x.add i) = some (.int .u8 (z0.getD i 0))) ∧ ∀ n ∈ z0, (Lit.int .u8 n).wf = true) (y0 : len0 * 1 ≤ 140737488351232) :
    Calls Try.prog 9 #[.slice a0 len0 cap0] w fun e w' => e = .returned (.bool true) ∧ Below w.heap.size w w' := by
  obtain ⟨l0, rfl, hr0, hm0, hw0, hc0⟩ := ReadsInt.ofRowC w0
  exact reads_c a0 cap0 l0 w (Kd.C_of_reads (d := (0 : Int)) (h1 := fun _ => rfl) hr0) hc0 (M.Bytes.of_wf hw0) (by omega)

end Go.Proofs.Ytmemmhalcieelaa.V
