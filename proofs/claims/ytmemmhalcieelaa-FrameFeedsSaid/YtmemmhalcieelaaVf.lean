/-
The laws of layer 1 (varint): each law's call answers true, whatever the input.
-/
import Derived.Test.YtmemmhalcieelaaVe
namespace Go.Proofs.Ytmemmhalcieelaa.V
open Go.RowKit Go.Proofs.YtmemmhalcieelaaW.PrintWords Go.Proofs.YtmemmhalcieelaaW.PrintLast Go.Proofs.YtmemmhalcieelaaW.PrintMore

theorem append_new (n : Int) (w : World) (h0 : 0 ≤ n) (h1 : n < 18446744073709551616) :
    Calls Try.prog 15 #[.slice none 0 0, .int .u64 n] w fun e w' => ∃ (A : Option Addr) (c : Nat), e = .returned (.slice A (M.E n).length c) ∧ (M.E n).length ≤ c ∧ Kd.C (Kd.int .u8) w' A (M.E n).length (M.E n) ∧ Below w.heap.size w w' := by
  refine (append_c (fun _ => True) (.slice none 0 0) [] n w _ h0 h1 (by decide) (Below.refl _ _) (Kd.R_nil _ _ _ _ _)).mono ?_
  rintro e w' ⟨v, rfl, hR, hB, _⟩
  obtain ⟨A, c, rfl, hle, hC⟩ := Kd.R_reads hR
  exact ⟨A, c, rfl, hle, hC, hB⟩

theorem awake_c (w : World) : Calls Try.prog 18 #[] w fun e w' => e = .returned (.bool true) ∧ Below w.heap.size w w' := by
  have e300 : M.E 300 = [172, 2] := by decide
  have hA := append_new 300 w (by decide) (by decide)
  rw [e300] at hA
  have HA := Aside0.mk hA
  have hS := fun W => size_c 300 W (by decide) (by decide)
  rw [e300] at hS
  have HS := Aside0.mk hS
  clear hA hS e300
  go_enter Try.func18, Try.ntmps18
  go_wp2_with fail
  refine HA.out.mono ?_
  rintro e w1 ⟨A, c, rfl, hle, hC, hB⟩
  obtain ⟨ad, rfl, h0⟩ := Kd.at_int hC 0 (by decide) (by decide)
  obtain ⟨ad', e', h1⟩ := Kd.at_int hC 1 (by decide) (by decide)
  obtain rfl : ad = ad' := by injection e'
  clear e' hC hle
  have HB := Aside0.mk hB
  clear hB
  have e0 : ad.add 0 = ad := by simp [Addr.add]
  have h0' : w1.cell? ad = some (.int .u8 172) := by rw [← e0]; exact h0
  have h1' : w1.cell? ⟨ad.block, ad.off + 1, none⟩ = some (.int .u8 2) := h1
  clear h0 h1 e0
  go_wp2_with (go_at_call 17; refine (HS.out _).mono ?_; rintro e w' ⟨rfl, rfl⟩)
  go_ret
  exact ⟨rfl, HB.out⟩

theorem starts_apart {n m : Int} (h0 : 0 ≤ n) (h1 : n < 18446744073709551616) (k0 : 0 ≤ m) (k1 : m < 18446744073709551616) (hne : n ≠ m) : startsB (M.E n) (M.E m) = false := by
  unfold startsB
  split
  · rw [M.str_eq ((M.Bytes.E h0 h1).take _) (M.Bytes.E k0 k1)]
    refine decide_eq_false (fun he => hne (M.E_apart h0 h1 k0 k1 ((M.E n).drop (M.E m).length) ?_))
    have := List.take_append_drop (M.E m).length (M.E n)
    rw [he] at this
    exact this.symm
  · rfl

set_option maxHeartbeats 1000000 in
theorem apart_c (n m : Int) (w : World) (h0 : 0 ≤ n) (h1 : n < 18446744073709551616) (k0 : 0 ≤ m) (k1 : m < 18446744073709551616) :
    Calls Try.prog 3 #[.int .u64 n, .int .u64 m] w fun e w' => e = .returned (.bool true) ∧ Below w.heap.size w w' := by
  have hn1 : n ≤ 18446744073709551615 := by omega
  have hm1 : m ≤ 18446744073709551615 := by omega
  go_enter Try.func3, Try.ntmps3
  go_wp2_with fail
  refine (append_new n _ h0 h1).mono ?_
  rintro e w1 ⟨A, c, rfl, hle, hC, hB⟩
  have HB1 := Aside0.mk hB
  have HC1 := Aside0.mk hC
  have HL1 := Aside0.mk hle
  clear hB hC hle
  go_wp2_with fail
  refine (append_new m _ k0 k1).mono ?_
  rintro e w2 ⟨B, c2, rfl, hle, hC, hB⟩
  have HB2 := Aside0.mk (below_step HB1.out hB)
  have HC2 := Aside0.mk (Kd.C_below HC1.out hB)
  have HD2 := Aside0.mk hC
  have HL2 := Aside0.mk hle
  clear hB hC hle HB1 HC1
  by_cases hnm : n = m
  · subst hnm
    have hq : (n == n) = true := by simp
    have hq2 : (n != n) = false := by simp
    have hcv1 := Kd.C_string (P := Try.prog) (A := A) (c := c) Try.underlying23 Try.underlying5 Try.underlying9 HC2.out
    have hcv2 := Kd.C_string (P := Try.prog) (A := B) (c := c2) Try.underlying23 Try.underlying5 Try.underlying9 HD2.out
    have hg : decide (n < n) = false := decide_eq_false (by omega)
    have hl : decide (((M.E n).length : Int) ≤ ((M.E n).length : Int)) = true := decide_eq_true (Int.le_refl _)
    have hl2 : decide ((M.E n).length ≤ (M.E n).length) = true := decide_eq_true (Nat.le_refl _)
    go_wp2_with (first | (go_at_call 17; refine (size_c n _ h0 hn1).mono ?_; rintro e w' ⟨rfl, rfl⟩) | (go_at_call 18; refine (awake_c _).mono ?_; rintro e w' ⟨rfl, hB⟩; have HB3 := Aside0.mk (below_step HB2.out hB); clear hB))
    go_ret
    exact ⟨rfl, HB3.out⟩
  · have hq : (n == m) = false := by simpa using hnm
    have hq2 : (n != m) = true := by simpa using hnm
    have hs1 := Aside0.mk (starts_apart h0 h1 k0 k1 hnm)
    have hs2 := Aside0.mk (starts_apart k0 k1 h0 h1 (fun e => hnm e.symm))
    by_cases hlt : m < n
    · have hg : decide (m < n) = true := decide_eq_true hlt
      clear hnm hlt
      go_wp2_with fail
      refine (starts_c _ _ _ _ _ _ _ HC2.out HL1.out HD2.out).mono ?_
      rw [hs1.out]
      rintro e w' ⟨rfl, ⟨nd, rfl⟩⟩
      go_wp2_with fail
      refine (starts_c _ _ _ _ _ _ _ (Kd.C_drewN HD2.out _) HL2.out (Kd.C_drewN HC2.out _)).mono ?_
      rw [hs2.out]
      rintro e w' ⟨rfl, ⟨nd2, rfl⟩⟩
      go_wp2_with (go_at_call 18; refine (awake_c _).mono ?_; rintro e w' ⟨rfl, hB⟩; have HB3 := Aside0.mk (below_step (by repeat (first | exact HB2.out | apply pw_below_drewN)) hB); clear hB)
      go_ret
      exact ⟨rfl, HB3.out⟩
    · have hg : decide (m < n) = false := decide_eq_false hlt
      have hmo := M.E_mono (show n ≤ m by omega)
      have hl : decide (((M.E n).length : Int) ≤ ((M.E m).length : Int)) = true := decide_eq_true (by omega)
      have hl2 : decide ((M.E n).length ≤ (M.E m).length) = true := decide_eq_true hmo
      clear hnm hlt hmo
      go_wp2_with fail
      refine (starts_c _ _ _ _ _ _ _ HC2.out HL1.out HD2.out).mono ?_
      rw [hs1.out]
      rintro e w' ⟨rfl, ⟨nd, rfl⟩⟩
      go_wp2_with fail
      refine (starts_c _ _ _ _ _ _ _ (Kd.C_drewN HD2.out _) HL2.out (Kd.C_drewN HC2.out _)).mono ?_
      rw [hs2.out]
      rintro e w' ⟨rfl, ⟨nd2, rfl⟩⟩
      go_wp2_with fail
      refine (size_c n _ h0 hn1).mono ?_
      rintro e w' ⟨rfl, rfl⟩
      go_wp2_with fail
      refine (size_c m _ k0 hm1).mono ?_
      rintro e w' ⟨rfl, rfl⟩
      go_wp2_with (go_at_call 18; refine (awake_c _).mono ?_; rintro e w' ⟨rfl, hB⟩; have HB3 := Aside0.mk (below_step (by repeat (first | exact HB2.out | apply pw_below_drewN)) hB); clear hB)
      go_ret
      exact ⟨rfl, HB3.out⟩

theorem u64_range {n : Int} (h : (Lit.int .u64 n).wf = true) : 0 ≤ n ∧ n < 18446744073709551616 := by
  simp [Lit.wf, IntKind.min, IntKind.max, IntKind.bits, IntKind.signed] at h
  omega
theorem i64_range {n : Int} (h : (Lit.int .i64 n).wf = true) : -9223372036854775808 ≤ n ∧ n ≤ 9223372036854775807 := by
  simp [Lit.wf, IntKind.min, IntKind.max, IntKind.bits, IntKind.signed] at h
  omega

/-- flangelaw01.VarintApart, as the row wants it. -/
theorem apart_walk (n m : Int) (w : World) (h0 : (Lit.int .u64 n).wf = true) (h1 : (Lit.int .u64 m).wf = true) :
    Calls Try.prog 3 #[.int .u64 n, .int .u64 m] w fun e w' => e = .returned (.bool true) ∧ Below w.heap.size w w' :=
  apart_c n m w (u64_range h0).1 (u64_range h0).2 (u64_range h1).1 (u64_range h1).2

end Go.Proofs.Ytmemmhalcieelaa.V
