/-
The law VarintLays: its call answers true, whatever the bytes ahead and behind.
-/
import Derived.Test.YtmemmhalcieelaaVg
namespace Go.Proofs.Ytmemmhalcieelaa.V
open Go.RowKit Go.Proofs.YtmemmhalcieelaaW.PrintWords Go.Proofs.YtmemmhalcieelaaW.PrintLast Go.Proofs.YtmemmhalcieelaaW.PrintMore

set_option maxHeartbeats 2000000 in
theorem lays_small (A0 : Option Addr) (c0 : Nat) (l0 : List Int) (n : Int) (A2 : Option Addr) (c2 : Nat) (l2 : List Int) (w : World) (hr0 : Kd.C (Kd.int .u8) w A0 l0.length l0) (hr2 : Kd.C (Kd.int .u8) w A2 l2.length l2) (hb2 : M.Bytes l2) (h0 : 0 ≤ n) (h1 : n < 18446744073709551616) (hl0 : l0.length ≤ 100) (hl2 : l2.length ≤ 100) :
    Calls Try.prog 8 #[.slice A0 l0.length c0, .int .u64 n, .slice A2 l2.length c2] w fun e w' => e = .returned (.bool true) ∧ Below w.heap.size w w' := by
  have HR0 := Aside0.mk hr0
  have HR2 := Aside0.mk hr2
  have HL0 := Aside0.mk hl0
  have HL2 := Aside0.mk hl2
  have hd0 : decide ((100 : Int) < (l0.length : Int)) = false := decide_eq_false (by omega)
  have hd1 : decide (100 < l0.length) = false := decide_eq_false (by omega)
  have hd2 : decide ((100 : Int) < (l2.length : Int)) = false := decide_eq_false (by omega)
  have hd3 : decide (100 < l2.length) = false := decide_eq_false (by omega)
  have hE := Aside0.mk (M.E_le n)
  clear hr0 hr2 hl0 hl2
  go_enter Try.func8, Try.ntmps8
  go_wp2_with (first | ((with_reducible refine gate_dst (N := 21) rfl ?_); refine Kd.R_lit (Kd.int .u8) _ 5 ?hg (N := 21) ?hd (xs := ([] : List Int)) (inner := []) (ok := fun _ => True) (okp := fun _ => True) ?hr ?hp (fun _ hk => hk) trivial (Below.refl _ _) (Nat.le_refl _) (by simp) ?_; (case hd => rfl); (case hg => rfl); (case hr => first | (go_simp; done) | (go_simp; rfl)); (case hp => exact (Reps.none _ _)); intro v21 w21 ho hb _ _; have HO21 := Aside0.mk ho; have HS21 := Aside0.mk hb; clear ho hb) | ((with_reducible refine gate_builtin (b := .append) (xs := #[.tmp 21, .tmp 22]) rfl ?_); at_builtin; refine Kd.R_append_rows (Kd.int .u8) (w0 := w) w.heap.size rfl (.tmp 21) (.tmp 22) 23 5 (.int .u8 0) 1 rfl Try.underlying23 info5 rfl (by decide) (by omega) v21 [] l0 _ _ _ (fun _ => True) (fun _ => False) rfl rfl HO21.out ?aR (fun _ _ h => h) (fun _ h => h.elim) (fun _ _ => trivial) HS21.out HS21.out.size ?aL ?_; (case aR => exact Kd.C_below HR0.out HS21.out); (case aL => have := HL0.out; simp; omega); intro v23 w23 ho hb _ _; have HO23 := Aside0.mk ho; have HS23 := Aside0.mk hb; clear ho hb) | fail)
  refine (append_c (fun _ => True) v23 _ n w _ h0 h1 ?_ HS23.out HO23.out).mono ?_
  · have := HL0.out
    simp
    omega
  rintro e w25 ⟨v25, rfl, ho, hb, _⟩
  rw [List.nil_append] at ho
  obtain ⟨A25, c25, rfl, _, hC⟩ := Kd.R_reads ho
  have HC25 := Aside0.mk hC
  have HB25 := Aside0.mk hb
  clear ho hb hC HO21 HS21 HO23 HS23
  have hY : w25.heap.size ≤ w25.heap.size := Nat.le_refl _
  go_wp2_with (first | ((with_reducible refine gate_dst (N := 26) rfl ?_); refine Kd.R_lit (Kd.int .u8) _ 5 ?hg (N := 26) ?hd (xs := ([] : List Int)) (inner := []) (ok := fun _ => True) (okp := fun _ => True) ?hr ?hp (fun _ hk => hk) trivial (Below.refl _ _) (Nat.le_refl _) (by simp) ?_; (case hd => rfl); (case hg => rfl); (case hr => first | (go_simp; done) | (go_simp; rfl)); (case hp => exact (Reps.none _ _)); intro v26 w26 ho hb _ _; have HO26 := Aside0.mk ho; have HS26 := Aside0.mk hb; clear ho hb) | ((with_reducible refine gate_builtin (b := .append) (xs := #[.tmp 26, .tmp 27]) rfl ?_); at_builtin; refine Kd.R_append_rows (Kd.int .u8) (w0 := w25) w25.heap.size rfl (.tmp 26) (.tmp 27) 23 5 (.int .u8 0) 1 rfl Try.underlying23 info5 rfl (by decide) (by omega) v26 [] l0 _ _ _ (fun _ => True) (fun _ => False) rfl rfl HO26.out ?aR (fun _ _ h => h) (fun _ h => h.elim) (fun _ _ => trivial) HS26.out HS26.out.size ?aL ?_; (case aR => exact Kd.C_below HR0.out (below_step HB25.out HS26.out)); (case aL => have := HL0.out; simp; omega); intro v28 w28 ho hb _ _; have HO28 := Aside0.mk ho; have HS28 := Aside0.mk hb; clear ho hb) | fail)
  refine (bytes_new n _ h0 h1).mono ?_
  rintro e w30 ⟨A30, c30, rfl, _, hC, hB⟩
  have HO30 := Aside0.mk (Kd.R_below HO28.out hB)
  have HS30 := Aside0.mk (below_step HS28.out hB)
  have HC30 := Aside0.mk hC
  clear hC hB HO26 HS26 HO28 HS28
  go_wp2_with (first | ((with_reducible refine gate_builtin (b := .append) (xs := #[.tmp 28, .tmp 30]) rfl ?_); at_builtin; refine Kd.R_append_rows (Kd.int .u8) (w0 := w25) w25.heap.size rfl (.tmp 28) (.tmp 30) 23 5 (.int .u8 0) 1 rfl Try.underlying23 info5 rfl (by decide) (by omega) v28 ([] ++ l0) (M.E n) _ _ _ (fun _ => True) (fun _ => False) rfl rfl HO30.out ?aR (fun _ _ h => h) (fun _ h => h.elim) (fun _ _ => trivial) HS30.out HS30.out.size ?aL ?_; (case aR => exact HC30.out); (case aL => have := HL0.out; have := hE.out; simp; omega); intro v31 w31 ho hb _ _; have HO31 := Aside0.mk ho; have HS31 := Aside0.mk hb; clear ho hb) | ((with_reducible refine gate_dst (N := 33) rfl ?_); refine Kd.R_lit (Kd.int .u8) _ 5 ?hg (N := 33) ?hd (xs := ([] : List Int)) (inner := []) (ok := fun _ => True) (okp := fun _ => True) ?hr ?hp (fun _ hk => hk) trivial (Below.refl _ _) (Nat.le_refl _) (by simp) ?_; (case hd => rfl); (case hg => rfl); (case hr => first | (go_simp; done) | (go_simp; rfl)); (case hp => exact (Reps.none _ _)); intro v33 w33 ho hb _ _; have HO33 := Aside0.mk ho; have HS33 := Aside0.mk hb; clear ho hb) | fail)
  rw [List.nil_append] at HO31
  obtain ⟨A31, c31, rfl, _, hC⟩ := Kd.R_reads HO31.out
  have HC31 := Aside0.mk hC
  have HB31 := Aside0.mk (below_step HB25.out HS31.out)
  have HC25' := Aside0.mk (Kd.C_below HC25.out HS31.out)
  clear hC HC30 HO30 HS30 HC25
  refine (bytes_new n _ h0 h1).mono ?_
  rintro e w35 ⟨A35, c35, rfl, _, hC, hB⟩
  have HO35 := Aside0.mk (Kd.R_below HO33.out hB)
  have HS35 := Aside0.mk (below_step HS33.out hB)
  have HC35 := Aside0.mk hC
  clear hC hB HO33 HS33
  go_wp2_with (first | ((with_reducible refine gate_builtin (b := .append) (xs := #[.tmp 33, .tmp 35]) rfl ?_); at_builtin; refine Kd.R_append_rows (Kd.int .u8) (w0 := w31) w31.heap.size rfl (.tmp 33) (.tmp 35) 23 5 (.int .u8 0) 1 rfl Try.underlying23 info5 rfl (by decide) (by omega) v33 [] (M.E n) _ _ _ (fun _ => True) (fun _ => False) rfl rfl HO35.out ?aR (fun _ _ h => h) (fun _ h => h.elim) (fun _ _ => trivial) HS35.out HS35.out.size ?aL ?_; (case aR => exact HC35.out); (case aL => have := hE.out; simp; omega); intro v36 w36 ho hb _ _; have HO36 := Aside0.mk ho; have HS36 := Aside0.mk hb; clear ho hb) | ((with_reducible refine gate_builtin (b := .append) (xs := #[.tmp 36, .tmp 37]) rfl ?_); at_builtin; refine Kd.R_append_rows (Kd.int .u8) (w0 := w31) w31.heap.size rfl (.tmp 36) (.tmp 37) 23 5 (.int .u8 0) 1 rfl Try.underlying23 info5 rfl (by decide) (by omega) v36 ([] ++ M.E n) l2 _ _ _ (fun _ => True) (fun _ => False) rfl rfl HO36.out ?aR (fun _ _ h => h) (fun _ h => h.elim) (fun _ _ => trivial) HS36.out HS36.out.size ?aL ?_; (case aR => exact Kd.C_below HR2.out (below_step HB31.out HS36.out)); (case aL => have := HL2.out; have := hE.out; simp; omega); intro v38 w38 ho hb _ _; have HO38 := Aside0.mk ho; have HS38 := Aside0.mk hb; clear ho hb) | fail)
  rw [List.nil_append] at HO38
  obtain ⟨A38, c38, rfl, hle, hC⟩ := Kd.R_reads HO38.out
  have HV := Aside0.mk (M.V_E h0 h1 l2)
  have hR := read_c A38 c38 (M.E n ++ l2) w38 hC hle ((M.Bytes.E h0 h1).append hb2) (by have := HL2.out; have := hE.out; simp; omega)
  rw [HV.out] at hR
  have HB38 := Aside0.mk (below_step HB31.out HS38.out)
  have HC7 := Aside0.mk (Kd.C_below HC25'.out HS38.out)
  have HC8 := Aside0.mk (Kd.C_below HC31.out HS38.out)
  refine hR.mono ?_
  clear hR hC hle
  rintro e w' ⟨rfl, ⟨nd, rfl⟩⟩
  have hcv7 := Kd.C_string (P := Try.prog) (A := A25) (c := c25) Try.underlying23 Try.underlying5 Try.underlying9 (Kd.C_drewN HC7.out nd)
  have hcv8 := Kd.C_string (P := Try.prog) (A := A31) (c := c31) Try.underlying23 Try.underlying5 Try.underlying9 (Kd.C_drewN HC8.out nd)
  have hnn : (n == n) = true := by simp
  rw [List.length_append] at hcv7 hcv8
  have hll : (((M.E n).length : Int) == ((M.E n).length : Int)) = true := by simp
  go_wp2_with fail
  refine (size_c n _ h0 (by omega)).mono ?_
  rintro e w' ⟨rfl, rfl⟩
  go_wp2_with fail
  refine (bytes_new n _ h0 h1).mono ?_
  rintro e w52 ⟨A52, c52, rfl, _, _, hB⟩
  have HB52 := Aside0.mk (below_step (pw_below_drewN HB38.out nd) hB)
  clear hB
  go_wp2_with fail
  refine (bytes_new n _ h0 h1).mono ?_
  rintro e w64 ⟨A64, c64, rfl, _, _, hB⟩
  have HB64 := Aside0.mk (below_step HB52.out hB)
  clear hB
  go_wp2_with (go_at_call 18; refine (awake_c _).mono ?_; rintro e w' ⟨rfl, hB⟩; have HB3 := Aside0.mk (below_step HB64.out hB); clear hB)
  go_ret
  exact ⟨rfl, HB3.out⟩

theorem lays_large (A0 : Option Addr) (c0 : Nat) (len0 : Nat) (n : Int) (A2 : Option Addr) (c2 : Nat) (len2 : Nat) (w : World) (h : 100 < len0 ∨ 100 < len2) :
    Calls Try.prog 8 #[.slice A0 len0 c0, .int .u64 n, .slice A2 len2 c2] w fun e w' => e = .returned (.bool true) ∧ Below w.heap.size w w' := by
  by_cases h0 : 100 < len0
  · have hd0 : decide ((100 : Int) < (len0 : Int)) = true := decide_eq_true (by omega)
    have hd1 : decide (100 < len0) = true := decide_eq_true h0
    clear h h0
    go_enter Try.func8, Try.ntmps8
    go_wp2_with (go_at_call 18; refine (awake_c _).mono ?_; rintro e w' ⟨rfl, hB⟩; have HB3 := Aside0.mk hB; clear hB)
    go_ret
    exact ⟨rfl, HB3.out⟩
  · have hd0 : decide ((100 : Int) < (len0 : Int)) = false := decide_eq_false (by omega)
    have hd1 : decide (100 < len0) = false := decide_eq_false h0
    have hd2 : decide ((100 : Int) < (len2 : Int)) = true := decide_eq_true (by omega)
    have hd3 : decide (100 < len2) = true := decide_eq_true (by omega)
    clear h h0
    go_enter Try.func8, Try.ntmps8
    go_wp2_with (go_at_call 18; refine (awake_c _).mono ?_; rintro e w' ⟨rfl, hB⟩; have HB3 := Aside0.mk hB; clear hB)
    go_ret
    exact ⟨rfl, HB3.out⟩

/-- As the row wants it. -/
theorem lays_walk (a0 : Option Addr) (len0 cap0 : Nat) (z0 : List Int) (a1 : Int) (a2 : Option Addr) (len2 cap2 : Nat) (z2 : List Int) (w : World)
    (w0 : (a0 = none ∧ len0 = 0 ∧ cap0 = 0 ∧ z0 = []) ∨ ∃ x, a0 = some x ∧ len0 ≤ cap0 ∧ cap0 ≤ maxLen ∧ z0.length = cap0 ∧ (∀ i, i < z0.length → w.cell? (x.add i) = some (.int .u8 (z0.getD i 0))) ∧ ∀ n ∈ z0, (Lit.int .u8 n).wf = true)
    (w1 : (Lit.int .u64 a1).wf = true)
    (w2 : (a2 = none ∧ len2 = 0 ∧ cap2 = 0 ∧ z2 = []) ∨ ∃ x, a2 = some x ∧ len2 ≤ cap2 ∧ cap2 ≤ maxLen ∧ z2.length = cap2 ∧ (∀ i, i < z2.length → w.cell? (x.add i) = some (.int .u8 (z2.getD i 0))) ∧ ∀ n ∈ z2, (Lit.int .u8 n).wf = true) :
    Calls Try.prog 8 #[.slice a0 len0 cap0, .int .u64 a1, .slice a2 len2 cap2] w fun e w' => e = .returned (.bool true) ∧ Below w.heap.size w w' := by
  by_cases h : 100 < len0 ∨ 100 < len2
  · exact lays_large a0 cap0 len0 a1 a2 cap2 len2 w h
  · obtain ⟨l0, rfl, hr0, _, _, _⟩ := ReadsInt.ofRowC w0
    obtain ⟨l2, rfl, hr2, _, hw2, _⟩ := ReadsInt.ofRowC w2
    exact lays_small a0 cap0 l0 a1 a2 cap2 l2 w (Kd.C_of_reads (d := (0 : Int)) (h1 := fun _ => rfl) hr0) (Kd.C_of_reads (d := (0 : Int)) (h1 := fun _ => rfl) hr2) (M.Bytes.of_wf hw2) (u64_range w1).1 (u64_range w1).2 (by omega) (by omega)

end Go.Proofs.Ytmemmhalcieelaa.V
