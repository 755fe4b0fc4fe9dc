/-
The law FrameSplits: any bytes' frames; any bytes as a frame.
-/
import Derived.Test.YtmemmhalcieelaaFt
namespace Go.Proofs.Ytmemmhalcieelaa.F
open Go.RowKit Go.Proofs.YtmemmhalcieelaaW.PrintWords Go.Proofs.YtmemmhalcieelaaW.PrintLast Go.Proofs.YtmemmhalcieelaaW.PrintMore Go.Proofs.Ytmemmhalcieelaa.V

set_option maxHeartbeats 2000000 in
theorem splits_long (A : Option Addr) (c : Nat) (b : List Int) (lim : Int) (w : World) (h : b.length > 600) :
    Calls Try.prog 7 #[.slice A b.length c, .int .i64 lim] w fun e w' => e = .returned (.bool true) ∧ Below w.heap.size w w' := by
  have h' : decide ((600 : Int) < (b.length : Int)) = true := decide_eq_true (by omega)
  clear h
  go_enter Try.func7, Try.ntmps7
  go_wp2_with (go_at_call 27; refine (awake_c _).mono ?_; rintro e w' ⟨rfl, hB⟩; have HB := Aside0.mk hB; clear hB)
  go_ret
  exact ⟨rfl, HB.out⟩

set_option maxHeartbeats 2000000 in
theorem splits_bad (A : Option Addr) (c : Nat) (b : List Int) (lim : Int) (w : World) (hC : Kd.C (Kd.int .u8) w A b.length b) (hc : b.length ≤ c) (h : ¬ b.length > 600) (hlim : ¬ (0 ≤ lim ∧ lim ≤ 4096)) :
    Calls Try.prog 7 #[.slice A b.length c, .int .i64 lim] w fun e w' => e = .returned (.bool true) ∧ Below w.heap.size w w' := by
  have h' : decide ((600 : Int) < (b.length : Int)) = false := decide_eq_false (by omega)
  have HC := Aside0.mk hC
  have hw : wrapR lim b = ([], 1) := by unfold wrapR; rw [if_neg hlim]
  have HS := Aside0.mk (fun W => split_bad A c b lim W hlim)
  have HW := Aside0.mk (fun W (hC : Kd.C (Kd.int .u8) W A b.length b) => wrap_c A c b lim W hC hc (by omega))
  rw [hw] at HW
  have hl : (lim < 0) ∨ (0 ≤ lim ∧ 4096 < lim) := by omega
  clear h hC hw hlim
  rcases hl with hl | ⟨hl, hl2⟩
  · have hd : decide (lim < 0) = true := decide_eq_true hl
    clear hl
    go_enter Try.func7, Try.ntmps7
    go_wp2_with (first | (go_at_call 27; refine (awake_c _).mono ?_; rintro e w' ⟨rfl, hB⟩; have HB1 := Aside0.mk hB; clear hB) | (go_at_call 33; refine (HS.out _).mono ?_; rintro e w' ⟨rfl, hB⟩; have HB2 := Aside0.mk (below_step HB1.out hB); clear hB) | (go_at_call 34; refine (HW.out _ (Kd.C_below HC.out HB2.out)).mono ?_; rintro e w' ⟨A2, c2, rfl, _, _, hB⟩; have HB3 := Aside0.mk (below_step HB2.out hB); clear hB))
    go_ret
    exact ⟨rfl, HB3.out⟩
  · have hd : decide (lim < 0) = false := decide_eq_false (by omega)
    have hd2 : decide (4096 < lim) = true := decide_eq_true hl2
    clear hl hl2
    go_enter Try.func7, Try.ntmps7
    go_wp2_with (first | (go_at_call 27; refine (awake_c _).mono ?_; rintro e w' ⟨rfl, hB⟩; have HB1 := Aside0.mk hB; clear hB) | (go_at_call 33; refine (HS.out _).mono ?_; rintro e w' ⟨rfl, hB⟩; have HB2 := Aside0.mk (below_step HB1.out hB); clear hB) | (go_at_call 34; refine (HW.out _ (Kd.C_below HC.out HB2.out)).mono ?_; rintro e w' ⟨A2, c2, rfl, _, _, hB⟩; have HB3 := Aside0.mk (below_step HB2.out hB); clear hB))
    go_ret
    exact ⟨rfl, HB3.out⟩

theorem str_append (p q : List Int) : strOfNums (p ++ q) = strOfNums p ++ strOfNums q := by
  simp [strOfNums, ByteArray.ext_iff]
theorem str_size (p : List Int) : (strOfNums p).size = p.length := by
  simp [strOfNums, ByteArray.size]

def splitsT : Bool × List (List Nat × List Nat) := (true, [([], []), ([0], [0]), ([], []), ([1, 2], [1, 2]), ([3], [3]), ([4], [4]), ([5, 4], [4, 5]), ([4], [4]), ([7, 4], [4, 7]), ([8, 4], [4, 8]), ([9, 4, 4], [4, 9]), ([10, 4], [4, 10]), ([4], [4]), ([12, 4], [4, 12]), ([11, 13, 4], [4, 11, 13]), ([6, 14, 4], [4, 6, 14]), ([15, 10, 4], [4, 15]), ([16], [16]), ([17, 16], [16, 17]), ([16, 18, 4], [4, 16, 18]), ([4, 19], [4, 19])])
def splitsB : List Nat := [0, 1, 0, 7, 15, 31, 63, 31, 159, 415, 927, 1951, 31, 4127, 16287, 32767, 65535, 131071, 262143, 524287, 1048575]
theorem splitsTab : rtab .any (opsOf Try.f7 9) = splitsT := by kernel_rfl
theorem splitsBits : waitsOk splitsT.2 splitsB = true := by kernel_rfl
set_option maxHeartbeats 4000000 in
theorem splits_big (A : Option Addr) (c : Nat) (b : List Int) (lim : Int) (w : World) (hC : Kd.C (Kd.int .u8) w A b.length b) (hc : b.length ≤ c) (hb : M.Bytes b) (h : ¬ b.length > 600) (hlim : 0 ≤ lim ∧ lim ≤ 4096) (hbig : (b.length : Int) > lim) :
    Calls Try.prog 7 #[.slice A b.length c, .int .i64 lim] w fun e w' => e = .returned (.bool true) ∧ Below w.heap.size w w' := by
  have h' : decide ((600 : Int) < (b.length : Int)) = false := decide_eq_false (by omega)
  have hd : decide (lim < 0) = false := decide_eq_false (by omega)
  have hd2 : decide (4096 < lim) = false := decide_eq_false (by omega)
  have HC := Aside0.mk hC
  have HS := Aside0.mk (fun W (hC : Kd.C (Kd.int .u8) W A b.length b) => split_c A c b lim W hC hb (by omega) hlim)
  have HW := Aside0.mk (fun W (hC : Kd.C (Kd.int .u8) W A b.length b) => wrap_c A c b lim W hC hc (by omega))
  have HT := Aside0.mk (fun W (hC : Kd.C (Kd.int .u8) W A b.length b) => cut_c A c b lim W hC hc hb (by omega) hlim)
  obtain ⟨f1, f2, f3, f4, f5, f6⟩ := all_facts lim b hb
  obtain ⟨R, hR⟩ : ∃ R, all lim b = R := ⟨_, rfl⟩
  rw [hR] at HS HT f1 f2 f3 f4 f5 f6
  clear hR
  obtain ⟨fs, at_, no⟩ := R
  simp only at HS HT f1 f2 f3 f4 f5 f6
  obtain ⟨LL, hLL⟩ : ∃ x, (if no = 0 then fs else []) = x := ⟨_, rfl⟩
  obtain ⟨NN, hNN⟩ : ∃ x, (if no = 0 then (fs.length : Int) else at_) = x := ⟨_, rfl⟩
  rw [hLL, hNN] at HS
  have HLL := Aside0.mk hLL
  have HNN := Aside0.mk hNN
  have HF := Aside0.mk (And.intro f1 (And.intro f2 (And.intro f3 f5)))
  have HH := Aside0.mk h
  have HBy := Aside0.mk hb
  clear hLL hNN f1 f2 f3 f4 f5 f6 hC h hb
  have hw : wrapR lim b = ([], 3) := by unfold wrapR; rw [if_pos hlim, if_pos hbig]
  have hd3 : decide (lim < (b.length : Int)) = true := decide_eq_true hbig
  have hd4 : decide ((b.length : Int) ≤ lim) = false := decide_eq_false (by omega)
  rw [hw] at HW
  clear hw hbig hlim
  go_enter Try.func7, Try.ntmps7
  go_wp2_with (first | (go_at_call 27; refine (awake_c _).mono ?_; rintro e w' ⟨rfl, hB⟩; have HB1 := Aside0.mk hB; clear hB) | (go_at_call 33; refine (HS.out _ (Kd.C_below HC.out HB1.out)).mono ?_; rintro e w' ⟨⟨A1, c1, rfl, hL⟩, hB⟩; have HB2 := Aside0.mk (below_step HB1.out hB); have HL2 := Aside0.mk hL; clear hB hL) | (go_at_call 34; refine (HW.out _ (Kd.C_below HC.out HB2.out)).mono ?_; rintro e w' ⟨A2, c2, rfl, _, _, hB⟩; have HB3 := Aside0.mk (below_step HB2.out hB); have HB23 := Aside0.mk hB; clear hB))
  go_quiet (fail)
  go_wp2_with fail
  refine (HT.out _ (Kd.C_drewN (Kd.C_below HC.out HB3.out) nq)).mono ?_
  rintro e w4 ⟨A3, c3, rfl, hC3, hB⟩
  have HB4 := Aside0.mk (below_step HB3.out (below_step (pw_below_drewN (Below.refl _ _) nq) hB))
  have HC3 := Aside0.mk hC3
  have HB24 := Aside0.mk (below_step HB23.out (below_step (pw_below_drewN (Below.refl _ _) nq) hB))
  clear hB hC3 HT HB3 HC HB23
  by_cases hno : no = 0
  · subst hno
    have e1 := HLL.out
    have e2 := HNN.out
    rw [if_pos rfl] at e1 e2
    subst e1
    subst e2
    have HL4 := Aside0.mk (Kd.C_below (HL2.out rfl) HB24.out)
    have hfs : fs.length ≤ 600 := by
      have h1 := HF.out
      have h2 := HH.out
      omega
    clear HL2 HB24 HF HH
    go_wp2_with fail
    go_loopw [13] (fun v13 wr => ∃ i n : Nat, i ≤ fs.length ∧ v13 = .int .i64 (i : Int) ∧ wr = w4.drewN n) (fun v13 _ => fs.length - (intOf v13).toNat)
    case atStart => exact ⟨0, 0, Nat.zero_le _, rfl, rfl⟩
    case round =>
      obtain ⟨i, n, hi, rfl, rfl⟩ := hrel
      by_cases hlt : i < fs.length
      · have hdi : decide ((i : Int) < (fs.length : Int)) = true := decide_eq_true (by omega)
        obtain ⟨ad, A4, c4, rfl, hcell, _, hC4⟩ := at_L1 HL4.out (i : Int) (by omega) (by omega)
        obtain ⟨ad5, A5, c5, rfl, hcell5, _, hC5⟩ := at_L1 HC3.out (i : Int) (by omega) (by omega)
        rw [Int.toNat_natCast] at hcell hcell5
        obtain ⟨f, hf⟩ : ∃ f, rd_L1 fs (i : Int) = f := ⟨_, rfl⟩
        rw [hf] at hcell hC4 hcell5 hC5
        clear hf
        have hcd : ∀ n, (w4.drewN n).cell? (ad.add i) = some (.slice A4 f.length c4) := fun n => hcell
        have hcd5 : ∀ n, (w4.drewN n).cell? (ad5.add i) = some (.slice A5 f.length c5) := fun n => hcell5
        have hcv := fun n => Kd.C_string (P := Try.prog) (A := A4) (c := c4) Try.underlying23 Try.underlying5 Try.underlying9 (Kd.C_drewN hC4 n)
        have hcv5 := fun n => Kd.C_string (P := Try.prog) (A := A5) (c := c5) Try.underlying23 Try.underlying5 Try.underlying9 (Kd.C_drewN hC5 n)
        have hw3 : wrap64 ((i : Int) + 1) = ((i + 1 : Nat) : Int) := w64 (by omega) (by omega)
        clear hcell hcell5 hC4 hC5
        go_wp2_with fail
        go_quiet (fail)
        go_wp2_with fail
        go_roundw
        case rel => exact ⟨i + 1, _, hlt, rfl, rfl⟩
        case measure =>
          rw [show ((i : Int) + 1) = ((i + 1 : Nat) : Int) from rfl]
          simp only [intOf, Int.toNat_natCast]
          exact Nat.sub_lt_sub_left hlt (Nat.lt_succ_self i)
      · have hdi : decide ((i : Int) < (fs.length : Int)) = false := decide_eq_false (by omega)
        go_wp2_with fail
        go_ret
        exact ⟨rfl, pw_below_drewN HB4.out _⟩
  · have e1 := HLL.out
    have e2 := HNN.out
    rw [if_neg hno] at e1 e2
    subst e1
    subst e2
    have hn : (no != 0) = true := by simpa using hno
    clear hno HL2 HB24 HF HH
    go_wp2_with fail
    go_ret
    exact ⟨rfl, HB4.out⟩

set_option maxHeartbeats 4000000 in
theorem splits_small (A : Option Addr) (c : Nat) (b : List Int) (lim : Int) (w : World) (hC : Kd.C (Kd.int .u8) w A b.length b) (hc : b.length ≤ c) (hb : M.Bytes b) (h : ¬ b.length > 600) (hlim : 0 ≤ lim ∧ lim ≤ 4096) (hbig : ¬ (b.length : Int) > lim) :
    Calls Try.prog 7 #[.slice A b.length c, .int .i64 lim] w fun e w' => e = .returned (.bool true) ∧ Below w.heap.size w w' := by
  have h' : decide ((600 : Int) < (b.length : Int)) = false := decide_eq_false (by omega)
  have hd : decide (lim < 0) = false := decide_eq_false (by omega)
  have hd2 : decide (4096 < lim) = false := decide_eq_false (by omega)
  have HC := Aside0.mk hC
  have HS := Aside0.mk (fun W (hC : Kd.C (Kd.int .u8) W A b.length b) => split_c A c b lim W hC hb (by omega) hlim)
  have HW := Aside0.mk (fun W (hC : Kd.C (Kd.int .u8) W A b.length b) => wrap_c A c b lim W hC hc (by omega))
  have HT := Aside0.mk (fun W (hC : Kd.C (Kd.int .u8) W A b.length b) => cut_c A c b lim W hC hc hb (by omega) hlim)
  obtain ⟨f1, f2, f3, f4, f5, f6⟩ := all_facts lim b hb
  obtain ⟨R, hR⟩ : ∃ R, all lim b = R := ⟨_, rfl⟩
  rw [hR] at HS HT f1 f2 f3 f4 f5 f6
  clear hR
  obtain ⟨fs, at_, no⟩ := R
  simp only at HS HT f1 f2 f3 f4 f5 f6
  obtain ⟨LL, hLL⟩ : ∃ x, (if no = 0 then fs else []) = x := ⟨_, rfl⟩
  obtain ⟨NN, hNN⟩ : ∃ x, (if no = 0 then (fs.length : Int) else at_) = x := ⟨_, rfl⟩
  rw [hLL, hNN] at HS
  have HLL := Aside0.mk hLL
  have HNN := Aside0.mk hNN
  have HF := Aside0.mk (And.intro f1 (And.intro f2 (And.intro f3 f5)))
  have HH := Aside0.mk h
  have HBy := Aside0.mk hb
  clear hLL hNN f1 f2 f3 f4 f5 f6 hC h hb
  have hw : wrapR lim b = (M.E b.length ++ b, 0) := by unfold wrapR; rw [if_pos hlim, if_neg hbig]
  have hd3 : decide (lim < (b.length : Int)) = false := decide_eq_false (by omega)
  have hd4 : decide ((b.length : Int) ≤ lim) = true := decide_eq_true (by omega)
  have hu : IntKind.u64.wrap (b.length : Int) = (b.length : Int) := by rw [IntKind.wrap_u64]; have := HH.out; omega
  have hu2 : (b.length : Int) < 18446744073709551616 := by have := HH.out; omega
  rw [hw] at HW
  obtain ⟨eb, heb⟩ : ∃ x, M.E (b.length : Int) = x := ⟨_, rfl⟩
  obtain ⟨wb, hwb⟩ : ∃ x, M.E (b.length : Int) ++ b = x := ⟨_, rfl⟩
  have hbc := fun W => bytes_c (b.length : Int) W (Int.natCast_nonneg _) hu2
  rw [heb] at hbc
  simp only [hwb] at HW
  have HBC := Aside0.mk hbc
  have HEq := Aside0.mk (show strOfNums wb = strOfNums eb ++ strOfNums b by rw [← hwb, ← heb]; exact str_append _ _)
  have HSz := Aside0.mk (show ¬ 9223372036854775807 < (strOfNums eb).size + (strOfNums b).size by
    rw [str_size, str_size, ← heb]
    have := M.E_le (b.length : Int)
    have := HH.out
    omega)
  clear hw hbig hlim heb hwb hbc hu2
  go_enter Try.func7, Try.ntmps7
  go_wp2_with (first | (go_at_call 27; refine (awake_c _).mono ?_; rintro e w' ⟨rfl, hB⟩; have HB1 := Aside0.mk hB; clear hB) | (go_at_call 33; refine (HS.out _ (Kd.C_below HC.out HB1.out)).mono ?_; rintro e w' ⟨⟨A1, c1, rfl, hL⟩, hB⟩; have HB2 := Aside0.mk (below_step HB1.out hB); have HL2 := Aside0.mk hL; clear hB hL) | (go_at_call 34; refine (HW.out _ (Kd.C_below HC.out HB2.out)).mono ?_; rintro e w3 ⟨A2, c2, rfl, _, hCw, hB⟩; have HB3 := Aside0.mk (below_step HB2.out hB); have HB23 := Aside0.mk hB; have HCw := Aside0.mk hCw; clear hB hCw))
  have HSq := Aside0.mk (And.intro (Kd.C_below HC.out HB3.out) HCw.out)
  refine start_ (n := 21) (S := fun w' => Kd.C (Kd.int .u8) w' A b.length b ∧ Kd.C (Kd.int .u8) w' A2 wb.length wb) (ds := []) #[false, false, false, false, false, false, false, false, false, false, false, false, false, false, false, false, false, false, false, false, false] (by kernel_rfl) rfl rfl HSq.out (fun hHeld0 => ?_)
  refine with_tabW splitsTab splitsBits (fun HT_ HW_ => ?_)
  clear hHeld0
  refine pure_ (i := 0) (N := some 74) (v := ?_) (a' := ?_) #[true, false, false, false, false, false, false, false, false, false, false, false, false, false, false, false, false, false, false, false, false] rfl rfl (any_of HT_.out (by kernel_rfl)) (fun _ _ _ h => h) (Or.inl ⟨by rfl, ?_⟩) ?_ ?_
  rotate_left
  · intro w'
    go_simp
    with_reducible rfl
  rotate_left
  · simp only [Act.put, List.setIfInBounds_toArray, List.set_cons_zero, List.set_cons_succ]
    rfl
  refine pure_ (i := 1) (N := some 75) (v := ?_) (a' := ?_) #[true, true, false, false, false, false, false, false, false, false, false, false, false, false, false, false, false, false, false, false, false] rfl rfl (any_of HT_.out (by kernel_rfl)) (fun _ _ _ h => h) (Or.inl ⟨by rfl, ?_⟩) ?_ ?_
  rotate_left
  · intro w'
    go_simp
    with_reducible rfl
  rotate_left
  · simp only [Act.put, List.setIfInBounds_toArray, List.set_cons_zero, List.set_cons_succ]
    rfl
  refine pure_ (i := 2) (N := some 76) (v := ?_) (a' := ?_) #[true, true, true, false, false, false, false, false, false, false, false, false, false, false, false, false, false, false, false, false, false] rfl rfl (any_of HT_.out (by kernel_rfl)) (fun _ _ _ h => h) (Or.inl ⟨by rfl, ?_⟩) ?_ ?_
  rotate_left
  · intro w'
    go_simp
    with_reducible rfl
  rotate_left
  · simp only [Act.put, List.setIfInBounds_toArray, List.set_cons_zero, List.set_cons_succ]
    rfl
  refine pure_ (i := 3) (N := some 77) (v := ?_) (a' := ?_) #[true, true, true, true, false, false, false, false, false, false, false, false, false, false, false, false, false, false, false, false, false] rfl rfl (any_of HT_.out (by kernel_rfl)) (fun _ _ _ h => h) (Or.inl ⟨by rfl, ?_⟩) ?_ ?_
  rotate_left
  · intro w'
    go_simp
    with_reducible rfl
  rotate_left
  · simp only [Act.put, List.setIfInBounds_toArray, List.set_cons_zero, List.set_cons_succ]
    rfl
  refine pure_ (i := 4) (N := some 78) (v := ?_) (a' := ?_) #[true, true, true, true, true, false, false, false, false, false, false, false, false, false, false, false, false, false, false, false, false] rfl rfl (any_of HT_.out (by kernel_rfl)) (fun _ _ _ h => h) (Or.inl ⟨by rfl, ?_⟩) ?_ ?_
  rotate_left
  · intro w'
    go_simp
    with_reducible rfl
  rotate_left
  · simp only [Act.put, List.setIfInBounds_toArray, List.set_cons_zero, List.set_cons_succ]
    rfl
  refine pure_ (i := 5) (N := some 79) (v := ?_) (a' := ?_) #[true, true, true, true, true, true, false, false, false, false, false, false, false, false, false, false, false, false, false, false, false] rfl rfl (any_of HT_.out (by kernel_rfl)) (fun _ _ _ h => h) (Or.inl ⟨by rfl, ?_⟩) ?_ ?_
  rotate_left
  · intro w'
    go_simp
    with_reducible rfl
  rotate_left
  · simp only [Act.put, List.setIfInBounds_toArray, List.set_cons_zero, List.set_cons_succ]
    rfl
  refine pure_ (i := 7) (N := some 81) (v := ?_) (a' := ?_) #[true, true, true, true, true, true, false, true, false, false, false, false, false, false, false, false, false, false, false, false, false] rfl rfl (any_of HT_.out (by kernel_rfl)) (fun _ _ _ h => h) (Or.inl ⟨by rfl, ?_⟩) ?_ ?_
  rotate_left
  · intro w'
    go_simp
    with_reducible rfl
  rotate_left
  · simp only [Act.put, List.setIfInBounds_toArray, List.set_cons_zero, List.set_cons_succ]
    rfl
  refine pure_ (i := 8) (N := some 82) (v := ?_) (a' := ?_) #[true, true, true, true, true, true, false, true, true, false, false, false, false, false, false, false, false, false, false, false, false] rfl rfl (any_of HT_.out (by kernel_rfl)) (fun _ _ _ h => h) (Or.inl ⟨by rfl, ?_⟩) ?_ ?_
  rotate_left
  · intro w'
    go_simp
    with_reducible rfl
  rotate_left
  · simp only [Act.put, List.setIfInBounds_toArray, List.set_cons_zero, List.set_cons_succ]
    rfl
  refine pure_ (i := 9) (N := some 83) (v := ?_) (a' := ?_) #[true, true, true, true, true, true, false, true, true, true, false, false, false, false, false, false, false, false, false, false, false] rfl rfl (any_of HT_.out (by kernel_rfl)) (fun _ _ _ h => h) (Or.inl ⟨by rfl, ?_⟩) ?_ ?_
  rotate_left
  · intro w'
    go_simp
    with_reducible rfl
  rotate_left
  · simp only [Act.put, List.setIfInBounds_toArray, List.set_cons_zero, List.set_cons_succ]
    rfl
  refine pure_ (i := 12) (N := some 86) (v := ?_) (a' := ?_) #[true, true, true, true, true, true, false, true, true, true, false, false, true, false, false, false, false, false, false, false, false] rfl rfl (any_of HT_.out (by kernel_rfl)) (fun _ _ _ h => h) (Or.inl ⟨by rfl, ?_⟩) ?_ ?_
  rotate_left
  · intro w'
    go_simp
    with_reducible rfl
  rotate_left
  · simp only [Act.put, List.setIfInBounds_toArray, List.set_cons_zero, List.set_cons_succ]
    rfl
  refine take_ (i := 6) (N := some 80) (v := ?_) (a' := ?_) #[true, true, true, true, true, true, true, true, true, true, false, false, true, false, false, false, false, false, false, false, false] rfl rfl (take_ofW HT_.out HW_.out (by kernel_rfl)) (fun _ _ _ h => h) (Or.inl ⟨by rfl, ?_⟩) HSq.out ?_ ?_
  rotate_left
  · intro w' hw'
    obtain ⟨hA, hW⟩ := hw'
    have hcv1 := Kd.C_string (P := Try.prog) (A := A) (c := c) Try.underlying23 Try.underlying5 Try.underlying9 hA
    have hcv2 := Kd.C_string (P := Try.prog) (A := A2) (c := c2) Try.underlying23 Try.underlying5 Try.underlying9 hW
    go_simp
    with_reducible rfl
  rotate_left
  · simp only [Act.put, List.setIfInBounds_toArray, List.set_cons_zero, List.set_cons_succ]
    rfl
  refine take_ (i := 13) (N := some 87) (v := ?_) (a' := ?_) #[true, true, true, true, true, true, true, true, true, true, false, false, true, true, false, false, false, false, false, false, false] rfl rfl (take_ofW HT_.out HW_.out (by kernel_rfl)) (fun _ _ _ h => h) (Or.inl ⟨by rfl, ?_⟩) HSq.out ?_ ?_
  rotate_left
  · intro w' hw'
    obtain ⟨hA, hW⟩ := hw'
    have hcv1 := Kd.C_string (P := Try.prog) (A := A) (c := c) Try.underlying23 Try.underlying5 Try.underlying9 hA
    have hcv2 := Kd.C_string (P := Try.prog) (A := A2) (c := c2) Try.underlying23 Try.underlying5 Try.underlying9 hW
    go_simp
    with_reducible rfl
  rotate_left
  · simp only [Act.put, List.setIfInBounds_toArray, List.set_cons_zero, List.set_cons_succ]
    rfl
  refine one_ (i := 10) (N := some 84) #[true, true, true, true, true, true, true, true, true, true, true, false, true, true, false, false, false, false, false, false, false] rfl rfl (one_of HT_.out (by kernel_rfl)) (by decide) (fun K hK => ?_)
  refine goes_ Try.func35 (by kernel_rfl) rfl #[.int .u64 (b.length : Int)] (by rfl) rfl rfl (by (try simp only [List.map_toArray, List.map_cons, List.map_nil]); first | done | rfl) ?_
  refine (HBC.out _).mono ?_
  rintro e w4 ⟨v4, rfl, hR4, hB4⟩
  refine ⟨_, rfl, ?_⟩
  obtain ⟨A6, c6, rfl, _, hC6⟩ := Kd.R_reads hR4
  have HB4 := Aside0.mk (below_step (below_drew (Below.refl _ _)) hB4)
  have HC6 := Aside0.mk hC6
  have HS4 := Aside0.mk (And.intro (Kd.C_below HSq.out.1 HB4.out) (Kd.C_below HSq.out.2 HB4.out))
  clear hB4 hC6 hR4
  refine hK.out _ _ HS4.out (fun hHeld0 => ?_)
  clear hK K hHeld0
  refine norm_ (a' := ?_) ?_ ?_
  rotate_left
  · show Act.put _ (some 84) _ = _
    simp only [Act.put, List.setIfInBounds_toArray, List.set_cons_zero, List.set_cons_succ]
    rfl
  refine one_ (i := 11) (N := some 85) #[true, true, true, true, true, true, true, true, true, true, true, true, true, true, false, false, false, false, false, false, false] rfl rfl (one_of HT_.out (by kernel_rfl)) (by decide) (fun K hK => ?_)
  have hcv6 := Kd.C_string (P := Try.prog) (A := A6) (c := c6) Try.underlying23 Try.underlying5 Try.underlying9 HC6.out
  refine value_ (w1 := ?_) (v := ?_) (by rfl) rfl ?_ ?_
  rotate_left 2
  · go_simp
    constructor
    · rfl
    · rfl
  clear hcv6
  refine hK.out _ _ HS4.out (fun hHeld0 => ?_)
  clear hK K hHeld0
  refine norm_ (a' := ?_) ?_ ?_
  rotate_left
  · show Act.put _ (some 85) _ = _
    simp only [Act.put, List.setIfInBounds_toArray, List.set_cons_zero, List.set_cons_succ]
    rfl
  refine pure_ (i := 14) (N := some 88) (v := ?_) (a' := ?_) #[true, true, true, true, true, true, true, true, true, true, true, true, true, true, true, false, false, false, false, false, false] rfl rfl (any_of HT_.out (by kernel_rfl)) (fun _ _ _ h => h) (Or.inl ⟨by rfl, ?_⟩) ?_ ?_
  rotate_left
  · intro w'
    go_simp
    rw [if_neg HSz.out]
  rotate_left
  · simp only [Act.put, List.setIfInBounds_toArray, List.set_cons_zero, List.set_cons_succ]
    rfl
  refine pure_ (i := 15) (N := some 89) (v := ?_) (a' := ?_) #[true, true, true, true, true, true, true, true, true, true, true, true, true, true, true, true, false, false, false, false, false] rfl rfl (any_of HT_.out (by kernel_rfl)) (fun _ _ _ h => h) (Or.inl ⟨by rfl, ?_⟩) ?_ ?_
  rotate_left
  · intro w'
    go_simp
    rw [HEq.out]
  rotate_left
  · simp only [Act.put, List.setIfInBounds_toArray, List.set_cons_zero, List.set_cons_succ]
    rfl
  refine pure_ (i := 16) (N := some 90) (v := ?_) (a' := ?_) #[true, true, true, true, true, true, true, true, true, true, true, true, true, true, true, true, true, false, false, false, false] rfl rfl (any_of HT_.out (by kernel_rfl)) (fun _ _ _ h => h) (Or.inl ⟨by rfl, ?_⟩) ?_ ?_
  rotate_left
  · intro w'
    go_simp
    with_reducible rfl
  rotate_left
  · simp only [Act.put, List.setIfInBounds_toArray, List.set_cons_zero, List.set_cons_succ]
    rfl
  refine pure_ (i := 17) (N := some 91) (v := ?_) (a' := ?_) #[true, true, true, true, true, true, true, true, true, true, true, true, true, true, true, true, true, true, false, false, false] rfl rfl (any_of HT_.out (by kernel_rfl)) (fun _ _ _ h => h) (Or.inl ⟨by rfl, ?_⟩) ?_ ?_
  rotate_left
  · intro w'
    go_simp
    with_reducible rfl
  rotate_left
  · simp only [Act.put, List.setIfInBounds_toArray, List.set_cons_zero, List.set_cons_succ]
    rfl
  refine pure_ (i := 18) (N := some 92) (v := ?_) (a' := ?_) #[true, true, true, true, true, true, true, true, true, true, true, true, true, true, true, true, true, true, true, false, false] rfl rfl (any_of HT_.out (by kernel_rfl)) (fun _ _ _ h => h) (Or.inl ⟨by rfl, ?_⟩) ?_ ?_
  rotate_left
  · intro w'
    go_simp
    with_reducible rfl
  rotate_left
  · simp only [Act.put, List.setIfInBounds_toArray, List.set_cons_zero, List.set_cons_succ]
    rfl
  refine pure_ (i := 19) (N := some 93) (v := ?_) (a' := ?_) #[true, true, true, true, true, true, true, true, true, true, true, true, true, true, true, true, true, true, true, true, false] rfl rfl (any_of HT_.out (by kernel_rfl)) (fun _ _ _ h => h) (Or.inl ⟨by rfl, ?_⟩) ?_ ?_
  rotate_left
  · intro w'
    go_simp
    with_reducible rfl
  rotate_left
  · simp only [Act.put, List.setIfInBounds_toArray, List.set_cons_zero, List.set_cons_succ]
    rfl
  refine pure_ (i := 20) (N := some 94) (v := ?_) (a' := ?_) #[true, true, true, true, true, true, true, true, true, true, true, true, true, true, true, true, true, true, true, true, true] rfl rfl (any_of HT_.out (by kernel_rfl)) (fun _ _ _ h => h) (Or.inl ⟨by rfl, ?_⟩) ?_ ?_
  rotate_left
  · intro w'
    go_simp
    with_reducible rfl
  rotate_left
  · simp only [Act.put, List.setIfInBounds_toArray, List.set_cons_zero, List.set_cons_succ]
    rfl
  refine done_ (done_of HT_.out (by kernel_rfl)) ?_
  have hu3 := hu
  clear hu hu3 HEq HSz HBC HSq HC6 HS4 HCw HT_ HW_
  go_wp2_with fail
  refine (HT.out _ (Kd.C_below HC.out (below_step HB3.out HB4.out))).mono ?_
  rintro e w5 ⟨A3, c3, rfl, hC3, hB⟩
  have HB5 := Aside0.mk (below_step HB3.out (below_step HB4.out hB))
  have HC3 := Aside0.mk hC3
  have HB24 := Aside0.mk (below_step HB23.out (below_step HB4.out hB))
  clear hB hC3 HT HB3 HC HB23
  by_cases hno : no = 0
  · subst hno
    have e1 := HLL.out
    have e2 := HNN.out
    rw [if_pos rfl] at e1 e2
    subst e1
    subst e2
    have HL4 := Aside0.mk (Kd.C_below (HL2.out rfl) HB24.out)
    have hfs : fs.length ≤ 600 := by
      have h1 := HF.out
      have h2 := HH.out
      omega
    clear HL2 HB24 HF HH
    go_wp2_with fail
    go_loopw [13] (fun v13 wr => ∃ i n : Nat, i ≤ fs.length ∧ v13 = .int .i64 (i : Int) ∧ wr = w5.drewN n) (fun v13 _ => fs.length - (intOf v13).toNat)
    case atStart => exact ⟨0, 0, Nat.zero_le _, rfl, rfl⟩
    case round =>
      obtain ⟨i, n, hi, rfl, rfl⟩ := hrel
      by_cases hlt : i < fs.length
      · have hdi : decide ((i : Int) < (fs.length : Int)) = true := decide_eq_true (by omega)
        obtain ⟨ad, A4, c4, rfl, hcell, _, hC4⟩ := at_L1 HL4.out (i : Int) (by omega) (by omega)
        obtain ⟨ad5, A5, c5, rfl, hcell5, _, hC5⟩ := at_L1 HC3.out (i : Int) (by omega) (by omega)
        rw [Int.toNat_natCast] at hcell hcell5
        obtain ⟨f, hf⟩ : ∃ f, rd_L1 fs (i : Int) = f := ⟨_, rfl⟩
        rw [hf] at hcell hC4 hcell5 hC5
        clear hf
        have hcd : ∀ n, (w5.drewN n).cell? (ad.add i) = some (.slice A4 f.length c4) := fun n => hcell
        have hcd5 : ∀ n, (w5.drewN n).cell? (ad5.add i) = some (.slice A5 f.length c5) := fun n => hcell5
        have hcv := fun n => Kd.C_string (P := Try.prog) (A := A4) (c := c4) Try.underlying23 Try.underlying5 Try.underlying9 (Kd.C_drewN hC4 n)
        have hcv5 := fun n => Kd.C_string (P := Try.prog) (A := A5) (c := c5) Try.underlying23 Try.underlying5 Try.underlying9 (Kd.C_drewN hC5 n)
        have hw3 : wrap64 ((i : Int) + 1) = ((i + 1 : Nat) : Int) := w64 (by omega) (by omega)
        clear hcell hcell5 hC4 hC5
        go_wp2_with fail
        go_quiet (fail)
        go_wp2_with fail
        go_roundw
        case rel => exact ⟨i + 1, _, hlt, (by first | rfl | rw [hw3]), rfl⟩
        case measure =>
          rw [hw3]
          simp only [intOf, Int.toNat_natCast]
          exact Nat.sub_lt_sub_left hlt (Nat.lt_succ_self i)
      · have hdi : decide ((i : Int) < (fs.length : Int)) = false := decide_eq_false (by omega)
        go_wp2_with fail
        go_ret
        exact ⟨rfl, pw_below_drewN HB5.out _⟩
  · have e1 := HLL.out
    have e2 := HNN.out
    rw [if_neg hno] at e1 e2
    subst e1
    subst e2
    have hn : (no != 0) = true := by simpa using hno
    clear hno HL2 HB24 HF HH
    go_wp2_with fail
    go_ret
    exact ⟨rfl, HB5.out⟩

end Go.Proofs.Ytmemmhalcieelaa.F
