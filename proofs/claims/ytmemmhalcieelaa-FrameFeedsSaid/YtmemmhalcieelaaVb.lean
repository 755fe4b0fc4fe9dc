/-
Contracts of flangeref01.Starts, varint.Size.
-/
import Derived.Test.YtmemmhalcieelaaVa
import Derived.Test.YtmemmhalcieelaaShelf
import Derived.Test.YtmemmhalcieelaaM2
import Derived.Outline
namespace Go.Proofs.Ytmemmhalcieelaa.V
open Go.RowKit Go.Proofs.YtmemmhalcieelaaW.PrintWords Go.Proofs.YtmemmhalcieelaaW.PrintLast Go.Proofs.YtmemmhalcieelaaW.PrintMore
attribute [local go_sem] max2_int min2_int max_two min_two max_three min_three max_four min_four

theorem C_take {w : World} {A : Option Addr} {l : List Int} (m : Nat) (h : Kd.C (Kd.int .u8) w A l.length l) (hm : m ≤ l.length) : Kd.C (Kd.int .u8) w A m (l.take m) :=
  Kd.C_of_reads (d := (0 : Int)) (h1 := fun _ => rfl) ((Kd.reads_of_C (d := (0 : Int)) (h1 := fun _ => rfl) h).take_ m hm)

/-- 'b[:m]', as the walk spells it. -/
theorem cut_take (A : Option Addr) (c m : Nat) (l : List Int) (hm : m ≤ l.length) (hc : l.length ≤ c) (W : World) :
    (Instr.slice 23 (.slice A l.length c) none (some (.int .i64 (m : Int))) none).run Try.prog W = .ok (.slice A m c) W := by
  obtain ⟨i0, hi, _, hs, _⟩ := info_parts info5
  obtain ⟨h, _, _⟩ := print_take_of (P := Try.prog) (Value.int .u8) 0 23 5 .i64 Try.underlying23 hi hs A c l (m : Int) (by omega) (by omega) hc
  rw [h W, Int.toNat_natCast, List.length_take, Nat.min_eq_left hm]

/-- flangeref01.Starts. -/
def startsB (l0 l1 : List Int) : Bool := if l1.length ≤ l0.length then (strOfNums (l0.take l1.length)).toList == (strOfNums l1).toList else false

set_option maxHeartbeats 1000000 in
theorem starts_c (A0 : Option Addr) (c0 : Nat) (l0 : List Int) (A1 : Option Addr) (c1 : Nat) (l1 : List Int) (w : World) (hr0 : Kd.C (Kd.int .u8) w A0 l0.length l0) (hc0 : l0.length ≤ c0) (hr1 : Kd.C (Kd.int .u8) w A1 l1.length l1) :
    Calls Try.prog 16 #[.slice A0 l0.length c0, .slice A1 l1.length c1] w fun e w' => e = .returned (.bool (startsB l0 l1)) ∧ Drawn0 w w' := by
  by_cases h : l1.length ≤ l0.length
  · have hs : startsB l0 l1 = ((strOfNums (l0.take l1.length)).toList == (strOfNums l1).toList) := by rw [startsB, if_pos h]
    have HS := Aside0.mk hs
    clear hs
    have hd : decide ((l1.length : Int) ≤ (l0.length : Int)) = true := decide_eq_true (by omega)
    have hd2 : decide (l1.length ≤ l0.length) = true := decide_eq_true h
    have hcut := cut_take A0 c0 l1.length l0 h hc0
    have hcv7 := fun n => Kd.C_string (P := Try.prog) (A := A0) (c := c0) Try.underlying23 Try.underlying5 Try.underlying9 (Kd.C_drewN (C_take l1.length hr0 h) n)
    have hcv8 := fun n => Kd.C_string (P := Try.prog) (A := A1) (c := c1) Try.underlying23 Try.underlying5 Try.underlying9 (Kd.C_drewN hr1 n)
    clear hr0 hr1
    go_enter Try.func16, Try.ntmps16
    go_wp2
    go_quiet (fail)
    go_wp2
    go_ret
    exact ⟨by rw [HS.out]; rfl, ⟨_, rfl⟩⟩
  · have HS := Aside0.mk (show startsB l0 l1 = false by rw [startsB, if_neg h])
    have hd : decide ((l1.length : Int) ≤ (l0.length : Int)) = false := decide_eq_false (by omega)
    have hd2 : decide (l1.length ≤ l0.length) = false := decide_eq_false h
    clear hr0 hr1
    go_enter Try.func16, Try.ntmps16
    go_wp2
    go_quiet (fail)
    go_wp2
    go_ret
    exact ⟨by rw [HS.out]; rfl, ⟨_, rfl⟩⟩

/-- varint.Size. -/
theorem size_c (n : Int) (w : World) (h0 : 0 ≤ n) (h1 : n ≤ 18446744073709551615) :
    Calls Try.prog 17 #[.int .u64 n] w fun e w' => e = .returned (.int .i64 ((M.E n).length : Int)) ∧ w = w' := by
  have hL : (Lib.bitLen n.toNat : Int) ≤ 64 := by
    have := Lib.bitLen_le n.toNat 64 (by decide) (by omega)
    omega
  have hE := Aside0.mk (M.E_bits (n := n) h0 (by omega))
  go_enter Try.func17, Try.ntmps17
  go_wp2_with (go_at_call 51; refine (Try.bits_Len64 n _ h0 h1).mono ?_; rintro e w' ⟨rfl, rfl⟩)
  all_goals
    go_ret
    refine ⟨?_, rfl⟩
    rw [← hE.out]
    congr 2
    show _ = _
    simp only [Array.getD_eq_getD_getElem?]
    simp
    omega

end Go.Proofs.Ytmemmhalcieelaa.V
