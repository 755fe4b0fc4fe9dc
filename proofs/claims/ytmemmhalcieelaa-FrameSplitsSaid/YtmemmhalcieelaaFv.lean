/-
The law FrameSplits, at any slice of bytes and any int.
-/
import Derived.Test.YtmemmhalcieelaaFu
namespace Go.Proofs.Ytmemmhalcieelaa.F
open Go.RowKit Go.Proofs.YtmemmhalcieelaaW.PrintWords Go.Proofs.YtmemmhalcieelaaW.PrintLast Go.Proofs.YtmemmhalcieelaaW.PrintMore Go.Proofs.Ytmemmhalcieelaa.V

theorem splits_c (A : Option Addr) (c : Nat) (b : List Int) (lim : Int) (w : World) (hC : Kd.C (Kd.int .u8) w A b.length b) (hc : b.length ≤ c) (hb : M.Bytes b) :
    Calls Try.prog 7 #[.slice A b.length c, .int .i64 lim] w fun e w' => e = .returned (.bool true) ∧ Below w.heap.size w w' := by
  by_cases h : b.length > 600
  · exact splits_long A c b lim w h
  · by_cases hlim : 0 ≤ lim ∧ lim ≤ 4096
    · by_cases hbig : (b.length : Int) > lim
      · exact splits_big A c b lim w hC hc hb h hlim hbig
      · exact splits_small A c b lim w hC hc hb h hlim hbig
    · exact splits_bad A c b lim w hC hc h hlim

theorem splits_walk (a0 : Option Addr) (len0 cap0 : Nat) (z0 : List Int) (lim : Int) (w : World) (w0 : (a0 = none ∧ len0 = 0 ∧ cap0 = 0 ∧ z0 = []) ∨ ∃ x, a0 = some x ∧ len0 ≤ cap0 ∧ cap0 ≤ maxLen ∧ z0.length = cap0 ∧ (∀ i, i < z0.length → w.cell? (x.add i) = some (.int .u8 (z0.getD i 0))) ∧ ∀ n ∈ z0, (Lit.int .u8 n).wf = true) :
    Calls Try.prog 7 #[.slice a0 len0 cap0, .int .i64 lim] w fun e w' => e = .returned (.bool true) ∧ Below w.heap.size w w' := by
  obtain ⟨l0, rfl, hr0, hm0, hw0, hc0⟩ := ReadsInt.ofRowC w0
  exact splits_c a0 cap0 l0 lim w (Kd.C_of_reads (d := (0 : Int)) (h1 := fun _ => rfl) hr0) hc0 (M.Bytes.of_wf hw0)

end Go.Proofs.Ytmemmhalcieelaa.F
