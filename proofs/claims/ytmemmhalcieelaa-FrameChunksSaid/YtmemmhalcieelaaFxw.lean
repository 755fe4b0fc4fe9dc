/-
The law FrameChunks, at any slices.
-/
import Derived.Test.YtmemmhalcieelaaFx
import Derived.Test.YtmemmhalcieelaaFo
namespace Go.Proofs.Ytmemmhalcieelaa.F
open Go.RowKit Go.Proofs.YtmemmhalcieelaaW.PrintWords Go.Proofs.YtmemmhalcieelaaW.PrintLast Go.Proofs.YtmemmhalcieelaaW.PrintMore Go.Proofs.Ytmemmhalcieelaa.V

set_option maxRecDepth 100000 in
theorem chunks_long (A : Option Addr) (n c : Nat) (A' : Option Addr) (n' c' : Nat) (w : World) (h : n > 10) :
    Calls Try.prog 13 #[.slice A n c, .slice A' n' c'] w fun e w' => e = .returned (.bool true) ∧ Below w.heap.size w w' := by
  have hd : decide ((10 : Int) < (n : Int)) = true := decide_eq_true (by omega)
  clear h
  go_enter Try.func13, Try.ntmps13
  go_wp2_with (go_at_call 27; refine (awake_c _).mono ?_; rintro e w1 ⟨rfl, hB⟩)
  go_ret
  exact ⟨rfl, hB⟩

set_option maxRecDepth 100000 in
theorem chunks_cuts (A : Option Addr) (n c : Nat) (A' : Option Addr) (n' c' : Nat) (w : World) (h : ¬ n > 10) (h' : n' > 50) :
    Calls Try.prog 13 #[.slice A n c, .slice A' n' c'] w fun e w' => e = .returned (.bool true) ∧ Below w.heap.size w w' := by
  have hd : decide ((10 : Int) < (n : Int)) = false := decide_eq_false (by omega)
  have hd2 : decide ((50 : Int) < (n' : Int)) = true := decide_eq_true (by omega)
  clear h h'
  go_enter Try.func13, Try.ntmps13
  go_wp2_with (go_at_call 27; refine (awake_c _).mono ?_; rintro e w1 ⟨rfl, hB⟩)
  go_ret
  exact ⟨rfl, hB⟩

theorem chunks_walk (A : Option Addr) (c : Nat) (ls : List (List Int)) (a0 : Option Addr) (len0 cap0 : Nat) (z0 : List Int) (w : World) (hC : Kd.C (Kd.slice 5 (Kd.int .u8)) w A ls.length ls) (hb : ∀ f ∈ ls, M.Bytes f)
    (w0 : (a0 = none ∧ len0 = 0 ∧ cap0 = 0 ∧ z0 = []) ∨ ∃ x, a0 = some x ∧ len0 ≤ cap0 ∧ cap0 ≤ maxLen ∧ z0.length = cap0 ∧ (∀ i, i < z0.length → w.cell? (x.add i) = some (.int .u8 (z0.getD i 0))) ∧ ∀ n ∈ z0, (Lit.int .u8 n).wf = true) :
    Calls Try.prog 13 #[.slice A ls.length c, .slice a0 len0 cap0] w fun e w' => e = .returned (.bool true) ∧ Below w.heap.size w w' := by
  obtain ⟨l0, rfl, hr0, _, hw0, _⟩ := ReadsInt.ofRowC w0
  by_cases h : ls.length > 10
  · exact chunks_long _ _ _ _ _ _ w h
  · by_cases h' : l0.length > 50
    · exact chunks_cuts _ _ _ _ _ _ w h h'
    · exact chunks_ok A c ls a0 cap0 l0 w hC (Kd.C_of_reads (d := (0 : Int)) (h1 := fun _ => rfl) hr0) hb (M.Bytes.of_wf hw0) h h'

end Go.Proofs.Ytmemmhalcieelaa.F
