/-
The law FrameNone: of no assembler nothing comes.
-/
import Derived.Test.YtmemmhalcieelaaFd
namespace Go.Proofs.Ytmemmhalcieelaa.F
open Go.RowKit Go.Proofs.YtmemmhalcieelaaW.PrintWords Go.Proofs.YtmemmhalcieelaaW.PrintLast Go.Proofs.YtmemmhalcieelaaW.PrintMore Go.Proofs.Ytmemmhalcieelaa.V

theorem none_c (A : Option Addr) (n c : Nat) (w : World) : Calls Try.prog 6 #[.slice A n c] w fun e w' => e = .returned (.bool true) ∧ Below w.heap.size w w' := by
  by_cases h : (n : Int) > 100
  · have h' : decide ((100 : Int) < (n : Int)) = true := decide_eq_true h
    go_enter Try.func6, Try.ntmps6
    go_wp2_with (go_at_call 27; refine (awake_c _).mono ?_; rintro e w' ⟨rfl, hB⟩; have HB := Aside0.mk hB; clear hB)
    go_ret
    exact ⟨rfl, HB.out⟩
  · have h' : decide ((100 : Int) < (n : Int)) = false := decide_eq_false h
    go_enter Try.func6, Try.ntmps6
    go_wp2_with (first | (go_at_call 28; refine (feed_nil _ _).mono ?_; rintro e w' ⟨rfl, rfl⟩) | (go_at_call 29; refine (buffered_nil _).mono ?_; rintro e w' ⟨rfl, rfl⟩) | (go_at_call 30; refine (fault_nil _).mono ?_; rintro e w' ⟨rfl, rfl⟩) | (go_at_call 31; refine (need_nil _).mono ?_; rintro e w' ⟨rfl, rfl⟩) | (go_at_call 32; refine (total_nil _).mono ?_; rintro e w' ⟨rfl, rfl⟩) | (go_at_call 27; refine (awake_c _).mono ?_; rintro e w' ⟨rfl, hB⟩; have HB := Aside0.mk hB; clear hB))
    go_ret
    exact ⟨rfl, HB.out⟩

end Go.Proofs.Ytmemmhalcieelaa.F
