/-
backoff.New: its contract.
-/
import Derived.Test.YtmemmhalcieelaaBd
namespace Go.Proofs.Ytmemmhalcieelaa.B
open Go.RowKit Go.Proofs.YtmemmhalcieelaaW.PrintWords Go.Proofs.YtmemmhalcieelaaW.PrintLast Go.Proofs.YtmemmhalcieelaaW.PrintMore

/-- The cells of a state. -/
def stc (b c t m s k : Int) (l : Bool) : Array Value := #[.int .i64 b, .int .i64 c, .int .i64 t, .int .i64 m, .int .i64 s, .int .i64 k, .bool l]

theorem new_no (b c t m : Int) (w : World) (hok : ¬ M.Ok b c t m) :
    Calls Try.prog 25 #[.agg #[.int .i64 b, .int .i64 c, .int .i64 t, .int .i64 m]] w fun e w' => e = .returned (.tuple #[.pointer none, .int .i64 1]) ∧ Below w.heap.size w w' := by
  have hu30 := Try.underlying30
  have hR0 := fun W => right_c b c t m W
  rw [decide_eq_false hok] at hR0
  have HR := Aside0.mk hR0
  clear hR0 hok
  go_enter Try.func25, Try.ntmps25
  go_wp2_with fail
  refine (HR.out _).mono ?_
  rintro e w1 ⟨rfl, hB⟩
  have HB0 := Aside0.mk (below_step (below_alloc (Below.refl w.heap.size w) (.cells #[.int .i64 b, .int .i64 c, .int .i64 t, .int .i64 m] 30)) hB)
  clear hB
  go_wp2_with fail
  go_ret2
  exact ⟨rfl, HB0.out⟩

theorem new_ok (b c t m : Int) (w : World) (hok : M.Ok b c t m) :
    Calls Try.prog 25 #[.agg #[.int .i64 b, .int .i64 c, .int .i64 t, .int .i64 m]] w fun e w' => ∃ B : Nat, e = .returned (.tuple #[.pointer (some ⟨B, 0, none⟩), .int .i64 0]) ∧ w.heap.size ≤ B ∧ w'.heap[B]? = some (.cells (stc b c t m 0 0 false) 76 (0, 0)) ∧ Below w.heap.size w w' := by
  have hu30 := Try.underlying30
  have hu76 := Try.underlying76
  have hR0 := fun W => right_c b c t m W
  rw [decide_eq_true hok] at hR0
  have HR := Aside0.mk hR0
  clear hR0 hok
  go_enter Try.func25, Try.ntmps25
  go_wp2_with fail
  refine (HR.out _).mono ?_
  rintro e w1 ⟨rfl, hB⟩
  have BK0 := Aside0.mk (blk_below (blk_new w (.cells #[.int .i64 b, .int .i64 c, .int .i64 t, .int .i64 m] 30)) hB)
  have HB0 := Aside0.mk (below_step (below_alloc (Below.refl w.heap.size w) (.cells #[.int .i64 b, .int .i64 c, .int .i64 t, .int .i64 m] 30)) hB)
  clear hB
  obtain ⟨s0, s1, s2, s3⟩ := cells4 BK0.out
  go_wp2_with fail
  go_ret2
  exact ⟨w1.heap.size, rfl, HB0.out.size, blk_new _ _, below_alloc HB0.out _⟩

end Go.Proofs.Ytmemmhalcieelaa.B
