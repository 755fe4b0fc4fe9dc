/-
frame: the small functions' contracts: of no assembler, New, head, stop, frames.
-/
import Derived.Test.YtmemmhalcieelaaVf
import Derived.Lib.SmallJoins
namespace Go.Proofs.Ytmemmhalcieelaa.F
open Go.RowKit Go.Proofs.YtmemmhalcieelaaW.PrintWords Go.Proofs.YtmemmhalcieelaaW.PrintLast Go.Proofs.YtmemmhalcieelaaW.PrintMore Go.Proofs.Ytmemmhalcieelaa.V

theorem feed_nil (c : Value) (w : World) : Calls Try.prog 28 #[.pointer none, c] w fun e w' => e = .returned (.tuple #[.slice none 0 0, .int .i64 11]) ∧ w = w' := by
  go_enter Try.func28, Try.ntmps28
  go_wp2
  go_ret2
  exact ⟨rfl, rfl⟩
theorem buffered_nil (w : World) : Calls Try.prog 29 #[.pointer none] w fun e w' => e = .returned (.int .i64 0) ∧ w = w' := by
  go_enter Try.func29, Try.ntmps29
  go_wp2
  go_ret
  exact ⟨rfl, rfl⟩
theorem fault_nil (w : World) : Calls Try.prog 30 #[.pointer none] w fun e w' => e = .returned (.int .i64 11) ∧ w = w' := by
  go_enter Try.func30, Try.ntmps30
  go_wp2
  go_ret
  exact ⟨rfl, rfl⟩
theorem need_nil (w : World) : Calls Try.prog 31 #[.pointer none] w fun e w' => e = .returned (.int .i64 0) ∧ w = w' := by
  go_enter Try.func31, Try.ntmps31
  go_wp2_with (go_at_call 29; refine (buffered_nil _).mono ?_; rintro e w' ⟨rfl, rfl⟩)
  go_ret
  exact ⟨rfl, rfl⟩
theorem total_nil (w : World) : Calls Try.prog 32 #[.pointer none] w fun e w' => e = .returned (.int .i64 0) ∧ w = w' := by
  go_enter Try.func32, Try.ntmps32
  go_wp2
  go_ret
  exact ⟨rfl, rfl⟩

theorem right_c (n : Int) (w : World) : Calls Try.prog 56 #[.int .i64 n] w fun e w' => e = .returned (.bool (decide (0 ≤ n ∧ n ≤ 4096))) ∧ Drawn0 w w' := by
  refine frame_right.calls n _ w ?_
  unfold frame_right.f
  by_cases h : n ≥ 0
  · rw [if_pos h]; simp [h]
  · rw [if_neg h]; simp [h]

/-- The cells of an assembler. -/
def stc (v : Value) (f lim tot : Int) : Array Value := #[v, .int .i64 f, .int .i64 lim, .int .i64 tot]

theorem cells_st {w : World} {a : Nat} {v : Value} {f lim tot : Int} (h : w.heap[a]? = some (.cells (stc v f lim tot) 81 (0, 0))) :
    w.cell? ⟨a, 0, none⟩ = some v ∧ w.cell? ⟨a, 1, none⟩ = some (.int .i64 f) ∧ w.cell? ⟨a, 2, none⟩ = some (.int .i64 lim) ∧ w.cell? ⟨a, 3, none⟩ = some (.int .i64 tot) :=
  ⟨by simp [World.cell?, h, stc], by simp [World.cell?, h, stc], by simp [World.cell?, h, stc], by simp [World.cell?, h, stc]⟩

theorem new_no (n : Int) (w : World) (hok : ¬ (0 ≤ n ∧ n ≤ 4096)) :
    Calls Try.prog 49 #[.int .i64 n] w fun e w' => e = .returned (.tuple #[.pointer none, .int .i64 1]) ∧ Drawn0 w w' := by
  have hR0 := fun W => right_c n W
  rw [decide_eq_false hok] at hR0
  have HR := Aside0.mk hR0
  clear hR0 hok
  go_enter Try.func49, Try.ntmps49
  go_wp2_with (go_at_call 56; refine (HR.out _).mono ?_; rintro e w1 ⟨rfl, ⟨nd, rfl⟩⟩)
  go_ret2
  exact ⟨rfl, _, rfl⟩

theorem new_ok (n : Int) (w : World) (hok : 0 ≤ n ∧ n ≤ 4096) :
    Calls Try.prog 49 #[.int .i64 n] w fun e w' => ∃ B : Nat, e = .returned (.tuple #[.pointer (some ⟨B, 0, none⟩), .int .i64 0]) ∧ w.heap.size ≤ B ∧ w'.heap[B]? = some (.cells (stc (.slice none 0 0) 0 n 0) 81 (0, 0)) ∧ Below w.heap.size w w' := by
  have hR0 := fun W => right_c n W
  rw [decide_eq_true hok] at hR0
  have HR := Aside0.mk hR0
  clear hR0 hok
  go_enter Try.func49, Try.ntmps49
  go_wp2_with (go_at_call 56; refine (HR.out _).mono ?_; rintro e w1 ⟨rfl, ⟨nd, rfl⟩⟩)
  go_ret2
  exact ⟨(w.drewN nd).heap.size, rfl, by simp, blk_new _ _, below_alloc (pw_below_drewN (Below.refl _ _) _) _⟩


/-- What no step here turns: the operating system's state, the tape, the output. -/
structure Env (A B : World) : Prop where
  os : B.os = A.os
  tape : B.tape = A.tape
  output : B.output = A.output
theorem Env.refl (A : World) : Env A A := ⟨rfl, rfl, rfl⟩
theorem Env.trans {A B C : World} (h : Env A B) (k : Env B C) : Env A C := ⟨k.os.trans h.os, k.tape.trans h.tape, k.output.trans h.output⟩
theorem Env.of_below {n : Nat} {A B : World} (h : Below n A B) : Env A B := ⟨h.os, h.tape, h.output⟩
theorem Env.of_grown {row : Option Nat} {A B : World} (h : A.grownBy B row) : Env A B := ⟨h.os, h.tape, h.output⟩
theorem Env.set_ {A B : World} (h : Env A B) (p : Addr) (v : Value) : Env A (B.setCell p v) := h.trans ⟨rfl, rfl, rfl⟩
theorem Env.drewN_ {A B : World} (h : Env A B) (n : Nat) : Env A (B.drewN n) := h.trans (Env.of_below (pw_below_drewN (Below.refl B.heap.size B) n))

/-- A slice that is held, read from a cell. -/
theorem stop_c (a : Nat) (v : Value) (f lim tot e0 : Int) (w : World) (h : w.heap[a]? = some (.cells (stc v f lim tot) 81 (0, 0))) :
    Calls Try.prog 60 #[.pointer (some ⟨a, 0, none⟩), .int .i64 e0] w fun e w' => (∃ r, e = .returned r) ∧ w'.heap[a]? = some (.cells (stc (.slice none 0 0) e0 lim tot) 81 (0, 0)) ∧ KeepBut w w' a none ∧ Env w w' := by
  obtain ⟨s0, s1, s2, s3⟩ := cells_st h
  have f0 : w.frozen? ⟨a, 0, none⟩ = false := blk_frozen h _
  have f1 : w.frozen? ⟨a, 1, none⟩ = false := blk_frozen h _
  have hu79 := Try.underlying79
  have hu81 := Try.underlying81
  go_enter Try.func60, Try.ntmps60
  go_wp2
  go_end0
  refine ⟨⟨_, rfl⟩, ?_, ?_⟩
  · exact blk_set (blk_set h 0 _) 1 _
  · exact ⟨((KeepBut.refl w a none).set_ 0 _).set_ 1 _, ((Env.refl w).set_ _ _).set_ _ _⟩

/-- What head answers. -/
def head (l : List Int) : Int × Int × Int := if (M.V l).2.2 = 0 ∧ 4096 < (M.V l).1 then (4097, (M.V l).2.1, 0) else (wrap64 (M.V l).1, (M.V l).2.1, (M.V l).2.2)

theorem head_c (a : Addr) (A0 : Option Addr) (c0 : Nat) (l : List Int) (w : World) (hv : w.cell? a = some (.slice A0 l.length c0)) (hr : Kd.C (Kd.int .u8) w A0 l.length l) (hc : l.length ≤ c0) (hb : M.Bytes l) (hl : l.length ≤ 140737488351232) :
    Calls Try.prog 55 #[.pointer (some a)] w fun e w' => e = .returned (.tuple #[.int .i64 (head l).1, .int .i64 (head l).2.1, .int .i64 (head l).2.2]) ∧ Drawn0 w w' := by
  have HR := Aside0.mk (fun W (h : Kd.C (Kd.int .u8) W A0 l.length l) => read_c A0 c0 l W h hc hb hl)
  have HRR := Aside0.mk hr
  clear hr
  obtain ⟨n, hn⟩ : ∃ n, n = (M.V l).1 := ⟨_, rfl⟩
  obtain ⟨s, hs⟩ : ∃ n, n = (M.V l).2.1 := ⟨_, rfl⟩
  obtain ⟨e, he⟩ : ∃ n, n = (M.V l).2.2 := ⟨_, rfl⟩
  unfold head
  rw [← hn, ← hs, ← he] at HR ⊢
  clear hn hs he
  by_cases h0 : e = 0
  · have h0' : (e == 0) = true := by simpa using h0
    by_cases h1 : 4096 < n
    · rw [if_pos ⟨h0, h1⟩]
      have h1' : decide (4096 < n) = true := decide_eq_true h1
      clear h0 h1
      go_enter Try.func55, Try.ntmps55
      go_wp2_with (go_at_call 37; refine (HR.out _ HRR.out).mono ?_; rintro e w1 ⟨rfl, ⟨nd, rfl⟩⟩)
      go_ret3
      exact ⟨rfl, _, rfl⟩
    · rw [if_neg (fun h => h1 h.2)]
      have h1' : decide (4096 < n) = false := decide_eq_false h1
      clear h0 h1
      go_enter Try.func55, Try.ntmps55
      go_wp2_with (go_at_call 37; refine (HR.out _ HRR.out).mono ?_; rintro e w1 ⟨rfl, ⟨nd, rfl⟩⟩)
      go_ret3
      exact ⟨rfl, _, rfl⟩
  · rw [if_neg (fun h => h0 h.1)]
    have h0' : (e == 0) = false := by simpa using h0
    clear h0
    go_enter Try.func55, Try.ntmps55
    go_wp2_with (go_at_call 37; refine (HR.out _ HRR.out).mono ?_; rintro e w1 ⟨rfl, ⟨nd, rfl⟩⟩)
    go_ret3
    exact ⟨rfl, _, rfl⟩

/-- frames: the receiver is boxed; the function value captures the box. -/
theorem frames_c (p : Option Addr) (w : World) : Calls Try.prog 54 #[.pointer p] w fun e w' => e = .returned (.func (.func 59) #[] #[.pointer (some ⟨w.heap.size, 0, none⟩)]) ∧ w' = w.alloc (.cells #[.pointer p] 39) := by
  go_enter Try.func54, Try.ntmps54
  go_wp2
  go_ret
  exact ⟨rfl, rfl⟩

end Go.Proofs.Ytmemmhalcieelaa.F
