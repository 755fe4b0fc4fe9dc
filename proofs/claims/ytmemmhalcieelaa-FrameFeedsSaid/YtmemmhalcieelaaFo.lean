/-
A slice of slices of bytes that came in, read.
-/
import Derived.Test.YtmemmhalcieelaaFa
import Derived.Deep.Slices
import Derived.ChangeSlices
import Derived.WalkKit
namespace Go.Proofs.Ytmemmhalcieelaa.F
open Go.RowKit Go.Proofs.YtmemmhalcieelaaW.PrintWords Go.Proofs.YtmemmhalcieelaaW.PrintLast Go.Proofs.YtmemmhalcieelaaW.PrintMore Go.Proofs.Ytmemmhalcieelaa.V
open Go.ChangeShapes Go.WideShapes Go.ChangeAt Go.Deep

theorem open_row {H : Type} {enc : TypeId × Value → H} {w : World} {fuel : Nat} {v : Value} {x : DataW H × List MemPlace} (h : DataW.trod enc Try.prog w 0 (fun _ => true) true fuel 23 [v] = some x) :
    ∃ (A : Option Addr) (c : Nat) (l : List Int), v = .slice A l.length c ∧ l.length ≤ c ∧ Kd.C (Kd.int .u8) w A l.length l ∧ M.Bytes l := by
  rcases open_ints Try.underlying23 Try.underlying5 (by kernel_rfl) h with ⟨hcs, _⟩ | ⟨a, n, c, zs, hcs, _, hl, hm, hz, _, hcell, hwz⟩
  · simp only [List.cons.injEq, and_true] at hcs
    subst hcs
    exact ⟨none, 0, [], rfl, Nat.le_refl _, ⟨rfl, by decide, fun h => absurd h (Nat.lt_irrefl 0)⟩, fun x hx => absurd hx List.not_mem_nil⟩
  · simp only [List.cons.injEq, and_true] at hcs
    subst hcs
    obtain ⟨l, hl0, hr0, _, hw0, hc0⟩ := ReadsInt.ofRowC (k := .u8) (w := w) (a := some a) (len := n) (cap := c) (zs := zs) (.inr ⟨a, rfl, hl, hm, by simpa using hz, hcell, hwz⟩)
    subst hl0
    exact ⟨some a, c, l, rfl, hc0, Kd.C_of_reads (d := (0 : Int)) (h1 := fun _ => rfl) hr0, M.Bytes.of_wf hw0⟩

theorem open_rows {H : Type} {enc : TypeId × Value → H} {w : World} {fuel : Nat} {v : Value} {x : DataW H × List MemPlace} (h : DataW.trod enc Try.prog w 0 (fun _ => true) true fuel 40 [v] = some x) :
    ∃ (A : Option Addr) (c : Nat) (ls : List (List Int)), v = .slice A ls.length c ∧ Kd.C (Kd.slice 5 (Kd.int .u8)) w A ls.length ls ∧ ∀ f ∈ ls, M.Bytes f := by
  rcases open_slice1 Try.underlying40 (by kernel_rfl) h with ⟨hcs, _⟩ | ⟨a, n, c, m, n0, V, D, Pl, hcs, _, hl, hm, hmm, _, hx⟩
  · simp only [List.cons.injEq, and_true] at hcs
    subst hcs
    exact ⟨none, 0, [], rfl, ⟨rfl, by decide, fun h => absurd h (Nat.lt_irrefl 0)⟩, fun x hx => absurd hx List.not_mem_nil⟩
  · simp only [List.cons.injEq, and_true] at hcs
    subst hcs
    have hm' : m = c := by simpa using hmm
    obtain ⟨L, hL⟩ := choose_lt (α := List Int) (n := n) (p := fun i l => ∃ A c, V i = .slice A l.length c ∧ l.length ≤ c ∧ Kd.C (Kd.int .u8) w A l.length l ∧ M.Bytes l) (fun i hi => by
      obtain ⟨A, c, l, h⟩ := open_row (hx i (by omega)).2
      exact ⟨l, A, c, h⟩)
    have hlen : ((List.range n).map L).length = n := by simp
    refine ⟨some a, c, (List.range n).map L, by rw [hlen], ⟨rfl, by rw [hlen]; simp only [maxLen] at hm; omega, fun hn => ⟨a, rfl, fun j p hj => ?_⟩⟩, fun f hf => ?_⟩
    · obtain ⟨hj1, hj2⟩ := List.getElem?_eq_some_iff.1 hj
      rw [hlen] at hj1
      rw [List.getElem_map, List.getElem_range] at hj2
      subst hj2
      obtain ⟨A, c', hV, hc', hC, _⟩ := hL j hj1
      refine ⟨[V j], rfl, ⟨A, c', by rw [hV], hc', hC⟩, fun i u hu => ?_⟩
      cases i with
      | zero =>
        simp only [List.getElem?_cons_zero, Option.some.injEq] at hu
        subst hu
        have := (hx j (by omega)).1
        simpa [Kd.slice] using this
      | succ i => simp at hu
    · obtain ⟨i, hi, rfl⟩ := List.mem_map.1 hf
      exact (hL i (List.mem_range.1 hi)).choose_spec.choose_spec.2.2.2

end Go.Proofs.Ytmemmhalcieelaa.F
