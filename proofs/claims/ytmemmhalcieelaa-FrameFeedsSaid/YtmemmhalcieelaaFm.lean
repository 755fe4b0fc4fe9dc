/-
frame: which frames bytes hold, in plain Lean.
-/
import Derived.Test.YtmemmhalcieelaaFa
namespace Go.Proofs.Ytmemmhalcieelaa.F
open Go.RowKit Go.Proofs.YtmemmhalcieelaaW.PrintWords

theorem head_ok {b : List Int} (hb : M.Bytes b) (h : (head b).2.2 = 0) : 1 ≤ (head b).2.1 ∧ (head b).2.1 ≤ 10 ∧ (head b).2.1 ≤ (b.length : Int) ∧ 0 ≤ (head b).1 ∧ (head b).1 ≤ 4097 := by
  obtain ⟨p, hp⟩ : ∃ p : Int × Int × Int, M.V b = p := ⟨_, rfl⟩
  obtain ⟨n, j, e⟩ := p
  unfold head at h ⊢
  rw [hp] at h ⊢
  simp only at h ⊢
  have he : e = 0 := by
    split at h
    · rename_i hc; exact hc.1
    · exact h
  subst he
  obtain ⟨rest, hr, hj, h0, h1⟩ := M.V_inv hb hp
  have hp1 := M.E_pos n
  have hp2 := M.E_le n
  have hl : b.length = (M.E n).length + rest.length := by rw [hr, List.length_append]
  split
  · simp only
    omega
  · rename_i hc
    have : ¬ 4096 < n := fun h => hc ⟨rfl, h⟩
    have hw : wrap64 n = n := by unfold wrap64; omega
    simp only [hw]
    omega

/-- The frames that bytes begin with, what is left, and by what it breaks. -/
def run (lim : Int) : Nat → List Int → List (List Int) × List Int × Int
  | 0, b => ([], b, 0)
  | k + 1, b =>
    if b = [] then ([], [], 0)
    else if (head b).2.2 = 5 then ([], b, 0)
    else if (head b).2.2 ≠ 0 then ([], [], (head b).2.2)
    else if lim < (head b).1 then ([], [], 3)
    else if (b.length : Int) < (head b).2.1 + (head b).1 then ([], b, 0)
    else ((b.take ((head b).2.1 + (head b).1).toNat).drop (head b).2.1.toNat :: (run lim k (b.drop ((head b).2.1 + (head b).1).toNat)).1, (run lim k (b.drop ((head b).2.1 + (head b).1).toNat)).2)

/-- How many bytes frames have. -/
def size (l : List (List Int)) : Int := (l.map fun x => (x.length : Int)).sum

theorem size_snoc (l : List (List Int)) (x : List Int) : size (l ++ [x]) = size l + x.length := by simp [size]
theorem size_cons (l : List (List Int)) (x : List Int) : size (x :: l) = x.length + size l := by simp [size]
theorem size_nonneg : ∀ l : List (List Int), 0 ≤ size l
  | [] => by simp [size]
  | x :: l => by rw [size_cons]; have := size_nonneg l; omega

theorem run_nil (lim : Int) (k : Nat) : run lim k [] = ([], [], 0) := by
  cases k <;> simp [run]

end Go.Proofs.Ytmemmhalcieelaa.F
