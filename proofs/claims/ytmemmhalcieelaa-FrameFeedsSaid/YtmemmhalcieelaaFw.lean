/-
frame, in plain Lean: frames laid come out again; a piece of them is never broken.
-/
import Derived.Test.YtmemmhalcieelaaFt
namespace Go.Proofs.Ytmemmhalcieelaa.F
open Go.RowKit Go.Proofs.YtmemmhalcieelaaW.PrintWords

/-- Frames, laid. -/
def flat : List (List Int) → List Int
  | [] => []
  | f :: fs => M.E (f.length : Int) ++ f ++ flat fs

theorem flat_snoc : ∀ (fs : List (List Int)) (f : List Int), flat (fs ++ [f]) = flat fs ++ (M.E (f.length : Int) ++ f)
  | [], f => by simp [flat]
  | g :: fs, f => by simp [flat, flat_snoc fs f]

theorem flat_bytes : ∀ (fs : List (List Int)), (∀ f ∈ fs, M.Bytes f) → (∀ f ∈ fs, f.length ≤ 300) → M.Bytes (flat fs)
  | [], _, _ => by intro x hx; simp [flat] at hx
  | f :: fs, h, hl => by
    have h1 := hl f List.mem_cons_self
    exact ((M.Bytes.E (by omega) (by omega)).append (h f List.mem_cons_self)).append (flat_bytes fs (fun g hg => h g (List.mem_cons_of_mem _ hg)) (fun g hg => hl g (List.mem_cons_of_mem _ hg)))

theorem flat_len : ∀ (fs : List (List Int)), (∀ f ∈ fs, f.length ≤ 300) → (flat fs).length ≤ fs.length * 310
  | [], _ => by simp [flat]
  | f :: fs, hl => by
    have h1 := hl f List.mem_cons_self
    have h2 := M.E_le (f.length : Int)
    have h3 := flat_len fs (fun g hg => hl g (List.mem_cons_of_mem _ hg))
    simp only [flat, List.length_append, List.length_cons]
    omega

theorem all_flat : ∀ (fs : List (List Int)), (∀ f ∈ fs, M.Bytes f) → (∀ f ∈ fs, f.length ≤ 300) → all 300 (flat fs) = (fs, ((flat fs).length : Int), 0)
  | [], _, _ => rfl
  | f :: fs, h, hl => by
    have hb := flat_bytes (f :: fs) h hl
    have h1 := hl f List.mem_cons_self
    have ih := all_flat fs (fun g hg => h g (List.mem_cons_of_mem _ hg)) (fun g hg => hl g (List.mem_cons_of_mem _ hg))
    have hE := M.E_pos (f.length : Int)
    have hV : M.V (flat (f :: fs)) = ((f.length : Int), ((M.E (f.length : Int)).length : Int), 0) := by
      simp only [flat, List.append_assoc]
      exact M.V_E (by omega) (by omega) _
    have hh : head (flat (f :: fs)) = ((f.length : Int), ((M.E (f.length : Int)).length : Int), 0) := by
      unfold head
      rw [hV]
      simp only
      rw [if_neg (by omega)]
      have : wrap64 (f.length : Int) = f.length := by unfold wrap64; omega
      rw [this]
    have hlen : (flat (f :: fs)).length = (M.E (f.length : Int)).length + f.length + (flat fs).length := by simp [flat, Nat.add_assoc]
    have hne : flat (f :: fs) ≠ [] := by
      intro h0
      rw [h0, List.length_nil] at hlen
      omega
    have hj : (((M.E (f.length : Int)).length : Int) + (f.length : Int)).toNat = (M.E (f.length : Int) ++ f).length := by rw [List.length_append]; omega
    have hd : (flat (f :: fs)).drop (M.E (f.length : Int) ++ f).length = flat fs := by
      simp only [flat]
      exact List.drop_left
    have ht : ((flat (f :: fs)).take (M.E (f.length : Int) ++ f).length).drop (M.E (f.length : Int)).length = f := by
      simp only [flat]
      rw [List.take_left, List.drop_left]
    rw [all_step 300 _ hb, if_neg hne, hh]
    simp only
    rw [if_neg (by decide), if_neg (by omega), if_neg (by omega), hj, hd, Int.toNat_natCast, ht, ih]
    refine Prod.ext rfl (Prod.ext ?_ rfl)
    simp only
    omega

/-- A piece of what goes through is not broken. -/
theorem all_part {lim : Int} {p q : List Int} (hp : M.Bytes p) (hq : M.Bytes q) (h : (all lim (p ++ q)).2.2 = 0) : (all lim p).2.2 = 0 ∨ (all lim p).2.2 = 5 := by
  by_cases h0 : (all lim p).2.2 = 0
  · exact .inl h0
  · by_cases h5 : (all lim p).2.2 = 5
    · exact .inr h5
    · have := all_lost lim p hp q hq h0 h5
      rw [h] at this
      exact absurd this.symm h0

end Go.Proofs.Ytmemmhalcieelaa.F
